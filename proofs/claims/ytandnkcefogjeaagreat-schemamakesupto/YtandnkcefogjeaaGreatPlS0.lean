/- Plain laws, joined. -/
import Derived.Test.YtandnkcefogjeaaGreatD
import Derived.Test.YtandnkcefogjeaaGreatVvQ
namespace Go.Vv
open Go
def alnum (b:UInt8):Bool:=(decide (97<=b.toNat)&&decide (b.toNat<=122)) || (decide (65<=b.toNat)&&decide (b.toNat<=90)) || (decide (48<=b.toNat)&&decide (b.toNat<=57))
def other (r:Int):Bool:=!((decide (97<=r)&&decide (r<=122)) || (decide (65<=r)&&decide (r<=90)) || (decide (48<=r)&&decide (r<=57)))
def runeIdx (q:Int->Bool) (s:List UInt8) (i:Nat):Int :=
 if h:i < s.length then (if q (dec s i).1 then i else if (dec s i).2=0 then -1 else runeIdx q s (i+(dec s i).2)) else -1
termination_by s.length - i
decreasing_by omega
theorem dec_width (s:List UInt8) (i:Nat) (h:i < s.length):1<=(dec s i).2:=by
 have hs:i < (⟨s.toArray⟩:ByteArray).size:=by simpa [ByteArray.size] using h
 by_cases ha:((⟨s.toArray⟩:ByteArray)[i]'hs).toNat < 128
 ·unfold dec;rw [decode_ascii _ i hs ha];exact Nat.le_refl _
 ·exact (decode_high _ i hs (by omega)).2
theorem dec_low {s:List UInt8} {i:Nat} {b:UInt8} (a:s[i]?=some b) (h:b.toNat < 128):dec s i=(b.toNat,1):=by
 have c:i < s.length:=(List.getElem?_eq_some_iff.1 a).1;have hs:i < (⟨s.toArray⟩:ByteArray).size:=by simpa [ByteArray.size] using c
 have e:((⟨s.toArray⟩:ByteArray)[i]'hs)=b:=by
  have d:((⟨s.toArray⟩:ByteArray)[i]'hs)=s[i]:=rfl;rw [d];rw [List.getElem?_eq_getElem c] at a;injection a
 unfold dec;rw [decode_ascii _ i hs (by rw [e];exact h),e]
theorem dec_hi {s:List UInt8} {i:Nat} {b:UInt8} (a:s[i]?=some b) (h:128<=b.toNat):128<=(dec s i).1:=by
 have c:i < s.length:=(List.getElem?_eq_some_iff.1 a).1;have hs:i < (⟨s.toArray⟩:ByteArray).size:=by simpa [ByteArray.size] using c
 have e:((⟨s.toArray⟩:ByteArray)[i]'hs)=b:=by
  have d:((⟨s.toArray⟩:ByteArray)[i]'hs)=s[i]:=rfl;rw [d];rw [List.getElem?_eq_getElem c] at a;injection a
 exact (decode_high _ i hs (by rw [e];exact h)).1
theorem other_alnum {b:UInt8}:other (b.toNat:Int)=!alnum b:=by
 unfold other alnum;congr 1;rw [Bool.eq_iff_iff];simp;omega
theorem rune_all {s:List UInt8} (h:s.all alnum=true):∀(n i:Nat),s.length - i=n->runeIdx other s i=-1
 | n,i,hn=>by
  rw [runeIdx.eq_def];by_cases hi:i < s.length
  ·rw [dif_pos hi];have c:s[i]?=some s[i]:=List.getElem?_eq_getElem hi;have b:alnum s[i]=true:=by rw [List.all_eq_true] at h;exact h _ (List.getElem_mem hi)
   have a:s[i].toNat < 128:=by
    unfold alnum at b;simp only [Bool.or_eq_true,Bool.and_eq_true,decide_eq_true_eq] at b;omega
   rw [dec_low c a];simp only [other_alnum,b,Bool.not_true,Bool.false_eq_true,if_false,Nat.one_ne_zero];exact rune_all h (s.length - (i+1)) (i+1) rfl
  ·rw [dif_neg hi]
 termination_by n=>n
 decreasing_by omega
theorem rune_some {s:List UInt8} {k:Nat} {b:UInt8} (a:s[k]?=some b) (e:alnum b=false):∀(n i:Nat),k - i=n->i<=k->0<=runeIdx other s i
 | n,i,hn,hik=>by
  have g:k < s.length:=(List.getElem?_eq_some_iff.1 a).1;have hi:i < s.length:=by omega
  rw [runeIdx.eq_def,dif_pos hi];by_cases ho:other ((dec s i).1:Nat)=true
  ·rw [if_pos ho];omega
  ·rw [if_neg ho];have d:s[i]?=some s[i]:=List.getElem?_eq_getElem hi;have c:s[i].toNat < 128:=by
    refine Decidable.byContradiction λhh=>ho ?_;have:=dec_hi d (by omega);unfold other;simp;omega
   rw [dec_low d c] at ho ⊢;rw [other_alnum] at ho;have f:i ≠ k:=by
    rintro rfl
    rw [d] at a;injection a with a;subst a;rw [e] at ho;exact ho rfl
   simp only [Nat.one_ne_zero,if_false];exact rune_some a e (k - (i+1)) (i+1) rfl (by omega)
 termination_by n=>n
 decreasing_by omega

def nameB (s:zk):Bool:=decide (1<=s.length)&&decide (s.length<=12)&&s.all alnum
def pathB (p:List zk):Bool:=decide (1<=p.length)&&decide (p.length<=3)&&p.all nameB
theorem bnd1 (n:Nat):decide ((n:Int) >= 1)=decide (1<=n):=decide_eq_decide.2 (by omega)
theorem bnd12 (n:Nat):decide ((n:Int)<=12)=decide (n<=12):=decide_eq_decide.2 (by omega)
theorem bnd3 (n:Nat):decide ((n:Int)<=3)=decide (n<=3):=decide_eq_decide.2 (by omega)
theorem ref04IsName_is (s:zk):wc s=some (nameB s):=by
 unfold wc nameB;rw [loopL_all alnum false]
 ·split
  ·rename_i h;simp only [Bool.or_eq_true,decide_eq_true_eq] at h;congr 1;rw [eq_comm,Bool.and_eq_false_iff,Bool.and_eq_false_iff];left;rcases h with h | h
   ·exact .inl (decide_eq_false (by omega))
   ·exact .inr (decide_eq_false (by omega))
  ·rename_i h;simp only [Bool.or_eq_true,decide_eq_true_eq] at h;have a:1<=s.length:=by omega
   have c:s.length<=12:=by omega
   cases ha:s.all alnum <;> simp [a,c]
 ·intro i x _;unfold alnum;have e:(((decide ((x.toNat:Int) >= 97))&&(decide ((x.toNat:Int)<=122)) || (decide ((x.toNat:Int) >= 65))&&(decide ((x.toNat:Int)<=90))) || (decide ((x.toNat:Int) >= 48))&&(decide ((x.toNat:Int)<=57))) =
    (decide (97<=x.toNat)&&decide (x.toNat<=122) || decide (65<=x.toNat)&&decide (x.toNat<=90) || decide (48<=x.toNat)&&decide (x.toNat<=57)):=by
   rw [Bool.eq_iff_iff];simp;omega
  rw [e];generalize (decide (97<=x.toNat)&&decide (x.toNat<=122) || decide (65<=x.toNat)&&decide (x.toNat<=90) || decide (48<=x.toNat)&&decide (x.toNat<=57))=b;cases b <;> rfl
theorem rune_loop (q:Int->Bool) (s:zk) {f:Nat->Option (Out Int Nat)} (a:∀i,f i=if i < s.length then (if q (dec s i).1=true then some (.ret (i:Int)) else some (.nxt (i+(dec s i).2))) else some (.brk i)) :
  ∀(k i:Nat),s.length - i=k->lp (yC f i) (λ_=>some (-1:Int))=some (runeIdx q s i)
 | k,i,hk=>by
  rw [y6,runeIdx.eq_def,a];by_cases h:i < s.length
  ·have b:=dec_width s i h;rw [if_pos h,dif_pos h];by_cases hq:q (dec s i).1=true
   ·simp [hq]
   ·have h0:¬ (dec s i).2=0:=by omega
    simp only [if_neg hq,if_neg h0];exact rune_loop q s a (s.length - (i+(dec s i).2)) _ rfl
  ·rw [if_neg h,dif_neg h];rfl
 termination_by k=>k
 decreasing_by omega
theorem stringsContains_other (s:zk):xE s (λx=>opIsNameC1 x)=some (!s.all alnum):=by
 have e:(λx=>opIsNameC1 x)=λx=>some (other x):=by
  funext x;unfold opIsNameC1 other;congr 1;rw [Bool.eq_iff_iff];simp
 unfold xE vp wW;rw [e,rune_loop other s (λi=>by simp) _ 0 rfl];simp only [Option.bind_some];congr 1;cases h:s.all alnum with
 | true=>rw [rune_all h _ 0 rfl];rfl
 | false =>
  rw [List.all_eq_false] at h;obtain ⟨b,c,d⟩:=h;obtain ⟨k,a,rfl⟩:=List.getElem_of_mem c;have:=rune_some (List.getElem?_eq_getElem a) (by simpa using d) _ 0 rfl (Nat.zero_le _);simp [this]
theorem opIsName_is (s:zk):opIsName s=some (nameB s):=by
 unfold opIsName nameB;rw [stringsContains_other,bnd1,bnd12];cases h1:decide (1<=s.length) <;> cases h2:decide (s.length<=12) <;> simp
theorem contains_is {f:zk->Option Bool} {q:zk->Bool} (p:List zk) (a:∀x ∈ p,f x=some (q x)):yy p f=some (p.any q):=by
 unfold yy xW;rw [first_loop p a];simp only [Option.bind_some,firstI_any]
theorem opMayPath_is (p:List zk):qA p=some (pathB p):=by
 unfold qA pathB;rw [contains_is (q:=λs=>!nameB s) p (λx _=>by unfold opMayPathC1;rw [opIsName_is];rfl),bnd1,bnd3];have e:p.any (λs=>!nameB s)=!p.all nameB:=by rw [Bool.eq_iff_iff];simp
 rw [e];cases h1:decide (1<=p.length) <;> cases h2:decide (p.length<=3) <;> simp
def actorB (a:GActor):Bool:=decide (a.rep < 16)&&decide (a.inc >= 1)&&decide (a.inc<=4)
def we (d:GDot):Bool:=actorB d.actor&&decide (d.seq >= 1)&&decide (d.seq<=1048576)
theorem dotMay_is (d:GDot):dotMay d=some (we d):=rfl
theorem ref03MayActor_is (a:GActor):vK a=some (actorB a):=by
 unfold vK actorB;have:decide (a.rep<=15)=decide (a.rep < 16):=decide_eq_decide.2 (by omega);rw [this]
theorem ref03May_is (d:GDot):qM d=some (we d):=by unfold qM;rw [ref03MayActor_is];rfl
def dotLt (a b:GDot):Bool:=if a.actor.rep ≠ b.actor.rep then decide (a.actor.rep < b.actor.rep) else if a.actor.inc ≠ b.actor.inc then decide (a.actor.inc < b.actor.inc) else decide (a.seq < b.seq)
theorem ref03Less_is (a b:GDot):vA a b=some (dotLt a b):=by
 unfold vA dotLt;by_cases h1:a.actor.rep=b.actor.rep <;> by_cases h2:a.actor.inc=b.actor.inc <;> simp [h1,h2]
def cmpI (a b:Int):Int:=if a < b then -1 else if b < a then 1 else 0
theorem cmpU8is (a b:Int):xe a b=some (cmpI a b):=by
 unfold xe vm cmpI;simp only [bne_self_eq_false,Option.bind_some,Bool.false_eq_true,if_false,decide_eq_true_eq,gt_iff_lt];split <;> (try split) <;> rfl
theorem cmpU32is (a b:Int):wy a b=some (cmpI a b):=by
 unfold wy wT cmpI;simp only [bne_self_eq_false,Option.bind_some,Bool.false_eq_true,if_false,decide_eq_true_eq,gt_iff_lt];split <;> (try split) <;> rfl
theorem cmpU64is (a b:Int):xM a b=some (cmpI a b):=by
 unfold xM wR cmpI;simp only [bne_self_eq_false,Option.bind_some,Bool.false_eq_true,if_false,decide_eq_true_eq,gt_iff_lt];split <;> (try split) <;> rfl
def or2 (a b:Int):Int:=if a ≠ 0 then a else b
theorem cmpOr2_is (a b:Int):cmpOrInt [a,b]=some (or2 a b):=by
 unfold cmpOrInt or2;by_cases h1:a=0 <;> by_cases h2:b=0 <;> simp [zq,h1,h2]
def actorCmp (a b:GActor):Int:=or2 (cmpI a.rep b.rep) (cmpI a.inc b.inc)
def dotCmp (a b:GDot):Int:=or2 (actorCmp a.actor b.actor) (cmpI a.seq b.seq)
theorem dotXcompare_is (a b:GActor):dotXcompare a b=some (actorCmp a b):=by
 unfold dotXcompare;rw [cmpU8is,cmpU32is];simp only [Option.bind_some];rw [cmpOr2_is];rfl
theorem dotCompare_is (a b:GDot):wK a b=some (dotCmp a b):=by
 unfold wK;rw [dotXcompare_is,cmpU64is];simp only [Option.bind_some];rw [cmpOr2_is];rfl
theorem dotCmp_lt (a b:GDot):decide (dotCmp a b >= 0)=!dotLt a b:=by
 unfold dotCmp actorCmp dotLt cmpI or2
 grind

def rising:List GDot->Bool
 | a::b::r=>dotLt a b&&rising (b::r)
 | _=>true
def xf (ds:List GDot) (i:Nat) (x:GDot):Bool:=decide (i=0) || dotLt (ds.getD (i - 1) default) x
theorem rising_loop (ds:List GDot) {g:Nat->GDot->Unit->Option (Out Bool Unit)}
  (j:∀i x,ds[i]?=some x->g i x ()=if (we x&&xf ds i x)=true then some (.nxt ()) else some (.ret false)) :
  lp (zq g ds 0 ()) (λ_=>some true)=some (ds.all we&&rising ds):=by
 have key:∀(L pre:List GDot),ds=pre++L->lp (zq g L pre.length ()) (λ_=>some true)=some (L.all we&&rising (match pre.getLast? with | some y=>y::L | none=>L)):=by
  intro L
  induction L with
  | nil=>intro pre h;cases hp:pre.getLast? <;> simp [zq,rising]
  | cons x t ih =>
   intro pre h;have e:ds[pre.length]?=some x:=by rw [h];simp
   have a:=ih (pre++[x]) (by rw [h];simp);simp only [List.length_append,List.length_cons,List.length_nil,Nat.zero_add,List.getLast?_append,List.getLast?_singleton,Option.some_or] at a;simp only [zq,j _ _ e];cases hp:pre.getLast? with
   | none =>
    have b:pre=[]:=List.getLast?_eq_none_iff.1 hp;subst b;simp only [List.length_nil,Nat.zero_add] at a ⊢;cases hd:we x <;> simp [xf,hd,a]
   | some y =>
    have c:pre ≠ []:=by rintro rfl;simp at hp
    have h0:0 < pre.length:=List.length_pos_iff.2 c;have d:ds.getD (pre.length - 1) default=y:=by
     rw [List.getD_eq_getElem?_getD,h,List.getElem?_append_left (by omega)];rw [List.getLast?_eq_getElem?] at hp;rw [hp];rfl
    have f:xf ds pre.length x=dotLt y x:=by
     unfold xf;rw [d];have:decide (pre.length=0)=false:=decide_eq_false (by omega);rw [this];rfl
    rw [f];cases hd:we x <;> cases hlt:dotLt y x <;> simp [hd,hlt,a,rising]
 have:=key ds [] rfl;simpa using this
theorem same_loop {α:Type} [DecidableEq α] (M:List α) {eq:α->α->Bool} (d:∀a b,eq a b=decide (a=b)) {f:Nat->α->Unit->Option (Out Bool Unit)} :
  ∀(L:List α) (i:Nat),L.length+i=M.length->(∀j x,L[j]?=some x->f (i+j) x ()=(yq M ((i+j:Nat):Int)).bind λy=>if (!eq x y)=true then some (.ret false) else some (.nxt ())) ->
  zq f L i ()=if L=M.drop i then some (.inr ()) else some (.inl false)
 | [],i,hl,_=>by
  rw [List.drop_of_length_le (by simp at hl;omega)];rfl
 | x::t,i,hl,h=>by
  simp only [List.length_cons] at hl;have hi:i < M.length:=by omega
  have h0:=h 0 x rfl;simp only [Nat.add_zero] at h0;rw [qf hi] at h0;have k:=same_loop M d (f:=f) t (i+1) (by omega) (λj y g=>by have:=h (j+1) y g;rw [show i+1+j=i+(j+1) by omega];exact this);have e:M.drop i=M[i]::M.drop (i+1):=(List.getElem_cons_drop hi).symm;simp only [zq,h0,Option.bind_some,d,e];by_cases hx:x=M[i]
  ·simp only [hx,decide_true,Bool.not_true,Bool.false_eq_true,if_false,k,List.cons.injEq,true_and]
  ·have c:¬ (x::t=M[i]::M.drop (i+1)):=λhh=>hx (List.cons.inj hh).1;simp only [decide_eq_false hx,Bool.not_false,if_true,if_neg c]
theorem dotEq (a b:GDot):(a.actor.rep==b.actor.rep&&(a.actor.inc==b.actor.inc&&(a.seq==b.seq&&true)))=decide (a=b):=by
 rcases a with ⟨⟨d,g⟩,a3⟩;rcases b with ⟨⟨f,e⟩,c⟩
 rw [Bool.eq_iff_iff];simp [and_assoc]
theorem slicesEqualDot_is (L M:List GDot):wZ L M=some (decide (L=M)):=by
 unfold wZ;by_cases hl:L.length=M.length
 ·have e:((L.length:Int) != (M.length:Int))=false:=by simp;omega
  rw [e,same_loop M dotEq L 0 (by omega) (λj x a=>by simp)];by_cases h:L=M <;> simp [h]
 ·have e:((L.length:Int) != (M.length:Int))=true:=by simp;omega
  rw [e,decide_eq_false (λh=>hl (by rw [h]))];rfl
section
variable {α ρ:Type}
def allI (g:Nat->α->Bool) (L:List α):Bool:=L.zipIdx.all λp=>g p.2 p.1
theorem allI_iff {g:Nat->α->Bool} {L:List α}:allI g L=true ↔ ∀i x,L[i]?=some x->g i x=true:=by
 unfold allI;rw [List.all_eq_true];constructor
 ·intro h i x a;exact h (x,i) (List.mem_zipIdx_iff_getElem?.2 a)
 ·rintro h ⟨x,i⟩ a
  exact h i x (List.mem_zipIdx_iff_getElem?.1 a)
theorem loopL_allI (g:Nat->α->Bool) {r:ρ} {f:Nat->α->Unit->Option (Out ρ Unit)}:∀(L:List α) (k:Nat),(∀i x,L[i]?=some x->f (k+i) x ()=if g (k+i) x=true then some (.nxt ()) else some (.ret r)) ->
  zq f L k ()=if ((L.zipIdx k).all λp=>g p.2 p.1)=true then some (.inr ()) else some (.inl r)
 | [],_,_=>rfl
 | x::t,k,h=>by
  have h0:=h 0 x rfl;simp only [Nat.add_zero] at h0;have b:=loopL_allI g (f:=f) (r:=r) t (k+1) (λi y a=>by have:=h (i+1) y (by simpa using a);rw [show k+1+i=k+(i+1) by omega];exact this);simp only [zq,h0,List.zipIdx_cons,List.all_cons];by_cases hg:g k x=true
  ·simp only [hg,if_true,b,Bool.true_and]
  ·simp only [hg,Bool.false_eq_true,if_false,Bool.false_and]
theorem qS {σ:Type} (g:Nat->α->Bool) {r:σ} {L:List α} {f:Nat->α->Unit->Option (Out σ Unit)} {rest:Unit->Option σ} (b:∀i x,L[i]?=some x->f i x ()=if g i x=true then some (.nxt ()) else some (.ret r)) :
  lp (zq f L 0 ()) rest=if allI g L=true then rest () else some r:=by
 rw [loopL_allI g L 0 (λi x a=>by simpa using b i x a)];unfold allI;split <;> rfl
theorem lp_all0 {σ:Type} (g:α->Bool) {r:σ} {L:List α} {f:Nat->α->Unit->Option (Out σ Unit)} {rest:Unit->Option σ} (b:∀i x,L[i]?=some x->f i x ()=if g x=true then some (.nxt ()) else some (.ret r)) :
  lp (zq f L 0 ()) rest=if L.all g=true then rest () else some r:=by
 rw [qS (λ_=>g) b];have:allI (λ_=>g) L=L.all g:=by
  rw [Bool.eq_iff_iff,allI_iff,List.all_eq_true];exact ⟨λh x a=>by obtain ⟨i,hi⟩:=List.mem_iff_getElem?.1 a;exact h i x hi,λh i x a=>h x (List.mem_of_getElem? a)⟩
 rw [this]
end
theorem qk {j:Nat} (a:j+1<=maxLen):IntKind.wrap .i64 (((j+1:Nat):Int) - 1)=(j:Int):=by
 simp only [maxLen] at a;rw [w64n (by omega)];omega
theorem wrap_add1 {j:Nat} (a:j+1<=maxLen):IntKind.wrap .i64 ((j:Int)+1)=((j+1:Nat):Int):=by
 simp only [maxLen] at a;rw [w64n (by omega)];omega
theorem pos_succ (j:Nat):decide (((j+1:Nat):Int) > 0)=true:=decide_eq_true (by omega)
def qG (n:Int):Bool:=decide (n >= 1)&&decide (n<=1099511627776)
def aheadI (a b:GItem):Bool:=if a.time ≠ b.time then decide (a.time < b.time) else dotLt a.dot b.dot
theorem leafXisTime_is (n:Int):leafXisTime n=some (qG n):=rfl
theorem leafXisText_is (s:zk):qB s=some (decide (s.length<=40)):=by unfold qB;rw [decide_eq_decide.2 (show ((s.length:Int)<=40) ↔ s.length<=40 by omega)]
theorem dotCmp_neg (a b:GDot):decide (dotCmp a b < 0)=dotLt a b:=by
 have h:=dotCmp_lt a b;have:decide (dotCmp a b < 0)=!decide (dotCmp a b >= 0):=by rw [Bool.eq_iff_iff];simp
 rw [this,h,Bool.not_not]
theorem leafAhead_is (a:Int) (d:GDot) (b:Int) (o:GDot):leafAhead a d b o=some (if a ≠ b then decide (a < b) else dotLt d o):=by
 unfold leafAhead vB;rw [cmpU64is,dotCompare_is];simp only [Option.bind_some,cmpOr2_is];congr 1;by_cases h:a=b
 ·subst h;have:cmpI a a=0:=by unfold cmpI;simp
  simp [or2,this,dotCmp_neg]
 ·have:cmpI a b ≠ 0:=by unfold cmpI;split <;> (try split) <;> omega
  simp only [or2,this,ne_eq,not_false_eq_true,if_true,h];unfold cmpI;rw [Bool.eq_iff_iff];simp only [decide_eq_true_eq];split <;> (try split) <;> omega
theorem ref05Ahead_is (a:Int) (d:GDot) (b:Int) (o:GDot):vf a d b o=some (if a ≠ b then decide (a < b) else dotLt d o):=by
 unfold vf;by_cases h:a=b <;> simp [h,ref03Less_is]
def prevI {α:Type} [Inhabited α] (L:List α) (i:Nat):α:=L.getD (i - 1) default
def vl (timed:Bool) (x:GItem):Bool:=we x.dot&&decide (x.text.length<=40)&&(if timed then qG x.time else decide (x.time=0))
def riseB (L:List GItem):Bool:=allI (λi x=>decide (i=0) || aheadI (prevI L i) x) L
def onceB (L:List GItem):Bool:=decide ((L.map (·.dot)).Nodup)
theorem eqb_iff (a b:GDot):GDot.eqb a b=decide (a=b):=by unfold GDot.eqb;exact dotEq a b
def qT (m:List (GDot×Int)):List GDot:=m.map (·.1)
theorem mput_keys (m:List (GDot×Int)) (k:GDot) (v:Int):qT (mput GDot.eqb m k v)=if k ∈ qT m then qT m else qT m++[k]:=by
 induction m with
 | nil=>simp [mput,qT]
 | cons e r ih =>
  simp only [mput,eqb_iff];by_cases h:k=e.1
  ·simp [h,qT]
  ·simp only [decide_eq_false h,Bool.false_eq_true,if_false,qT,List.map_cons,List.mem_cons] at ih ⊢;rw [ih];by_cases h2:k ∈ r.map (·.1) <;> simp [h,h2]
theorem twice_fold:∀(L:List GItem) (m:List (GDot×Int)),(qT m).Nodup ->
  (L.foldl (λs x=>mput GDot.eqb s x.dot (IntKind.wrap .i64 ((wn GDot.eqb 0 s x.dot)+1))) m).length<=m.length+L.length /\
  ((L.foldl (λs x=>mput GDot.eqb s x.dot (IntKind.wrap .i64 ((wn GDot.eqb 0 s x.dot)+1))) m).length=m.length+L.length ↔ (qT m++L.map (·.dot)).Nodup)
 | [],m,h=>by simp [h]
 | x::t,m,h=>by
  simp only [List.foldl_cons];have c:=mput_keys m x.dot (IntKind.wrap .i64 ((wn GDot.eqb 0 m x.dot)+1));generalize hm:mput GDot.eqb m x.dot (IntKind.wrap .i64 ((wn GDot.eqb 0 m x.dot)+1))=m' at c;have g:m'.length=(qT m').length:=by simp [qT]
  have l:m.length=(qT m).length:=by simp [qT]
  by_cases hx:x.dot ∈ qT m
  ·rw [if_pos hx] at c;have d:=twice_fold t m' (by rw [c];exact h);rw [c] at d g;refine ⟨by simp only [List.length_cons];omega,?_⟩;constructor
   ·intro n;simp only [List.length_cons] at n;omega
   ·intro j;rw [List.nodup_append] at j;exact absurd rfl (j.2.2 _ hx _ (by simp))
  ·rw [if_neg hx] at c;have f:(qT m++[x.dot]).Nodup:=by
    rw [List.nodup_append];refine ⟨h,by simp,λa k b i=>?_⟩;simp at i;subst i;rintro rfl;exact hx k
   have d:=twice_fold t m' (by rw [c];exact f);rw [c] at d g;simp only [List.length_append,List.length_cons,List.length_nil] at g;refine ⟨by simp only [List.length_cons];omega,?_⟩;have e:qT m++[x.dot]++t.map (·.dot)=qT m++(x::t).map (·.dot):=by simp
   rw [<- e,<- d.2];simp only [List.length_cons];omega
theorem leafXtwice_is (L:List GItem):leafXtwice L=some (!onceB L):=by
 unfold leafXtwice;rw [loopL_fold (λs x=>mput GDot.eqb s x.dot (IntKind.wrap .i64 ((wn GDot.eqb 0 s x.dot)+1))) L 0 [] (λ_ _ _ _=>rfl)];have h:=twice_fold L [] (by simp [qT]);simp only [List.length_nil,Nat.zero_add,qT,List.map_nil,List.nil_append] at h;simp only [yS,onceB];congr 1;generalize List.length (List.foldl _ _ _)=n at h ⊢;by_cases hn:(L.map (·.dot)).Nodup
 ·have:=h.2.2 hn;rw [decide_eq_true hn,decide_eq_false (by omega)];rfl
 ·have a:n ≠ L.length:=λe=>hn (h.2.1 e);rw [decide_eq_false hn,decide_eq_true (by omega)];rfl
theorem leafXitems_is {L:List GItem} (m:L.length<=maxLen) (a:Bool):leafXitems L a=some (L.all (vl a)&&riseB L&&onceB L):=by
 unfold leafXitems;rw [qS (r:=false) (λi x=>vl a x&&(decide (i=0) || aheadI (prevI L i) x))]
 ·rw [leafXtwice_is];have e:allI (λi x=>vl a x&&(decide (i=0) || aheadI (prevI L i) x)) L=(L.all (vl a)&&riseB L):=by
   rw [Bool.eq_iff_iff,Bool.and_eq_true,riseB,allI_iff,allI_iff,List.all_eq_true];constructor
   ·intro h;exact ⟨λx b=>by obtain ⟨i,hi⟩:=List.mem_iff_getElem?.1 b;have:=h i x hi;simp only [Bool.and_eq_true] at this;exact this.1,λi x b=>by have:=h i x b;simp only [Bool.and_eq_true] at this;exact this.2⟩
   ·rintro ⟨d,f⟩ i x b
    simp only [Bool.and_eq_true];exact ⟨d x (List.mem_of_getElem? b),f i x b⟩
  rw [e];simp only [Option.bind_some,Bool.not_not];cases L.all (vl a)&&riseB L <;> simp
 ·intro i x b;have hi:i < L.length:=(List.getElem?_eq_some_iff.1 b).1;simp only [dotMay_is,leafXisText_is,leafXisTime_is,Option.bind_some,leafAhead_is];have k:vl a x=(we x.dot&&decide (x.text.length<=40)&&(a==qG x.time)&&(a || decide (x.time=0))):=by
   unfold vl;cases a
   ·by_cases h0:x.time=0
    ·simp [h0,show qG 0=false from rfl]
    ·simp [h0]
   ·simp
  rw [k];cases hd:we x.dot
  ·simp
  cases ht:decide (x.text.length<=40)
  ·simp
  by_cases htt:a=qG x.time
  ·have l:(x.time != 0)=!decide (x.time=0):=by rw [Bool.eq_iff_iff];simp
   have c:(a==qG x.time)=true:=by simpa using htt
   rw [l,c];cases hzz:(a || decide (x.time=0))
   ·have:(!a&&!decide (x.time=0))=true:=by rw [<- Bool.not_or,hzz];rfl
    simp [this]
   have:(!a&&!decide (x.time=0))=false:=by rw [<- Bool.not_or,hzz];rfl
   rw [this];rcases i with _ | j
   ·simp [yf,htt]
   ·rw [qk (by simp only [maxLen] at m ⊢;omega),pos_succ];have g:(j:Int) < (L.length:Int):=by omega
    simp [yf,g,prevI,aheadI,htt];by_cases hq:(L[j]?.getD default).time=x.time
    ·cases hdl:dotLt (L[j]?.getD default).dot x.dot <;> simp [hq,hdl]
    ·by_cases hlt:(L[j]?.getD default).time < x.time
     ·simp [hq,hlt,Int.not_le.2 hlt]
     ·simp [hq,hlt,Int.not_lt.1 hlt]
  ·have c:(a==qG x.time)=false:=by simpa using htt
   rw [c];simp [htt]

theorem itemEq (a b:GItem):(a.time==b.time&&(a.dot.actor.rep==b.dot.actor.rep&&(a.dot.actor.inc==b.dot.actor.inc&&(a.dot.seq==b.dot.seq&&(a.text==b.text&&true)))))=decide (a=b):=by
 rcases a with ⟨a0,⟨⟨d,h⟩,a3⟩,a4⟩;rcases b with ⟨b0,⟨⟨g,e⟩,c⟩,f⟩
 rw [Bool.eq_iff_iff];simp [and_assoc]
theorem slicesEqualItem_is (L M:List GItem):wN L M=some (decide (L=M)):=by
 unfold wN;by_cases hl:L.length=M.length
 ·have e:((L.length:Int) != (M.length:Int))=false:=by simp;omega
  rw [e,same_loop M itemEq L 0 (by omega) (λj x a=>by simp)];by_cases h:L=M <;> simp [h]
 ·have e:((L.length:Int) != (M.length:Int))=true:=by simp;omega
  rw [e,decide_eq_false (λh=>hl (by rw [h]))];rfl
theorem leafSame_is (a b:GLeaf):wu a b=some (decide (a=b)):=by
 unfold wu;simp only [slicesEqualItem_is,slicesEqualDot_is,dotEq];rcases a with ⟨a0,e,k,a3,a4,a5,f⟩;rcases b with ⟨b0,i,g,d,h,j,c⟩
 simp only [GLeaf.mk.injEq];by_cases h0:a0=b0 <;> by_cases h1:e=i <;> by_cases h2:k=g <;> by_cases h3:a3=d <;> by_cases h4:a4=h <;> by_cases h5:a5=j <;> by_cases h6:f=c <;> simp [h0,h1,h2,h3,h4,h5,h6]
def dot0:GDot:=⟨⟨0,0⟩,0⟩
def zeroB (l:GLeaf):Bool:=decide (l.time=0)&&decide (l.dot=dot0)&&decide (l.text=[])
def tombsB (l:GLeaf):Bool:=l.tombs.all we&&rising l.tombs&&l.tombs.all (λd=>!l.items.any λx=>decide (x.dot=d))
def leafB (l:GLeaf):Bool :=
 if l.typ=1 then zeroB l&&decide (l.items=[])&&decide (l.tombs=[])
 else if l.typ=2 then decide (l.n=0)&&decide (l.items=[])&&decide (l.tombs=[])&&(if l.time=0 then decide (l.dot=dot0)&&decide (l.text=[]) else qG l.time&&we l.dot&&decide (l.text.length<=40))
 else if l.typ=3 then decide (l.n=0)&&zeroB l&&(l.items.all (vl false)&&riseB l.items&&onceB l.items)&&tombsB l
 else if l.typ=4 then decide (l.n=0)&&zeroB l&&decide (l.tombs=[])&&(l.items.all (vl true)&&riseB l.items&&onceB l.items)
 else false
theorem containsItem_is {f:GItem->Option Bool} {q:GItem->Bool} (p:List GItem) (a:∀x ∈ p,f x=some (q x)):yY p f=some (p.any q):=by
 unfold yY ym;rw [first_loop p a,Option.bind_some,firstI_any]
theorem leafXhas_is (L:List GItem) (d:GDot):leafXhas L d=some (L.any λx=>decide (x.dot=d)):=by
 unfold leafXhas;rw [containsItem_is (q:=λx=>decide (x.dot=d)) L (λx _=>by unfold leafXhasC1;rw [dotEq]),Option.bind_some]
theorem rising_allI (ds:List GDot):rising ds=allI (λi x=>xf ds i x) ds:=by
 have h:=rising_loop ds (g:=λi x _=>if (we x&&xf ds i x)=true then some (.nxt ()) else some (.ret false)) (λ_ _ _=>rfl);have key:∀(L pre:List GDot),ds=pre++L->rising (match pre.getLast? with | some y=>y::L | none=>L)=(L.zipIdx pre.length).all λp=>xf ds p.2 p.1:=by
  intro L
  induction L with
  | nil=>intro pre _;cases pre.getLast? <;> simp [rising]
  | cons x t ih =>
   intro pre hd;have a:=ih (pre++[x]) (by rw [hd];simp);simp only [List.length_append,List.length_cons,List.length_nil,Nat.zero_add,List.getLast?_append,List.getLast?_singleton,Option.some_or] at a;simp only [List.zipIdx_cons,List.all_cons];cases hp:pre.getLast? with
   | none =>
    have b:pre=[]:=List.getLast?_eq_none_iff.1 hp;subst b;simp only [List.length_nil,Nat.zero_add] at a ⊢;rw [a];simp [xf]
   | some y =>
    have c:pre ≠ []:=by rintro rfl;simp at hp
    have h0:0 < pre.length:=List.length_pos_iff.2 c;have d:ds.getD (pre.length - 1) default=y:=by
     rw [List.getD_eq_getElem?_getD,hd,List.getElem?_append_left (by omega)];rw [List.getLast?_eq_getElem?] at hp;rw [hp];rfl
    have e:xf ds pre.length x=dotLt y x:=by
     unfold xf;rw [d,decide_eq_false (by omega)];rfl
    rw [e,<- a];simp [rising]
 simpa [allI] using key ds [] rfl
theorem leafXtombs_is {l:GLeaf} (g:l.tombs.length<=maxLen):leafXtombs l=some (tombsB l):=by
 unfold leafXtombs;rw [qS (r:=false) (λi x=>we x&&xf l.tombs i x&&!(l.items.any λy=>decide (y.dot=x)))]
 ·have e:allI (λi x=>we x&&xf l.tombs i x&&!(l.items.any λy=>decide (y.dot=x))) l.tombs=tombsB l:=by
   unfold tombsB;rw [Bool.eq_iff_iff,rising_allI,Bool.and_eq_true,Bool.and_eq_true,allI_iff,allI_iff,List.all_eq_true,List.all_eq_true];constructor
   ·intro h;refine ⟨⟨λx a=>?_,λi x a=>?_⟩,λx a=>?_⟩
    ·obtain ⟨i,hi⟩:=List.mem_iff_getElem?.1 a;have:=h i x hi;simp only [Bool.and_eq_true] at this;exact this.1.1
    ·have:=h i x a;simp only [Bool.and_eq_true] at this;exact this.1.2
    ·obtain ⟨i,hi⟩:=List.mem_iff_getElem?.1 a;have:=h i x hi;simp only [Bool.and_eq_true] at this;exact this.2
   ·rintro ⟨⟨c,d⟩,k⟩ i x a
    have b:=List.mem_of_getElem? a;simp only [Bool.and_eq_true];exact ⟨⟨c x b,d i x a⟩,k x b⟩
  rw [e];cases tombsB l <;> rfl
 ·intro i x a;have hi:i < l.tombs.length:=(List.getElem?_eq_some_iff.1 a).1;simp only [dotMay_is,Option.bind_some,dotCompare_is,leafXhas_is];cases hd:we x
  ·simp [yf]
  rcases i with _ | j
  ·cases hh:(l.items.any λy=>decide (y.dot=x)) <;> simp [yf,xf]
  ·rw [qk (by simp only [maxLen] at g ⊢;omega),pos_succ];have m:(j:Int) < (l.tombs.length:Int):=by omega
   have f:xf l.tombs (j+1) x=dotLt (l.tombs.getD j default) x:=by unfold xf;simp
   have e:=dotCmp_lt (l.tombs.getD j default) x;rw [zj (by intro _;omega),f,Int.toNat_natCast];generalize l.tombs.getD j default=y at e ⊢;simp only [Bool.not_true,BEq.rfl,Bool.true_and,if_true,Option.bind_some,e,Bool.false_or];cases hlt:dotLt y x
   ·simp
   ·cases hh:(l.items.any λy=>decide (y.dot=x)) <;> simp
theorem leafMay_is {l:GLeaf} (hi:l.items.length<=maxLen) (e:l.tombs.length<=maxLen):leafMay l=some (leafB l):=by
 unfold leafMay leafB;simp only [leafSame_is,leafXisTime_is,dotMay_is,leafXisText_is,leafXitems_is hi,leafXtombs_is e,dotEq,Option.bind_some];rcases l with ⟨t,n,b,d,c,a,f⟩
 simp only [GLeaf.mk.injEq,zeroB,beq_iff_eq,dot0];by_cases h1:t=1
 ·simp only [h1,if_true];congr 1;rw [Bool.eq_iff_iff];simp [and_assoc];intros;exact decide_eq_true_iff.symm
 by_cases h2:t=2
 ·subst h2;by_cases h0:b=0
  ·subst h0;by_cases hd:d=⟨⟨0,0⟩,0⟩
   ·by_cases hx:c=[]
    ·simp [hd,hx];rw [Bool.eq_iff_iff];simp [and_assoc]
    ·simp [hd,hx]
   ·have i:((0:Int)==0&&!decide (d=⟨⟨0,0⟩,0⟩))=true:=by simp [hd]
    simp [hd];intro h;rcases d with ⟨⟨j,g⟩,k⟩
    simp_all
  ·cases htt:qG b <;> cases hdd:we d <;> cases hxx:decide (c.length<=40) <;> simp_all [and_assoc];rw [Bool.eq_iff_iff];simp [and_assoc]
 by_cases h3:t=3
 ·subst h3;cases ha:(a.all (vl false)&&riseB a&&onceB a) <;> cases hb:tombsB ⟨3,n,b,d,c,a,f⟩ <;> simp [and_assoc];rw [Bool.eq_iff_iff];simp [and_assoc];intros;exact decide_eq_true_iff.symm
 by_cases h4:t=4
 ·subst h4;cases ha:(a.all (vl true)&&riseB a&&onceB a) <;> simp [and_assoc];rw [Bool.eq_iff_iff];simp [and_assoc];intros;exact decide_eq_true_iff.symm
 simp [h1,h2,h3,h4]

theorem ref05Item_is (L:List GItem) (d:GDot):ref05Item L d=some (qU (λx=>decide (x.dot=d)) L):=by
 unfold ref05Item;rw [loopL_first (λx:GItem=>decide (x.dot=d)) (λi _=>(i:Int)) _ _ (λi x _=>by rw [dotEq])];unfold qU;cases h:L.findIdx? (λx=>decide (x.dot=d)) with
 | none=>simp
 | some j =>
  obtain ⟨a,_⟩:=List.findIdx?_eq_some_iff_getElem.1 h;simp [List.getElem?_eq_getElem a]
theorem vu (L:List GDot) (d:GDot):vw L d=some (L.any λx=>decide (x=d)):=by
 unfold vw;rw [lp_all0 (r:=true) (λx:GDot=>!decide (x=d)) (λi x _=>by rw [dotEq];cases decide (x=d) <;> rfl)];have e:L.any (λx=>decide (x=d))=!L.all (λx=>!decide (x=d)):=by rw [Bool.eq_iff_iff];simp
 rw [e];cases L.all (λx=>!decide (x=d)) <;> rfl
theorem first_nodup (L:List GItem):(∀(i:Nat) (x:GItem),L[i]?=some x->qU (λy:GItem=>decide (y.dot=x.dot)) L=(i:Int)) ↔ (L.map (·.dot)).Nodup:=by
 constructor
 ·intro h;rw [List.nodup_iff_pairwise_ne,List.pairwise_iff_getElem];intro i j hi a d e;simp only [List.length_map] at hi a;simp only [List.getElem_map] at e;have c:=h i _ (List.getElem?_eq_getElem hi);have g:=h j _ (List.getElem?_eq_getElem a);rw [e] at c;rw [c] at g;omega
 ·intro h i x f;obtain ⟨hi,rfl⟩:=List.getElem?_eq_some_iff.1 f;unfold qU;have:L.findIdx? (λy=>decide (y.dot=L[i].dot))=some i:=by
   rw [List.findIdx?_eq_some_iff_getElem];refine ⟨hi,by simp,λj a=>?_⟩;have b:j < L.length:=by omega
   simp only [decide_eq_true_eq];intro e;rw [List.nodup_iff_pairwise_ne,List.pairwise_iff_getElem] at h;exact h j i (by simpa using b) (by simpa using hi) a (by simpa using e)
  rw [this]
def itemR (t:Int) (x:GItem):Bool:=we x.dot&&decide (x.text.length<=40)&&(decide (t ≠ 3) || decide (x.time=0))&&(decide (t ≠ 4) || qG x.time)
def tailB (l:GLeaf):Bool:=l.items.all (itemR l.typ)&&onceB l.items&&l.items.all (λx=>!(l.tombs.any λy=>decide (y=x.dot)))&&riseB l.items&&(l.tombs.all we&&rising l.tombs)
theorem items_allI (l:GLeaf):allI (λi x=>itemR l.typ x&&(decide (qU (λy:GItem=>decide (y.dot=x.dot)) l.items=(i:Int))&&(!(l.tombs.any λy=>decide (y=x.dot))&&(decide (i=0) || aheadI (prevI l.items i) x)))) l.items =
  (l.items.all (itemR l.typ)&&onceB l.items&&l.items.all (λx=>!(l.tombs.any λy=>decide (y=x.dot)))&&riseB l.items):=by
 rw [Bool.eq_iff_iff,allI_iff];simp only [Bool.and_eq_true,decide_eq_true_eq,onceB,riseB,allI_iff,List.all_eq_true,<- first_nodup];constructor
 ·intro h;refine ⟨⟨⟨λx a=>?_,λi x a=>(h i x a).2.1⟩,λx a=>?_⟩,λi x a=>(h i x a).2.2.2⟩
  ·obtain ⟨i,hi⟩:=List.mem_iff_getElem?.1 a;exact (h i x hi).1
  ·obtain ⟨i,hi⟩:=List.mem_iff_getElem?.1 a;exact (h i x hi).2.2.1
 ·rintro ⟨⟨⟨d,e⟩,f⟩,c⟩ i x a
  have b:=List.mem_of_getElem? a;exact ⟨d x b,e i x a,f x b,c i x a⟩
theorem tombs_allI (ds:List GDot):allI (λi x=>we x&&xf ds i x) ds=(ds.all we&&rising ds):=by
 rw [Bool.eq_iff_iff,allI_iff,rising_allI];simp only [Bool.and_eq_true,allI_iff,List.all_eq_true];constructor
 ·intro h;exact ⟨λx a=>by obtain ⟨i,hi⟩:=List.mem_iff_getElem?.1 a;exact (h i x hi).1,λi x a=>(h i x a).2⟩
 ·rintro ⟨b,c⟩ i x a
  exact ⟨b x (List.mem_of_getElem? a),c i x a⟩
theorem ref05May_is {l:GLeaf} (hi:l.items.length<=maxLen) (A:l.tombs.length<=maxLen) (h0:0<=l.time):ref05May l=some (leafB l):=by
 unfold ref05May;simp only [ref03May_is,ref05Item_is,vu,ref05Ahead_is,ref03Less_is,Option.bind_some,dotEq];generalize hT:lp (zq _ l.items 0 ()) _=T;have v:decide ((l.items.length:Int) > 0)=!decide (l.items=[]):=by cases l.items <;> simp
 have u:decide ((l.tombs.length:Int) > 0)=!decide (l.tombs=[]):=by cases l.tombs <;> simp
 have p:T=some (tailB l):=by
  rw [<- hT,qS (r:=false) (λi x=>itemR l.typ x&&(decide (qU (λy:GItem=>decide (y.dot=x.dot)) l.items=(i:Int))&&(!(l.tombs.any λy=>decide (y=x.dot))&&(decide (i=0) || aheadI (prevI l.items i) x))))]
  ·rw [qS (r:=false) (λi x=>we x&&xf l.tombs i x)]
   ·rw [items_allI,tombs_allI];unfold tailB;cases (l.items.all (itemR l.typ)&&onceB l.items&&l.items.all (λx=>!(l.tombs.any λy=>decide (y=x.dot)))&&riseB l.items) <;> cases (l.tombs.all we&&rising l.tombs) <;> simp
   ·intro i x b;have s:i < l.tombs.length:=(List.getElem?_eq_some_iff.1 b).1;have q:l.tombs.getD i default=x:=by rw [List.getD_eq_getElem?_getD,b];rfl
    rcases i with _ | j
    ·cases hd:we x <;> simp [yf,xf]
    ·rw [qk (by simp only [maxLen] at A ⊢;omega),pos_succ,Int.toNat_natCast,Int.toNat_natCast,q];have m:xf l.tombs (j+1) x=dotLt (l.tombs.getD j default) x:=by unfold xf;simp
     rw [zj (by intro _;omega),zj (by intro _;omega),m];generalize l.tombs.getD j default=y;cases hd:we x <;> cases f:dotLt y x <;> simp
  ·intro i x b;have s:i < l.items.length:=(List.getElem?_eq_some_iff.1 b).1;have B:decide ((x.text.length:Int) > 40)=!decide (x.text.length<=40):=by rw [Bool.eq_iff_iff];simp;omega
   have t:(((l.typ==4)&&(decide (x.time < 1) || decide (x.time > 1099511627776))))=!(decide (l.typ ≠ 4) || qG x.time):=by
    rw [Bool.eq_iff_iff];simp [qG]
   have E:((l.typ==3)&&(x.time != 0))=!(decide (l.typ ≠ 3) || decide (x.time=0)):=by rw [Bool.eq_iff_iff];simp
   rw [B,t,E];have G:(((!we x.dot || !decide (x.text.length<=40)) || !(decide (l.typ ≠ 3) || decide (x.time=0))) || !(decide (l.typ ≠ 4) || qG x.time))=!itemR l.typ x:=by unfold itemR;simp only [Bool.not_and]
   rw [G];have F:(qU (λy:GItem=>decide (y.dot=x.dot)) l.items != (i:Int))=!decide (qU (λy:GItem=>decide (y.dot=x.dot)) l.items=(i:Int)):=by rw [Bool.eq_iff_iff];simp
   cases hr:itemR l.typ x
   ·simp
   simp only [Bool.not_true,BEq.rfl,if_true,Option.bind_some,Bool.false_or];rw [F];cases hf:decide (qU (λy:GItem=>decide (y.dot=x.dot)) l.items=(i:Int))
   ·simp
   cases htb:l.tombs.any λy=>decide (y=x.dot)
   ·rcases i with _ | j
    ·simp [yf]
    ·rw [qk (by simp only [maxLen] at hi ⊢;omega),pos_succ,Int.toNat_natCast];rw [zj (by intro _;omega),zj (by intro _;omega)];have m:(if (l.items.getD j default).time ≠ x.time then decide ((l.items.getD j default).time < x.time) else dotLt (l.items.getD j default).dot x.dot)=aheadI (prevI l.items (j+1)) x:=rfl;rw [m];cases aheadI (prevI l.items (j+1)) x <;> simp
   ·simp
 subst p;clear hT;rw [v,u];have D:(l.time != 0)=!decide (l.time=0):=by rw [Bool.eq_iff_iff];simp
 have z:(l.time==0)=decide (l.time=0):=by rw [Bool.eq_iff_iff];simp
 have z3:(l.text==([]:zk))=decide (l.text=[]):=by rw [Bool.eq_iff_iff];simp
 have z4:decide (l.time > 1099511627776)=!decide (l.time<=1099511627776):=by rw [Bool.eq_iff_iff];simp
 have z5:decide ((l.text.length:Int) > 40)=!decide (l.text.length<=40):=by rw [Bool.eq_iff_iff];simp;omega
 have k:zeroB l=(decide (l.time=0)&&decide (l.dot=dot0)&&decide (l.text=[])):=rfl;have C:(l.dot.actor.rep==0&&(l.dot.actor.inc==0&&(l.dot.seq==0&&true)))=decide (l.dot=dot0):=dotEq l.dot dot0;rw [D,z,z3,z4,z5,C];by_cases h1:l.typ=1
 ·have hi:decide (l.items=[])=true->tailB l=(l.tombs.all we&&rising l.tombs):=by
   intro h;have:=of_decide_eq_true h;unfold tailB;rw [this];simp [onceB,riseB,allI]
  unfold leafB;simp only [h1,if_true,k];cases hi2:decide (l.items=[])
  ·simp
  ·rw [hi hi2];cases ht2:decide (l.tombs=[])
   ·simp
   ·have:=of_decide_eq_true ht2;rw [this];cases decide (l.time=0) <;> cases decide (l.dot=dot0) <;> cases decide (l.text=[]) <;> simp [rising]
 by_cases h2:l.typ=2
 ·have hi:decide (l.items=[])=true->tailB l=(l.tombs.all we&&rising l.tombs):=by
   intro h;have:=of_decide_eq_true h;unfold tailB;rw [this];simp [onceB,riseB,allI]
  unfold leafB;have c:qG l.time=(!decide (l.time=0)&&decide (l.time<=1099511627776)):=by
   unfold qG;rw [Bool.eq_iff_iff];simp;omega
  simp only [h2,if_true,c];cases hn:decide (l.n=0)
  ·have:(l.n != 0)=true:=by simpa using hn
   simp [this]
  ·have a:l.n=0:=of_decide_eq_true hn;cases hi2:decide (l.items=[])
   ·simp [a]
   ·rw [hi hi2];cases ht2:decide (l.tombs=[])
    ·simp [a]
    ·have:=of_decide_eq_true ht2;rw [this];by_cases ht0:l.time=0
     ·cases hdd:decide (l.dot=dot0) <;> cases htx:decide (l.text=[]) <;> simp [a,ht0,rising]
     ·cases hm:decide (l.time<=1099511627776) <;> cases hdd:we l.dot <;> cases htx:decide (l.text.length<=40) <;> simp [a,ht0,rising]
 by_cases h3:l.typ=3
 ·have g:(λx=>itemR 3 x)=vl false:=by
   funext x;unfold itemR vl;simp
  have o:tailB l=(l.items.all (vl false)&&riseB l.items&&onceB l.items&&tombsB l):=by
   unfold tailB tombsB;rw [h3,show itemR 3=vl false from g];have w:l.items.all (λx=>!(l.tombs.any λy=>decide (y=x.dot)))=l.tombs.all (λd=>!l.items.any λx=>decide (x.dot=d)):=by
    rw [Bool.eq_iff_iff];simp only [List.all_eq_true,Bool.not_eq_true',List.any_eq_false,decide_eq_true_eq];exact ⟨λh d hd x b e=>h x b d hd e.symm,λh x b d hd e=>h d hd x b e.symm⟩
   rw [w];cases l.items.all (vl false) <;> cases onceB l.items <;> cases riseB l.items <;> cases l.tombs.all we <;> cases rising l.tombs <;> cases l.tombs.all (λd=>!l.items.any λx=>decide (x.dot=d)) <;> rfl
  unfold leafB;simp only [h3,o,k];cases hn:decide (l.n=0)
  ·have:(l.n != 0)=true:=by simpa using hn
   simp [this]
  ·have a:l.n=0:=of_decide_eq_true hn;cases decide (l.time=0) <;> cases decide (l.dot=dot0) <;> cases decide (l.text=[]) <;> simp [a]
 by_cases h4:l.typ=4
 ·have g:(λx=>itemR 4 x)=vl true:=by
   funext x;unfold itemR vl;simp
  have o:decide (l.tombs=[])=true->tailB l=(l.items.all (vl true)&&riseB l.items&&onceB l.items):=by
   intro h;have:=of_decide_eq_true h;unfold tailB;rw [h4,show itemR 4=vl true from g,this];cases l.items.all (vl true) <;> cases onceB l.items <;> cases riseB l.items <;> simp [rising]
  unfold leafB;simp only [h4,k];cases hn:decide (l.n=0)
  ·have:(l.n != 0)=true:=by simpa using hn
   simp [this]
  ·have a:l.n=0:=of_decide_eq_true hn;cases ht2:decide (l.tombs=[])
   ·simp [a]
   ·rw [o ht2];cases decide (l.time=0) <;> cases decide (l.dot=dot0) <;> cases decide (l.text=[]) <;> simp [a]
 have f:l.typ < 1 \/ 4 < l.typ:=by omega
 have:(decide (l.typ < 1) || decide (l.typ > 4))=true:=by simp;omega
 unfold leafB;rw [this,if_neg h1,if_neg h2,if_neg h3,if_neg h4];simp

mutual
def GNode.dep:GNode->Nat
 | ⟨_,_,sb⟩=>GNode.deps sb+1
def GNode.deps:List GNode->Nat
 | []=>0
 | x::r=>max x.dep (GNode.deps r)
end
theorem qX {x:GNode}:∀{t:List GNode},x ∈ t->x.dep<=GNode.deps t
 | [],h=>by cases h
 | y::r,h=>by
  simp only [GNode.deps];rcases List.mem_cons.1 h with rfl | h
  ·omega
  ·have:=qX h;omega
theorem xV (x:GNode):GNode.deps x.subs+1=x.dep:=by cases x;simp [GNode.dep]
def Small (t:List GNode):Prop:=GNode.wfs t/\GNode.bks t<=16777216
theorem bk_pos (x:GNode):1<=x.bk:=by cases x;simp only [GNode.bk];omega
theorem len_bks:∀t:List GNode,t.length<=GNode.bks t
 | []=>by simp [GNode.bks]
 | x::r=>by have:=len_bks r;have:=bk_pos x;simp only [GNode.bks,List.length_cons];omega
theorem bk_mem {x:GNode}:∀{t:List GNode},x ∈ t->x.bk<=GNode.bks t
 | [],h=>by cases h
 | y::r,h=>by
  simp only [GNode.bks];rcases List.mem_cons.1 h with rfl | h
  ·omega
  ·have:=bk_mem h;omega
theorem sum_len {α:Type} {f:α->Nat} (h:∀x,1<=f x):∀l:List α,l.length<=(l.map f).sum
 | []=>by simp
 | x::r=>by have:=sum_len h r;have:=h x;simp only [List.length_cons,List.map_cons,List.sum_cons];omega
theorem sum_mem {α:Type} {f:α->Nat} {x:α}:∀{l:List α},x ∈ l->f x<=(l.map f).sum
 | [],h=>by cases h
 | y::r,h=>by
  simp only [List.map_cons,List.sum_cons];rcases List.mem_cons.1 h with rfl | h
  ·omega
  ·have:=sum_mem (f:=f) h;omega
theorem bk_node (x:GNode):x.name.length+1+((x.leaves.map GLeaf.bk).sum+1)+(GNode.bks x.subs+1)<=x.bk:=by cases x;simp only [GNode.bk];omega
theorem Small.subs {t:List GNode} (h:Small t) {x:GNode} (a:x ∈ t):Small x.subs:=by
 refine ⟨?_,by have:=bk_mem a;have:=bk_node x;have:=h.2;omega⟩;have:=(GNode.wfs_iff t).1 h.1 x a;cases x;simp only [GNode.wf] at this;exact this.2.2
theorem Small.len {t:List GNode} (h:Small t):t.length<=16777216:=Nat.le_trans (len_bks t) h.2
structure LeafOk (l:GLeaf):Prop where
 items:l.items.length<=16777216
 tombs:l.tombs.length<=16777216
 time:0<=l.time
theorem Small.leaf {t:List GNode} (h:Small t) {x:GNode} (a:x ∈ t) {l:GLeaf} (b:l ∈ x.leaves):LeafOk l:=by
 have e:=bk_mem a;have g:=bk_node x;have j:=h.2;have d:l.bk<=_:=sum_mem (f:=GLeaf.bk) b;have c:(l.items.map GItem.bk).sum+1+((l.tombs.map GDot.bk).sum+1)<=l.bk:=by unfold GLeaf.bk;omega
 have k:=sum_len (f:=GItem.bk) (λx=>by unfold GItem.bk;omega) l.items;have i:=sum_len (f:=GDot.bk) (λx=>by unfold GDot.bk;omega) l.tombs;refine ⟨by omega,by omega,?_⟩;have:=(GNode.wfs_iff t).1 h.1 x a;cases x;simp only [GNode.wf] at this;have:=this.2.1.2 l b;unfold GLeaf.wf at this;have:=this.2.2.1;unfold InK at this;simp [IntKind.min,IntKind.max,IntKind.signed,IntKind.bits] at this;omega
theorem Small.leaves {t:List GNode} (h:Small t) {x:GNode} (a:x ∈ t):x.leaves.length<=16777216:=by
 have b:=bk_mem a;have c:=bk_node x;have d:=h.2;have e:=sum_len (f:=GLeaf.bk) (λx=>by unfold GLeaf.bk;omega) x.leaves;omega
def upB (t:List GNode):Bool:=allI (λi x=>decide (i=0) || Op.bytesLess (t.getD (i - 1) default).name x.name) t
def leavesB (ls:List GLeaf):Bool:=allI (λi l=>leafB l&&(decide (i=0) || decide ((ls.getD (i - 1) default).typ < l.typ))) ls
mutual
def nodeB (d:Nat):GNode->Bool
 | ⟨nm,ls,sb⟩=>nameB nm&&!(ls.isEmpty&&sb.isEmpty)&&((sb.isEmpty || decide (d+1 < 3))&&upB sb&&xR (d+1) sb)&&leavesB ls
def xR (d:Nat):List GNode->Bool
 | []=>true
 | x::r=>nodeB d x&&xR d r
end
def treeB (d:Nat) (t:List GNode):Bool:=(t.isEmpty || decide (d < 3))&&upB t&&xR d t
theorem yT (d:Nat):∀t,xR d t=t.all (nodeB d)
 | []=>rfl
 | x::r=>by simp only [xR,List.all_cons,yT d r]
theorem nodeB_eq (d:Nat) (x:GNode):nodeB d x=(nameB x.name&&!(x.leaves.isEmpty&&x.subs.isEmpty)&&treeB (d+1) x.subs&&leavesB x.leaves):=by cases x;rfl
theorem up_nodes (d:Nat) (t:List GNode):allI (λi x=>nodeB d x&&(decide (i=0) || Op.bytesLess (t.getD (i - 1) default).name x.name)) t=(upB t&&xR d t):=by
 rw [Bool.eq_iff_iff,allI_iff,yT];simp only [Bool.and_eq_true,upB,allI_iff,List.all_eq_true];constructor
 ·intro h;exact ⟨λi x a=>(h i x a).2,λx a=>by obtain ⟨i,hi⟩:=List.mem_iff_getElem?.1 a;exact (h i x hi).1⟩
 ·rintro ⟨b,c⟩ i x a
  exact ⟨c x (List.mem_of_getElem? a),b i x a⟩
theorem lenE {α:Type} (l:List α):((l.length:Int)==0)=l.isEmpty:=by cases l <;> simp;omega
theorem treeXmayN_is:∀(n:Nat) (t:List GNode) (d:Nat),GNode.deps t < n->d<=3->Small t->ql n t (d:Int)=some (treeB d t)
 | 0,_,_,h,_,_=>by omega
 | n+1,t,d,h,hd,hs=>by
  unfold ql;by_cases hc:(decide ((t.length:Int) > 0)&&((d:Int)==3))=true
  ·rw [if_pos hc];simp only [Bool.and_eq_true,decide_eq_true_eq,beq_iff_eq] at hc;have:t.isEmpty=false:=by cases t <;> simp at hc ⊢
   have f:decide (d < 3)=false:=decide_eq_false (by omega);simp [treeB,this,f]
  ·rw [if_neg hc];have k:(t.isEmpty || decide (d < 3))=true:=by
    simp only [Bool.and_eq_true,decide_eq_true_eq,beq_iff_eq] at hc;cases t with
    | nil=>rfl
    | cons x r=>simp at hc ⊢;omega
   have E:=hs.len;rw [qS (r:=false) (λi x=>nodeB d x&&(decide (i=0) || Op.bytesLess (t.getD (i - 1) default).name x.name)),up_nodes]
   ·unfold treeB;rw [k,Bool.true_and];cases upB t&&xR d t <;> rfl
   ·intro i x p;have hi:i < t.length:=(List.getElem?_eq_some_iff.1 p).1;have b:=List.mem_of_getElem? p;have s:=qX b;have C:=xV x;have D:0 < t.length:=by omega
    have f:d < 3:=by
     simp only [Bool.and_eq_true,decide_eq_true_eq,beq_iff_eq] at hc;omega
    have B:IntKind.wrap .i64 ((d:Int)+1)=((d+1:Nat):Int):=by rw [w64n (by omega)];omega
    have v:=treeXmayN_is n x.subs (d+1) (by omega) (by omega) (hs.subs b);have w:=hs.leaves b;have A:=(hs.subs b).len;have m:IntKind.wrap .i64 ((x.leaves.length:Int)+(x.subs.length:Int))=((x.leaves.length+x.subs.length:Nat):Int):=by rw [w64n (by omega)];omega
    have z:((((x.leaves.length+x.subs.length:Nat):Int))==0)=(x.leaves.isEmpty&&x.subs.isEmpty):=by
     cases h1:x.leaves <;> cases h2:x.subs <;> simp <;> omega
    rw [opIsName_is,B,v,m,z,nodeB_eq];have o:lp (zq (λ(n2:Nat) (q:GLeaf) (s2:Unit)=>(((leafMay q).bind λa=>(yf ((((!a)==false)&&((decide ((n2:Int) > (0:Int)))==true))=true->0<=(IntKind.wrap .i64 ((n2:Int) - (1:Int)))/\(IntKind.wrap .i64 ((n2:Int) - (1:Int))) < ((x.leaves).length:Int)) ((if ((!a) || ((decide ((n2:Int) > (0:Int)))&&(decide (((x.leaves).getD (IntKind.wrap .i64 ((n2:Int) - (1:Int))).toNat default).typ >= q.typ))))=true then some (.ret (.ret false)) else some (.nxt ()))))):Option (Out (Out Bool Unit) Unit))) x.leaves 0 ()) (λ(s2:Unit)=>some (.nxt ()))=if leavesB x.leaves=true then some (.nxt ()) else some (.ret false):=by
     rw [qS (r:=.ret false) (λi l=>leafB l&&(decide (i=0) || decide ((x.leaves.getD (i - 1) default).typ < l.typ)))]
     ·rfl
     ·intro j l c;have u:j < x.leaves.length:=(List.getElem?_eq_some_iff.1 c).1;have g:=hs.leaf b (List.mem_of_getElem? c);rw [leafMay_is (by have:=g.items;simp only [maxLen];omega) (by have:=g.tombs;simp only [maxLen];omega)];simp only [Option.bind_some];rcases j with _ | j
      ·cases leafB l <;> simp [yf]
      ·rw [qk (by simp only [maxLen];omega),pos_succ,Int.toNat_natCast,zj (by intro _;omega)];have e:decide ((x.leaves.getD j default).typ >= l.typ)=!decide ((x.leaves.getD j default).typ < l.typ):=by rw [Bool.eq_iff_iff];simp
       rw [e,Nat.add_sub_cancel];generalize (x.leaves.getD j default)=y;cases leafB l <;> cases decide (y.typ < l.typ) <;> simp
    rw [o];simp only [Option.bind_some];rcases i with _ | j
    ·cases nameB x.name <;> cases (x.leaves.isEmpty&&x.subs.isEmpty) <;> cases treeB (d+1) x.subs <;> cases leavesB x.leaves <;> simp [yf]
    ·rw [qk (by simp only [maxLen];omega),pos_succ,Int.toNat_natCast,zj (by intro _;omega),Nat.add_sub_cancel];generalize (t.getD j default)=y;cases nameB x.name <;> cases (x.leaves.isEmpty&&x.subs.isEmpty) <;> cases treeB (d+1) x.subs <;> cases leavesB x.leaves <;> cases Op.bytesLess y.name x.name <;> simp
theorem wC {t:List GNode} (h:Small t):vT t=some (treeB 0 t):=by
 unfold vT treeXmay;have:=vX (g:=λn=>ql n t 0) (r:=treeB 0 t) (GNode.deps t+1) (λn a=>by have:=treeXmayN_is n t 0 (by omega) (by omega) h;simpa using this);rw [this];rfl
theorem ref07XmayN_is:∀(n:Nat) (t:List GNode) (d:Nat),GNode.deps t < n->d<=3->Small t->vd n t (d:Int)=some (treeB d t)
 | 0,_,_,h,_,_=>by omega
 | n+1,t,d,h,hd,hs=>by
  unfold vd;have z:=hs.len;rw [qS (r:=false) (λi x=>decide (d < 3)&&(nodeB d x&&(decide (i=0) || Op.bytesLess (t.getD (i - 1) default).name x.name)))]
  ·have e:allI (λi x=>decide (d < 3)&&(nodeB d x&&(decide (i=0) || Op.bytesLess (t.getD (i - 1) default).name x.name))) t=treeB d t:=by
    unfold treeB;rw [Bool.and_assoc,<- up_nodes];cases hd3:decide (d < 3)
    ·cases t with
     | nil=>rfl
     | cons x r=>simp [allI]
    ·simp
   rw [e];cases treeB d t <;> rfl
  ·intro i x m;have hi:i < t.length:=(List.getElem?_eq_some_iff.1 m).1;have c:=List.mem_of_getElem? m;have o:=qX c;have w:=xV x;have g:decide ((d:Int) >= 3)=!decide (d < 3):=by rw [Bool.eq_iff_iff];simp;omega
   rw [g];by_cases hd3:d < 3
   ·have v:IntKind.wrap .i64 ((d:Int)+1)=((d+1:Nat):Int):=by rw [w64n (by omega)];omega
    have q:=ref07XmayN_is n x.subs (d+1) (by omega) (by omega) (hs.subs c);have s:=hs.leaves c;rw [ref04IsName_is,v,q,nodeB_eq,lenE,lenE];have k:lp (zq (λ(n2:Nat) (u:GLeaf) (s2:Unit)=>(((ref05May u).bind λv50=>(yf ((((!v50)==false)&&((decide ((n2:Int) > (0:Int)))==true))=true->0<=(IntKind.wrap .i64 ((n2:Int) - (1:Int)))/\(IntKind.wrap .i64 ((n2:Int) - (1:Int))) < ((x.leaves).length:Int)) ((yf ((((!v50)==false)&&((decide ((n2:Int) > (0:Int)))==true))=true->0<=(n2:Int)/\(n2:Int) < ((x.leaves).length:Int)) ((if ((!v50) || ((decide ((n2:Int) > (0:Int)))&&(decide (((x.leaves).getD (IntKind.wrap .i64 ((n2:Int) - (1:Int))).toNat default).typ >= ((x.leaves).getD (n2:Int).toNat default).typ))))=true then some (.ret (.ret false)) else some (.nxt ()))))))):Option (Out (Out Bool Unit) Unit))) x.leaves 0 ()) (λ(s2:Unit)=>some (.nxt ()))=if leavesB x.leaves=true then some (.nxt ()) else some (.ret false):=by
     rw [qS (r:=.ret false) (λi l=>leafB l&&(decide (i=0) || decide ((x.leaves.getD (i - 1) default).typ < l.typ)))]
     ·rfl
     ·intro j l a;have p:j < x.leaves.length:=(List.getElem?_eq_some_iff.1 a).1;have f:x.leaves.getD j default=l:=by rw [List.getD_eq_getElem?_getD,a];rfl
      have b:=hs.leaf c (List.mem_of_getElem? a);rw [ref05May_is (by have:=b.items;simp only [maxLen];omega) (by have:=b.tombs;simp only [maxLen];omega) b.time];simp only [Option.bind_some];rcases j with _ | j
      ·cases leafB l <;> simp [yf]
      ·rw [qk (by simp only [maxLen];omega),pos_succ,Int.toNat_natCast,Int.toNat_natCast,f,zj (by intro _;omega),zj (by intro _;omega)];have e:decide ((x.leaves.getD j default).typ >= l.typ)=!decide ((x.leaves.getD j default).typ < l.typ):=by rw [Bool.eq_iff_iff];simp
       rw [e,Nat.add_sub_cancel];generalize (x.leaves.getD j default)=y;cases leafB l <;> cases decide (y.typ < l.typ) <;> simp
    rw [k,decide_eq_true hd3];simp only [Option.bind_some,Bool.not_true,Bool.false_or,Bool.true_and,BEq.rfl,if_true];rcases i with _ | j
    ·cases nameB x.name <;> cases (x.leaves.isEmpty&&x.subs.isEmpty) <;> cases treeB (d+1) x.subs <;> cases leavesB x.leaves <;> simp [yf]
    ·rw [qk (by simp only [maxLen];omega),pos_succ,Int.toNat_natCast,zj (by intro _;omega),Nat.add_sub_cancel];generalize (t.getD j default)=y;cases nameB x.name <;> cases (x.leaves.isEmpty&&x.subs.isEmpty) <;> cases treeB (d+1) x.subs <;> cases leavesB x.leaves <;> cases Op.bytesLess y.name x.name <;> simp
   ·rw [decide_eq_false hd3];simp [yf]
theorem ve {t:List GNode} (h:Small t):vJ t=some (treeB 0 t):=by
 unfold vJ ref07Xmay;have:=vX (g:=λn=>vd n t 0) (r:=treeB 0 t) (GNode.deps t+1) (λn a=>by have:=ref07XmayN_is n t 0 (by omega) (by omega) h;simpa using this);rw [this];rfl

theorem loopW_end {σ ρ:Type} {f:σ->Option (Out ρ σ)} (b:σ->Prop) (c:σ->Nat) (h:∀s,b s->(∃a,f s=some (.brk a)) \/ ∃a,f s=some (.nxt a)/\b a/\c a < c s):∀(k:Nat) (s:σ),c s=k->b s->∃a,yC f s=some (.inr a):=by
 intro k
 induction k using Nat.strongRecOn with
 | _ k ih =>
  intro s g hi;rw [y6];rcases h s hi with ⟨a,e⟩ | ⟨a,e,d,i⟩
  ·exact ⟨a,by rw [e]⟩
  ·rw [e];exact ih (c a) (by omega) a rfl d
theorem lpW_end {σ ρ:Type} {f:σ->Option (Out ρ σ)} {rest:σ->Option ρ} (a:σ->Prop) (d:σ->Nat) (g:∀s,∃v,rest s=some v) (c:σ) (hi:a c) (h:∀s,a s->(∃b,f s=some (.brk b)) \/ ∃b,f s=some (.nxt b)/\a b/\d b < d s):∃v,lp (yC f c) rest=some v:=by
 obtain ⟨b,e⟩:=loopW_end a d h _ c rfl hi;rw [e];exact g b
theorem idx_mem {α:Type} {L:List α} {i:Int} {x:α} (h:yq L i=some x):x ∈ L:=by
 unfold yq at h;split at h
 ·exact List.mem_of_getElem? h
 ·cases h
theorem size_tot:∀(n:Nat) (t:List GNode) (d:Int),GNode.deps t < n->Small t->∃v,xy n t d=some v
 | 0,_,_,h,_=>by omega
 | n+1,t,d,h,hs=>by
  unfold xy;have A:=hs.len;refine lpW_end (λs=>0<=s.2/\s.2<=(t.length:Int)) (λs=>(t.length - s.2.toNat)) (λ_=>⟨_,rfl⟩) _ ⟨by simp,by simp⟩ (λs hi=>?_);rcases s with ⟨a,i⟩
  obtain ⟨k,rfl⟩:∃k:Nat,i=(k:Int):=⟨i.toNat,by have:=hi.1;simp at this;omega⟩
  by_cases hc:(decide ((k:Int) < (t.length:Int))&&decide (d < 10))=true
  ·right;simp only [Bool.and_eq_true,decide_eq_true_eq] at hc;have m:k < t.length:=by omega
   have o:t[k] ∈ t:=List.getElem_mem m;have u:=qX o;have y:=xV t[k];obtain ⟨v,w⟩:=size_tot n t[k].subs (IntKind.wrap .i64 (d+1)) (by omega) (hs.subs o);have x:=hs.leaves o;obtain ⟨s2,r⟩:=loopW_end (ρ:=Out Int (Int×Int)) (σ:=Int×Int) (f:=λs2:Int×Int=>(((yq t (k:Int)).bind λg=>(if decide (s2.2 < ((g.leaves).length:Int))=true then ((yq t (k:Int)).bind λj=>((yq j.leaves s2.2).bind λc=>(lp (zq (λ(z:Nat) (p:GItem) (l:Int)=>(some (.nxt (IntKind.wrap .i64 ((IntKind.wrap .i64 (l+(1:Int)))+((p.text).length:Int)))):Option (Out _ Int))) c.items 0 (IntKind.wrap .i64 ((IntKind.wrap .i64 ((IntKind.wrap .i64 (s2.1+(1:Int)))+((c.text).length:Int)))+((c.tombs).length:Int)))) λ(l:Int)=>some (.nxt (l,(IntKind.wrap .i64 (s2.2+(1:Int)))))))) else some (.brk (s2.1,s2.2)))):Option (Out (Out Int (Int×Int)) (Int×Int))))
    (λs=>0<=s.2/\s.2<=(t[k].leaves.length:Int)) (λs=>(t[k].leaves.length - s.2.toNat)) (λs hi=>by
     rcases s with ⟨b,i⟩
     obtain ⟨q,rfl⟩:∃q:Nat,i=(q:Int):=⟨i.toNat,by have:=hi.1;simp at this;omega⟩
     simp only [qf m,Option.bind_some];by_cases hq:q < t[k].leaves.length
     ·right;have e:decide ((q:Int) < (t[k].leaves.length:Int))=true:=by simpa using hq
      simp only [e,if_true,qf hq,Option.bind_some];rw [loopL_fold (λ(l:Int) (p:GItem)=>IntKind.wrap .i64 ((IntKind.wrap .i64 (l+(1:Int)))+((p.text).length:Int))) _ 0 _ (λ_ _ _ _=>rfl),yS];refine ⟨_,rfl,?_,?_⟩
      ·simp only;rw [w64n (by omega)];omega
      ·simp only;rw [w64n (by omega)];omega
     ·left;have e:decide ((q:Int) < (t[k].leaves.length:Int))=false:=by simp;omega
      simp only [e];exact ⟨_,rfl⟩) _ ((IntKind.wrap .i64 ((IntKind.wrap .i64 ((IntKind.wrap .i64 (a+(1:Int)))+((t[k].name).length:Int)))+v)),(0:Int)) rfl ⟨by simp,by simp⟩
   refine ⟨(s2.1,IntKind.wrap .i64 ((k:Int)+1)),?_,?_,?_⟩
   ·simp only [hc,decide_true,Bool.and_self,if_true,qf m,Option.bind_some,w];simp only [qf m,Option.bind_some] at r;rw [r];rfl
   ·simp only;rw [w64n (by omega)];omega
   ·simp only;rw [w64n (by omega)];omega
  ·left;refine ⟨(a,(k:Int)),?_⟩;simp only at hc ⊢;rw [if_neg hc]
theorem size_fuel:∀(n m:Nat) (t:List GNode) (d:Int),GNode.deps t < n->GNode.deps t < m->xy n t d=xy m t d
 | 0,_,_,_,h,_=>by omega
 | _+1,0,_,_,_,h=>by omega
 | n+1,m+1,t,d,h1,h2=>by
  unfold xy;congr 2;funext s;split
  ·cases hx:yq t s.2 with
   | none=>rfl
   | some y =>
    have a:=qX (idx_mem hx);have b:=xV y;simp only [Option.bind_some];rw [size_fuel n m y.subs _ (by omega) (by omega)]
  ·rfl
theorem ref07Great_tot {t:List GNode} (h:Small t):∃b,ref07Great t=some b:=by
 unfold ref07Great ref07Xsize;obtain ⟨v,a⟩:∃v,∀n,GNode.deps t+1<=n->xy n t 0=some v:=by
  obtain ⟨v,a⟩:=size_tot (GNode.deps t+1) t 0 (by omega) h;exact ⟨v,λn c=>by rw [size_fuel n (GNode.deps t+1) t 0 (by omega) (by omega)];exact a⟩
 rw [vX (GNode.deps t+1) a];exact ⟨_,rfl⟩

def endsB (p:List zk):Bool:=p.getLast?==some [42,42]
def yX (p:List zk):List zk:=if endsB p then p.dropLast else p
def agreeB:List zk->List zk->Bool
 | [],_=>true
 | x::t,y::r=>(x==[42] || x==y)&&agreeB t r
 | _::_,[]=>false
def patB (p:List zk):Bool:=(decide (0 < (yX p).length) || endsB p)&&decide ((yX p).length<=3)&&(yX p).all (λs=>s==[42] || nameB s)
def matchB (p path:List zk):Bool:=patB p&&pathB path&&decide ((yX p).length<=path.length)&&(endsB p || decide (path.length<=(yX p).length))&&agreeB (yX p) path
theorem wrapLen {n:Nat} (h0:0 < n) (h:n<=maxLen):IntKind.wrap .i64 ((n:Int) - 1)=((n - 1:Nat):Int):=by
 simp only [maxLen] at h;rw [w64n (by omega)];omega
theorem last_getD {p:List zk} (h0:0 < p.length):(p.getD (p.length - 1) default==[42,42])=endsB p:=by
 unfold endsB;rw [List.getLast?_eq_getElem?,List.getD_eq_getElem?_getD,List.getElem?_eq_getElem (by omega)];rw [Bool.eq_iff_iff];simp
theorem slc_init {p:List zk} (h0:0 < p.length):slc p 0 ((p.length - 1:Nat):Int)=some p.dropLast:=by
 rw [slc_at (by omega)];simp [List.dropLast_eq_take]
theorem pathsXparts_is {p:List zk} (h:p.length<=maxLen):qy p=some (yX p,endsB p):=by
 unfold qy yX;by_cases h0:0 < p.length
 ·rw [wrapLen h0 h,zj (by intro _;omega)];have e:decide ((p.length:Int) > 0)=true:=by simpa using h0
  rw [e,Int.toNat_natCast,last_getD h0,slc_init h0];cases endsB p <;> rfl
 ·have:p=[]:=List.eq_nil_of_length_eq_zero (by omega);subst this;rfl
theorem qc {p:List zk} (h:p.length<=maxLen):xC p=some (patB p):=by
 unfold xC patB;rw [pathsXparts_is h];simp only [Option.bind_some];rw [contains_is (q:=λs=>!(s==[42] || nameB s)) _ (λx _=>by
  unfold wX;rw [opIsName_is];cases h1:(x==([42]:zk)) <;> simp)]
 have e:(yX p).any (λs=>!(s==[42] || nameB s))=!(yX p).all (λs=>s==[42] || nameB s):=by rw [Bool.eq_iff_iff];simp
 have a:decide (((yX p).length:Int) > 0)=decide (0 < (yX p).length):=decide_eq_decide.2 (by omega);rw [e,bnd3,a];cases ((decide (0 < (yX p).length) || endsB p)&&decide ((yX p).length<=3)) <;> simp
theorem agree_loop (path:List zk) {f:Nat->zk->Unit->Option (Out Bool Unit)} (a:∀i x,i < path.length->f i x ()=if (!(x==([42]:zk))&&!(x==path.getD i default))=true then some (.ret false) else some (.nxt ())) :
  ∀(L:List zk) (i:Nat),L.length+i<=path.length->zq f L i ()=if agreeB L (path.drop i)=true then some (.inr ()) else some (.inl false)
 | [],i,_=>by cases path.drop i <;> rfl
 | x::t,i,h=>by
  simp only [List.length_cons] at h;have hi:i < path.length:=by omega
  have c:=agree_loop path a t (i+1) (by omega);have e:path.drop i=path[i]::path.drop (i+1):=(List.getElem_cons_drop hi).symm;have b:path.getD i default=path[i]:=by rw [List.getD_eq_getElem?_getD,List.getElem?_eq_getElem hi];rfl
  simp only [zq,a i x hi,e,agreeB,b];cases h1:(x==([42]:zk)) <;> cases h2:(x==path[i]) <;> simp [c]
theorem pathsMatch_is {p path:List zk} (h:p.length<=maxLen):pathsMatch p path=some (matchB p path):=by
 unfold pathsMatch matchB;rw [pathsXparts_is h,qc h];simp only [Option.bind_some,opMayPath_is];cases hp:patB p
 ·simp
 ·cases hq:pathB path
  ·simp
  ·by_cases hl:(yX p).length<=path.length
   ·have a:decide ((path.length:Int) < ((yX p).length:Int))=false:=decide_eq_false (by omega);have b:decide ((path.length:Int) > ((yX p).length:Int))=!decide (path.length<=(yX p).length):=by
     rw [Bool.eq_iff_iff];simp
    rw [a,b,agree_loop path (λi x hi=>by rw [zj (by intro _;omega),Int.toNat_natCast]) _ 0 (by omega)];simp only [List.drop_zero,decide_eq_true hl];cases decide (path.length<=(yX p).length) <;> cases endsB p <;> cases agreeB (yX p) path <;> simp
   ·have a:decide ((path.length:Int) < ((yX p).length:Int))=true:=decide_eq_true (by omega);rw [a,decide_eq_false hl];simp

section
variable {S X:Type}
def foldF (y:S->X->Option (Bool×S)):List X->S->Option (Bool×S)
 | [],s=>some (true,s)
 | x::r,s=>(y s x).bind λv=>if v.1=true then foldF y r v.2 else some (false,v.2)
theorem foldF_app (y:S->X->Option (Bool×S)):∀(a b:List X) (s:S),foldF y (a++b) s=(foldF y a s).bind λv=>if v.1=true then foldF y b v.2 else some v
 | [],b,s=>by simp [foldF]
 | x::r,b,s=>by
  simp only [List.cons_append,foldF];cases y s x with
  | none=>rfl
  | some v =>
   simp only [Option.bind_some];cases hv:v.1
   ·simp
   ·simp only [if_true];exact foldF_app y r b v.2
theorem foldF_stp (y:S->X->Option (Bool×S)):∀(xs:List X) (s:S),
  foldF (stp (λ(c:S) (a:X)=>(((y c a).bind λv=>(if (!v.1)=true then some (false,(v.2,some 0)) else some (true,(v.2,none)))):Option (Bool×(S×Option Nat))))) xs (s,none)=(foldF y xs s).map λv=>(v.1,(v.2,if v.1=true then none else some 0))
 | [],s=>rfl
 | x::r,s=>by
  simp only [foldF,stp];cases y s x with
  | none=>rfl
  | some v =>
   rcases v with ⟨b,d⟩
   cases b
   ·simp
   ·simp only [Bool.not_true,Bool.false_eq_true,if_false,Option.bind_some,if_true];exact foldF_stp y r d
theorem loop_tell {ρ α:Type} (y:S->X->Option (Bool×S)) (g:α->X) (r:S->ρ) {f:Nat->α->S->Option (Out ρ S)}:∀(L:List α) (i:Nat) (s:S),(∀i x s,x ∈ L->f i x s=(y s (g x)).bind λv=>if (!v.1)=true then some (.ret (r v.2)) else some (.nxt v.2)) ->
  zq f L i s=(foldF y (L.map g) s).map λv=>if v.1=true then .inr v.2 else .inl (r v.2)
 | [],_,_,_=>rfl
 | x::t,i,s,h=>by
  simp only [zq,h i x s (List.mem_cons_self ..),List.map_cons,foldF];cases y s (g x) with
  | none=>rfl
  | some v =>
   rcases v with ⟨b,c⟩
   cases b
   ·rfl
   ·simp only [Bool.not_true,Bool.false_eq_true,if_false,Option.bind_some,if_true];exact loop_tell y g r t (i+1) c λi x s a=>h i x s (List.mem_cons_of_mem _ a)
theorem loop_tells {ρ α:Type} (y:S->X->Option (Bool×S)) (g:α->List X) (r:S->ρ) {f:Nat->α->S->Option (Out ρ S)}:∀(L:List α) (i:Nat) (s:S),(∀i x s,x ∈ L->f i x s=(foldF y (g x) s).map λv=>if v.1=true then .nxt v.2 else .ret (r v.2)) ->
  zq f L i s=(foldF y (L.flatMap g) s).map λv=>if v.1=true then .inr v.2 else .inl (r v.2)
 | [],_,_,_=>rfl
 | x::t,i,s,h=>by
  simp only [zq,h i x s (List.mem_cons_self ..),List.flatMap_cons,foldF_app];cases foldF y (g x) s with
  | none=>rfl
  | some v =>
   rcases v with ⟨b,c⟩
   cases b
   ·rfl
   ·simp only [Option.map_some,if_true,Option.bind_some];exact loop_tells y g r t (i+1) c λi x s a=>h i x s (List.mem_cons_of_mem _ a)
end
theorem clone_is {α:Type} {L:List α} (h:L.length<=yK):(nilq L λa=>(if a=true then some ([]:List α) else (yf ((([]:List α)).length+L.length<=yK) (some (([]:List α)++L)))))=some L:=by
 refine nilq_of ?_ λe=>by subst e;rfl
 rw [zj (by simpa using h)];simp
theorem cloneString_is {L:List zk} (h:L.length<=yK):xB L=some L:=clone_is h
theorem qY {L:List GItem} (h:L.length<=yK):yw L=some L:=clone_is h
theorem cloneDot_is {L:List GDot} (h:L.length<=yK):yI L=some L:=clone_is h
theorem pathsXown_is {l:GLeaf} (h:LeafOk l):pathsXown l=some l:=by
 unfold pathsXown;rw [qY (by have:=h.items;unfold yK;omega),cloneDot_is (by have:=h.tombs;unfold yK;omega)];rfl
mutual
def w9 (a:List zk):GNode->List GRow
 | ⟨nm,ls,sb⟩=>ls.map (λl=>GRow.mk (a++[nm]) l)++zo (a++[nm]) sb
def zo (a:List zk):List GNode->List GRow
 | []=>[]
 | x::r=>w9 a x++zo a r
end
mutual
def wQ (is:List zk->Bool) (a:List zk):GNode->GNode
 | ⟨nm,ls,sb⟩=>⟨nm,if is (a++[nm])=true then ls else [],wo is (a++[nm]) sb⟩
def wo (is:List zk->Bool) (a:List zk):List GNode->List GNode
 | []=>[]
 | x::r=>if (wQ is a x).leaves.isEmpty&&(wQ is a x).subs.isEmpty then wo is a r else wQ is a x::wo is a r
end
theorem yN (a:List zk) (x:GNode):w9 a x=x.leaves.map (λl=>GRow.mk (a++[x.name]) l)++zo (a++[x.name]) x.subs:=by cases x;rfl
theorem yr (a:List zk):∀t,zo a t=t.flatMap (w9 a)
 | []=>rfl
 | x::r=>by simp only [zo,List.flatMap_cons,yr a r]
theorem keepN_eq (is:List zk->Bool) (a:List zk) (x:GNode):wQ is a x=⟨x.name,if is (a++[x.name])=true then x.leaves else [],wo is (a++[x.name]) x.subs⟩:=by cases x;rfl
theorem keepL_filter (is:List zk->Bool) (a:List zk):∀t,wo is a t=(t.map (wQ is a)).filter λy=>!(y.leaves.isEmpty&&y.subs.isEmpty)
 | []=>rfl
 | x::r=>by
  simp only [wo,List.map_cons,List.filter_cons,keepL_filter is a r];cases ((wQ is a x).leaves.isEmpty&&(wQ is a x).subs.isEmpty) <;> simp
theorem rows_is {S:Type}:∀(n:Nat) (S:Type) (y:S->GRow->Option (Bool×S)) (t:List GNode) (a:List zk) (s:S),GNode.deps t < n->Small t->a.length+GNode.deps t<=40000000->wl n S y t a s=(foldF y (zo a t) s).map (·.2)
 | 0,_,_,_,_,_,h,_,_=>by omega
 | n+1,S,y,t,a,s,h,hs,ha=>by
  unfold wl;rw [loop_tells y (w9 a) (λs=>s),<- yr]
  ·cases foldF y (zo a t) s with
   | none=>rfl
   | some v=>rcases v with ⟨b,d⟩;cases b <;> rfl
  ·intro i x g c;have e:=qX c;have f:=xV x;rw [cloneString_is (by unfold yK;omega),Option.bind_some,zj (by simp [yK];omega)];rw [loop_tell y (λl=>GRow.mk (a++[x.name]) l) (λs=>Out.ret s)]
   ·rw [yN,foldF_app];cases foldF y (x.leaves.map λl=>GRow.mk (a++[x.name]) l) g with
    | none=>rfl
    | some v =>
     rcases v with ⟨b,d⟩
     cases b
     ·rfl
     ·simp only [Option.map_some,if_true,yS,Option.bind_some];unfold pathsXrows;simp only [Option.bind_some];rw [rows_is (S:=Unit) n _ _ x.subs (a++[x.name]) (d,none) (by omega) (hs.subs c) (by simp;omega),foldF_stp];cases foldF y (zo (a++[x.name]) x.subs) d with
      | none=>rfl
      | some v=>rcases v with ⟨b,s2⟩;cases b <;> rfl
   ·intro j l s2 k;rw [cloneString_is (by simp [yK];omega),Option.bind_some,pathsXown_is (hs.leaf c k),Option.bind_some]

theorem wt {α a ρ:Type} (p:α->Bool) (g:α->a) {f:Nat->α->List a->Option (Out ρ (List a))}:∀(L:List α) (i:Nat) (s:List a),s.length+L.length<=yK->(∀i x s,x ∈ L->s.length+1<=yK->f i x s=if p x=true then some (.nxt (s++[g x])) else some (.nxt s)) ->
  zq f L i s=some (.inr (s++(L.filter p).map g))
 | [],_,s,_,_=>by simp [zq]
 | x::t,i,s,hl,h=>by
  simp only [List.length_cons] at hl;simp only [zq,h i x s (List.mem_cons_self ..) (by omega),List.filter_cons];cases hp:p x
  ·simp only [Bool.false_eq_true,if_false];exact wt p g t (i+1) s (by omega) λi x s b=>h i x s (List.mem_cons_of_mem _ b)
  ·simp only [if_true];rw [wt p g t (i+1) (s++[g x]) (by simp;omega) λi x s b=>h i x s (List.mem_cons_of_mem _ b)];simp
theorem keep_len (is:List zk->Bool) (a:List zk) (t:List GNode):(wo is a t).length<=t.length:=by
 rw [keepL_filter];exact Nat.le_trans (List.length_filter_le _ _) (by simp)
theorem kept_is (is:List zk->Bool) (f:List zk->Option Bool) (u:∀p,f p=some (is p)):∀(n:Nat) (t:List GNode) (a:List zk),GNode.deps t < n->Small t->a.length+GNode.deps t<=40000000->vh n t a f=some (wo is a t)
 | 0,_,_,h,_,_=>by omega
 | n+1,t,a,h,hs,ha=>by
  unfold vh;have z:=hs.len;have key:∀(L:List GNode) (i:Nat) (s:List GNode),(∀x ∈ L,x ∈ t)->s.length+L.length<=16777216->∀{F:Nat->GNode->List GNode->Option (Out (List GNode) (List GNode))},(∀i x s,x ∈ t->s.length+1<=16777216->F i x s=some (.nxt (if ((wQ is a x).leaves.isEmpty&&(wQ is a x).subs.isEmpty)=true then s else s++[wQ is a x]))) ->
    zq F L i s=some (.inr (s++wo is a L)):=by
   intro L
   induction L with
   | nil=>intro i s _ _ F _;simp [zq,wo]
   | cons x r ih =>
    intro i s e c F q;simp only [List.length_cons] at c;simp only [zq,q i x s (e x (by simp)) (by omega),wo];cases he:((wQ is a x).leaves.isEmpty&&(wQ is a x).subs.isEmpty)
    ·simp only [Bool.false_eq_true,if_false];rw [ih (i+1) _ (λy o=>e y (by simp [o])) (by simp;omega) q];simp
    ·simp only [if_true];exact ih (i+1) s (λy o=>e y (by simp [o])) (by omega) q
  rw [key t 0 [] (λ_ h=>h) (by simpa using z)]
  ·simp
  ·intro i x s b c;have w:=qX b;have B:=xV x;have g:=hs.leaves b;have v:=(hs.subs b).len;rw [cloneString_is (by unfold yK;omega),Option.bind_some,zj (by simp [yK];omega),kept_is is f u n x.subs (a++[x.name]) (by omega) (hs.subs b) (by simp;omega),Option.bind_some];rw [wt (λ_=>is (a++[x.name])) (λl=>l) x.leaves 0 [] (by simp [yK];omega)]
   ·simp only [yS,List.nil_append,List.map_id_fun',id];have m:(x.leaves.filter λ_=>is (a++[x.name]))=(if is (a++[x.name])=true then x.leaves else []):=by
     cases is (a++[x.name]) <;> simp
    rw [m,<- keepN_eq];have C:=keep_len is (a++[x.name]) x.subs;have A:decide ((IntKind.wrap .i64 (((if is (a++[x.name])=true then x.leaves else []).length:Int)+((wo is (a++[x.name]) x.subs).length:Int))) > 0)=!((wQ is a x).leaves.isEmpty&&(wQ is a x).subs.isEmpty):=by
     rw [keepN_eq];have D:(if is (a++[x.name])=true then x.leaves else []).length<=16777216:=by cases is (a++[x.name]) <;> simp [g]
     rw [w64n (by omega)];cases hA:(if is (a++[x.name])=true then x.leaves else []) <;> cases hB:wo is (a++[x.name]) x.subs <;> simp <;> omega
    rw [A];cases ((wQ is a x).leaves.isEmpty&&(wQ is a x).subs.isEmpty)
    ·simp only [Bool.not_false,if_true,Bool.false_eq_true,if_false];rw [zj (by simp [yK];omega)]
    ·simp
   ·intro j l s2 k d;rw [u,Option.bind_some,pathsXown_is (hs.leaf b k),Option.bind_some,zj (by simpa using d)]
theorem deps_bks:∀(n:Nat) (t:List GNode),GNode.deps t<=n->GNode.deps t<=GNode.bks t:=by
 intro n
 induction n with
 | zero=>intro t a;omega
 | succ n ih =>
  intro t
  induction t with
  | nil=>intro _;simp [GNode.deps]
  | cons x r ihr =>
   intro a;simp only [GNode.deps] at a ⊢;simp only [GNode.bks];have c:=ihr (by omega);have d:=xV x;have e:=ih x.subs (by omega);have b:=bk_node x;omega
theorem Small.dep {t:List GNode} (h:Small t):GNode.deps t<=16777216:=Nat.le_trans (deps_bks _ t (Nat.le_refl _)) h.2
theorem keptAll_is (is:List zk->Bool) (f:List zk->Option Bool) (a:∀p,f p=some (is p)) {t:List GNode} (h:Small t):pathsXkept t [] f=some (wo is [] t):=by
 unfold pathsXkept;have b:=h.dep;rw [vX (GNode.deps t+1) λn c=>kept_is is f a n t [] (by omega) h (by simp;omega)]
theorem rows_len:∀(n:Nat) (t:List GNode) (a:List zk),GNode.deps t<=n->(zo a t).length<=GNode.bks t:=by
 intro n
 induction n with
 | zero =>
  intro t a h;cases t with
  | nil=>simp [zo]
  | cons x r=>simp only [GNode.deps] at h;have:=xV x;omega
 | succ n ih =>
  intro t
  induction t with
  | nil=>intro a _;simp [zo]
  | cons x r ihr =>
   intro a b;simp only [GNode.deps] at b;simp only [GNode.bks,zo,List.length_append];have e:=ihr a (by omega);have g:=xV x;have i:=ih x.subs (a++[x.name]) (by omega);have d:=bk_node x;have c:=sum_len (f:=GLeaf.bk) (λx=>by unfold GLeaf.bk;omega) x.leaves;rw [yN];simp only [List.length_append,List.length_map];omega
theorem fold_app {X:Type}:∀(xs s:List X),s.length+xs.length<=yK->foldF (stp (λ(a:List X) (b:X)=>((yf (a.length+([b]:List X).length<=yK) (some (true,((a++[b]),none)))):Option (Bool×(List X×Option Nat))))) xs (s,none)=some (true,(s++xs,none))
 | [],s,_=>by simp [foldF]
 | x::r,s,h=>by
  simp only [List.length_cons] at h;simp only [foldF,stp];rw [zj (by simp;omega)];simp only [Option.bind_some,if_true];rw [fold_app r (s++[x]) (by simp;omega)];simp
theorem pathsRows_is {t:List GNode} (h:Small t):pathsRows t=some (if treeB 0 t=true then zo [] t else []):=by
 unfold pathsRows;rw [wC h,Option.bind_some];cases treeB 0 t
 ·rfl
 ·have hd:=h.dep;have a:=rows_len _ t [] (Nat.le_refl _);have b:=h.2;simp only [Bool.not_true,Bool.false_eq_true,if_false,if_true,pathsXrows,Option.bind_some,vq,wD,pathsXrowsC1];rw [vX (r:=(zo [] t,none)) (GNode.deps t+1) λn c=>by
   rw [rows_is (S:=Unit) n _ _ t [] ([],none) (by omega) h (by simp;omega),fold_app _ _ (by simp [yK];omega)];rfl]
  rfl

theorem qe:∀{a b c:List UInt8},Op.bytesLess a b=true->Op.bytesLess b c=true->Op.bytesLess a c=true
 | _,[],_,h,_=>by cases ‹List UInt8› <;> simp [Op.bytesLess] at h
 | a,b::y,[],_,h=>by simp [Op.bytesLess] at h
 | [],b::y,c::z,_,_=>rfl
 | a::x,b::y,c::z,e,d=>by
  simp only [Op.bytesLess,Bool.or_eq_true,decide_eq_true_eq,Bool.and_eq_true,beq_iff_eq] at e d ⊢;rcases e with e | ⟨rfl,e⟩
  ·rcases d with d | ⟨rfl,d⟩
   ·left;exact UInt8.lt_trans e d
   ·left;exact e
  ·rcases d with d | ⟨rfl,d⟩
   ·left;exact d
   ·right;exact ⟨rfl,qe e d⟩
theorem upB_iff (t:List GNode):upB t=true ↔ t.Pairwise (λx y=>Op.bytesLess x.name y.name=true):=by
 unfold upB;rw [allI_iff];constructor
 ·intro h;rw [List.pairwise_iff_getElem];intro i j hi a b;obtain ⟨k,rfl⟩:∃k,j=i+1+k:=⟨j - i - 1,by omega⟩
  induction k with
  | zero =>
   have:=h (i+1) _ (List.getElem?_eq_getElem a);simp only [Nat.add_sub_cancel,Bool.or_eq_true,decide_eq_true_eq] at this;rcases this with h0 | h0
   ·omega
   ·rw [List.getD_eq_getElem?_getD,List.getElem?_eq_getElem hi] at h0;exact h0
  | succ k ih =>
   have d:=ih (by omega) (by omega);have:=h (i+1+(k+1)) _ (List.getElem?_eq_getElem a);simp only [Bool.or_eq_true,decide_eq_true_eq] at this;rcases this with h0 | h0
   ·omega
   ·rw [show i+1+(k+1) - 1=i+1+k by omega,List.getD_eq_getElem?_getD,List.getElem?_eq_getElem (by omega:i+1+k < t.length)] at h0;exact qe d h0
 ·intro h i x c;rcases i with _ | i
  ·rfl
  ·rw [List.pairwise_iff_getElem] at h;obtain ⟨hi,rfl⟩:=List.getElem?_eq_some_iff.1 c;have:=h i (i+1) (by omega) hi (by omega);simp only [Nat.add_sub_cancel,Bool.or_eq_true];right;rw [List.getD_eq_getElem?_getD,List.getElem?_eq_getElem (by omega:i < t.length)];exact this
section
variable (is:List zk->Bool)
theorem keep_up (a:List zk) {t:List GNode} (h:upB t=true):upB (wo is a t)=true:=by
 rw [upB_iff] at h ⊢;rw [keepL_filter];refine List.Pairwise.filter _ ?_;rw [List.pairwise_map];exact h.imp λ{x y} h=>by rw [keepN_eq,keepN_eq];exact h
theorem wa {M:List GNode->Prop} (h0:M []) (a:∀x r,M x.subs->M r->M (x::r)):∀t,M t:=by
 have key:∀(n:Nat) (t:List GNode),GNode.deps t<=n->M t:=by
  intro n
  induction n with
  | zero =>
   intro t h;cases t with
   | nil=>exact h0
   | cons x r=>simp only [GNode.deps] at h;have:=xV x;omega
  | succ n ih =>
   intro t
   induction t with
   | nil=>intro _;exact h0
   | cons x r ihr =>
    intro h;simp only [GNode.deps] at h;have:=xV x;exact a x r (ih x.subs (by omega)) (ihr (by omega))
 exact λt=>key _ t (Nat.le_refl _)
theorem keep_may:∀(t:List GNode) (d:Nat) (a:List zk),treeB d t=true->treeB d (wo is a t)=true:=by
 intro t;have key:∀(t:List GNode),(∀(d:Nat) (a:List zk),treeB d t=true->treeB d (wo is a t)=true)/\(∀(d:Nat) (a:List zk),xR d t=true->xR d (wo is a t)=true):=by
  refine wa ⟨λd a h=>h,λd a h=>h⟩ ?_;intro x r f c;have e:∀(d:Nat) (a:List zk),xR d (x::r)=true->xR d (wo is a (x::r))=true:=by
   intro d a h;simp only [xR,Bool.and_eq_true] at h;simp only [wo];cases he:((wQ is a x).leaves.isEmpty&&(wQ is a x).subs.isEmpty)
   ·simp only [Bool.false_eq_true,if_false,xR,Bool.and_eq_true];refine ⟨?_,c.2 d a h.2⟩;have b:=h.1;rw [nodeB_eq] at b ⊢;simp only [Bool.and_eq_true,Bool.not_eq_true'] at b ⊢;rw [keepN_eq] at he ⊢;refine ⟨⟨⟨b.1.1.1,he⟩,f.1 (d+1) _ b.1.2⟩,?_⟩;show leavesB (if is (a++[x.name])=true then x.leaves else [])=true;split
    ·exact b.2
    ·rfl
   ·simp only [if_true];exact c.2 d a h.2
  refine ⟨λd a h=>?_,e⟩;unfold treeB at h ⊢;simp only [Bool.and_eq_true] at h ⊢;refine ⟨⟨?_,keep_up is a h.1.2⟩,e d a h.2⟩;have:decide (d < 3)=true:=by simpa using h.1.1
  rw [this];simp
 exact (key t).1
theorem keep_rows:∀(t:List GNode) (a:List zk),zo a (wo is a t)=(zo a t).filter λr=>is r.path:=by
 refine wa (λa=>rfl) ?_;intro x r c b a;have d:w9 a (wQ is a x)=(w9 a x).filter λr=>is r.path:=by
  rw [keepN_eq,yN,yN,List.filter_append,<- c];simp only;congr 1;cases h:is (a++[x.name])
  ·simp [h]
  ·simp only [if_true];rw [List.filter_eq_self.2];intro r b;obtain ⟨l,_,rfl⟩:=List.mem_map.1 b;exact h
 simp only [wo,zo,List.filter_append,<- b,<- d];cases he:((wQ is a x).leaves.isEmpty&&(wQ is a x).subs.isEmpty)
 ·simp [zo]
 ·simp only [if_true];simp only [Bool.and_eq_true,List.isEmpty_iff] at he;rw [yN,he.1,he.2];simp [zo]
theorem keep_small:∀(t:List GNode) (a:List zk),(GNode.wfs t->GNode.wfs (wo is a t))/\GNode.bks (wo is a t)<=GNode.bks t:=by
 refine wa (λa=>⟨λh=>h,Nat.le_refl _⟩) ?_;intro x r c b a;have j:(wQ is a x).bk<=x.bk:=by
  have:=(c (a++[x.name])).2;cases x with
  | mk nm ls sb =>
   simp only [wQ,GNode.bk] at this ⊢;have d:((if is (a++[nm])=true then ls else []).map GLeaf.bk).sum<=(ls.map GLeaf.bk).sum:=by split <;> simp
   omega
 have g:x.wf->(wQ is a x).wf:=by
  have:=(c (a++[x.name])).1;cases x with
  | mk nm ls sb =>
   simp only [wQ,GNode.wf] at this ⊢
   rintro ⟨f,d,i⟩
   refine ⟨f,?_,this i⟩;split
   ·exact d
   ·exact ⟨by simp,λy e=>by cases e⟩
 simp only [wo];split
 ·refine ⟨λh=>(b a).1 (by simp only [GNode.wfs] at h;exact h.2),?_⟩;have:=(b a).2;simp only [GNode.bks];omega
 ·refine ⟨λh=>?_,?_⟩
  ·simp only [GNode.wfs] at h ⊢;exact ⟨g h.1,(b a).1 h.2⟩
  ·have:=(b a).2;simp only [GNode.bks];omega
theorem Small.keep {t:List GNode} (h:Small t) (a:List zk):Small (wo is a t):=⟨(keep_small is t a).1 h.1,Nat.le_trans (keep_small is t a).2 h.2⟩
end
theorem ref05Same_refl (l:GLeaf):ref05Same l l=some true:=by
 unfold ref05Same;simp only [dotEq,itemEq];rw [if_neg (by simp),qS (r:=false) (λ_ _=>true),qS (r:=false) (λ_ _=>true)]
 ·simp [allI]
 ·intro i x a;have hi:=(List.getElem?_eq_some_iff.1 a).1;have b:l.tombs[i]=x:=(List.getElem?_eq_some_iff.1 a).2;rw [qf hi,b];simp
 ·intro i x a;have hi:=(List.getElem?_eq_some_iff.1 a).1;have b:l.items[i]=x:=(List.getElem?_eq_some_iff.1 a).2;rw [qf hi,b];simp
theorem ref07SameN_refl:∀(n:Nat) (t:List GNode),GNode.deps t < n->qb n t t=some true
 | 0,_,h=>by omega
 | n+1,t,h=>by
  unfold qb;rw [if_neg (by simp),qS (r:=false) (λ_ _=>true)]
  ·simp [allI]
  ·intro i x a;have hi:=(List.getElem?_eq_some_iff.1 a).1;have g:t[i]=x:=(List.getElem?_eq_some_iff.1 a).2;have hd:t.getD i default=x:=by rw [List.getD_eq_getElem?_getD,a];rfl
   have d:=qX (List.mem_of_getElem? a);have e:=xV x;rw [qf hi,g];simp only [Option.bind_some,Int.toNat_natCast,hd,ref07SameN_refl n x.subs (by omega)];rw [zj (by intro _;omega),zj (by intro _;omega),zj (by intro _;omega),zj (by intro _;omega)];rw [qS (r:=.ret false) (λ_ _=>true)]
   ·simp [allI]
   ·intro j l c;have f:=(List.getElem?_eq_some_iff.1 c).1;have b:x.leaves[j]=l:=(List.getElem?_eq_some_iff.1 c).2;rw [qf f,b];simp [ref05Same_refl]
theorem ref07Same_refl (t:List GNode):ref07Same t t=some true:=by
 unfold ref07Same;exact vX (GNode.deps t+1) λn a=>ref07SameN_refl n t (by omega)

theorem pathsSelect_is {t:List GNode} (h:Small t) {p:List zk} (a:p.length<=maxLen):vi t p=some (if (treeB 0 t&&patB p)=true then (wo (matchB p) [] t,0) else ([],2)):=by
 unfold vi;rw [wC h,qc a,keptAll_is (matchB p) _ (λq=>by unfold pathsSelectC1;rw [pathsMatch_is a];rfl) h];cases treeB 0 t <;> cases patB p <;> rfl
theorem small_of {t:List GNode} (h:t.length<=maxLen/\∀y ∈ t,GNode.wf y) (a:(t.map GNode.bk).sum<=16777216):Small t:=⟨(GNode.wfs_iff t).2 h.2,by rw [GNode.bks_eq];exact a⟩
theorem half_mid {lo hi:Nat} (h:lo < hi) (e:hi<=4611686018427387904):IntKind.wrap .i64 (Int.fdiv (IntKind.wrap .u64 (IntKind.wrap .i64 ((lo:Int)+(hi:Int)))) (2 ^ (min (1:Int).toNat (IntKind.bits .u64))))=(((lo+hi) / 2:Nat):Int):=by
 have c:IntKind.wrap .i64 ((lo:Int)+(hi:Int))=((lo+hi:Nat):Int):=by rw [w64n (by omega)];omega
 have a:IntKind.wrap .u64 (((lo+hi:Nat):Int))=((lo+hi:Nat):Int):=by rw [IntKind.wrap_u64];omega
 have d:(2:Int) ^ (min (1:Int).toNat (IntKind.bits .u64))=2:=by decide
 rw [c,a,d,Int.fdiv_eq_ediv_of_nonneg _ (by decide)];have b:((lo+hi:Nat):Int) / 2=(((lo+hi) / 2:Nat):Int):=by omega
 rw [b,w64n (by omega)]
theorem bs_loop {b:GNode->zk->Option Int} {x:List GNode} {s:zk} {c:Nat} (r:x.length<=16777216) (o:∀i n,x[i]?=some n->∃v,b n s=some v/\(i < c->v < 0)/\(c<=i->0<=v)) :
  ∀(k lo hi:Nat),hi - lo<=k->lo<=c->c<=hi->hi<=x.length->yC (ρ:=Int×Bool) (λ(a:Int×Int)=>((if (decide (a.1 < a.2))=true then ((yq x (IntKind.wrap .i64 ((Int.fdiv (IntKind.wrap .u64 ((IntKind.wrap .i64 (a.1+a.2)))) (2 ^ (min (1:Int).toNat (IntKind.bits .u64))))))).bind λp=>((b p s).bind λd=>(if (decide (d < (0:Int)))=true then some (.nxt ((IntKind.wrap .i64 ((IntKind.wrap .i64 ((Int.fdiv (IntKind.wrap .u64 ((IntKind.wrap .i64 (a.1+a.2)))) (2 ^ (min (1:Int).toNat (IntKind.bits .u64))))))+(1:Int))),a.2)) else some (.nxt (a.1,(IntKind.wrap .i64 ((Int.fdiv (IntKind.wrap .u64 ((IntKind.wrap .i64 (a.1+a.2)))) (2 ^ (min (1:Int).toNat (IntKind.bits .u64))))))))))) else some (.brk (a.1,a.2))):Option (Out _ (Int×Int)))) ((lo:Int),(hi:Int))=some (.inr ((c:Int),(c:Int))):=by
 intro k
 induction k with
 | zero =>
  intro lo hi m f h hh;obtain rfl:lo=hi:=by omega
  obtain rfl:lo=c:=by omega
  rw [y6];simp
 | succ k ih =>
  intro lo hi m f h hh;rw [y6];by_cases hlt:lo < hi
  ·have hd:decide ((lo:Int) < (hi:Int))=true:=decide_eq_true (by omega);simp only [hd,if_true,half_mid hlt (by omega)];have g:(lo+hi) / 2 < x.length:=by omega
   rw [qf g,Option.bind_some];obtain ⟨v,j,q,l⟩:=o ((lo+hi) / 2) _ (List.getElem?_eq_getElem g);rw [j,Option.bind_some];by_cases hcm:(lo+hi) / 2 < c
   ·rw [decide_eq_true (q hcm),if_pos rfl];simp only;have e:IntKind.wrap .i64 ((((lo+hi) / 2:Nat):Int)+1)=(((lo+hi) / 2+1:Nat):Int):=by rw [w64n (by omega)];omega
    rw [e];exact ih _ _ (by omega) (by omega) h hh
   ·rw [decide_eq_false (by have:=l (by omega);omega)];simp only [Bool.false_eq_true,if_false];exact ih _ _ (by omega) f (by omega) (by omega)
  ·obtain rfl:lo=hi:=by omega
   obtain rfl:lo=c:=by omega
   simp
theorem bs_is {a:GNode->zk->Option Int} {x:List GNode} {s:zk} {c:Nat} (b:x.length<=16777216) (e:c<=x.length) (d:∀i n,x[i]?=some n->∃v,a n s=some v/\(i < c->v < 0)/\(c<=i->0<=v)) :
  zn x s a=(if c < x.length then a (x.getD c default) s else some 1).bind λv=>some ((c:Int),(decide (c < x.length)&&(v==0))):=by
 unfold zn;have:=bs_loop b d x.length 0 x.length (by omega) (Nat.zero_le _) e (Nat.le_refl _);simp only [Int.natCast_zero] at this;rw [show ((0:Int),(x.length:Int))=(((0:Nat):Int),(x.length:Int)) from rfl] at *;rw [this];simp only [lp];by_cases h:c < x.length
 ·have hd:decide ((c:Int) < (x.length:Int))=true:=decide_eq_true (by omega);simp only [hd,h,if_true,Int.toNat_natCast,beq_self_eq_true,decide_true,Bool.true_and];rw [zj (by intro _;omega)]
 ·have hd:decide ((c:Int) < (x.length:Int))=false:=decide_eq_false (by omega);simp only [hd,h,if_false,decide_false,Bool.false_and,Option.bind_some];rw [zj (by intro hh;cases hh)];simp
theorem cmp_less {a b:List UInt8}:Lib.compareBytes a b < 0 ↔ Op.bytesLess a b=true:=by
 induction a generalizing b with
 | nil=>cases b <;> simp [Lib.compareBytes,Op.bytesLess]
 | cons x a ih =>
  cases b with
  | nil=>simp [Lib.compareBytes,Op.bytesLess]
  | cons y b =>
   simp only [Lib.compareBytes,Op.bytesLess];by_cases h1:x < y
   ·simp [h1]
   ·by_cases h2:y < x
    ·have:¬ x=y:=by rintro rfl;exact h1 h2
     simp [h1,h2,this]
    ·have:x=y:=UInt8.le_antisymm (UInt8.not_lt.1 h2) (UInt8.not_lt.1 h1);simp [h1,h2,this,ih]
theorem cmp_self (a:List UInt8):Lib.compareBytes a a=0:=by
 induction a with
 | nil=>rfl
 | cons x a ih=>simp [Lib.compareBytes,ih]
theorem layC1_is (n:GNode) (s:zk):yU n s=some (Lib.compareBytes n.name s):=rfl
theorem cloneLeaf_is {L:List GLeaf} (h:L.length<=yK):xc L=some L:=clone_is h
theorem cloneNode_is {L:List GNode} (h:L.length<=yK):yn L=some L:=clone_is h
theorem yo {n:Nat} (h:n<=16777217):n<=yK:=Nat.le_trans h (by decide)
theorem own_is {l:GLeaf} (h:LeafOk l):diffXown l=some l:=by
 unfold diffXown;rw [qY (yo (Nat.le_succ_of_le h.items)),Option.bind_some,cloneDot_is (yo (Nat.le_succ_of_le h.tombs)),Option.bind_some]
def preR (a:List zk) (r:GRow):GRow:=⟨a++r.path,r.leaf⟩
theorem rows_pre:∀(t:List GNode) (a b:List zk),zo (a++b) t=(zo b t).map (preR a):=by
 refine wa (λ_ _=>rfl) ?_;intro x r c d a b;rw [yr,yr,List.flatMap_cons,List.flatMap_cons,<- yr,<- yr,d,List.map_append];congr 1;rw [yN,yN,List.append_assoc,c,List.map_append,List.map_map];rfl
theorem rows_path:∀(t:List GNode) (a:List zk) (r:GRow),r ∈ zo a t->a.length < r.path.length/\r.path.length<=a.length+GNode.deps t:=by
 refine wa (λ_ _ h=>by simp [zo] at h) ?_;intro x r c d a q b;rw [yr,List.flatMap_cons,List.mem_append,<- yr] at b;have e:x.dep<=GNode.deps (x::r):=qX (by simp);have f:=xV x;have g:GNode.deps r<=GNode.deps (x::r):=by
  simp only [GNode.deps];omega
 rcases b with b | b
 ·rw [yN,List.mem_append,List.mem_map] at b;rcases b with ⟨l,_,rfl⟩ | b
  ·simp;omega
  ·have:=c _ _ b;simp only [List.length_append,List.length_cons,List.length_nil] at this;omega
 ·have:=d _ _ b;omega
theorem leaf_typ {l:GLeaf} (h:leafB l=true):1<=l.typ/\l.typ<=4:=by
 unfold leafB at h;split at h
 ·omega
 split at h
 ·omega
 split at h
 ·omega
 split at h
 ·omega
 ·cases h
theorem leaves_up {ls:List GLeaf} (h:leavesB ls=true):ls.Pairwise (λx y=>x.typ < y.typ)/\∀l ∈ ls,leafB l=true:=by
 unfold leavesB at h;rw [allI_iff] at h;have d:∀l ∈ ls,leafB l=true:=λl f=>by
  obtain ⟨i,hi⟩:=List.mem_iff_getElem?.1 f;have:=h i l hi;simp only [Bool.and_eq_true] at this;exact this.1
 refine ⟨?_,d⟩;have a:∀i,(hi:i+1 < ls.length)->ls[i].typ < ls[i+1].typ:=λi hi=>by
  have:=h (i+1) _ (List.getElem?_eq_getElem hi);simp only [Nat.add_eq_zero_iff,Nat.one_ne_zero,and_false,decide_false,Bool.false_or,Bool.and_eq_true,decide_eq_true_eq,Nat.add_sub_cancel] at this;have e:ls.getD i default=ls[i]:=by simp [List.getD_eq_getElem?_getD,List.getElem?_eq_getElem (show i < ls.length by omega)]
  rw [e] at this;exact this.2
 rw [List.pairwise_iff_getElem];intro i j hi c b;obtain ⟨k,rfl⟩:∃k,j=i+1+k:=⟨j - (i+1),by omega⟩
 clear b
 induction k with
 | zero=>exact a i c
 | succ k ih=>exact Int.lt_trans (ih (by omega)) (a (i+1+k) c)
theorem Small.tail {x:GNode} {r:List GNode} (h:Small (x::r)):Small r:=by
 refine ⟨(GNode.wfs_iff r).2 λy a=>(GNode.wfs_iff _).1 h.1 y (by simp [a]),?_⟩;have:=h.2;simp only [GNode.bks] at this;omega
def pathLt (a b:List zk):Prop:=(∃y q,b=a++y::q) \/ ∃p x y a' b',a=p++x::a'/\b=p++y::b'/\Op.bytesLess x y=true
theorem less_irr:∀(a:List UInt8),Op.bytesLess a a=false
 | []=>rfl
 | x::a=>by simp [Op.bytesLess,less_irr a]
theorem less_ne {a b:List UInt8} (h:Op.bytesLess a b=true):a ≠ b:=by
 rintro rfl;rw [less_irr] at h;cases h
theorem cmpS_self (x:zk):yA x x=some 0:=by
 unfold yA xD;simp [less_irr]
theorem cmpS_less {x y:zk} (h:Op.bytesLess x y=true):yA x y=some (-1):=by
 unfold yA xD;simp [h]
noncomputable def cmpF (s2:List zk):Nat->zk->Unit->Option (Out Int Unit):=λn x _=>if (decide ((n:Int) >= ((s2).length:Int)))=true then some (.ret (1:Int)) else ((yq s2 (n:Int)).bind λy12=>((yA x y12).bind λv13=>(if (v13 != (0:Int))=true then some (.ret v13) else some (.nxt ()))))
theorem cmpP_eq (a b:List zk):yP a b=lp (zq (cmpF b) a 0 ()) λ_=>(if (decide (((a).length:Int) < ((b).length:Int)))=true then some (-1:Int) else some (0:Int)):=rfl
theorem cmp_pre {s2:List zk}:∀(p a:List zk) (q b:List zk),s2=q++(p++b)->zq (cmpF s2) (p++a) q.length ()=zq (cmpF s2) a (q.length+p.length) ()
 | [],a,q,b,_=>rfl
 | x::p,a,q,b,h=>by
  have d:q.length < s2.length:=by rw [h];simp
  have c:yq s2 (q.length:Int)=some x:=zw (by rw [h];simp);have e:cmpF s2 q.length x ()=some (.nxt ()):=by
   unfold cmpF;rw [decide_eq_false (by omega)];simp only [Bool.false_eq_true,if_false,c,Option.bind_some,cmpS_self,bne_self_eq_false]
  simp only [List.cons_append,zq,e];have:=cmp_pre (s2:=s2) p a (q++[x]) b (by rw [h];simp);rw [List.length_append,List.length_singleton] at this;rw [this];congr 1;simp only [List.length_cons];omega
theorem cmpP_lt {a b:List zk} (h:pathLt a b):yP a b=some (-1):=by
 rw [cmpP_eq];rcases h with ⟨y,q,rfl⟩ | ⟨p,x,y,a',c,rfl,rfl,h⟩
 ·have:=cmp_pre (s2:=a++y::q) a [] [] (y::q) rfl;rw [List.append_nil,List.length_nil] at this;rw [this];simp only [zq,yS];rw [if_pos (decide_eq_true (by simp only [List.length_append,List.length_cons];omega))]
 ·have:=cmp_pre (s2:=p++y::c) p (x::a') [] (y::c) rfl;rw [List.length_nil] at this;rw [this];have d:yq (p++y::c) ((0+p.length:Nat):Int)=some y:=zw (by simp);have e:cmpF (p++y::c) (0+p.length) x ()=some (.ret (-1)):=by
   unfold cmpF;rw [decide_eq_false (by simp only [List.length_append,List.length_cons];omega)];simp only [Bool.false_eq_true,if_false,d,Option.bind_some,cmpS_less h];rfl
  simp only [zq,e,lp_inl]
theorem cmpP_self (a:List zk):yP a a=some 0:=by
 rw [cmpP_eq];have:=cmp_pre (s2:=a) a [] [] [] (by simp);rw [List.append_nil,List.length_nil] at this;rw [this];simp only [zq,yS];rw [if_neg (by simp)]
def rowLt (r q:GRow):Prop:=pathLt r.path q.path \/ (r.path=q.path/\r.leaf.typ < q.leaf.typ)
def leaf0:GLeaf:=GLeaf.mk (0:Int) (0:Int) (0:Int) (GDot.mk (GActor.mk (0:Int) (0:Int)) (0:Int)) ([]:zk) ([]:List GItem) ([]:List GDot)
theorem rows_head {t:List GNode} {a:List zk} {r:GRow} (h:r ∈ zo a t):∃x ∈ t,∃w,r.path=a++x.name::w:=by
 rw [yr,List.mem_flatMap] at h;obtain ⟨x,b,h⟩:=h;refine ⟨x,b,?_⟩;rw [yN,List.mem_append,List.mem_map] at h;rcases h with ⟨l,_,rfl⟩ | h
 ·exact ⟨[],rfl⟩
 ·have:=rows_pre x.subs (a++[x.name]) [];rw [List.append_nil] at this;rw [this,List.mem_map] at h;obtain ⟨q,_,rfl⟩:=h;exact ⟨q.path,by simp [preR]⟩
theorem rows_lt:∀(t:List GNode) (d:Nat) (a:List zk),upB t=true->xR d t=true->(zo a t).Pairwise rowLt:=by
 refine wa (λ_ _ _ _=>List.Pairwise.nil) ?_;intro x r p C d a i o;rw [yr,List.flatMap_cons,<- yr];rw [upB_iff,List.pairwise_cons] at i;simp only [xR,Bool.and_eq_true] at o;obtain ⟨c,j⟩:=o;rw [nodeB_eq] at c;simp only [Bool.and_eq_true] at c;obtain ⟨⟨⟨_,_⟩,b⟩,k⟩:=c;simp only [treeB,Bool.and_eq_true] at b;obtain ⟨m,_⟩:=leaves_up k;rw [List.pairwise_append];refine ⟨?_,C d a (upB_iff r |>.2 i.2) j,λq g v f=>?_⟩
 ·rw [yN,List.pairwise_append];refine ⟨?_,p (d+1) _ b.1.2 b.2,λq g v f=>?_⟩
  ·rw [List.pairwise_map];exact m.imp λh=>.inr ⟨rfl,h⟩
  ·rw [List.mem_map] at g;obtain ⟨l,_,rfl⟩:=g;obtain ⟨y,_,w,e⟩:=rows_head f;exact .inl (.inl ⟨y.name,w,e⟩)
 ·have s:∃w,q.path=a++x.name::w:=by
   have:q ∈ zo a [x]:=by rw [yr];simpa using g
   obtain ⟨z,n,w,e⟩:=rows_head this;simp only [List.mem_singleton] at n;subst n;exact ⟨w,e⟩
  obtain ⟨w,u⟩:=s;obtain ⟨y,B,w',A⟩:=rows_head f;exact .inl (.inr ⟨a,x.name,y.name,w,w',u,A,i.1 y B⟩)
structure RowOk' (r:GRow):Prop where
 path:pathB r.path=true
 leaf:leafB r.leaf=true
 ok:LeafOk r.leaf
theorem rows_ok:∀(t:List GNode) (d:Nat) (a:List zk),Small t->treeB d t=true->a.length=d->a.all nameB=true->∀r ∈ zo a t,RowOk' r:=by
 have key:∀(t:List GNode),(∀(d:Nat) (a:List zk),Small t->xR d t=true->d < 3->a.length=d->a.all nameB=true->∀r ∈ zo a t,RowOk' r):=by
  refine wa (λ_ _ _ _ _ _ _ _ h=>by simp [zo] at h) ?_;intro x r u g d a hs s hd j k q b;rw [yr,List.flatMap_cons,List.mem_append,<- yr] at b;simp only [xR,Bool.and_eq_true] at s;obtain ⟨e,m⟩:=s;rcases b with b | b
  ·rw [nodeB_eq] at e;simp only [Bool.and_eq_true] at e;obtain ⟨⟨⟨p,_⟩,c⟩,n⟩:=e;have i:(a++[x.name]).all nameB=true:=by rw [List.all_append,k];simpa using p
   rw [yN,List.mem_append,List.mem_map] at b;rcases b with ⟨l,f,rfl⟩ | b
   ·refine ⟨?_,(leaves_up n).2 l f,hs.leaf (by simp) f⟩;simp only [pathB,i,Bool.and_true,List.length_append,List.length_cons,List.length_nil,Bool.and_eq_true,decide_eq_true_eq];omega
   ·simp only [treeB,Bool.and_eq_true,Bool.or_eq_true,List.isEmpty_iff,decide_eq_true_eq] at c;rcases c.1.1 with h0 | h0
    ·rw [h0] at b;simp [zo] at b
    ·exact u (d+1) _ (hs.subs (by simp)) c.2 h0 (by simp [j]) i q b
  ·exact g d a hs.tail m hd j k q b
 intro t d a hs o j k r g;simp only [treeB,Bool.and_eq_true,Bool.or_eq_true,List.isEmpty_iff,decide_eq_true_eq] at o;rcases o.1.1 with h0 | h0
 ·rw [h0] at g;simp [zo] at g
 ·exact key t d a hs o.2 h0 j k r g
theorem side0 (k:Int):wx false leaf0 k=some true:=by
 unfold wx;simp only [Bool.not_false,if_true];have:=leafSame_is leaf0 leaf0;unfold leaf0 at this ⊢;rw [this];simp
theorem side1 {l:GLeaf} (h:leafB l=true) (a:LeafOk l):wx true l l.typ=some true:=by
 unfold wx;have b:leafMay l=some true:=by
  rw [leafMay_is (Nat.le_trans a.items (by decide)) (Nat.le_trans a.tombs (by decide)),h]
 simp [b]
theorem small_nil:Small []:=⟨(GNode.wfs_iff []).2 (by simp),by simp [GNode.bks]⟩
theorem tree_nil (d:Nat):treeB d []=true:=by simp [treeB,xR,upB,allI]
theorem leafNew_tot (k:Int):∃v,vW k=some v:=by unfold vW;split <;> exact ⟨_,rfl⟩
theorem pathB_ne {p:List zk} (h:pathB p=true):p ≠ []:=by
 rintro rfl
 simp [pathB] at h
theorem pathAll {p:List zk} {f:zk->Option Bool} (a:∀x,f x=some (nameB x)):(lp (zq (λ(_:Nat) (b:zk) (_:Unit)=>(((f b).bind λv9=>(if (!v9)=true then some (.ret false) else some (.nxt ()))):Option (Out _ Unit))) p 0 ()) λ(_:Unit)=>some ((decide (((p).length:Int) >= (1:Int)))&&(decide (((p).length:Int)<=(3:Int)))))=some (pathB p):=by
 rw [loopL_all nameB false _ _ (λi x _=>by rw [a];cases nameB x <;> rfl),bnd1,bnd3];unfold pathB;cases h:p.all nameB <;> simp
theorem ref04MayPath_is (p:List zk):qL p=some (pathB p):=pathAll ref04IsName_is
def x9 (k:Int):Int:=if k=1 then 1 else if k=2 then 2 else if k=3 \/ k=4 then 3 else if k=5 then 4 else 0
def opB (o:GOp):Bool:=decide (1<=o.kind)&&decide (o.kind<=5)&&pathB o.path&&decide (o.text.length<=40)&&decide (o.dots.length<=64) &&
 (if o.kind=1 then decide (-1000000<=o.n)&&decide (o.n<=1000000)&&(o.text==[])&&decide (o.dots.length=0)
   else decide (o.n=0)&&(decide (o.kind=4) || decide (o.dots.length=0))&&(o.dots.all we&&rising o.dots))
theorem ref04Type_is (k:Int):qw k=some (x9 k):=by unfold qw x9;grind
theorem opType_is (k:Int):opType k=some (x9 k):=by
 unfold opType opXof x9;by_cases h:k < 1 \/ 5 < k
 ·have a:(decide (k < 1) || decide (k > 5))=true:=by simp;omega
  rw [if_pos a];grind
 ·have a:¬ (decide (k < 1) || decide (k > 5))=true:=by simp;omega
  rw [if_neg a];rcases (show k=1 \/ k=2 \/ k=3 \/ k=4 \/ k=5 by omega) with rfl | rfl | rfl | rfl | rfl <;> rfl
theorem wrap_pred {i:Nat} (h0:0 < i) (a:i<=9223372036854775807):(IntKind.wrap .i64 ((i:Int) - 1))=((i - 1:Nat):Int):=by rw [w64n (by omega)];omega
theorem opXdrops_is (o:GOp):opXdrops o=some (decide (o.n=0)&&decide (o.text.length<=40)&&decide (o.dots.length<=64)&&(o.dots.all we&&rising o.dots)):=by
 unfold opXdrops;by_cases a:o.n ≠ 0 \/ 40 < o.text.length \/ 64 < o.dots.length
 ·have b:((o.n != 0 || decide (((o.text).length:Int) > 40)) || decide (((o.dots).length:Int) > 64))=true:=by simp;omega
  rw [if_pos b];congr 1;rw [eq_comm,Bool.and_eq_false_iff,Bool.and_eq_false_iff,Bool.and_eq_false_iff];left;rcases a with a | a | a
  ·exact .inl (.inl (decide_eq_false a))
  ·exact .inl (.inr (decide_eq_false (by omega)))
  ·exact .inr (decide_eq_false (by omega))
 ·have b:¬ ((o.n != 0 || decide (((o.text).length:Int) > 40)) || decide (((o.dots).length:Int) > 64))=true:=by simp;omega
  rw [if_neg b,rising_loop]
  ·have c:o.n=0:=by omega
   have g:o.text.length<=40:=by omega
   have h:o.dots.length<=64:=by omega
   simp [c,g,h]
  ·intro i x d;have hi:i < o.dots.length:=(List.getElem?_eq_some_iff.1 d).1;simp only [dotMay_is,Option.bind_some];by_cases h0:i=0
   ·subst h0;cases hd:we x <;> simp [yf,xf,hd]
   ·have c:decide ((i:Int) > 0)=true:=by simp;omega
    have j:=wrap_pred (i:=i) (by omega) (by omega);rw [j,Int.toNat_natCast];have f:xf o.dots i x=dotLt (o.dots.getD (i - 1) default) x:=by unfold xf;rw [decide_eq_false h0];rfl
    rw [zj (by intro _;omega),c,f];generalize o.dots.getD (i - 1) default=y;cases hd:we x
    ·simp
    ·have e:=dotCmp_lt y x;simp only [dotCompare_is,Bool.not_true,Bool.false_or,Bool.true_and,BEq.rfl,if_true,Option.bind_some,e];cases dotLt y x <;> rfl
theorem nil_rises {ds:List GDot} (h:ds.length=0):(ds.all we&&rising ds)=true:=by
 have:ds=[]:=List.eq_nil_of_length_eq_zero h;subst this;rfl
theorem lenB {α:Type} (l:List α):((l.length:Int)==0)=decide (l.length=0):=by
 rw [Bool.eq_iff_iff];simp
theorem opMay_is (o:GOp):opMay o=some (opB o):=by
 unfold opMay opXof opB;by_cases h:o.kind < 1 \/ 5 < o.kind
 ·have b:(decide (o.kind < 1) || decide (o.kind > 5))=true:=by simp;omega
  rw [if_pos b];have c:(decide (1<=o.kind)&&decide (o.kind<=5))=false:=by rw [Bool.and_eq_false_iff];simp;omega
  simp [c]
 ·have b:¬ (decide (o.kind < 1) || decide (o.kind > 5))=true:=by simp;omega
  rw [if_neg b,opMayPath_is];have d:=nil_rises (ds:=o.dots);rcases (show o.kind=1 \/ o.kind=2 \/ o.kind=3 \/ o.kind=4 \/ o.kind=5 by omega) with a | a | a | a | a <;> rw [a] <;>
   simp only [yq,Int.toNat,Option.bind_some,callOp,opXadds,opXplain,opXdrops_is,lenB] <;> generalize (o.dots.all we&&rising o.dots)=R at d ⊢ <;> cases hp:pathB o.path <;> simp [a] <;> grind
theorem ref04May_is (o:GOp):ref04May o=some (opB o):=by
 unfold ref04May opB;rw [ref04Type_is];simp only [Option.bind_some,ref04MayPath_is];have g:=nil_rises (ds:=o.dots);by_cases h:o.kind < 1 \/ 5 < o.kind
 ·have r:(decide (1<=o.kind)&&decide (o.kind<=5))=false:=by rw [Bool.and_eq_false_iff];simp;omega
  have a:x9 o.kind=0:=by unfold x9;grind
  simp [r,a]
 ·have a:(x9 o.kind==0)=false:=by unfold x9;grind
  have e:(decide (1<=o.kind)&&decide (o.kind<=5))=true:=by simp;omega
  by_cases hb:40 < o.text.length \/ 64 < o.dots.length
  ·have b:(decide ((o.text.length:Int) > 40) || decide ((o.dots.length:Int) > 64))=true:=by simp;omega
   have d:(decide (o.text.length<=40)&&decide (o.dots.length<=64))=false:=by rw [Bool.and_eq_false_iff];simp;omega
   rw [a,e];cases hp:pathB o.path <;> simp at b d ⊢ <;> grind
  ·rw [rising_loop]
   ·have b:decide ((o.text.length:Int) > 40)=false:=decide_eq_false (by omega);have d:decide ((o.dots.length:Int) > 64)=false:=decide_eq_false (by omega);have l:decide (o.text.length<=40)=true:=decide_eq_true (by omega);have j:decide (o.dots.length<=64)=true:=decide_eq_true (by omega);have p:decide ((o.dots.length:Int) > 0)=!decide (o.dots.length=0):=by
     by_cases hd:o.dots.length=0
     ·rw [decide_eq_true hd,decide_eq_false (by omega)];rfl
     ·rw [decide_eq_false hd,decide_eq_true (by omega)];rfl
    rw [a,e,b,d,l,j,p,lenB];generalize (o.dots.all we&&rising o.dots)=R at g ⊢;cases hp:pathB o.path
    ·simp
    ·by_cases k1:o.kind=1
     ·simp [k1]
     ·by_cases n0:o.n=0 <;> by_cases k4:o.kind=4 <;> by_cases d0:o.dots.length=0 <;> simp [k1,n0,k4,d0]
   ·intro i x f;have hi:i < o.dots.length:=(List.getElem?_eq_some_iff.1 f).1;simp only [ref03May_is,Option.bind_some];by_cases h0:i=0
    ·subst h0;cases hd:we x <;> simp [yf,xf]
    ·have k:decide ((i:Int) > 0)=true:=by simp;omega
     have q:=wrap_pred (i:=i) (by omega) (by omega);rw [q,Int.toNat_natCast,Int.toNat_natCast];have m:xf o.dots i x=dotLt (o.dots.getD (i - 1) default) x:=by unfold xf;rw [decide_eq_false h0];rfl
     have c:o.dots.getD i default=x:=by rw [List.getD_eq_getElem?_getD,f];rfl
     rw [zj (by intro _;omega),zj (by intro _;omega),k,m,c];generalize o.dots.getD (i - 1) default=y;cases hd:we x
     ·simp
     ·simp only [ref03Less_is,Bool.not_true,Bool.false_or,Bool.true_and,BEq.rfl,if_true,Option.bind_some];cases dotLt y x <;> rfl
def xZ (e:GEvent):Bool:=we e.dot&&decide (e.time >= 1)&&decide (e.time<=1099511627776)&&opB e.op
theorem opMayEvent_is (e:GEvent):qd e=some (xZ e):=by
 unfold qd xZ;rw [dotMay_is,opMay_is];simp only [Option.bind_some];cases (we e.dot&&decide (e.time >= 1)&&decide (e.time<=1099511627776)) <;> rfl
theorem vz (e:GEvent):wj e=some (xZ e):=by
 unfold wj xZ;rw [ref03May_is,ref04May_is];simp only [Option.bind_some];cases (we e.dot&&decide (e.time >= 1)&&decide (e.time<=1099511627776)) <;> rfl
theorem loopL_tot {α ρ σ:Type} {f:Nat->α->σ->Option (Out ρ σ)}:∀(L:List α) (i:Nat) (s:σ),(∀i x s,x ∈ L->∃o,f i x s=some o)->∃v,zq f L i s=some v
 | [],_,_,_=>⟨_,rfl⟩
 | x::t,i,s,h=>by
  obtain ⟨o,b⟩:=h i x s (List.mem_cons_self ..);simp only [zq,b];cases o with
  | ret r=>exact ⟨_,rfl⟩
  | brk s=>exact ⟨_,rfl⟩
  | nxt s=>exact loopL_tot t (i+1) s λi y s a=>h i y s (List.mem_cons_of_mem _ a)
theorem lp_totL {α ρ σ:Type} {f:Nat->α->σ->Option (Out ρ σ)} {rest:σ->Option ρ} {L:List α} {i:Nat} {s:σ} (h:∀i x s,x ∈ L->∃o,f i x s=some o) (b:∀s,∃v,rest s=some v):∃v,lp (zq f L i s) rest=some v:=by
 obtain ⟨v,a⟩:=loopL_tot L i s h;rw [a];cases v with
 | inl r=>exact ⟨_,rfl⟩
 | inr s=>exact b s

end Go.Vv
namespace Go.Vv
open Go
theorem loopW_inv {σ ρ:Type} {f:σ->Option (Out ρ σ)} (c b:σ->Prop) (d:σ->Nat) (h:∀s,c s->(∃a,f s=some (.brk a)/\b a) \/ ∃a,f s=some (.nxt a)/\c a/\d a < d s):∀(k:Nat) (s:σ),d s=k->c s->∃a,yC f s=some (.inr a)/\b a:=by
 intro k
 induction k using Nat.strongRecOn with
 | _ k ih =>
  intro s j hi;rw [y6];rcases h s hi with ⟨a,e,i⟩ | ⟨a,e,g,l⟩
  ·exact ⟨a,by rw [e],i⟩
  ·rw [e];exact ih (d a) (by omega) a rfl g
theorem idxF_is {q:GLeaf->Bool} {del:GLeaf->Option Bool}:∀(L:List GLeaf) (n:Nat),(∀x ∈ L,del x=some (q x)) ->
  (zq (λ(i:Nat) (f:GLeaf) (_:Unit)=>(((del f).bind λg=>(if g=true then some (.ret (i:Int)) else some (.nxt ()))):Option (Out Int Unit))) L n ()=some (.inr ())/\∀x ∈ L,q x=false) \/
  ∃A x B,L=A++x::B/\q x=true/\(∀y ∈ A,q y=false)/\zq (λ(i:Nat) (f:GLeaf) (_:Unit)=>(((del f).bind λg=>(if g=true then some (.ret (i:Int)) else some (.nxt ()))):Option (Out Int Unit))) L n ()=some (.inl ((n+A.length:Nat):Int))
 | [],n,_=>.inl ⟨rfl,by simp⟩
 | x::r,n,h=>by
  have b:=h x (by simp);cases hq:q x with
  | true=>exact .inr ⟨[],x,r,rfl,hq,by simp,by simp [zq,b,hq]⟩
  | false =>
   rcases idxF_is r (n+1) (λy a=>h y (by simp [a])) with ⟨e,c⟩ | ⟨A,y,B,rfl,j,c,e⟩
   ·refine .inl ⟨by simp only [zq,b,hq,Option.bind_some];exact e,?_⟩;intro y a;rcases List.mem_cons.1 a with rfl | a
    ·exact hq
    ·exact c y a
   ·refine .inr ⟨x::A,y,B,rfl,j,?_,?_⟩
    ·intro z d;rcases List.mem_cons.1 d with rfl | d
     ·exact hq
     ·exact c z d
    ·simp only [zq,b,hq,Option.bind_some];rw [show n+(x::A).length=n+1+A.length by simp only [List.length_cons];omega];exact e
theorem wV {a:Nat} (h:a<=16777216):IntKind.wrap .i64 ((a:Int)+1)=((a+1:Nat):Int):=wrap_add1 (Nat.le_trans (Nat.succ_le_succ h) (by decide))
noncomputable def delF (del:GLeaf->Option Bool) (n:Nat):Int×Int×(List GLeaf)->Option (Out (List GLeaf) (Int×Int×(List GLeaf))):=λs1=>((yf ((s1.2.2).length=n) ((if (decide (s1.2.1 < ((n:Nat):Int)))=true then ((yq s1.2.2 s1.2.1).bind λy14=>((del y14).bind λv15=>(if (!v15)=true then ((yq s1.2.2 s1.1).bind λy17=>some (.nxt ((IntKind.wrap .i64 (s1.1+(1:Int))),(IntKind.wrap .i64 (s1.2.1+(1:Int))),(s1.2.2.set s1.1.toNat y14)))) else some (.nxt (s1.1,(IntKind.wrap .i64 (s1.2.1+(1:Int))),s1.2.2))))) else some (.brk (s1.1,s1.2.1,s1.2.2))))))
theorem delR_eq (b:List GLeaf) (a:GLeaf->Option Bool):yR b a=((zZ b a).bind λd=>(if (d==(-1:Int))=true then some b else (lp (yC (delF a b.length) (d,(IntKind.wrap .i64 (d+(1:Int))),b)) λ(c:Int×Int×(List GLeaf))=>(yf (0<=c.1/\c.1<=((b.length:Nat):Int)) (((slc (c.2.2.take c.1.toNat++List.replicate (b.length - c.1.toNat) zLf) (0:Int) c.1).bind λe=>some e)))))):=rfl
theorem delF_run {q:GLeaf->Bool} {del:GLeaf->Option Bool} {L0:List GLeaf} (t:L0.length<=16777216) (h:∀x ∈ L0,del x=some (q x)) {a0 b0:Nat} (y:a0 < b0) (A:b0<=L0.length) (w:L0.take a0=(L0.take b0).filter λx=>!q x) :
  ∃n,yC (delF del L0.length) ((a0:Int),(b0:Int),L0)=some (.inr n)/\∃a:Nat,n.1=(a:Int)/\a < L0.length/\n.2.2.length=L0.length/\n.2.2.take a=L0.filter λx=>!q x:=by
 refine loopW_inv (f:=delF del L0.length) (λs=>∃a b:Nat,s.1=(a:Int)/\s.2.1=(b:Int)/\a < b/\b<=L0.length/\s.2.2.length=L0.length/\s.2.2.take a=(L0.take b).filter (λx=>!q x)/\s.2.2.drop b=L0.drop b)
  _ (λs=>L0.length - s.2.1.toNat) ?_ _ _ rfl ⟨a0,b0,rfl,rfl,y,A,rfl,w,rfl⟩
 rintro ⟨i,j,M⟩ ⟨a,b,u,r,B,v,e,m,k⟩
 simp only at u r e m k;subst u r;simp only [delF,yf,e,if_true];by_cases hb:b < L0.length
 ·right;have z:M[b]?=L0[b]?:=by
   have:=congrArg (λl=>l[0]?) k;simpa [List.getElem?_drop] using this
  have p:L0[b]?=some L0[b]:=List.getElem?_eq_getElem hb;have hd:=h L0[b] (List.getElem_mem hb);have d:yq M (b:Int)=some L0[b]:=by simp [yq,z]
  have c:yq M (a:Int)=some (M[a]'(by omega)):=by simp [yq]
  rw [if_pos (by simp;omega),d,Option.bind_some,hd,Option.bind_some];have g:L0.take (b+1)=L0.take b++[L0[b]]:=by rw [List.take_add_one,p];rfl
  cases hq:q L0[b] with
  | true =>
   refine ⟨((a:Int),((b+1:Nat):Int),M),by simp [wV (Nat.le_trans v t)],⟨a,b+1,rfl,rfl,by omega,by omega,e,?_,?_⟩,by simp;omega⟩
   ·rw [m,g,List.filter_append];simp [hq]
   ·have:=congrArg (λl=>l.drop 1) k;simpa [List.drop_drop] using this
  | false =>
   refine ⟨(((a+1:Nat):Int),((b+1:Nat):Int),M.set a L0[b]),by simp [c,wV (Nat.le_trans v t),wV (show a<=16777216 by omega)],⟨a+1,b+1,rfl,rfl,by omega,by omega,by simpa using e,?_,?_⟩,by simp;omega⟩
   ·rw [List.take_add_one,List.take_set_of_le (Nat.le_refl _),m,g,List.filter_append,List.getElem?_set_self (by omega)];simp [hq]
   ·have:=congrArg (λl=>l.drop 1) k;rw [List.drop_set_of_lt (by omega)];simpa [List.drop_drop] using this
 ·left;have o:b=L0.length:=by omega
  rw [if_neg (by simp;omega)];exact ⟨_,rfl,a,rfl,by omega,e,by rw [m,o,List.take_length]⟩
theorem deleteR_is {q:GLeaf->Bool} {del:GLeaf->Option Bool} {L0:List GLeaf} (i:L0.length<=16777216) (h:∀x ∈ L0,del x=some (q x)):yR L0 del=some (L0.filter λx=>!q x):=by
 rw [delR_eq];unfold zZ;rcases idxF_is L0 0 h with ⟨e,b⟩ | ⟨A,x,B,f,l,b,e⟩
 ·rw [e];simp only [lp,Option.bind_some,beq_self_eq_true,if_true];rw [List.filter_eq_self.2 (λx j=>by rw [b x j];rfl)]
 ·rw [e];have c:L0.length=A.length+1+B.length:=by rw [f];simp;omega
  simp only [lp,Option.bind_some,Nat.zero_add];rw [if_neg (by simp <;> omega),wV (by omega)];obtain ⟨d,k,a,g,o,p,m⟩:=delF_run i h (a0:=A.length) (b0:=A.length+1) (by omega) (by omega) (by
   rw [f,List.take_left,List.take_append,List.take_of_length_le (by omega),show A.length+1 - A.length=1 by omega,List.filter_append];simp only [List.take_succ_cons,List.take_zero,List.filter_cons,l,List.filter_nil];rw [List.filter_eq_self.2 (λy n=>by rw [b y n];rfl)];simp)
  rw [k];simp only [yf];rw [if_pos (by rw [g];omega),g];have hs:slc (d.2.2.take ((a:Int)).toNat++List.replicate (L0.length - ((a:Int)).toNat) zLf) (0:Int) (a:Int)=some (d.2.2.take a):=by
   unfold slc;rw [if_pos (by simp;omega)];simp only [Int.toNat_natCast,Int.toNat_zero,List.drop_zero];rw [List.take_append_of_le_length (by simp;omega),List.take_take,Nat.min_self]
  rw [hs,Option.bind_some,m]

theorem less_tot:∀(a b:List UInt8),a=b \/ Op.bytesLess a b=true \/ Op.bytesLess b a=true
 | [],[]=>.inl rfl
 | [],_::_=>.inr (.inl rfl)
 | _::_,[]=>.inr (.inr rfl)
 | x::a,y::b=>by
  by_cases h:x=y
  ·subst h;rcases less_tot a b with rfl | h | h
   ·exact .inl rfl
   ·exact .inr (.inl (by simp [Op.bytesLess,h]))
   ·exact .inr (.inr (by simp [Op.bytesLess,h]))
  ·have c:x.toNat ≠ y.toNat:=λe=>h (UInt8.toNat_inj.1 e);rcases Nat.lt_or_gt_of_ne c with h | h
   ·exact .inr (.inl (by simp [Op.bytesLess,UInt8.lt_iff_toNat_lt,h]))
   ·exact .inr (.inr (by simp [Op.bytesLess,UInt8.lt_iff_toNat_lt,h]))
def pltB:List zk->List zk->Bool
 | _,[]=>false
 | [],_::_=>true
 | x::a,y::b=>Op.bytesLess x y || (decide (x=y)&&pltB a b)
theorem plt_irr:∀a,pltB a a=false
 | []=>rfl
 | x::a=>by simp [pltB,less_irr,plt_irr a]
theorem plt_trans:∀{a b c:List zk},pltB a b=true->pltB b c=true->pltB a c=true
 | _,[],_,h,_=>by cases ‹List zk› <;> simp [pltB] at h
 | _,_::_,[],_,h=>by simp [pltB] at h
 | [],_::_,_::_,_,_=>rfl
 | x::a,y::b,z::c,e,d=>by
  simp only [pltB,Bool.or_eq_true,Bool.and_eq_true,decide_eq_true_eq] at *;rcases e with e | ⟨rfl,e⟩
  ·rcases d with d | ⟨rfl,d⟩
   ·exact .inl (qe e d)
   ·exact .inl e
  ·rcases d with d | ⟨rfl,d⟩
   ·exact .inl d
   ·exact .inr ⟨rfl,plt_trans e d⟩
theorem plt_tot:∀(a b:List zk),a=b \/ pltB a b=true \/ pltB b a=true
 | [],[]=>.inl rfl
 | [],_::_=>.inr (.inl rfl)
 | _::_,[]=>.inr (.inr rfl)
 | x::a,y::b=>by
  rcases less_tot x y with rfl | h | h
  ·rcases plt_tot a b with rfl | h | h
   ·exact .inl rfl
   ·exact .inr (.inl (by simp [pltB,h]))
   ·exact .inr (.inr (by simp [pltB,h]))
  ·exact .inr (.inl (by simp [pltB,h]))
  ·exact .inr (.inr (by simp [pltB,h]))
theorem plt_path:∀{a b:List zk},pltB a b=true->pathLt a b
 | _,[],h=>by cases ‹List zk› <;> simp [pltB] at h
 | [],y::b,_=>.inl ⟨y,b,rfl⟩
 | x::a,y::b,h=>by
  simp only [pltB,Bool.or_eq_true,Bool.and_eq_true,decide_eq_true_eq] at h;rcases h with h | ⟨rfl,h⟩
  ·exact .inr ⟨[],x,y,a,b,rfl,rfl,h⟩
  ·rcases plt_path h with ⟨z,q,rfl⟩ | ⟨p,u,v,a',c,rfl,rfl,d⟩
   ·exact .inl ⟨z,q,rfl⟩
   ·exact .inr ⟨x::p,u,v,a',c,rfl,rfl,d⟩
theorem path_plt {a b:List zk} (h:pathLt a b):pltB a b=true:=by
 rcases h with ⟨y,q,rfl⟩ | ⟨p,x,y,a',c,rfl,rfl,h⟩
 ·induction a with
  | nil=>rfl
  | cons x a ih=>simp [pltB,ih]
 ·induction p with
  | nil=>simp [pltB,h]
  | cons x a ih=>simp [pltB,ih]
theorem cmpS_gt {x y:zk} (h:Op.bytesLess y x=true):yA x y=some 1:=by
 have a:Op.bytesLess x y=false:=by
  cases e:Op.bytesLess x y
  ·rfl
  ·have:=qe h e;rw [less_irr] at this;cases this
 unfold yA xD;have b:¬ x=y:=λe=>less_ne h e.symm;simp [h,a,b]
theorem cmpP_gt {a b:List zk} (h:pathLt b a):yP a b=some 1:=by
 rw [cmpP_eq];rcases h with ⟨y,q,rfl⟩ | ⟨p,x,y,a',d,rfl,rfl,h⟩
 ·have:=cmp_pre (s2:=b) b (y::q) [] [] (by simp);rw [List.length_nil] at this;rw [this];have e:cmpF b (0+b.length) y ()=some (.ret 1):=by
   unfold cmpF;rw [if_pos (decide_eq_true (by omega))]
  simp only [zq,e,lp_inl]
 ·have:=cmp_pre (s2:=p++x::a') p (y::d) [] (x::a') rfl;rw [List.length_nil] at this;rw [this];have c:yq (p++x::a') ((0+p.length:Nat):Int)=some x:=zw (by simp);have e:cmpF (p++x::a') (0+p.length) y ()=some (.ret 1):=by
   unfold cmpF;rw [decide_eq_false (by simp only [List.length_append,List.length_cons];omega)];simp only [Bool.false_eq_true,if_false,c,Option.bind_some,cmpS_gt h];rfl
  simp only [zq,e,lp_inl]
def Key:=List zk×Int
def kltB (a b:Key):Bool:=pltB a.1 b.1 || (decide (a.1=b.1)&&decide (a.2 < b.2))
theorem klt_irr (a:Key):kltB a a=false:=by simp [kltB,plt_irr]
theorem klt_trans {a b c:Key} (e:kltB a b=true) (d:kltB b c=true):kltB a c=true:=by
 simp only [kltB,Bool.or_eq_true,Bool.and_eq_true,decide_eq_true_eq] at *;rcases e with e | ⟨g,e⟩
 ·rcases d with d | ⟨f,d⟩
  ·exact .inl (plt_trans e d)
  ·rw [f] at e;exact .inl e
 ·rcases d with d | ⟨f,d⟩
  ·rw [<- g] at d;exact .inl d
  ·exact .inr ⟨g.trans f,by omega⟩
def ekey (e:GEdit):Key:=(e.path,e.typ)
def xi (r:GRow):Key:=(r.path,r.leaf.typ)
def ordI (a b:GEdit):Int:=if kltB (ekey a) (ekey b)=true then -1 else if kltB (ekey b) (ekey a)=true then 1 else 0
theorem plt_asym {a b:List zk} (h:pltB a b=true):pltB b a=false:=by
 cases e:pltB b a
 ·rfl
 ·have:=plt_trans h e;rw [plt_irr] at this;cases this
theorem order_is (a b:GEdit):diffXorder a b=some (ordI a b):=by
 unfold diffXorder ordI kltB ekey;rcases plt_tot a.path b.path with h | h | h
 ·simp only [h,cmpP_self,cmpU8is,Option.bind_some,cmpOr2_is,plt_irr,Bool.false_or,decide_true,Bool.true_and,decide_eq_true_eq,or2,cmpI];simp
 ·have c:a.path ≠ b.path:=λe=>by rw [e,plt_irr] at h;cases h
  simp only [cmpP_lt (plt_path h),cmpU8is,Option.bind_some,cmpOr2_is,h,or2];simp
 ·have c:a.path ≠ b.path:=λe=>by rw [e,plt_irr] at h;cases h
  simp only [cmpP_gt (plt_path h),cmpU8is,Option.bind_some,cmpOr2_is,h,plt_asym h,or2];simp [c]
theorem ordI_lt {a b:GEdit}:ordI a b < 0 ↔ kltB (ekey a) (ekey b)=true:=by
 unfold ordI;split
 ·rename_i h;simp [h]
 ·rename_i h;split
  ·simp [h]
  ·simp [h]
theorem sortO_lt {α:Type} {c:α->α->Option Int} {cf:α->α->Int} {lt:α->α->Prop} {L R:List α} (v:∀x ∈ L,∀y ∈ L,c x y=some (cf x y)) (p:∀x y,cf x y < 0 ↔ lt x y) (l:∀x,¬ lt x x) (t:∀x y z,lt x y->lt y z->lt x z)
  (m:∀x ∈ L,∀y ∈ L,x=y \/ lt x y \/ lt y x) (o:R.Perm L) (hs:R.Pairwise lt) (A:L.length<=yK):sortO c L=some R:=by
 unfold sortO;rw [if_pos (λx d y f=>by rw [v x d y f];rfl)];have hd:∀x ∈ L,∀y ∈ L,(c x y).getD 0 < 0 ↔ lt x y:=λx d y f=>by rw [v x d y f];exact p x y
 have j:∀x y,lt x y->¬ lt y x:=λx y i g=>l x (t _ _ _ i g);have u:R.Pairwise λa b=>¬ (c b a).getD 0 < 0:=by
  have:R.Pairwise λa b=>a ∈ L/\b ∈ L/\lt a b:=by
   refine List.Pairwise.imp_of_mem ?_ hs;intro a b s q h;exact ⟨o.subset s,o.subset q,h⟩
  refine this.imp ?_
  rintro a b ⟨s,q,h⟩ g
  exact j _ _ h ((hd b q a s).1 g)
 refine sortF_of ⟨λx d h=>l x ((hd x d x d).1 h),λx y z d f k i g=>(hd x d z k).2 (t _ _ _ ((hd x d y f).1 i) ((hd y f z k).1 g)),λx y z d f k i g n=>?_⟩ A ⟨o,u⟩ ?_
 ·have n:=(hd x d z k).1 n;rcases m x d y f with rfl | h | h
  ·exact g ((hd _ f z k).2 n)
  ·exact i ((hd x d y f).2 h)
  ·exact g ((hd y f z k).2 (t _ _ _ h n))
 ·rintro M ⟨r,w⟩
  refine sorted_one (r.trans o.symm) w u λx y d f i g=>?_;have d:=r.subset d;have f:=r.subset f;rcases m x d y f with e | h | h
  ·exact e
  ·exact (i ((hd x d y f).2 h)).elim
  ·exact (g ((hd y f x d).2 h)).elim
theorem cmp_pos:∀{a b:List UInt8},Op.bytesLess b a=true->0 < Lib.compareBytes a b
 | [],b,h=>by cases b <;> simp [Op.bytesLess] at h
 | _::_,[],_=>by simp [Lib.compareBytes]
 | x::a,y::b,h=>by
  simp only [Op.bytesLess,Bool.or_eq_true,Bool.and_eq_true,decide_eq_true_eq,beq_iff_eq] at h;rcases h with h | ⟨rfl,h⟩
  ·have d:y.toNat < x.toNat:=UInt8.lt_iff_toNat_lt.1 h;have c:¬ x < y:=λe=>by have:=UInt8.lt_iff_toNat_lt.1 e;omega
   simp [Lib.compareBytes,h,c]
  ·have:=cmp_pos h;simp [Lib.compareBytes,this]
def NLt (s:zk) (A:List GNode):Prop:=∀y ∈ A,Op.bytesLess y.name s=true
def NGt (s:zk) (B:List GNode):Prop:=∀y ∈ B,Op.bytesLess s y.name=true
theorem split_up {t:List GNode} (s:zk) (h:upB t=true):(∃A B,t=A++B/\NLt s A/\NGt s B) \/ ∃A x B,t=A++x::B/\x.name=s/\NLt s A/\NGt s B:=by
 rw [upB_iff] at h
 induction t with
 | nil=>exact .inl ⟨[],[],rfl,λ_ h=>by simp at h,λ_ h=>by simp at h⟩
 | cons x t ih =>
  obtain ⟨d,f⟩:=List.pairwise_cons.1 h;rcases less_tot x.name s with e | e | e
  ·exact .inr ⟨[],x,t,rfl,e,λ_ h=>by simp at h,λy a=>by rw [<- e];exact d y a⟩
  ·rcases ih f with ⟨A,B,rfl,b,c⟩ | ⟨A,z,B,rfl,g,b,c⟩
   ·refine .inl ⟨x::A,B,rfl,λy a=>?_,c⟩;rcases List.mem_cons.1 a with rfl | a
    ·exact e
    ·exact b y a
   ·refine .inr ⟨x::A,z,B,rfl,g,λy a=>?_,c⟩;rcases List.mem_cons.1 a with rfl | a
    ·exact e
    ·exact b y a
  ·refine .inl ⟨[],x::t,rfl,λ_ h=>by simp at h,λy a=>?_⟩;rcases List.mem_cons.1 a with rfl | a
   ·exact e
   ·exact qe e (d y a)
theorem bs_none {A B:List GNode} {s:zk} (g:(A++B).length<=16777216) (f:NLt s A) (b:NGt s B):zn (A++B) s (λh j=>yU h j)=some ((A.length:Int),false):=by
 rw [bs_is (c:=A.length) g (by simp) λi m hi=>⟨_,layC1_is m s,λa=>by
   rw [List.getElem?_append_left a] at hi;exact cmp_less.2 (f m (List.mem_of_getElem? hi)),λa=>by
   rw [List.getElem?_append_right a] at hi;exact Int.le_of_lt (cmp_pos (b m (List.mem_of_getElem? hi)))⟩]
 cases B with
 | nil=>simp
 | cons y B =>
  have e:(A++y::B).getD A.length default=y:=by simp
  have:=cmp_pos (b y (by simp));rw [if_pos (by simp),e,layC1_is];have d:(Lib.compareBytes y.name s==0)=false:=by simp;omega
  simp [d]
theorem bs_some {A B:List GNode} {x:GNode} {s:zk} (d:(A++x::B).length<=16777216) (hs:x.name=s) (b:NLt s A) (g:NGt s B):zn (A++x::B) s (λf j=>yU f j)=some ((A.length:Int),true):=by
 subst hs;rw [bs_is (c:=A.length) d (by simp) λi m hi=>⟨_,layC1_is m x.name,λa=>by
   rw [List.getElem?_append_left a] at hi;exact cmp_less.2 (b m (List.mem_of_getElem? hi)),λa=>by
   rw [List.getElem?_append_right a] at hi;rcases List.mem_cons.1 (List.mem_of_getElem? hi) with rfl | h
   ·rw [cmp_self];exact Int.le_refl _
   ·exact Int.le_of_lt (cmp_pos (g m h))⟩]
 have e:(A++x::B).getD A.length default=x:=by simp
 rw [if_pos (by simp),e,layC1_is,cmp_self];simp
noncomputable def layIn (n:Nat) (path1:List zk) (kind2:Int) (l3:GLeaf) (there4:Bool) (s1:zk×(List GLeaf)×(List GNode)):Option (List GNode ⊕ ((List GLeaf)×(List GNode))):=((if (decide (((path1).length:Int) > (1:Int)))=true then ((slc path1 (1:Int) ((path1).length:Int)).bind λm20=>((yW n s1.2.2 m20 kind2 l3 there4).bind λv21=>some (.inr (s1.2.1,v21)))) else ((xc s1.2.1).bind λv22=>((yR v22 (λx0=>diffXlayC2 x0 kind2)).bind λv23=>(if there4=true then ((diffXown l3).bind λv25=>(yf ((v23).length+(([v25]:List GLeaf)).length<=yK) (((sortO (λx y=>diffXlayC3 x y) (v23++([v25]:List GLeaf))).bind λv27=>some (.inr (v27,s1.2.2)))))) else some (.inr (v23,s1.2.2)))))):Option (_ ⊕ ((List GLeaf)×(List GNode))))
noncomputable def layRest (t0:List GNode) (i:Int) (f:Bool) (nm:zk) (s2:(List GLeaf)×(List GNode)):Option (List GNode):=((slc t0 (0:Int) i).bind λm28=>((yn m28).bind λv29=>(if (decide ((IntKind.wrap .i64 (((s2.1).length:Int)+((s2.2).length:Int))) > (0:Int)))=true then (yf ((v29).length+(([(GNode.mk nm s2.1 s2.2)]:List GNode)).length<=yK) ((if f=true then ((slc t0 (IntKind.wrap .i64 (i+(1:Int))) ((t0).length:Int)).bind λm35=>(yf (((v29++([(GNode.mk nm s2.1 s2.2)]:List GNode))).length+(m35).length<=yK) (some ((v29++([(GNode.mk nm s2.1 s2.2)]:List GNode))++m35)))) else ((slc t0 i ((t0).length:Int)).bind λm37=>(yf (((v29++([(GNode.mk nm s2.1 s2.2)]:List GNode))).length+(m37).length<=yK) (some ((v29++([(GNode.mk nm s2.1 s2.2)]:List GNode))++m37))))))) else (if f=true then ((slc t0 (IntKind.wrap .i64 (i+(1:Int))) ((t0).length:Int)).bind λm40=>(yf ((v29).length+(m40).length<=yK) (some (v29++m40)))) else ((slc t0 i ((t0).length:Int)).bind λm42=>(yf ((v29).length+(m42).length<=yK) (some (v29++m42))))))))
theorem layN_eq (n:Nat) (t0:List GNode) (a:List zk) (c:Int) (f:GLeaf) (b:Bool):yW (n+1) t0 a c f b=((yq a (0:Int)).bind λk=>((zn t0 k (λh i=>yU h i)).bind λd=>((yq a (0:Int)).bind λj=>(lp ((if d.2=true then ((yq t0 d.1).bind λe=>some (.inr (e.name,e.leaves,e.subs))) else some (.inr (j,([]:List GLeaf),([]:List GNode)))):Option (_ ⊕ (zk×(List GLeaf)×(List GNode)))) λ(g:zk×(List GLeaf)×(List GNode))=>(lp (layIn n a c f b g) λ(s2:(List GLeaf)×(List GNode))=>layRest t0 d.1 d.2 g.1 s2))))):=rfl
def qC (k:Int) (l:GLeaf) (there:Bool) (ls:List GLeaf):List GLeaf:=if there=true then ls.filter (λx=>decide (x.typ < k))++[l]++ls.filter (λx=>decide (k < x.typ)) else ls.filter (λx=>!decide (x.typ=k))
theorem ups_inj {ls:List GLeaf} (h:ls.Pairwise λx y=>x.typ < y.typ) {x y:GLeaf} (c:x ∈ ls) (i:y ∈ ls) (e:x.typ=y.typ):x=y:=by
 induction ls with
 | nil=>simp at c
 | cons z r ih =>
  obtain ⟨d,j⟩:=List.pairwise_cons.1 h;rcases List.mem_cons.1 c with f | b <;> rcases List.mem_cons.1 i with g | a
  ·rw [f,g]
  ·have:=d y a;rw [<- f] at this;omega
  ·have:=d x b;rw [<- g] at this;omega
  ·exact ih j b a
theorem layLs_up {k:Int} {l:GLeaf} {there:Bool} {ls:List GLeaf} (c:there=true->l.typ=k) (h:ls.Pairwise λx y=>x.typ < y.typ):(qC k l there ls).Pairwise λx y=>x.typ < y.typ:=by
 unfold qC;split
 ·rename_i d;have c:=c d;rw [List.pairwise_append,List.pairwise_append];refine ⟨⟨h.filter _,by simp,λx a y b=>?_⟩,h.filter _,λx a y b=>?_⟩
  ·have a:=(List.mem_filter.1 a).2;simp at a b;subst b;omega
  ·have b:=(List.mem_filter.1 b).2;simp at b;rcases List.mem_append.1 a with a | a
   ·have a:=(List.mem_filter.1 a).2;simp at a;omega
   ·simp at a;subst a;omega
 ·exact h.filter _
theorem sortLs_is {k:Int} {l:GLeaf} {ls:List GLeaf} (d:l.typ=k) (i:ls.length<=16777216) (h:ls.Pairwise λx y=>x.typ < y.typ):sortO (λx y=>diffXlayC3 x y) (ls.filter (λx=>!decide (x.typ=k))++[l])=some (qC k l true ls):=by
 have g:=List.length_filter_le (λx:GLeaf=>!decide (x.typ=k)) ls;refine sortO_lt (α:=GLeaf) (cf:=λx y=>cmpI x.typ y.typ) (lt:=λx y=>x.typ < y.typ) (λx _ y _=>by unfold diffXlayC3;rw [cmpU8is];rfl) (λx y=>by unfold cmpI;split <;> (try split) <;> omega) (λx h=>by omega) (λx y z c f=>by omega) ?_ ?_ (layLs_up (λ_=>d) h) (yo (by simp;omega))
 ·intro x b y a;rcases Int.lt_trichotomy x.typ y.typ with e | e | e
  ·exact .inr (.inl e)
  ·left;rcases List.mem_append.1 b with b | b <;> rcases List.mem_append.1 a with a | a
   ·exact ups_inj h (List.mem_filter.1 b).1 (List.mem_filter.1 a).1 e
   ·have b:=(List.mem_filter.1 b).2;simp at b a;subst a;omega
   ·have a:=(List.mem_filter.1 a).2;simp at b a;subst b;omega
   ·simp at b a;rw [b,a]
  ·exact .inr (.inr e)
 ·unfold qC;rw [if_pos rfl];have c:(ls.filter (λx=>decide (x.typ < k))++ls.filter (λx=>decide (k < x.typ))).Perm (ls.filter λx=>!decide (x.typ=k)):=by
   have:=List.filter_append_perm (λx:GLeaf=>decide (x.typ < k)) (ls.filter λx=>!decide (x.typ=k));rw [List.filter_filter,List.filter_filter] at this;refine List.Perm.trans (.of_eq ?_) this;congr 1 <;> refine List.filter_congr λx _=>?_ <;> rw [Bool.eq_iff_iff] <;> simp <;> omega
  rw [List.append_assoc];refine List.Perm.trans (List.Perm.append_left _ List.perm_append_comm) ?_;rw [<- List.append_assoc];exact c.append_right _
theorem layIn_leaf {n:Nat} {s:zk} {k:Int} {l:GLeaf} {there:Bool} {b:zk} {ls:List GLeaf} {sb:List GNode} (c:there=true->l.typ=k/\LeafOk l) (a:ls.length<=16777216) (h:ls.Pairwise λx y=>x.typ < y.typ) :
  layIn n [s] k l there (b,ls,sb)=some (.inr (qC k l there ls,sb)):=by
 unfold layIn;have d:decide (((([s]:List zk).length:Int)) > 1)=false:=rfl;have g:=List.length_filter_le (λx:GLeaf=>!decide (x.typ=k)) ls;simp only [d,Bool.false_eq_true,if_false];rw [cloneLeaf_is (yo (by omega)),Option.bind_some,deleteR_is (q:=λx=>decide (x.typ=k)) a (λx _=>by unfold diffXlayC2;rfl),Option.bind_some];cases there with
 | false=>simp [qC]
 | true =>
  obtain ⟨e,f⟩:=c rfl;simp only [if_true];rw [own_is f,Option.bind_some,zj (yo (by simp;omega)),sortLs_is e a h,Option.bind_some]
theorem layIn_sub {n:Nat} {s a:zk} {r:List zk} {k:Int} {l:GLeaf} {there:Bool} {e:zk} {ls:List GLeaf} {sb b:List GNode} (f:(s::a::r).length<=16777216) (h:yW n sb (a::r) k l there=some b):layIn n (s::a::r) k l there (e,ls,sb)=some (.inr (ls,b)):=by
 unfold layIn;have d:decide ((((s::a::r).length:Int)) > 1)=true:=decide_eq_true (by simp only [List.length_cons];omega);simp only [d,if_true];rw [slc_at ⟨by omega,by simp only [List.length_cons];omega,Int.le_refl _⟩,Option.bind_some];have c:((s::a::r).take (((s::a::r).length:Int)).toNat).drop (1:Int).toNat=a::r:=by rw [Int.toNat_natCast,List.take_length];rfl
 rw [c,h,Option.bind_some]
def fitN (nm:zk) (ls:List GLeaf) (sb:List GNode):List GNode:=if ls.length+sb.length=0 then [] else [⟨nm,ls,sb⟩]
theorem layRest_is {A B:List GNode} {m:List GNode} {g:zk} {ls:List GLeaf} {sb:List GNode} {f:Bool} (d:m.length=if f=true then 1 else 0) (k:(A++m++B).length<=16777216) (l:ls.length<=16777216) (n:sb.length<=16777217) :
  layRest (A++m++B) (A.length:Int) f g (ls,sb)=some (A++fitN g ls sb++B):=by
 simp only [List.length_append] at k;unfold layRest;rw [slc_at ⟨Int.le_refl _,by omega,by simp;omega⟩,Option.bind_some];have i:((A++m++B).take ((A.length:Int)).toNat).drop (0:Int).toNat=A:=by simp
 rw [i,cloneNode_is (yo (by omega)),Option.bind_some];have h:∀(c:List GNode),c.length<=A.length+1->((if f=true then ((slc (A++m++B) (IntKind.wrap .i64 ((A.length:Int)+(1:Int))) ((A++m++B).length:Int)).bind λa=>(yf (c.length+(a).length<=yK) (some (c++a)))) else ((slc (A++m++B) (A.length:Int) ((A++m++B).length:Int)).bind λb=>(yf (c.length+(b).length<=yK) (some (c++b))))):Option (List GNode))=some (c++B):=by
  intro c o;cases f with
  | true =>
   simp only [if_true] at d ⊢;rw [w64n (by omega),slc_at ⟨by omega,by simp;omega,Int.le_refl _⟩,Option.bind_some];have e:((A++m++B).take (((A++m++B).length:Int)).toNat).drop ((A.length:Int)+1).toNat=B:=by
    rw [Int.toNat_natCast,List.take_length,show ((A.length:Int)+1).toNat=(A++m).length by simp;omega,List.drop_left]
   rw [e,zj (yo (by omega))]
  | false =>
   simp only [Bool.false_eq_true,if_false] at d ⊢;obtain rfl:=List.eq_nil_of_length_eq_zero d;rw [slc_at ⟨by omega,by simp;omega,Int.le_refl _⟩,Option.bind_some];have e:((A++[]++B).take (((A++[]++B).length:Int)).toNat).drop ((A.length:Int)).toNat=B:=by
    simp only [Int.toNat_natCast];rw [List.take_length,List.append_nil,List.drop_left]
   rw [e,zj (yo (by omega))]
 unfold fitN;have j:IntKind.wrap .i64 ((ls.length:Int)+(sb.length:Int))=(ls.length:Int)+(sb.length:Int):=w64n (by omega);simp only [j];by_cases h0:ls.length+sb.length=0
 ·rw [if_pos h0,if_neg (by simp;omega),List.append_nil];exact h A (by omega)
 ·rw [if_neg h0,if_pos (by simp;omega),zj (yo (by simp;omega))];exact h (A++[⟨g,ls,sb⟩]) (by simp)

theorem leaves_of {ls:List GLeaf} (h:ls.Pairwise λx y=>x.typ < y.typ) (c:∀l ∈ ls,leafB l=true):leavesB ls=true:=by
 unfold leavesB;rw [allI_iff];intro i x a;have b:=c x (List.mem_of_getElem? a);simp only [b,Bool.true_and];rcases i with _ | i
 ·rfl
 ·obtain ⟨hi,rfl⟩:=List.getElem?_eq_some_iff.1 a;have:=List.pairwise_iff_getElem.1 h i (i+1) (by omega) hi (by omega);simp only [Nat.add_sub_cancel,Bool.or_eq_true,decide_eq_true_eq];right;rw [List.getD_eq_getElem?_getD,List.getElem?_eq_getElem (by omega:i < ls.length)];exact this
theorem qs (a:List zk) (A B:List GNode):zo a (A++B)=zo a A++zo a B:=by rw [yr,yr,yr,List.flatMap_append]
theorem rowsN_mem {a:List zk} {x:GNode} {r:GRow}:r ∈ w9 a x ↔ (∃l ∈ x.leaves,r=⟨a++[x.name],l⟩) \/ r ∈ zo (a++[x.name]) x.subs:=by
 rw [yN,List.mem_append,List.mem_map];constructor
 ·rintro (⟨l,b,rfl⟩ | h)
  ·exact .inl ⟨l,b,rfl⟩
  ·exact .inr h
 ·rintro (⟨l,b,rfl⟩ | h)
  ·exact .inl ⟨l,b,rfl⟩
  ·exact .inr h
theorem qJ {a:List zk} {x:GNode}:zo a [x]=w9 a x:=by simp [zo]
theorem fit_mem {a:List zk} {b:zk} {ls:List GLeaf} {sb:List GNode} {r:GRow}:r ∈ zo a (fitN b ls sb) ↔ (∃l ∈ ls,r=⟨a++[b],l⟩) \/ r ∈ zo (a++[b]) sb:=by
 unfold fitN;split
 ·rename_i h;have c:ls=[]:=List.eq_nil_of_length_eq_zero (by omega);have d:sb=[]:=List.eq_nil_of_length_eq_zero (by omega);subst c d;simp [zo]
 ·rw [qJ,rowsN_mem]
theorem len_rows (t:List GNode) (a b:List zk):(zo a t).length=(zo b t).length:=by
 have c:=rows_pre t a [];have d:=rows_pre t b [];rw [List.append_nil] at c d;rw [c,d,List.length_map,List.length_map]
theorem wP:∀(t:List GNode) (d:Nat),xR d t=true->t.length<=(zo [] t).length:=by
 refine wa (λ_ _=>Nat.zero_le _) ?_;intro x r e f d b;simp only [xR,Bool.and_eq_true] at b;have g:=f d b.2;have a:=b.1;rw [nodeB_eq] at a;simp only [Bool.and_eq_true,treeB,Bool.not_eq_true',Bool.and_eq_false_iff] at a;have c:=e (d+1) a.1.2.2;rw [show x::r=[x]++r from rfl,qs,qJ,yN];simp only [List.length_append,List.length_map,List.length_cons,List.length_nil];rw [len_rows x.subs ([]++[x.name]) []];rcases a.1.1.2 with h | h
 ·cases hl:x.leaves with
  | nil=>rw [hl] at h;cases h
  | cons l ls=>simp only [List.length_cons];omega
 ·cases hl:x.subs with
  | nil=>rw [hl] at h;cases h
  | cons l ls=>rw [hl] at c;simp only [List.length_cons] at c;omega
theorem qR {t:List GNode} {x:GNode} (a:x ∈ t):x.leaves.length+(zo [] x.subs).length<=(zo [] t).length:=by
 obtain ⟨A,B,rfl⟩:=List.append_of_mem a;rw [qs,show x::B=[x]++B from rfl,qs,qJ,yN];simp only [List.length_append,List.length_map];rw [len_rows x.subs ([]++[x.name]) []];omega
theorem zM {d:Nat} {t:List GNode} (h:treeB d t=true):upB t=true/\∀x ∈ t,nodeB d x=true:=by
 simp only [treeB,Bool.and_eq_true,yT,List.all_eq_true] at h;exact ⟨h.1.2,h.2⟩
theorem treeB_of {d:Nat} {t:List GNode} (hd:d < 3) (a:upB t=true) (b:∀x ∈ t,nodeB d x=true):treeB d t=true:=by
 simp only [treeB,Bool.and_eq_true,yT,List.all_eq_true,a,hd,decide_true,Bool.or_true,true_and];exact b
theorem wd {d:Nat} {x:GNode} (h:nodeB d x=true):nameB x.name=true/\treeB (d+1) x.subs=true/\leavesB x.leaves=true:=by
 rw [nodeB_eq] at h;simp only [Bool.and_eq_true] at h;exact ⟨h.1.1.1,h.1.2,h.2⟩
theorem find_node {d:Nat} {t:List GNode} (s:zk) (h:treeB d t=true) (p:(zo [] t).length<=16777215):∃A m B f ls sb,t=A++m++B/\NLt s A/\NGt s B/\m.length=(if f=true then 1 else 0)/\zn t s (λj o=>yU j o)=some ((A.length:Int),f) /\
  ((if f=true then ((yq t (A.length:Int)).bind λe=>some (.inr (e.name,e.leaves,e.subs))) else some (.inr (s,([]:List GLeaf),([]:List GNode)))):Option (List GNode ⊕ (zk×(List GLeaf)×(List GNode))))=some (.inr (s,ls,sb))/\treeB (d+1) sb=true/\leavesB ls=true /\
  ls.length+(zo [] sb).length<=(zo [] t).length/\∀a r,r ∈ zo a m ↔ (∃l ∈ ls,r=⟨a++[s],l⟩) \/ r ∈ zo (a++[s]) sb:=by
 obtain ⟨n,i⟩:=zM h;have q:t.length<=16777215:=Nat.le_trans (wP t d (by rw [yT];exact List.all_eq_true.2 i)) p;rcases split_up s n with ⟨A,B,rfl,c,b⟩ | ⟨A,x,B,rfl,g,c,b⟩
 ·refine ⟨A,[],B,false,[],[],by simp,c,b,rfl,bs_none (by omega) c b,rfl,tree_nil _,rfl,by simp [zo],λa r=>by simp [zo]⟩
 ·obtain ⟨u,n2,k⟩:=wd (i x (by simp));refine ⟨A,[x],B,true,x.leaves,x.subs,by simp,c,b,rfl,bs_some (by omega) g c b,?_,n2,k,qR (by simp),λa r=>?_⟩
  ·rw [if_pos rfl,zw (x:=x) (by simp),Option.bind_some,g]
  ·rw [qJ,rowsN_mem,g]
theorem rows_off {s:zk} {A:List GNode} (h:∀y ∈ A,y.name ≠ s) {a q:List zk} {r:GRow} (c:r ∈ zo a A):r.path ≠ a++s::q:=by
 obtain ⟨x,d,w,e⟩:=rows_head c;rw [e];intro b;have:=List.append_cancel_left b;injection this with f _;exact h x d f
theorem NLt.ne {s:zk} {A:List GNode} (h:NLt s A):∀y ∈ A,y.name ≠ s:=λy a=>less_ne (h y a)
theorem NGt.ne {s:zk} {A:List GNode} (h:NGt s A):∀y ∈ A,y.name ≠ s:=λy a=>(less_ne (h y a)).symm
theorem lay_fin {d:Nat} {A m B:List GNode} {s:zk} {ls:List GLeaf} {sb:List GNode} (hd:d < 3) (h:treeB d (A++m++B)=true) (g:NLt s A) (f:NGt s B) (hs:nameB s=true) (i:leavesB ls=true) (j:treeB (d+1) sb=true):treeB d (A++fitN s ls sb++B)=true:=by
 obtain ⟨u,n⟩:=zM h;rw [upB_iff,List.pairwise_append,List.pairwise_append] at u;have e:∀x ∈ A,∀y ∈ B,Op.bytesLess x.name y.name=true:=λx a y b=>qe (g x a) (f y b);have c:∀x ∈ fitN s ls sb,x=⟨s,ls,sb⟩/\¬ ls.length+sb.length=0:=λx a=>by
  unfold fitN at a;split at a
  ·simp at a
  ·rename_i h0;simp at a;exact ⟨a,h0⟩
 refine treeB_of hd ?_ ?_
 ·rw [upB_iff,List.pairwise_append,List.pairwise_append];refine ⟨⟨u.1.1,?_,λx a y b=>by rw [(c y b).1];exact g x a⟩,u.2.1,λx a y b=>?_⟩
  ·unfold fitN;split <;> simp
  ·rcases List.mem_append.1 a with a | a
   ·exact e x a y b
   ·rw [(c x a).1];exact f y b
 ·intro x a;rcases List.mem_append.1 a with a | a
  ·rcases List.mem_append.1 a with a | a
   ·exact n x (by simp [a])
   ·obtain ⟨rfl,h0⟩:=c x a;rw [nodeB_eq];simp only [hs,i,j,Bool.and_true,Bool.true_and,Bool.not_eq_true',Bool.and_eq_false_iff];cases ls with
    | cons _ _=>exact .inl rfl
    | nil=>cases sb with
     | cons _ _=>exact .inr rfl
     | nil=>simp at h0
  ·exact n x (by simp [a])
theorem fit_len (s:zk) (ls:List GLeaf) (sb:List GNode):(fitN s ls sb).length<=1:=by unfold fitN;split <;> simp
theorem layLs_mem {k:Int} {l:GLeaf} {there:Bool} {ls:List GLeaf} {x:GLeaf}:x ∈ qC k l there ls ↔ (x ∈ ls/\x.typ ≠ k) \/ (there=true/\x=l):=by
 unfold qC;cases there with
 | false=>simp
 | true =>
  simp only [if_true,List.mem_append,List.mem_filter,List.mem_singleton,decide_eq_true_eq,true_and];constructor
  ·rintro ((⟨h,a⟩ | h) | ⟨h,a⟩)
   ·exact .inl ⟨h,by omega⟩
   ·exact .inr h
   ·exact .inl ⟨h,by omega⟩
  ·rintro (⟨h,a⟩ | h)
   ·rcases Int.lt_or_gt_of_ne a with b | b
    ·exact .inl (.inl ⟨h,b⟩)
    ·exact .inr ⟨h,b⟩
   ·exact .inl (.inr h)
theorem lay_is {k:Int} {l:GLeaf} {there:Bool} (y:there=true->l.typ=k/\leafB l=true/\LeafOk l):∀(p:List zk) (t:List GNode) (d n:Nat),p ≠ []->p.all nameB=true->d+p.length<=3->treeB d t=true->(zo [] t).length<=16777215->p.length < n ->
  ∃t',yW n t p k l there=some t'/\treeB d t'=true/\t'.length<=t.length+1/\∀a r,r ∈ zo a t' ↔ (r ∈ zo a t/\xi r ≠ (a++p,k)) \/ (there=true/\r=⟨a++p,l⟩)
 | [],_,_,_,h,_,_,_,_,_=>absurd rfl h
 | _::_,_,_,0,_,_,_,_,_,h=>by omega
 | s::q,t,d,n+1,_,hp,hd,ht,hw,hn=>by
  simp only [List.all_cons,Bool.and_eq_true,List.length_cons] at hp hd hn;obtain ⟨A,m,B,f,ls,sb,rfl,E,D,N,F,G,o,z,M,u⟩:=find_node s ht hw;have K:yq (s::q) (0:Int)=some s:=rfl;obtain ⟨C,H⟩:=leaves_up z;have U:(A++m++B).length<=16777215:=Nat.le_trans (wP _ d (by rw [yT];exact List.all_eq_true.2 (zM ht).2)) hw;have O:=λg b=>fit_len s g b;have i:∀g b,(A++fitN s g b++B).length<=(A++m++B).length+1:=λg b=>by
   have:=fit_len s g b;simp only [List.length_append];omega
  rw [layN_eq,K,Option.bind_some,F,Option.bind_some,Option.bind_some];simp only [];rw [G,yS];cases q with
  | nil =>
   rw [layIn_leaf (λh=>⟨(y h).1,(y h).2.2⟩) (by omega) C,yS,layRest_is N (by omega) (by
    have:(qC k l there ls).length<=ls.length+1:=by
     unfold qC;split
     ·have v:=List.filter_append_perm (λx:GLeaf=>decide (x.typ < k)) ls;have w:=v.length_eq;have W:(ls.filter λx=>decide (k < x.typ)).length<=(ls.filter λx=>!decide (x.typ < k)).length:=by
       have:(ls.filter λx=>decide (k < x.typ))=(ls.filter λx=>!decide (x.typ < k)).filter (λx=>decide (k < x.typ)):=by
        rw [List.filter_filter];refine List.filter_congr λx _=>?_;rw [Bool.eq_iff_iff];simp;omega
       rw [this];exact List.length_filter_le _ _
      simp only [List.length_append,List.length_cons,List.length_nil] at w ⊢;omega
     ·exact Nat.le_succ_of_le (List.length_filter_le _ _)
    omega) (by have:=wP sb (d+1) (by rw [yT];exact List.all_eq_true.2 (zM o).2);omega)]
   refine ⟨_,rfl,lay_fin (by omega) ht E D hp.1 (leaves_of (layLs_up (λh=>(y h).1) C) λx j=>?_) o,i _ _,λa r=>?_⟩
   ·rcases layLs_mem.1 j with h | ⟨h,rfl⟩
    ·exact H x h.1
    ·exact (y h).2.1
   ·simp only [qs,List.mem_append,fit_mem,u];have L:r ∈ zo a A->xi r ≠ (a++[s],k):=λh e=>rows_off E.ne h (congrArg Prod.fst e);have J:r ∈ zo a B->xi r ≠ (a++[s],k):=λh e=>rows_off D.ne h (congrArg Prod.fst e);have I:r ∈ zo (a++[s]) sb->xi r ≠ (a++[s],k):=λh e=>by
     have:=(rows_path sb _ r h).1;rw [show r.path=a++[s] from congrArg Prod.fst e] at this;omega
    constructor
    ·rintro ((h | ⟨x,j,rfl⟩ | h) | h)
     ·exact .inl ⟨.inl (.inl h),L h⟩
     ·rcases layLs_mem.1 j with ⟨v,w⟩ | ⟨v,rfl⟩
      ·exact .inl ⟨.inl (.inr (.inl ⟨x,v,rfl⟩)),λe=>w (congrArg Prod.snd e)⟩
      ·exact .inr ⟨v,rfl⟩
     ·exact .inl ⟨.inl (.inr (.inr h)),I h⟩
     ·exact .inl ⟨.inr h,J h⟩
    ·rintro (⟨(h | ⟨x,j,rfl⟩ | h) | h,w⟩ | ⟨v,rfl⟩)
     ·exact .inl (.inl h)
     ·exact .inl (.inr (.inl ⟨x,layLs_mem.2 (.inl ⟨j,λe=>w (by rw [<- e];rfl)⟩),rfl⟩))
     ·exact .inl (.inr (.inr h))
     ·exact .inr h
     ·exact .inl (.inr (.inl ⟨l,layLs_mem.2 (.inr ⟨v,rfl⟩),rfl⟩))
  | cons c q =>
   obtain ⟨b,R,V,Y,P⟩:=lay_is y (c::q) sb (d+1) n (by simp) hp.2 (by simp only [List.length_cons] at hd ⊢;omega) o (by omega) (by omega);have T:=wP sb (d+1) (by rw [yT];exact List.all_eq_true.2 (zM o).2);rw [layIn_sub (by simp only [List.length_cons] at hd ⊢;omega) R,yS,layRest_is N (by omega) (by omega) (by omega)];refine ⟨_,rfl,lay_fin (by omega) ht E D hp.1 z V,i _ _,λa r=>?_⟩;simp only [qs,List.mem_append,fit_mem,u,P];have Q:a++[s]++c::q=a++s::c::q:=by simp
   rw [Q];have L:r ∈ zo a A->xi r ≠ (a++s::c::q,k):=λh e=>rows_off E.ne h (congrArg Prod.fst e);have J:r ∈ zo a B->xi r ≠ (a++s::c::q,k):=λh e=>rows_off D.ne h (congrArg Prod.fst e);have I:∀x,r=⟨a++[s],x⟩->xi r ≠ (a++s::c::q,k):=λx h e=>by
    rw [h] at e;have:=congrArg List.length (congrArg Prod.fst e);simp [xi] at this
   constructor
   ·rintro ((h | ⟨x,j,h⟩ | (h | h)) | h)
    ·exact .inl ⟨.inl (.inl h),L h⟩
    ·exact .inl ⟨.inl (.inr (.inl ⟨x,j,h⟩)),I x h⟩
    ·exact .inl ⟨.inl (.inr (.inr h.1)),h.2⟩
    ·exact .inr h
    ·exact .inl ⟨.inr h,J h⟩
   ·rintro (⟨(h | ⟨x,j,h⟩ | h) | h,w⟩ | h)
    ·exact .inl (.inl h)
    ·exact .inl (.inr (.inl ⟨x,j,h⟩))
    ·exact .inl (.inr (.inr (.inl ⟨h,w⟩)))
    ·exact .inr h
    ·exact .inl (.inr (.inr (.inr h)))

theorem rowLt_iff {r q:GRow}:rowLt r q ↔ kltB (xi r) (xi q)=true:=by
 unfold rowLt kltB xi;simp only [Bool.or_eq_true,Bool.and_eq_true,decide_eq_true_eq];constructor
 ·rintro (h | h)
  ·exact .inl (path_plt h)
  ·exact .inr h
 ·rintro (h | h)
  ·exact .inl (plt_path h)
  ·exact .inr h
theorem sorted_ext {α:Type} {lt:α->α->Prop} (a:∀x,¬ lt x x) (g:∀x y z,lt x y->lt y z->lt x z):∀{L M:List α},L.Pairwise lt->M.Pairwise lt->(∀x,x ∈ L ↔ x ∈ M)->L=M
 | [],[],_,_,_=>rfl
 | [],y::M,_,_,h=>by have:=(h y).2 (by simp);simp at this
 | x::L,[],_,_,h=>by have:=(h x).1 (by simp);simp at this
 | x::L,y::M,h1,h2,h=>by
  obtain ⟨d,j⟩:=List.pairwise_cons.1 h1;obtain ⟨f,l⟩:=List.pairwise_cons.1 h2;have e:x=y:=by
   rcases List.mem_cons.1 ((h x).1 (by simp)) with e | k
   ·exact e
   ·rcases List.mem_cons.1 ((h y).2 (by simp)) with e | i
    ·exact e.symm
    ·exact (a x (g _ _ _ (d y i) (f x k))).elim
  subst e;rw [sorted_ext a g j l λz=>?_];constructor
  ·intro c;rcases List.mem_cons.1 ((h z).1 (by simp [c])) with e | b
   ·subst e;exact (a _ (d _ c)).elim
   ·exact b
  ·intro c;rcases List.mem_cons.1 ((h z).2 (by simp [c])) with e | b
   ·subst e;exact (a _ (f _ c)).elim
   ·exact b
theorem filter_app_left {α:Type} {P:α->Bool} {A B:List α} (b:∀x ∈ A,P x=true) (c:∀x ∈ B,P x=false):(A++B).filter P=A/\(A++B).filter (λx=>!P x)=B:=by
 rw [List.filter_append,List.filter_append,List.filter_eq_self.2 b,List.filter_eq_nil_iff.2 (λx a=>by simp [c x a]),List.filter_eq_nil_iff.2 (λx a=>by simp [b x a]),List.filter_eq_self.2 (λx a=>by simp [c x a])];simp
theorem app_split {α:Type} {P:α->Bool} {A B C D:List α} (h:A++B=C++D) (f:∀x ∈ A,P x=true) (g:∀x ∈ B,P x=false) (i:∀x ∈ C,P x=true) (e:∀x ∈ D,P x=false):A=C/\B=D:=by
 obtain ⟨a,b⟩:=filter_app_left f g;obtain ⟨c,d⟩:=filter_app_left i e;exact ⟨by rw [<- a,<- c,h],by rw [<- b,<- d,h]⟩
theorem rowsN_head {a:List zk} {x:GNode} {r:GRow} (h:r ∈ w9 a x):∃w,r.path=a++x.name::w:=by
 rw [<- qJ] at h;obtain ⟨y,b,w,e⟩:=rows_head h;simp only [List.mem_singleton] at b;subst b;exact ⟨w,e⟩
theorem rowsN_ne {d:Nat} {x:GNode} (h:nodeB d x=true) (a:List zk):∃r L,w9 a x=r::L:=by
 have b:=wP [x] d (by simp [xR,h]);rw [len_rows [x] [] a,qJ] at b;cases e:w9 a x with
 | nil=>rw [e] at b;simp at b
 | cons r L=>exact ⟨r,L,rfl⟩
def hasN (n:Nat) (s:zk) (r:GRow):Bool:=decide ((r.path.drop n).head?=some s)
theorem hasN_is (a w:List zk) (s b:zk) {r:GRow} (h:r.path=a++b::w):hasN a.length s r=decide (b=s):=by
 unfold hasN;rw [h,List.drop_left];simp
theorem rows_inj:∀(t:List GNode) (d:Nat) (a:List zk) (t':List GNode),treeB d t=true->treeB d t'=true->zo a t=zo a t'->t=t':=by
 have key:∀(t:List GNode) (d:Nat) (a:List zk) (t':List GNode),(∀x ∈ t,nodeB d x=true)->upB t=true->(∀x ∈ t',nodeB d x=true)->upB t'=true->zo a t=zo a t'->t=t':=by
  refine wa ?_ ?_
  ·intro d a t' _ _ h _ e;cases t' with
   | nil=>rfl
   | cons y r =>
    obtain ⟨q,L,g⟩:=rowsN_ne (h y (by simp)) a;rw [zo,zo,g] at e;simp at e
  ·intro x r E I d a t' n u n2 o e;cases t' with
   | nil =>
    obtain ⟨q,L,g⟩:=rowsN_ne (n x (by simp)) a;rw [zo,zo,g] at e;simp at e
   | cons y s =>
    rw [upB_iff,List.pairwise_cons] at u o;have e:w9 a x++zo a r=w9 a y++zo a s:=e;have c:x.name=y.name:=by
     obtain ⟨q,L,g⟩:=rowsN_ne (n x (by simp)) a;obtain ⟨K,L',B⟩:=rowsN_ne (n2 y (by simp)) a;have A:=e;rw [g,B] at A;injection A with G _;subst G;obtain ⟨w,m⟩:=rowsN_head (a:=a) (x:=x) (r:=q) (by rw [g];simp);obtain ⟨w',k⟩:=rowsN_head (a:=a) (x:=y) (r:=q) (by rw [B];simp);rw [m] at k;have:=List.append_cancel_left k;injection this
    obtain ⟨C,F⟩:=app_split (P:=hasN a.length x.name) e
     (λq b=>by obtain ⟨w,h⟩:=rowsN_head b;rw [hasN_is a w _ _ h];simp)
     (λq b=>by
      obtain ⟨z,f,w,h⟩:=rows_head b;rw [hasN_is a w _ _ h];exact decide_eq_false (less_ne (u.1 z f)).symm)
     (λq b=>by obtain ⟨w,h⟩:=rowsN_head b;rw [hasN_is a w _ _ h,c];simp)
     (λq b=>by
      obtain ⟨z,f,w,h⟩:=rows_head b;rw [hasN_is a w _ _ h,c];exact decide_eq_false (less_ne (o.1 z f)).symm)
    have J:=I d a s (λz f=>n z (by simp [f])) ((upB_iff r).2 u.2) (λz f=>n2 z (by simp [f])) ((upB_iff s).2 o.2) F;rw [yN,yN,<- c] at C;obtain ⟨H,p⟩:=app_split (P:=λq=>decide (q.path.length=a.length+1)) C
     (λq b=>by obtain ⟨l,_,rfl⟩:=List.mem_map.1 b;simp)
     (λq b=>by have:=(rows_path _ _ q b).1;simp at this;exact decide_eq_false (by omega))
     (λq b=>by obtain ⟨l,_,rfl⟩:=List.mem_map.1 b;simp)
     (λq b=>by have:=(rows_path _ _ q b).1;simp at this;exact decide_eq_false (by omega))
    have j:x.leaves=y.leaves:=by
     have:=congrArg (List.map (·.leaf)) H;simpa [List.map_map,Function.comp_def] using this
    obtain ⟨_,D,_⟩:=wd (n x (by simp));obtain ⟨_,v,_⟩:=wd (n2 y (by simp));have i:=E (d+1) (a++[x.name]) y.subs (zM D).2 (zM D).1 (zM v).2 (zM v).1 p;cases x;cases y;simp only at c j i;rw [c,j,i,J]
 intro t d a t' m k e;exact key t d a t' (zM m).2 (zM m).1 (zM k).2 (zM k).1 e
theorem xr {d:Nat} {t:List GNode} (h:treeB d t=true) (a:List zk):(zo a t).Pairwise λr q=>kltB (xi r) (xi q)=true:=by
 have:=rows_lt t d a (zM h).1 (by rw [yT];exact List.all_eq_true.2 (zM h).2);exact this.imp λh=>rowLt_iff.1 h
theorem rows_ext {t t':List GNode} (a:treeB 0 t=true) (b:treeB 0 t'=true) (h:∀r,r ∈ zo [] t ↔ r ∈ zo [] t'):t=t' :=
 rows_inj t 0 [] t' a b (sorted_ext (lt:=λr q=>kltB (xi r) (xi q)=true) (λx h=>by rw [klt_irr] at h;cases h) (λ_ _ _=>klt_trans) (xr a []) (xr b []) h)
theorem sorted_key {α:Type} {key:α->Key} {L:List α} (h:L.Pairwise λr q=>kltB (key r) (key q)=true) {x y:α} (c:x ∈ L) (i:y ∈ L) (e:key x=key y):x=y:=by
 induction L with
 | nil=>simp at c
 | cons z r ih =>
  obtain ⟨d,j⟩:=List.pairwise_cons.1 h;rcases List.mem_cons.1 c with f | b <;> rcases List.mem_cons.1 i with g | a
  ·rw [f,g]
  ·have:=d y a;rw [<- f,e,klt_irr] at this;cases this
  ·have:=d x b;rw [<- g,e,klt_irr] at this;cases this
  ·exact ih j b a

theorem first_is {α:Type} {q:α->Bool} {del:α->Option Bool}:∀(L:List α) (n:Nat),(∀x ∈ L,del x=some (q x)) ->
  (zq (λ(i:Nat) (f:α) (_:Unit)=>(((del f).bind λg=>(if g=true then some (.ret (i:Int)) else some (.nxt ()))):Option (Out Int Unit))) L n ()=some (.inr ())/\∀x ∈ L,q x=false) \/
  ∃A x B,L=A++x::B/\q x=true/\(∀y ∈ A,q y=false)/\zq (λ(i:Nat) (f:α) (_:Unit)=>(((del f).bind λg=>(if g=true then some (.ret (i:Int)) else some (.nxt ()))):Option (Out Int Unit))) L n ()=some (.inl ((n+A.length:Nat):Int))
 | [],n,_=>.inl ⟨rfl,by simp⟩
 | x::r,n,h=>by
  have b:=h x (by simp);cases hq:q x with
  | true=>exact .inr ⟨[],x,r,rfl,hq,by simp,by simp [zq,b,hq]⟩
  | false =>
   rcases first_is r (n+1) (λy a=>h y (by simp [a])) with ⟨e,c⟩ | ⟨A,y,B,rfl,j,c,e⟩
   ·refine .inl ⟨by simp only [zq,b,hq,Option.bind_some];exact e,?_⟩;intro y a;rcases List.mem_cons.1 a with rfl | a
    ·exact hq
    ·exact c y a
   ·refine .inr ⟨x::A,y,B,rfl,j,?_,?_⟩
    ·intro z d;rcases List.mem_cons.1 d with rfl | d
     ·exact hq
     ·exact c z d
    ·simp only [zq,b,hq,Option.bind_some];rw [show n+(x::A).length=n+1+A.length by simp only [List.length_cons];omega];exact e
def node0:GNode:=GNode.mk ([]:zk) ([]:List GLeaf) ([]:List GNode)
def nodeOf (t:List GNode) (s:zk):Option GNode:=t.find? λx=>x.name==s
theorem linear_is (t:List GNode) (s:zk):qm t s=some (match nodeOf t s with | some x=>(x,true) | none=>(node0,false)):=by
 unfold qm xz;rcases first_is (q:=λx:GNode=>x.name==s) (del:=λf=>treeXlinearC1 f s) t 0 (λx _=>rfl) with ⟨e,h⟩ | ⟨A,x,B,rfl,c,d,e⟩
 ·rw [e];have:nodeOf t s=none:=List.find?_eq_none.2 λx b=>by rw [h x b];simp
  rw [this];rfl
 ·rw [e];have:nodeOf (A++x::B) s=some x:=by
   unfold nodeOf;rw [List.find?_append,List.find?_eq_none.2 (λy a=>by rw [d y a];simp),List.find?_cons,c];rfl
  rw [this];simp only [lp,Option.bind_some,Nat.zero_add];rw [if_neg (by simp),zw (x:=x) (by simp)];rfl
def wI:List GNode->List zk->Option GNode
 | _,[]=>none
 | t,[s]=>nodeOf t s
 | t,s::c::q=>(nodeOf t s).bind λx=>wI x.subs (c::q)
noncomputable def tlF:Nat->zk->(List GNode)×Bool×zk×(List GLeaf)×(List GNode)->Option (Out ((GLeaf×Bool) ⊕ (Bool×zk×(List GLeaf)×(List GNode))) ((List GNode)×Bool×zk×(List GLeaf)×(List GNode))):=(λ(_:Nat) (x2:zk) (s2:(List GNode)×Bool×zk×(List GLeaf)×(List GNode))=>(((qm s2.1 x2).bind λv47=>(if (!v47.2)=true then some (.brk (s2.1,v47.2,v47.1.name,v47.1.leaves,v47.1.subs)) else some (.nxt (v47.1.subs,v47.2,v47.1.name,v47.1.leaves,v47.1.subs))))))
noncomputable def tlR (kind2:Int) (s1:Bool×zk×(List GLeaf)×(List GNode)):Option (GLeaf×Bool):=((zZ s1.2.2.1 (λx0=>treeLeafC1 x0 kind2)).bind λv49=>((if (((!s1.1) || (decide (v49 < (0:Int))))==false)=true then vW kind2 else some default).bind λv50=>(if (((!s1.1) || (decide (v49 < (0:Int)))) || (v50.typ==(0:Int)))=true then ((vW kind2).bind λv52=>some (v52,false)) else ((yq s1.2.2.1 v49).bind λy53=>((yw y53.items).bind λv54=>((yI y53.tombs).bind λv55=>some ((GLeaf.mk y53.typ y53.n y53.time y53.dot y53.text v54 v55),true)))))))
theorem tl_eq (t0:List GNode) (a:List zk) (b:Int):xN t0 a b=(lp ((lp (zq tlF a 0 (t0,(decide (((a).length:Int) > (0:Int))),([]:zk),([]:List GLeaf),([]:List GNode))) λ(s2:(List GNode)×Bool×zk×(List GLeaf)×(List GNode))=>some (.inr (s2.2.1,s2.2.2.1,s2.2.2.2.1,s2.2.2.2.2))):Option ((GLeaf×Bool) ⊕ (Bool×zk×(List GLeaf)×(List GNode)))) (tlR b)):=rfl
theorem tl_walk:∀(p:List zk) (n:Nat) (t:List GNode) (z:Bool×zk×(List GLeaf)×(List GNode)),p ≠ [] ->
  match wI t p with
  | some x=>zq tlF p n (t,z)=some (.inr (x.subs,true,x.name,x.leaves,x.subs))
  | none=>∃u,zq tlF p n (t,z)=some (.inr (u,false,([]:zk),([]:List GLeaf),([]:List GNode)))
 | [],_,_,_,h=>absurd rfl h
 | [s],n,t,z,_=>by
  simp only [wI,zq,tlF,linear_is,Option.bind_some];cases nodeOf t s with
  | none=>exact ⟨t,rfl⟩
  | some x=>rfl
 | s::c::q,n,t,z,_=>by
  have b:=λu z=>tl_walk (c::q) (n+1) u z (by simp);simp only [wI];cases e:nodeOf t s with
  | none=>exact ⟨t,by rw [zq];simp only [tlF,linear_is,e,Option.bind_some];rfl⟩
  | some x =>
   have a:tlF n s (t,z)=some (.nxt (x.subs,true,x.name,x.leaves,x.subs)):=by simp only [tlF,linear_is,e,Option.bind_some];rfl
   have:=b x.subs (true,x.name,x.leaves,x.subs);rw [zq,a,Option.bind_some];exact this
theorem nodeOf_split {t:List GNode} (s:zk) (h:upB t=true):(nodeOf t s=none/\∀y ∈ t,y.name ≠ s) \/ ∃A x B,t=A++x::B/\nodeOf t s=some x/\x.name=s/\(∀y ∈ A,y.name ≠ s)/\∀y ∈ B,y.name ≠ s:=by
 rcases split_up s h with ⟨A,B,rfl,b,c⟩ | ⟨A,x,B,rfl,d,b,c⟩
 ·left;have:∀y ∈ A++B,y.name ≠ s:=λy a=>by
   rcases List.mem_append.1 a with a | a
   ·exact b.ne y a
   ·exact c.ne y a
  exact ⟨List.find?_eq_none.2 λy a=>by simp [this y a],this⟩
 ·refine .inr ⟨A,x,B,rfl,?_,d,b.ne,c.ne⟩;unfold nodeOf;rw [List.find?_append,List.find?_eq_none.2 (λy a=>by simp [b.ne y a]),List.find?_cons];simp [d]
theorem row_at:∀(p:List zk) (t:List GNode) (d:Nat) (a:List zk) (l:GLeaf),p ≠ []->treeB d t=true->(GRow.mk (a++p) l ∈ zo a t ↔ ∃x,wI t p=some x/\l ∈ x.leaves)
 | [],_,_,_,_,h,_=>absurd rfl h
 | s::q,t,d,a,l,_,h=>by
  obtain ⟨o,E⟩:=zM h;rcases nodeOf_split s o with ⟨e,w⟩ | ⟨A,x,B,rfl,e,z,D,C⟩
  ·have k:wI t (s::q)=none:=by cases q <;> simp [wI,e]
   rw [k];constructor
   ·intro b;exact (rows_off w b rfl).elim
   ·rintro ⟨x,h,_⟩;cases h
  ·rw [qs,show x::B=[x]++B from rfl,qs,qJ,List.mem_append,List.mem_append,rowsN_mem,z];have n:¬ GRow.mk (a++s::q) l ∈ zo a A:=λb=>rows_off D b rfl;have j:¬ GRow.mk (a++s::q) l ∈ zo a B:=λb=>rows_off C b rfl;have f:=(wd (E x (by simp))).2.1;cases q with
   | nil =>
    have r:¬ GRow.mk (a++[s]) l ∈ zo (a++[s]) x.subs:=λb=>by
     have:=(rows_path _ _ _ b).1;simp at this
    have k:wI (A++x::B) [s]=some x:=e;have g:wI (A++([x]++B)) [s]=some x:=e;rw [g];constructor
    ·rintro (h | (⟨y,m,h⟩ | h) | h)
     ·exact (n h).elim
     ·injection h with _ h;subst h;exact ⟨x,rfl,m⟩
     ·exact (r h).elim
     ·exact (j h).elim
    ·rintro ⟨y,h,u⟩
     injection h with h;subst h;exact .inr (.inl (.inl ⟨l,u,rfl⟩))
   | cons c q =>
    have i:=row_at (c::q) x.subs (d+1) (a++[s]) l (by simp) f;have v:a++[s]++c::q=a++s::c::q:=by simp
    rw [v] at i;have g:wI (A++([x]++B)) (s::c::q)=wI x.subs (c::q):=by
     show (nodeOf (A++x::B) s).bind _=_;rw [e];rfl
    rw [g,i];constructor
    ·rintro (h | (⟨y,m,h⟩ | h) | h)
     ·exact (n h).elim
     ·injection h with h _;have:=congrArg List.length h;simp at this
     ·exact h
     ·exact (j h).elim
    ·intro h;exact .inr (.inl (.inr h))
theorem row_mk {r:GRow} {p:List zk} {k:Int} (h:xi r=(p,k)):r=GRow.mk ([]++p) r.leaf:=by
 have e:r.path=p:=congrArg Prod.fst h;cases r;simp only at e;rw [e];rfl
theorem leafNew_typ {k:Int} (h:1<=k/\k<=4):∃v,vW k=some v/\v.typ=k:=by
 unfold vW;rw [if_neg (by simp;omega)];exact ⟨_,rfl,rfl⟩
theorem tlR_none {k:Int} (s:zk):∃v,tlR k (false,s,([]:List GLeaf),([]:List GNode))=some (v,false):=by
 obtain ⟨v,e⟩:=leafNew_tot k;refine ⟨v,?_⟩;unfold tlR zZ;simp [zq,lp,e]
theorem treeLeaf_is {t:List GNode} (h:treeB 0 t=true) (j:∀r ∈ zo [] t,LeafOk r.leaf) {p:List zk} (z:p ≠ []) {k:Int} (E:1<=k/\k<=4) :
  (∃l,GRow.mk p l ∈ zo [] t/\l.typ=k/\xN t p k=some (l,true)) \/ ((∀r ∈ zo [] t,xi r ≠ (p,k))/\∃v,xN t p k=some (v,false)):=by
 have c:=tl_walk p 0 t (decide ((p.length:Int) > 0),([]:zk),([]:List GLeaf),([]:List GNode)) z;have n:=λl=>row_at p t 0 [] l z h;rw [tl_eq];cases e:wI t p with
 | none =>
  rw [e] at c;obtain ⟨u,c⟩:=c;right;refine ⟨λr a i=>?_,?_⟩
  ·have:=row_mk i;rw [this] at a;obtain ⟨x,d,_⟩:=(n _).1 a;rw [e] at d;cases d
  ·rw [c];exact tlR_none []
 | some x =>
  rw [e] at c;simp only at c;rw [c];simp only [yS];obtain ⟨v0,w,n2⟩:=leafNew_typ E;unfold tlR zZ;rcases first_is (q:=λy:GLeaf=>y.typ==k) (del:=λD=>treeLeafC1 D k) x.leaves 0 (λx _=>rfl) with ⟨m,d⟩ | ⟨A,y,B,f,d,I,m⟩
  ·right;refine ⟨λr a i=>?_,v0,?_⟩
   ·have:=row_mk i;rw [this] at a;obtain ⟨H,g,C⟩:=(n _).1 a;rw [e] at g;injection g with g;subst g;have:=d _ C;simp only [beq_eq_false_iff_ne] at this;exact this (congrArg Prod.snd i)
   ·simp only [];rw [m];simp [lp,w]
  ·left;have G:y ∈ x.leaves:=by rw [f];simp
   have b:GRow.mk ([]++p) y ∈ zo [] t:=(n y).2 ⟨x,e,G⟩;have o:y.typ=k:=by simpa using d
   have s:=j _ b;refine ⟨y,b,o,?_⟩;simp only [];rw [m];simp only [lp,Option.bind_some,Nat.zero_add];have F:((!true) || (decide (((A.length:Nat):Int) < (0:Int))))=false:=by simp
   rw [F];simp only [beq_self_eq_true,if_true,w,Option.bind_some,Bool.false_or,n2];rw [if_neg (by simp;omega),f,zw (x:=y) (by simp),Option.bind_some,qY (yo (Nat.le_succ_of_le s.items)),Option.bind_some,cloneDot_is (yo (Nat.le_succ_of_le s.tombs)),Option.bind_some]

structure EOk (e:GEdit):Prop where
 path:pathB e.path=true
 typ:1<=e.typ/\e.typ<=4
 any:e.had=true \/ e.has=true
 ne:e.had=true->e.has=true->e.was ≠ e.is
 was1:e.had=true->leafB e.was=true/\LeafOk e.was/\e.was.typ=e.typ
 was0:e.had=false->e.was=leaf0
 is1:e.has=true->leafB e.is=true/\LeafOk e.is/\e.is.typ=e.typ
 is0:e.has=false->e.is=leaf0
def eLt (a b:GEdit):Prop:=kltB (ekey a) (ekey b)=true
theorem side_is {there:Bool} {l:GLeaf} {k:Int} (c:there=true->leafB l=true/\LeafOk l/\l.typ=k) (h0:there=false->l=leaf0):wx there l k=some true:=by
 cases there with
 | false=>rw [h0 rfl];exact side0 k
 | true=>obtain ⟨a,b,rfl⟩:=c rfl;exact side1 a b
theorem diffMay_is {es:List GEdit} (k:es.length<=16777216) (f:∀e ∈ es,EOk e) (b:es.Pairwise eLt):diffMay es=some true:=by
 unfold diffMay;rw [qS (r:=false) (λ_ _=>true) (λi x d=>?_)]
 ·have:allI (λ_ _=>true) es=true:=allI_iff.2 λ_ _ _=>rfl;rw [if_pos this]
 ·have hi:=(List.getElem?_eq_some_iff.1 d).1;have a:=f x (List.mem_of_getElem? d);have t:decide (x.typ >= 1)=true:=decide_eq_true a.typ.1;have B:decide (x.typ<=4)=true:=decide_eq_true a.typ.2;have w:qA x.path=some true:=by rw [opMayPath_is,a.path]
  have u:∃v,(if ((decide ((i:Int) > (0:Int)))==true)=true then diffXorder (es.getD (IntKind.wrap .i64 ((i:Int) - (1:Int))).toNat default) x else some default)=some v/\((decide ((i:Int) > 0))&&(decide (v >= 0)))=false:=by
   by_cases h0:0 < i
   ·have y:IntKind.wrap .i64 ((i:Int) - 1)=((i - 1:Nat):Int):=by rw [w64n (by omega)];omega
    have C:es[i - 1]?=some es[i - 1]:=List.getElem?_eq_getElem (by omega);have l:ordI es[i - 1] x < 0:=ordI_lt.2 (by
     have:=List.pairwise_iff_getElem.1 b (i - 1) i (by omega) hi (by omega)
     rwa [(List.getElem?_eq_some_iff.1 d).2] at this)
    have n:es.getD (i - 1) default=es[i - 1]:=by
     rw [List.getD_eq_getElem?_getD,C];rfl
    rw [decide_eq_true (by omega:(i:Int) > 0),y,Int.toNat_natCast,n,order_is];exact ⟨_,rfl,by rw [decide_eq_false (by omega)];rfl⟩
   ·rw [decide_eq_false (by omega:¬ (i:Int) > 0)];exact ⟨default,rfl,rfl⟩
  obtain ⟨v,g,j⟩:=u;have D:((decide ((i:Int) > (0:Int)))==true)=true->0<=(IntKind.wrap .i64 ((i:Int) - (1:Int)))/\(IntKind.wrap .i64 ((i:Int) - (1:Int))) < ((es).length:Int):=by
   intro h;simp only [beq_iff_eq,decide_eq_true_eq] at h;rw [w64n (by omega)];omega
  obtain ⟨z,m,c⟩:∃z,(if ((x.had&&x.has)==true)=true then wu x.was x.is else some default)=some z/\((x.had&&x.has)&&z)=false:=by
   cases h1:x.had with
   | false=>exact ⟨default,rfl,rfl⟩
   | true =>
    cases l:x.has with
    | false=>exact ⟨default,rfl,rfl⟩
    | true=>exact ⟨false,by rw [if_pos (by rfl),leafSame_is,decide_eq_false (a.ne h1 l)],rfl⟩
  have o:wx x.had x.was x.typ=some true:=side_is a.was1 a.was0;have s2:wx x.has x.is x.typ=some true:=side_is a.is1 a.is0;have s:((!x.had)&&(!x.has))=false:=by
   rcases a.any with h | h <;> simp [h]
  rw [m,Option.bind_some,w,Option.bind_some,t,B];have q:((((!true) || (!(true&&true))) || ((!x.had)&&(!x.has))) || ((x.had&&x.has)&&z))=false:=by rw [s,c];rfl
  rw [q,if_pos (by rfl),o,Option.bind_some];have p:((false || (!true))==false)=true:=rfl;rw [if_pos p,s2,Option.bind_some];have A:((false || (!true)) || (!true))=false:=rfl;rw [A,if_neg (by decide),zj D,g,Option.bind_some,j];simp
noncomputable def patF (t0:List GNode):Nat->GEdit->List GNode->Option (Out (List GNode×Int) (List GNode)):=(λ(n1:Nat) (x1:GEdit) (s1:(List GNode))=>(((xN t0 x1.path x1.typ).bind λv14=>((if (((!(v14.2==x1.had))==false)&&(v14.2==true))=true then wu v14.1 x1.was else some default).bind λv15=>(if ((!(v14.2==x1.had)) || (v14.2&&(!v15)))=true then some (.ret (([]:List GNode),(16:Int))) else ((diffXlay s1 x1.path x1.typ x1.is x1.has).bind λv17=>some (.nxt v17))))):Option (Out _ (List GNode))))
theorem patch_eq (t0:List GNode) (a:List GEdit):diffPatch t0 a=((vT t0).bind λb=>((if ((!b)==false)=true then diffMay a else some default).bind λd=>(if ((!b) || (!d))=true then some (([]:List GNode),(2:Int)) else ((vi t0 ([([42,42]:zk)]:List zk)).bind λv4=>(lp (zq (patF t0) a 0 v4.1) λ(c:(List GNode))=>some (c,(0:Int))))))):=rfl
theorem sub_len {α:Type} {lt:α->α->Prop} (a:∀x,¬ lt x x):∀(L M:List α),L.Pairwise lt->(∀x ∈ L,x ∈ M)->L.length<=M.length
 | [],_,_,_=>Nat.zero_le _
 | x::L,M,h,hs=>by
  obtain ⟨f,g⟩:=List.pairwise_cons.1 h;obtain ⟨A,B,rfl⟩:=List.append_of_mem (hs x (by simp));have:=sub_len a L (A++B) g λy d=>by
   have b:=hs y (by simp [d]);have c:y ≠ x:=λe=>a x (by have:=f y d;rwa [e] at this);simp only [List.mem_append,List.mem_cons] at b ⊢;rcases b with h | h | h
   ·exact .inl h
   ·exact (c h).elim
   ·exact .inr h
  simp only [List.length_append,List.length_cons] at this ⊢;omega
theorem wA {p:List zk} (h:pathB p=true):p ≠ []/\p.length<=3/\p.all nameB=true:=by
 refine ⟨pathB_ne h,?_⟩;simp only [pathB,Bool.and_eq_true,decide_eq_true_eq] at h;exact ⟨h.1.2,h.2⟩
theorem lay_all {k:Int} {l:GLeaf} {there:Bool} {p:List zk} {t:List GNode} (e:there=true->l.typ=k/\leafB l=true/\LeafOk l) (s:pathB p=true) (g:treeB 0 t=true) (i:(zo [] t).length<=16777215) :
  ∃t',diffXlay t p k l there=some t'/\treeB 0 t'=true/\(zo [] t').length<=(zo [] t).length+1/\∀r,r ∈ zo [] t' ↔ (r ∈ zo [] t/\xi r ≠ (p,k)) \/ (there=true/\r=⟨p,l⟩):=by
 obtain ⟨f,y,d⟩:=wA s;obtain ⟨t',v,c,_,a⟩:=lay_is e p t 0 (p.length+1) f d (by omega) g i (by omega);have a:=a [];simp only [List.nil_append] at a;refine ⟨t',vX (p.length+1) λn w=>?_,c,?_,a⟩
 ·obtain ⟨u,j,m,_,b⟩:=lay_is e p t 0 n f d (by omega) g i (by omega);have b:=b [];simp only [List.nil_append] at b;rw [j,rows_ext m c λr=>by rw [b,a]]
 ·have:=sub_len (lt:=λr q=>kltB (xi r) (xi q)=true) (λx h=>by rw [klt_irr] at h;cases h) (zo [] t') (zo [] t++[⟨p,l⟩]) (xr c []) λr o=>by
   rcases (a r).1 o with h | h
   ·simp [h.1]
   ·simp [h.2]
  simpa using this
structure EFits (t:List GNode) (e:GEdit):Prop where
 had:e.had=true->GRow.mk e.path e.was ∈ zo [] t
 new:e.had=false->∀r ∈ zo [] t,xi r ≠ ekey e
theorem patF_is {t s:List GNode} {e:GEdit} (i:treeB 0 t=true) (d:∀r ∈ zo [] t,LeafOk r.leaf) (a:EOk e) (f:EFits t e) (hs:treeB 0 s=true) (w:(zo [] s).length<=16777215) (n:Nat) :
  ∃u,patF t n e s=some (.nxt u)/\treeB 0 u=true/\(zo [] u).length<=(zo [] s).length+1/\∀r,r ∈ zo [] u ↔ (r ∈ zo [] s/\xi r ≠ ekey e) \/ (e.has=true/\r=⟨e.path,e.is⟩):=by
 obtain ⟨u,g,m,o,p⟩:=lay_all (k:=e.typ) (l:=e.is) (there:=e.has) (λh=>⟨(a.is1 h).2.2,(a.is1 h).1,(a.is1 h).2.1⟩) a.path hs w;refine ⟨u,?_,m,o,p⟩;unfold patF;rcases treeLeaf_is i d (wA a.path).1 a.typ with ⟨l,b,j,c⟩ | ⟨b,v,c⟩
 ·have hh:e.had=true:=by
   cases h:e.had with
   | true=>rfl
   | false=>exact (f.new h _ b (by unfold xi ekey;rw [j])).elim
  have:(GRow.mk e.path l)=GRow.mk e.path e.was:=sorted_key (xr i []) b (f.had hh) (by unfold xi;rw [j,(a.was1 hh).2.2]);injection this with _ q;rw [c,hh,q];simp only [Option.bind_some,leafSame_is,g];simp
 ·have hh:e.had=false:=by
   cases h:e.had with
   | false=>rfl
   | true=>exact (b _ (f.had h) (by unfold xi;rw [(a.was1 h).2.2])).elim
  rw [c,hh];simp only [Option.bind_some,g];simp
theorem pat_loop {t:List GNode} (i:treeB 0 t=true) (d:∀r ∈ zo [] t,LeafOk r.leaf):∀(es:List GEdit) (n:Nat) (s:List GNode),(∀e ∈ es,EOk e/\EFits t e)->es.Pairwise eLt->treeB 0 s=true->(zo [] s).length+es.length<=16777215 ->
  ∃u,zq (patF t) es n s=some (.inr u)/\treeB 0 u=true/\∀r,r ∈ zo [] u ↔ (r ∈ zo [] s/\∀e ∈ es,xi r ≠ ekey e) \/ ∃e ∈ es,e.has=true/\r=⟨e.path,e.is⟩
 | [],n,s,_,_,hs,_=>⟨s,rfl,hs,λr=>by simp⟩
 | e::es,n,s,h,hp,hs,hw=>by
  obtain ⟨p,B⟩:=List.pairwise_cons.1 hp;simp only [List.length_cons] at hw;obtain ⟨g,o⟩:=h e (by simp);obtain ⟨q,l,k,a3,a4⟩:=patF_is i d g o hs (by omega) n;obtain ⟨u,v,j,A⟩:=pat_loop i d es (n+1) q (λx a=>h x (by simp [a])) B k (by omega);refine ⟨u,by rw [zq,l];exact v,j,λr=>?_⟩;rw [A,a4];have c:e.has=true->∀x ∈ es,xi ⟨e.path,e.is⟩ ≠ ekey x:=λhh x a w=>by
   have:=p x a;unfold eLt at this;rw [<- w] at this;have m:xi ⟨e.path,e.is⟩=ekey e:=by unfold xi ekey;rw [(g.is1 hh).2.2]
   rw [m,klt_irr] at this;cases this
  constructor
  ·rintro (⟨b | b,f⟩ | ⟨x,a,b⟩)
   ·refine .inl ⟨b.1,λx a=>?_⟩;rcases List.mem_cons.1 a with rfl | a
    ·exact b.2
    ·exact f x a
   ·exact .inr ⟨e,by simp,b⟩
   ·exact .inr ⟨x,by simp [a],b⟩
  ·rintro (⟨b,f⟩ | ⟨x,a,b⟩)
   ·exact .inl ⟨.inl ⟨b,f e (by simp)⟩,λx a=>f x (by simp [a])⟩
   ·rcases List.mem_cons.1 a with rfl | a
    ·exact .inl ⟨.inr b,λy z=>by rw [b.2];exact c b.1 y z⟩
    ·exact .inr ⟨x,a,b⟩
theorem select_all {t:List GNode} (hs:Small t) (a:treeB 0 t=true):vi t [[42,42]]=some (t,0):=by
 have b:patB [[42,42]]=true:=by decide
 rw [pathsSelect_is hs (by simp [maxLen]),a,b];have:wo (matchB [[42,42]]) [] t=t:=by
  refine rows_ext (keep_may _ t 0 [] a) a λr=>?_;rw [keep_rows,List.mem_filter];refine ⟨λh=>h.1,λh=>⟨h,?_⟩⟩;have c:=(rows_ok t 0 [] hs a rfl rfl r h).path;unfold matchB;rw [c,b];simp [yX,endsB,agreeB]
 simp [this]
theorem patch_is {t:List GNode} (hs:Small t) (a:treeB 0 t=true) {es:List GEdit} (j:(zo [] t).length+es.length<=16777215) (h:∀e ∈ es,EOk e/\EFits t e) (c:es.Pairwise eLt) :
  ∃u,diffPatch t es=some (u,0)/\treeB 0 u=true/\∀r,r ∈ zo [] u ↔ (r ∈ zo [] t/\∀e ∈ es,xi r ≠ ekey e) \/ ∃e ∈ es,e.has=true/\r=⟨e.path,e.is⟩:=by
 have b:=λr f=>(rows_ok t 0 [] hs a rfl rfl r f).ok;obtain ⟨u,d,g,a3⟩:=pat_loop a b es 0 t h c a j;refine ⟨u,?_,g,a3⟩;rw [patch_eq,wC hs,a,Option.bind_some,if_pos (show ((!true)==false)=true from rfl),diffMay_is (by omega) (λe i=>(h e i).1) c,Option.bind_some,if_neg (by decide),select_all hs a,Option.bind_some,d,yS]

end Go.Vv
namespace Go.Vv
open Go
theorem idxI_is {q:GItem->Bool} {del:GItem->Option Bool}:∀(L:List GItem) (n:Nat),(∀x ∈ L,del x=some (q x)) ->
  (zq (λ(i:Nat) (f:GItem) (_:Unit)=>(((del f).bind λg=>(if g=true then some (.ret (i:Int)) else some (.nxt ()))):Option (Out Int Unit))) L n ()=some (.inr ())/\∀x ∈ L,q x=false) \/
  ∃A x B,L=A++x::B/\q x=true/\(∀y ∈ A,q y=false)/\zq (λ(i:Nat) (f:GItem) (_:Unit)=>(((del f).bind λg=>(if g=true then some (.ret (i:Int)) else some (.nxt ()))):Option (Out Int Unit))) L n ()=some (.inl ((n+A.length:Nat):Int))
 | [],n,_=>.inl ⟨rfl,by simp⟩
 | x::r,n,h=>by
  have b:=h x (by simp);cases hq:q x with
  | true=>exact .inr ⟨[],x,r,rfl,hq,by simp,by simp [zq,b,hq]⟩
  | false =>
   rcases idxI_is r (n+1) (λy a=>h y (by simp [a])) with ⟨e,c⟩ | ⟨A,y,B,rfl,j,c,e⟩
   ·refine .inl ⟨by simp only [zq,b,hq,Option.bind_some];exact e,?_⟩;intro y a;rcases List.mem_cons.1 a with rfl | a
    ·exact hq
    ·exact c y a
   ·refine .inr ⟨x::A,y,B,rfl,j,?_,?_⟩
    ·intro z d;rcases List.mem_cons.1 d with rfl | d
     ·exact hq
     ·exact c z d
    ·simp only [zq,b,hq,Option.bind_some];rw [show n+(x::A).length=n+1+A.length by simp only [List.length_cons];omega];exact e
noncomputable def delI (del:GItem->Option Bool) (n:Nat):Int×Int×(List GItem)->Option (Out (List GItem) (Int×Int×(List GItem))):=λs1=>((yf ((s1.2.2).length=n) ((if (decide (s1.2.1 < ((n:Nat):Int)))=true then ((yq s1.2.2 s1.2.1).bind λy14=>((del y14).bind λv15=>(if (!v15)=true then ((yq s1.2.2 s1.1).bind λy17=>some (.nxt ((IntKind.wrap .i64 (s1.1+(1:Int))),(IntKind.wrap .i64 (s1.2.1+(1:Int))),(s1.2.2.set s1.1.toNat y14)))) else some (.nxt (s1.1,(IntKind.wrap .i64 (s1.2.1+(1:Int))),s1.2.2))))) else some (.brk (s1.1,s1.2.1,s1.2.2))))))
theorem delRI_eq (b:List GItem) (a:GItem->Option Bool):xh b a=((ym b a).bind λd=>(if (d==(-1:Int))=true then some b else (lp (yC (delI a b.length) (d,(IntKind.wrap .i64 (d+(1:Int))),b)) λ(c:Int×Int×(List GItem))=>(yf (0<=c.1/\c.1<=((b.length:Nat):Int)) (((slc (c.2.2.take c.1.toNat++List.replicate (b.length - c.1.toNat) (GItem.mk (0:Int) (GDot.mk (GActor.mk (0:Int) (0:Int)) (0:Int)) ([]:zk))) (0:Int) c.1).bind λe=>some e)))))):=rfl
theorem delI_run {q:GItem->Bool} {del:GItem->Option Bool} {L0:List GItem} (t:L0.length<=16777216) (h:∀x ∈ L0,del x=some (q x)) {a0 b0:Nat} (y:a0 < b0) (A:b0<=L0.length) (w:L0.take a0=(L0.take b0).filter λx=>!q x) :
  ∃n,yC (delI del L0.length) ((a0:Int),(b0:Int),L0)=some (.inr n)/\∃a:Nat,n.1=(a:Int)/\a < L0.length/\n.2.2.length=L0.length/\n.2.2.take a=L0.filter λx=>!q x:=by
 refine loopW_inv (f:=delI del L0.length) (λs=>∃a b:Nat,s.1=(a:Int)/\s.2.1=(b:Int)/\a < b/\b<=L0.length/\s.2.2.length=L0.length/\s.2.2.take a=(L0.take b).filter (λx=>!q x)/\s.2.2.drop b=L0.drop b)
  _ (λs=>L0.length - s.2.1.toNat) ?_ _ _ rfl ⟨a0,b0,rfl,rfl,y,A,rfl,w,rfl⟩
 rintro ⟨i,j,M⟩ ⟨a,b,u,r,B,v,e,m,k⟩
 simp only at u r e m k;subst u r;simp only [delI,yf,e,if_true];by_cases hb:b < L0.length
 ·right;have z:M[b]?=L0[b]?:=by
   have:=congrArg (λl=>l[0]?) k;simpa [List.getElem?_drop] using this
  have p:L0[b]?=some L0[b]:=List.getElem?_eq_getElem hb;have hd:=h L0[b] (List.getElem_mem hb);have d:yq M (b:Int)=some L0[b]:=by simp [yq,z]
  have c:yq M (a:Int)=some (M[a]'(by omega)):=by simp [yq]
  rw [if_pos (by simp;omega),d,Option.bind_some,hd,Option.bind_some];have g:L0.take (b+1)=L0.take b++[L0[b]]:=by rw [List.take_add_one,p];rfl
  cases hq:q L0[b] with
  | true =>
   refine ⟨((a:Int),((b+1:Nat):Int),M),by simp [wV (Nat.le_trans v t)],⟨a,b+1,rfl,rfl,by omega,by omega,e,?_,?_⟩,by simp;omega⟩
   ·rw [m,g,List.filter_append];simp [hq]
   ·have:=congrArg (λl=>l.drop 1) k;simpa [List.drop_drop] using this
  | false =>
   refine ⟨(((a+1:Nat):Int),((b+1:Nat):Int),M.set a L0[b]),by simp [c,wV (Nat.le_trans v t),wV (show a<=16777216 by omega)],⟨a+1,b+1,rfl,rfl,by omega,by omega,by simpa using e,?_,?_⟩,by simp;omega⟩
   ·rw [List.take_add_one,List.take_set_of_le (Nat.le_refl _),m,g,List.filter_append,List.getElem?_set_self (by omega)];simp [hq]
   ·have:=congrArg (λl=>l.drop 1) k;rw [List.drop_set_of_lt (by omega)];simpa [List.drop_drop] using this
 ·left;have o:b=L0.length:=by omega
  rw [if_neg (by simp;omega)];exact ⟨_,rfl,a,rfl,by omega,e,by rw [m,o,List.take_length]⟩
theorem deleteI_is {q:GItem->Bool} {del:GItem->Option Bool} {L0:List GItem} (i:L0.length<=16777216) (h:∀x ∈ L0,del x=some (q x)):xh L0 del=some (L0.filter λx=>!q x):=by
 rw [delRI_eq];unfold ym;rcases idxI_is L0 0 h with ⟨e,b⟩ | ⟨A,x,B,f,l,b,e⟩
 ·rw [e];simp only [lp,Option.bind_some,beq_self_eq_true,if_true];rw [List.filter_eq_self.2 (λx j=>by rw [b x j];rfl)]
 ·rw [e];have c:L0.length=A.length+1+B.length:=by rw [f];simp;omega
  simp only [lp,Option.bind_some,Nat.zero_add];rw [if_neg (by simp <;> omega),wV (by omega)];obtain ⟨d,k,a,g,o,p,m⟩:=delI_run i h (a0:=A.length) (b0:=A.length+1) (by omega) (by omega) (by
   rw [f,List.take_left,List.take_append,List.take_of_length_le (by omega),show A.length+1 - A.length=1 by omega,List.filter_append];simp only [List.take_succ_cons,List.take_zero,List.filter_cons,l,List.filter_nil];rw [List.filter_eq_self.2 (λy n=>by rw [b y n];rfl)];simp)
  rw [k];simp only [yf];rw [if_pos (by rw [g];omega),g];have hs:slc (d.2.2.take ((a:Int)).toNat++List.replicate (L0.length - ((a:Int)).toNat) (GItem.mk (0:Int) (GDot.mk (GActor.mk (0:Int) (0:Int)) (0:Int)) ([]:zk))) (0:Int) (a:Int)=some (d.2.2.take a):=by
   unfold slc;rw [if_pos (by simp;omega)];simp only [Int.toNat_natCast,Int.toNat_zero,List.drop_zero];rw [List.take_append_of_le_length (by simp;omega),List.take_take,Nat.min_self]
  rw [hs,Option.bind_some,m]
theorem bsI_loop {b:GItem->GItem->Option Int} {x:List GItem} {s:GItem} {c:Nat} (r:x.length<=1048576) (o:∀i n,x[i]?=some n->∃v,b n s=some v/\(i < c->v < 0)/\(c<=i->0<=v)) :
  ∀(k lo hi:Nat),hi - lo<=k->lo<=c->c<=hi->hi<=x.length->yC (ρ:=Int×Bool) (λ(a:Int×Int)=>((if (decide (a.1 < a.2))=true then ((yq x (IntKind.wrap .i64 ((Int.fdiv (IntKind.wrap .u64 ((IntKind.wrap .i64 (a.1+a.2)))) (2 ^ (min (1:Int).toNat (IntKind.bits .u64))))))).bind λp=>((b p s).bind λd=>(if (decide (d < (0:Int)))=true then some (.nxt ((IntKind.wrap .i64 ((IntKind.wrap .i64 ((Int.fdiv (IntKind.wrap .u64 ((IntKind.wrap .i64 (a.1+a.2)))) (2 ^ (min (1:Int).toNat (IntKind.bits .u64))))))+(1:Int))),a.2)) else some (.nxt (a.1,(IntKind.wrap .i64 ((Int.fdiv (IntKind.wrap .u64 ((IntKind.wrap .i64 (a.1+a.2)))) (2 ^ (min (1:Int).toNat (IntKind.bits .u64))))))))))) else some (.brk (a.1,a.2))):Option (Out _ (Int×Int)))) ((lo:Int),(hi:Int))=some (.inr ((c:Int),(c:Int))):=by
 intro k
 induction k with
 | zero =>
  intro lo hi m f h hh;obtain rfl:lo=hi:=by omega
  obtain rfl:lo=c:=by omega
  rw [y6];simp
 | succ k ih =>
  intro lo hi m f h hh;rw [y6];by_cases hlt:lo < hi
  ·have hd:decide ((lo:Int) < (hi:Int))=true:=decide_eq_true (by omega);simp only [hd,if_true,half_mid hlt (by omega)];have g:(lo+hi) / 2 < x.length:=by omega
   rw [qf g,Option.bind_some];obtain ⟨v,j,q,l⟩:=o ((lo+hi) / 2) _ (List.getElem?_eq_getElem g);rw [j,Option.bind_some];by_cases hcm:(lo+hi) / 2 < c
   ·rw [decide_eq_true (q hcm),if_pos rfl];simp only;have e:IntKind.wrap .i64 ((((lo+hi) / 2:Nat):Int)+1)=(((lo+hi) / 2+1:Nat):Int):=by rw [w64n (by omega)];omega
    rw [e];exact ih _ _ (by omega) (by omega) h hh
   ·rw [decide_eq_false (by have:=l (by omega);omega)];simp only [Bool.false_eq_true,if_false];exact ih _ _ (by omega) f (by omega) (by omega)
  ·obtain rfl:lo=hi:=by omega
   obtain rfl:lo=c:=by omega
   simp
theorem bsI_is {a:GItem->GItem->Option Int} {x:List GItem} {s:GItem} {c:Nat} (b:x.length<=1048576) (e:c<=x.length) (d:∀i n,x[i]?=some n->∃v,a n s=some v/\(i < c->v < 0)/\(c<=i->0<=v)) :
  zN x s a=(if c < x.length then a (x.getD c default) s else some 1).bind λv=>some ((c:Int),(decide (c < x.length)&&(v==0))):=by
 unfold zN;have:=bsI_loop b d x.length 0 x.length (by omega) (Nat.zero_le _) e (Nat.le_refl _);simp only [Int.natCast_zero] at this;rw [show ((0:Int),(x.length:Int))=(((0:Nat):Int),(x.length:Int)) from rfl] at *;rw [this];simp only [lp];by_cases h:c < x.length
 ·have hd:decide ((c:Int) < (x.length:Int))=true:=decide_eq_true (by omega);simp only [hd,h,if_true,Int.toNat_natCast,beq_self_eq_true,decide_true,Bool.true_and];rw [zj (by intro _;omega)]
 ·have hd:decide ((c:Int) < (x.length:Int))=false:=decide_eq_false (by omega);simp only [hd,h,if_false,decide_false,Bool.false_and,Option.bind_some];rw [zj (by intro hh;cases hh)];simp

def dd:List GDot->List GDot
 | []=>[]
 | [x]=>[x]
 | x::y::r=>if x=y then dd (y::r) else x::dd (y::r)
theorem dd_snoc:∀(A:List GDot) (x y:GDot),dd (A++[x,y])=if x=y then dd (A++[x]) else dd (A++[x])++[y]
 | [],x,y=>by by_cases h:x=y <;> simp [dd,h]
 | [a],x,y=>by
  by_cases h:x=y
  ·subst h;by_cases h2:a=x <;> simp [dd,h2]
  ·by_cases h2:a=x <;> simp [dd,h2,h]
 | a::b::A,x,y=>by
  have c:=dd_snoc (b::A) x y;simp only [List.cons_append] at c ⊢;simp only [dd];rw [c];by_cases h:a=b <;> by_cases h2:x=y <;> simp [h,h2]
theorem dd_mem:∀(L:List GDot) (d:GDot),d ∈ dd L ↔ d ∈ L
 | [],_=>by simp [dd]
 | [x],_=>by simp [dd]
 | x::y::r,d=>by
  simp only [dd];split
  ·rename_i h;subst h;rw [dd_mem (x::r) d];simp
  ·rw [List.mem_cons,dd_mem (y::r) d];simp
theorem dd_strict {lt:GDot->GDot->Prop} (e:∀a b,¬ lt b a->a=b \/ lt a b) (k:∀a b c,lt a b->lt b c->lt a c):∀(L:List GDot),L.Pairwise (λa b=>¬ lt b a)->(dd L).Pairwise lt
 | [],_=>by simp [dd]
 | [x],_=>by simp [dd]
 | x::y::r,h=>by
  have i:=(List.pairwise_cons.1 h).2;have j:=dd_strict e k (y::r) i;simp only [dd];split
  ·exact j
  ·rename_i g;refine List.pairwise_cons.2 ⟨λz f=>?_,j⟩;rw [dd_mem] at f;have d:lt x y:=(e x y ((List.pairwise_cons.1 h).1 y (by simp))).resolve_left g;rcases List.mem_cons.1 f with rfl | f
   ·exact d
   ·rcases e y z ((List.pairwise_cons.1 i).1 z f) with rfl | l
    ·exact d
    ·exact k _ _ _ d l
def nn (L:List GDot):Prop:=∀i a b,L[i]?=some a->L[i+1]?=some b->a ≠ b
theorem take_snoc2 {L:List GDot} {n:Nat} {a b:GDot} (c:L[n]?=some a) (d:L[n+1]?=some b):L.take (n+2)=L.take n++[a,b]:=by
 rw [List.take_add_one,List.take_add_one,c,d];simp
theorem dd_step {L:List GDot} {n:Nat} {a b:GDot} (c:L[n]?=some a) (d:L[n+1]?=some b):dd (L.take (n+2))=if a=b then dd (L.take (n+1)) else dd (L.take (n+1))++[b]:=by
 rw [take_snoc2 c d,dd_snoc,List.take_add_one,c];rfl
noncomputable def cmpIn (n:Nat) (s1:Int):Int×Int×(List GDot)->Option (Out (Out (List GDot) Int) (Int×Int×(List GDot))):=λ(s2:Int×Int×(List GDot))=>((yf ((s2.2.2).length=n) ((if (decide (s2.2.1 < ((n - s1.toNat:Nat):Int)))=true then ((yq (s2.2.2.drop s1.toNat) s2.2.1).bind λy51=>((yq (s2.2.2.drop s1.toNat) (IntKind.wrap .i64 (s2.2.1 - (1:Int)))).bind λy52=>(if (!(y51.actor.rep==y52.actor.rep&&(y51.actor.inc==y52.actor.inc&&(y51.seq==y52.seq&&true))))=true then ((yq (s2.2.2.drop s1.toNat) s2.2.1).bind λy54=>((yq s2.2.2 s2.1).bind λy55=>some (.nxt ((IntKind.wrap .i64 (s2.1+(1:Int))),(IntKind.wrap .i64 (s2.2.1+(1:Int))),(s2.2.2.set s2.1.toNat y54))))) else some (.nxt (s2.1,(IntKind.wrap .i64 (s2.2.1+(1:Int))),s2.2.2))))) else some (.brk (s2.1,s2.2.1,s2.2.2))))))
theorem wrap_p1 {i:Nat} (h0:0 < i) (a:i<=9223372036854775807):(IntKind.wrap .i64 ((i:Int) - 1))=((i - 1:Nat):Int):=wrap_pred h0 a
theorem cmpIn_run {L:List GDot} (E:L.length<=16777216) {k0:Nat} (y:0 < k0) (G:k0 < L.length) {a:GDot} (A:L[k0 - 1]?=some a) (C:L[k0]?=some a) (z:dd (L.take k0)=L.take k0) :
  ∃o,yC (cmpIn L.length (k0:Int)) ((k0:Int),1,L)=some (.inr o)/\∃m:Nat,o.1=(m:Int)/\m<=L.length/\o.2.2.length=L.length/\o.2.2.take m=dd L:=by
 refine loopW_inv (f:=cmpIn L.length (k0:Int)) (λs=>∃m b:Nat,s.1=(m:Int)/\s.2.1=(b:Int)/\1<=b/\k0+b<=L.length/\m+1<=k0+b/\s.2.2.length=L.length/\s.2.2.take m=dd (L.take (k0+b))/\s.2.2.drop (k0+b - 1)=L.drop (k0+b - 1))
  _ (λs=>L.length - s.2.1.toNat) ?_ _ _ rfl ⟨k0,1,rfl,rfl,Nat.le_refl _,by omega,by omega,rfl,?_,by simp⟩
 ·rintro ⟨i,j,M⟩ ⟨m,b,u,r,J,H,F,g,k,p⟩
  simp only at u r g k p;subst u r;simp only [cmpIn,yf,g,if_true,Int.toNat_natCast];by_cases hb:k0+b < L.length
  ·right;have h:∀t,k0+b - 1<=t->M[t]?=L[t]?:=λt I=>by
    have:=congrArg (λl=>l[t - (k0+b - 1)]?) p;simp only [List.getElem?_drop] at this
    rwa [show k0+b - 1+(t - (k0+b - 1))=t by omega] at this
   have v:L[k0+b]?=some L[k0+b]:=List.getElem?_eq_getElem hb;have hb1:k0+b - 1 < L.length:=by omega
   have w:L[k0+b - 1]?=some (L[k0+b - 1]'hb1):=List.getElem?_eq_getElem hb1;have x:yq (M.drop k0) (b:Int)=some L[k0+b]:=by simp only [yq,Int.toNat_natCast,List.getElem?_drop];rw [if_pos (by omega),h _ (by omega),v]
   have B:yq (M.drop k0) (IntKind.wrap .i64 ((b:Int) - 1))=some (L[k0+b - 1]'hb1):=by
    rw [wrap_p1 (by omega) (by omega)];simp only [yq,Int.toNat_natCast,List.getElem?_drop];rw [if_pos (by omega),show k0+(b - 1)=k0+b - 1 by omega,h _ (by omega),w]
   have D:yq M (m:Int)=some (M[m]'(by omega)):=by simp [yq]
   have c:=dd_step (L:=L) (n:=k0+b - 1) w (by rw [show k0+b - 1+1=k0+b by omega];exact v);rw [show k0+b - 1+2=k0+(b+1) by omega,show k0+b - 1+1=k0+b by omega] at c;have d:M.drop (k0+(b+1) - 1)=L.drop (k0+(b+1) - 1):=by
    have:=congrArg (λl=>l.drop 1) p;simp only [List.drop_drop] at this
    rwa [show k0+b - 1+1=k0+(b+1) - 1 by omega] at this
   rw [if_pos (by simp;omega),x,Option.bind_some,B,Option.bind_some];rw [dotEq];by_cases he:L[k0+b]=L[k0+b - 1]'hb1
   ·refine ⟨((m:Int),((b+1:Nat):Int),M),by simp [he,wV (show b<=16777216 by omega)],⟨m,b+1,rfl,rfl,by omega,by omega,by omega,g,?_,d⟩,by simp;omega⟩;rw [c,if_pos he.symm];exact k
   ·refine ⟨(((m+1:Nat):Int),((b+1:Nat):Int),M.set m L[k0+b]),?_,⟨m+1,b+1,rfl,rfl,by omega,by omega,by omega,by simpa using g,?_,?_⟩,by simp;omega⟩
    ·simp [he,x,D,wV (show b<=16777216 by omega),wV (show m<=16777216 by omega)]
    ·rw [c,if_neg (λe=>he e.symm),<- k,List.take_add_one,List.take_set_of_le (Nat.le_refl _),List.getElem?_set_self (by omega)];rfl
    ·rw [List.drop_set_of_lt (by omega)];exact d
  ·left;have q:k0+b=L.length:=by omega
   rw [if_neg (by simp;omega)];exact ⟨_,rfl,m,rfl,by omega,g,by rw [k,q,List.take_length]⟩
 ·have:=dd_step (L:=L) (n:=k0 - 1) A (by rw [show k0 - 1+1=k0 by omega];exact C);rw [show k0 - 1+2=k0+1 by omega,show k0 - 1+1=k0 by omega,if_pos rfl] at this;rw [this,z]
noncomputable def cmpOut (s0:List GDot):Int->Option (Out (List GDot) Int):=λ(s1:Int)=>((if (decide (s1 < ((s0).length:Int)))=true then ((yq s0 s1).bind λy35=>((yq s0 (IntKind.wrap .i64 (s1 - (1:Int)))).bind λy36=>(if (y35.actor.rep==y36.actor.rep&&(y35.actor.inc==y36.actor.inc&&(y35.seq==y36.seq&&true)))=true then (yf (0<=s1/\s1<=((s0.length:Nat):Int)) ((lp (yC (cmpIn s0.length s1) (s1,(1:Int),s0)) λ(s2:Int×Int×(List GDot))=>(yf (0<=s2.1/\s2.1<=((s0.length:Nat):Int)) (((slc (s2.2.2.take s2.1.toNat++List.replicate (s0.length - s2.1.toNat) (GDot.mk (GActor.mk (0:Int) (0:Int)) (0:Int))) (0:Int) s2.1).bind λm57=>some (.ret m57))))))) else some (.nxt (IntKind.wrap .i64 (s1+(1:Int))))))) else some (.brk s1)))
theorem compact_eq (a:List GDot):wb a=(if (decide (((a).length:Int) < (2:Int)))=true then some a else (lp (yC (cmpOut a) (1:Int)) λ(_:Int)=>some a)):=rfl
theorem cmpOut_run {L:List GDot} (o:L.length<=16777216):∀(n k:Nat),L.length - k=n->0 < k->k<=L.length->dd (L.take k)=L.take k->lp (yC (cmpOut L) (k:Int)) (λ(_:Int)=>some L)=some (dd L):=by
 intro n
 induction n with
 | zero =>
  intro k p h0 hk hd;have:k=L.length:=by omega
  subst this;rw [y6];simp only [cmpOut];rw [if_neg (by simp)];simp only [lp];rw [List.take_length] at hd;rw [hd]
 | succ n ih =>
  intro k p h0 hk hd;have c:k < L.length:=by omega
  have d:L[k]?=some L[k]:=List.getElem?_eq_getElem c;have hk1:k - 1 < L.length:=by omega
  have f:L[k - 1]?=some (L[k - 1]'hk1):=List.getElem?_eq_getElem hk1;rw [y6];have j:yq L (k:Int)=some L[k]:=by simp [yq]
  have i:yq L (IntKind.wrap .i64 ((k:Int) - 1))=some (L[k - 1]'hk1):=by
   rw [wrap_p1 h0 (by omega)];simp only [yq,Int.toNat_natCast];rw [if_pos (by omega),f]
  have b:=dd_step (L:=L) (n:=k - 1) f (by rw [show k - 1+1=k by omega];exact d);rw [show k - 1+2=k+1 by omega,show k - 1+1=k by omega] at b;by_cases he:L[k]=L[k - 1]'hk1
  ·obtain ⟨h,q,m,g,r,s,l⟩:=cmpIn_run o h0 c (a:=L[k]) (by rw [he];exact f) d hd;have hs:slc (h.2.2.take ((m:Int)).toNat++List.replicate (L.length - ((m:Int)).toNat) (GDot.mk (GActor.mk (0:Int) (0:Int)) (0:Int))) (0:Int) (m:Int)=some (h.2.2.take m):=by
    unfold slc;rw [if_pos (by simp;omega)];simp only [Int.toNat_natCast,Int.toNat_zero,List.drop_zero];rw [List.take_append_of_le_length (by simp;omega),List.take_take,Nat.min_self]
   have:cmpOut L (k:Int)=some (.ret (dd L)):=by
    simp only [cmpOut];rw [if_pos (by simp;omega),j,Option.bind_some,i,Option.bind_some,dotEq,if_pos (by simp [he])];rw [zj (by omega),q];simp only [lp];rw [zj (by rw [g];omega),g,hs,Option.bind_some,l]
   rw [this];rfl
  ·have:cmpOut L (k:Int)=some (.nxt ((k+1:Nat):Int)):=by
    simp only [cmpOut];rw [if_pos (by simp;omega),j,Option.bind_some,i,Option.bind_some,dotEq,if_neg (by simp [he]),wV (by omega)]
   rw [this];refine ih (k+1) (by omega) (by omega) (by omega) ?_;rw [b,if_neg (λe=>he e.symm),hd,List.take_add_one,d];rfl
theorem compact_is {L:List GDot} (a:L.length<=16777216):wb L=some (dd L):=by
 rw [compact_eq];by_cases h:L.length < 2
 ·rw [if_pos (by simp;omega)]
  match L,h with
  | [],_=>rfl
  | [x],_=>rfl
  | _::_::_,h=>simp at h;omega
 ·rw [if_neg (by simp;omega)];have:=cmpOut_run a (L.length - 1) 1 rfl (by omega) (by omega) (by
   match L,h with
   | x::y::r,_=>rfl
   | [],h=>simp at h
   | [x],h=>simp at h)
  exact this

theorem dlt_irr (a:GDot):dotLt a a=false:=by simp [dotLt]
theorem dlt_tr {a b c:GDot} (d:dotLt a b=true) (e:dotLt b c=true):dotLt a c=true:=by
 unfold dotLt at *;grind
theorem dlt_tot (a b:GDot):a=b \/ dotLt a b=true \/ dotLt b a=true:=by
 rcases a with ⟨⟨d,g⟩,a3⟩;rcases b with ⟨⟨f,e⟩,c⟩
 simp only [dotLt,GDot.mk.injEq,GActor.mk.injEq];grind
theorem ilt_tr {a b c:GItem} (d:aheadI a b=true) (e:aheadI b c=true):aheadI a c=true:=by
 unfold aheadI dotLt at *;grind
theorem ahead_pre {α:Type} {lt:α->α->Bool} (d:∀a b c,lt a b=true->lt b c=true->lt a c=true) (x:α):∀(L:List α),L.Pairwise (λa b=>lt a b=true)->∀(i:Nat) (y:α),L[i]?=some y->(lt y x=true ↔ i < (L.takeWhile λy=>lt y x).length)
 | [],_,i,y,h=>by simp at h
 | z::r,hs,i,y,h=>by
  obtain ⟨f,g⟩:=List.pairwise_cons.1 hs;cases i with
  | zero =>
   simp only [List.getElem?_cons_zero,Option.some.injEq] at h;subst h;cases hz:lt z x <;> simp [List.takeWhile_cons,hz]
  | succ i =>
   simp only [List.getElem?_cons_succ] at h;have j:=ahead_pre d x r g i y h;cases hz:lt z x with
   | true=>simp [List.takeWhile_cons,hz,j]
   | false =>
    simp only [List.takeWhile_cons,hz,Bool.false_eq_true,if_false,List.length_nil,Nat.not_lt_zero,iff_false];intro e;have:=d _ _ _ (f y (List.mem_of_getElem? h)) e;rw [hz] at this;cases this
theorem take_tw {α:Type} (p:α->Bool):∀L:List α,L.take (L.takeWhile p).length=L.takeWhile p
 | []=>rfl
 | x::r=>by cases h:p x <;> simp [List.takeWhile_cons,h,take_tw p r]
theorem drop_tw {α:Type} (p:α->Bool):∀L:List α,L.drop (L.takeWhile p).length=L.dropWhile p
 | []=>rfl
 | x::r=>by cases h:p x <;> simp [List.takeWhile_cons,List.dropWhile_cons,h,drop_tw p r]
theorem tw_le {α:Type} (p:α->Bool):∀L:List α,(L.takeWhile p).length<=L.length
 | []=>by simp
 | x::r=>by have:=tw_le p r;cases h:p x <;> simp [List.takeWhile_cons,h] <;> omega
theorem tw_add {α:Type} (p:α->Bool) (L:List α):(L.takeWhile p).length+(L.dropWhile p).length=L.length:=by
 rw [<- List.length_append,List.takeWhile_append_dropWhile]
theorem tw_all {α:Type} (p:α->Bool):∀(L:List α),∀y ∈ L.takeWhile p,p y=true
 | [],y,h=>by simp at h
 | x::r,y,h=>by
  cases hx:p x with
  | true =>
   rw [List.takeWhile_cons,if_pos hx] at h;rcases List.mem_cons.1 h with rfl | h
   ·exact hx
   ·exact tw_all p r y h
  | false=>rw [List.takeWhile_cons,if_neg (by simp [hx])] at h;simp at h
theorem pw_of_next {α:Type} {lt:α->α->Prop} (f:∀a b c,lt a b->lt b c->lt a c):∀(L:List α),(∀i a b,L[i]?=some a->L[i+1]?=some b->lt a b)->L.Pairwise lt
 | [],_=>.nil
 | [x],_=>by simp
 | x::y::r,h=>by
  have e:=pw_of_next f (y::r) λi a b g j=>h (i+1) a b (by simpa using g) (by simpa using j);have h0:=h 0 x y rfl rfl;refine List.pairwise_cons.2 ⟨λz d=>?_,e⟩;rcases List.mem_cons.1 d with rfl | d
  ·exact h0
  ·exact f _ _ _ h0 ((List.pairwise_cons.1 e).1 z d)
theorem rise_pw {L:List GItem} (h:riseB L=true):L.Pairwise λa b=>aheadI a b=true:=by
 refine pw_of_next (lt:=λa b=>aheadI a b=true) (λ_ _ _=>ilt_tr) L λi a b c d=>?_;have:=allI_iff.1 h (i+1) b d;simp only [Nat.succ_ne_zero,decide_false,Bool.false_or,prevI,Nat.add_sub_cancel,List.getD_eq_getElem?_getD,c,Option.getD_some] at this;exact this
theorem rising_pw {L:List GDot} (h:rising L=true):L.Pairwise λa b=>dotLt a b=true:=by
 rw [rising_allI] at h;refine pw_of_next (lt:=λa b=>dotLt a b=true) (λ_ _ _=>dlt_tr) L λi a b c d=>?_;have:=allI_iff.1 h (i+1) b d;simp only [xf,Nat.succ_ne_zero,decide_false,Bool.false_or,Nat.add_sub_cancel,List.getD_eq_getElem?_getD,c,Option.getD_some] at this;exact this
theorem strict_ext {α:Type} {lt:α->α->Prop} (d:∀a,¬ lt a a) (l:∀a b c,lt a b->lt b c->lt a c):∀(A B:List α),A.Pairwise lt->B.Pairwise lt->(∀x,x ∈ A ↔ x ∈ B)->A=B
 | [],[],_,_,_=>rfl
 | [],b::B,_,_,h=>by have:=(h b).2 (by simp);simp at this
 | a::A,[],_,_,h=>by have:=(h a).1 (by simp);simp at this
 | a::A,b::B,hA,hB,h=>by
  obtain ⟨k,n⟩:=List.pairwise_cons.1 hA;obtain ⟨m,o⟩:=List.pairwise_cons.1 hB;have i:a=b:=by
   rcases List.mem_cons.1 ((h a).1 (by simp)) with e | f
   ·exact e
   ·rcases List.mem_cons.1 ((h b).2 (by simp)) with e | g
    ·exact e.symm
    ·exact (d _ (l _ _ _ (k b g) (m a f))).elim
  subst i;rw [strict_ext d l A B n o λx=>?_];have j:=h x;simp only [List.mem_cons] at j;constructor
  ·intro f;rcases j.1 (.inr f) with rfl | g
   ·exact (d _ (k _ f)).elim
   ·exact g
  ·intro f;rcases j.2 (.inr f) with rfl | g
   ·exact (d _ (m _ f)).elim
   ·exact g
def layP (L:List GItem) (x:GItem):List GItem:=if (L.any λy=>decide (y.dot=x.dot))=true then L else L.takeWhile (λy=>aheadI y x)++([x]++L.dropWhile λy=>aheadI y x)
def burP (L:List GDot) (d:GDot):List GDot:=if (L.any λy=>decide (y=d))=true then L else L.takeWhile (λy=>dotLt y d)++([d]++L.dropWhile λy=>dotLt y d)
theorem firstI_pos {α:Type} (p:α->Bool) (L:List α):decide (qU p L >= 0)=L.any p:=firstI_any p L
theorem slcT {α:Type} (L:List α) (n:Nat) (h:n<=L.length):slc L (n:Int) (L.length:Int)=some (L.drop n):=by
 unfold slc;rw [if_pos (by omega)];simp
theorem tw_loop {α:Type} {L:List α} (p:α->Bool) {f:List α×Int->Option (Out (List α) (List α×Int))} (g:∀(A:List α) (i:Nat) (y:α),A.length=i->L[i]?=some y->f (A,(i:Int))=if p y=true then some (.nxt (A++[y],((i+1:Nat):Int))) else some (.brk (A,(i:Int))))
  (h:∀A:List α,f (A,(L.length:Int))=some (.brk (A,(L.length:Int)))):∀(n i:Nat),L.length - i=n->i<=(L.takeWhile p).length ->
  yC f (L.take i,(i:Int))=some (.inr (L.takeWhile p,((L.takeWhile p).length:Int))):=by
 intro n
 induction n with
 | zero =>
  intro i r hi;have q:=tw_le p L;have j:i=L.length:=by omega
  subst j;rw [y6,h];have o:(L.takeWhile p).length=L.length:=by omega
  have k:=take_tw p L;rw [o] at k ⊢;rw [k]
 | succ n ih =>
  intro i r hi;have b:i < L.length:=by omega
  have m:L[i]?=some L[i]:=List.getElem?_eq_getElem b;have d:L.takeWhile p=L.take i++(L.drop i).takeWhile p:=by
   have g:L.take i=(L.takeWhile p).take i:=by
    conv=>lhs;rw [<- List.takeWhile_append_dropWhile (p:=p) (l:=L)]
    rw [List.take_append_of_le_length hi]
   have h:∀y ∈ L.take i,p y=true:=by
    rw [g];intro y s;exact tw_all _ _ _ (List.mem_of_mem_take s)
   conv=>lhs;rw [<- List.take_append_drop i L]
   rw [List.takeWhile_append_of_pos h]
  have c:L.drop i=L[i]::L.drop (i+1):=(List.getElem_cons_drop b).symm;have a:(L.take i).length=i:=by simp;omega
  rw [y6,g _ _ _ a m];cases ha:p L[i] with
  | true =>
   simp only [if_true];have e:L.take i++[L[i]]=L.take (i+1):=by rw [List.take_add_one,m];rfl
   rw [e];refine ih (i+1) (by omega) ?_;rw [d,c,List.takeWhile_cons,if_pos ha];simp;omega
  | false =>
   simp only [Bool.false_eq_true,if_false];have e:L.takeWhile p=L.take i:=by rw [d,c,List.takeWhile_cons,if_neg (by simp [ha])];simp
   rw [e,a]
noncomputable def layF (L:List GItem) (x:GItem):(List GItem)×Int->Option (Out (List GItem) ((List GItem)×Int)):=(λ(s1:(List GItem)×Int)=>((yf (((decide (s1.2 < ((L).length:Int)))==true)=true->0<=s1.2/\s1.2 < ((L).length:Int)) ((yf (((decide (s1.2 < ((L).length:Int)))==true)=true->0<=s1.2/\s1.2 < ((L).length:Int)) (((if ((decide (s1.2 < ((L).length:Int)))==true)=true then vf (((L).getD s1.2.toNat default).time) (((L).getD s1.2.toNat default).dot) x.time x.dot else some default).bind λv21=>(if ((decide (s1.2 < ((L).length:Int)))&&v21)=true then ((yq L s1.2).bind λy23=>(yf ((s1.1).length+(([y23]:List GItem)).length<=yK) (some (.nxt ((s1.1++([y23]:List GItem)),(IntKind.wrap .i64 (s1.2+(1:Int)))))))) else some (.brk (s1.1,s1.2)))))))):Option (Out _ ((List GItem)×Int))))
theorem lay_loop {L:List GItem} (g:L.length<=16777216) (x:GItem):yC (layF L x) ([],0)=some (.inr (L.takeWhile (λy=>aheadI y x),((L.takeWhile λy=>aheadI y x).length:Int))):=by
 refine tw_loop (λy=>aheadI y x) (f:=layF L x) (λA i y h d=>?_) (λA=>?_) L.length 0 (by omega) (Nat.zero_le _)
 ·have e:i < L.length:=(List.getElem?_eq_some_iff.1 d).1;have hd:decide ((i:Int) < (L.length:Int))=true:=decide_eq_true (by omega);have b:L.getD i default=y:=by simp [List.getD_eq_getElem?_getD,d]
  have a:yq L (i:Int)=some y:=by simp [yq,d]
  simp only [layF,hd];rw [zj (by intro _;omega),zj (by intro _;omega)];simp only [beq_self_eq_true,if_true,Int.toNat_natCast,b,ref05Ahead_is,Option.bind_some,Bool.true_and];have c:(if y.time ≠ x.time then decide (y.time < x.time) else dotLt y.dot x.dot)=aheadI y x:=rfl;rw [c];cases ha:aheadI y x with
  | true=>simp only [if_true];rw [a,Option.bind_some,zj (by simp [yK];omega),wV (by omega)]
  | false=>rfl
 ·have hd:decide ((L.length:Int) < (L.length:Int))=false:=decide_eq_false (by omega);simp only [layF,hd];rw [zj (by simp),zj (by simp)];simp
theorem refLay_is {L:List GItem} (c:L.length<=16777215) (x:GItem):ref05Lay L x=some (layP L x):=by
 unfold ref05Lay;rw [ref05Item_is,Option.bind_some,firstI_pos];unfold layP;cases h:L.any λy=>decide (y.dot=x.dot) with
 | true=>simp only [if_true];rw [zj (by simp [yK];omega)];rfl
 | false =>
  simp only [Bool.false_eq_true,if_false];have a:=lay_loop (L:=L) (by omega) x;unfold layF at a;have b:=tw_le (λy=>aheadI y x) L;have d:=tw_add (λy=>aheadI y x) L;rw [a];simp only [lp];rw [zj (by simp [yK];omega),slcT _ _ b,Option.bind_some,drop_tw,zj (by simp [yK];omega)];simp
noncomputable def burF (L:List GDot) (x:GDot):(List GDot)×Int->Option (Out (List GDot) ((List GDot)×Int)):=(λ(s1:(List GDot)×Int)=>((yf (((decide (s1.2 < ((L).length:Int)))==true)=true->0<=s1.2/\s1.2 < ((L).length:Int)) (((if ((decide (s1.2 < ((L).length:Int)))==true)=true then vA ((L).getD s1.2.toNat default) x else some default).bind λv16=>(if ((decide (s1.2 < ((L).length:Int)))&&v16)=true then ((yq L s1.2).bind λy18=>(yf ((s1.1).length+(([y18]:List GDot)).length<=yK) (some (.nxt ((s1.1++([y18]:List GDot)),(IntKind.wrap .i64 (s1.2+(1:Int)))))))) else some (.brk (s1.1,s1.2)))))):Option (Out _ ((List GDot)×Int))))
theorem bury_loop {L:List GDot} (e:L.length<=16777216) (x:GDot):yC (burF L x) ([],0)=some (.inr (L.takeWhile (λy=>dotLt y x),((L.takeWhile λy=>dotLt y x).length:Int))):=by
 refine tw_loop (λy=>dotLt y x) (f:=burF L x) (λA i y g c=>?_) (λA=>?_) L.length 0 (by omega) (Nat.zero_le _)
 ·have d:i < L.length:=(List.getElem?_eq_some_iff.1 c).1;have hd:decide ((i:Int) < (L.length:Int))=true:=decide_eq_true (by omega);have b:L.getD i default=y:=by simp [List.getD_eq_getElem?_getD,c]
  have a:yq L (i:Int)=some y:=by simp [yq,c]
  simp only [burF,hd];rw [zj (by intro _;omega)];simp only [beq_self_eq_true,if_true,Int.toNat_natCast,b,ref03Less_is,Option.bind_some,Bool.true_and];cases ha:dotLt y x with
  | true=>simp only [if_true];rw [a,Option.bind_some,zj (by simp [yK];omega),wV (by omega)]
  | false=>rfl
 ·have hd:decide ((L.length:Int) < (L.length:Int))=false:=decide_eq_false (by omega);simp only [burF,hd];rw [zj (by simp)];simp
theorem refBury_is {L:List GDot} (c:L.length<=16777215) (x:GDot):ref05Bury L x=some (burP L x):=by
 unfold ref05Bury;rw [vu,Option.bind_some];unfold burP;cases h:L.any λy=>decide (y=x) with
 | true=>simp only [if_true]
 | false =>
  simp only [Bool.false_eq_true,if_false];have a:=bury_loop (L:=L) (by omega) x;unfold burF at a;have b:=tw_le (λy=>dotLt y x) L;have d:=tw_add (λy=>dotLt y x) L;rw [a];simp only [lp];rw [zj (by simp [yK];omega),slcT _ _ b,Option.bind_some,drop_tw,zj (by simp [yK];omega)];simp

theorem sortO_le {α:Type} {c:α->α->Option Int} {cf:α->α->Int} {lt:α->α->Prop} {L R:List α} (v:∀x ∈ L,∀y ∈ L,c x y=some (cf x y)) (o:∀x y,cf x y < 0 ↔ lt x y) (k:∀x,¬ lt x x) (t:∀x y z,lt x y->lt y z->lt x z)
  (l:∀x ∈ L,∀y ∈ L,x=y \/ lt x y \/ lt y x) (n:R.Perm L) (hs:R.Pairwise λa b=>¬ lt b a) (A:L.length<=yK):sortO c L=some R:=by
 unfold sortO;rw [if_pos (λx d y f=>by rw [v x d y f];rfl)];have hd:∀x ∈ L,∀y ∈ L,(c x y).getD 0 < 0 ↔ lt x y:=λx d y f=>by rw [v x d y f];exact o x y
 have s:∀x y,lt x y->¬ lt y x:=λx y i g=>k x (t _ _ _ i g);have u:R.Pairwise λa b=>¬ (c b a).getD 0 < 0:=by
  have:R.Pairwise λa b=>a ∈ L/\b ∈ L/\¬ lt b a:=by
   refine List.Pairwise.imp_of_mem ?_ hs;intro a b r p h;exact ⟨n.subset r,n.subset p,h⟩
  refine this.imp ?_
  rintro a b ⟨r,p,h⟩ g
  exact h ((hd b p a r).1 g)
 refine sortF_of ⟨λx d h=>k x ((hd x d x d).1 h),λx y z d f j i g=>(hd x d z j).2 (t _ _ _ ((hd x d y f).1 i) ((hd y f z j).1 g)),λx y z d f j i g m=>?_⟩ A ⟨n,u⟩ ?_
 ·have m:=(hd x d z j).1 m;rcases l x d y f with rfl | h | h
  ·exact g ((hd _ f z j).2 m)
  ·exact i ((hd x d y f).2 h)
  ·exact g ((hd y f z j).2 (t _ _ _ h m))
 ·rintro M ⟨q,w⟩
  refine sorted_one (q.trans n.symm) w u λx y d f i g=>?_;have d:=q.subset d;have f:=q.subset f;rcases l x d y f with e | h | h
  ·exact e
  ·exact (i ((hd x d y f).2 h)).elim
  ·exact (g ((hd y f x d).2 h)).elim
theorem dotCmp_iff (a b:GDot):dotCmp a b < 0 ↔ dotLt a b=true:=by rw [<- dotCmp_neg];simp
def srt (L:List GDot):List GDot:=L.mergeSort λa b=>!dotLt b a
theorem srt_pw (L:List GDot):(srt L).Pairwise λa b=>¬ dotLt b a=true:=by
 have:=List.pairwise_mergeSort (le:=λa b=>!dotLt b a) (λa b c f d=>by
  simp only [Bool.not_eq_true'] at *;cases h:dotLt c a with
  | false=>rfl
  | true =>
   rcases dlt_tot a b with rfl | e | e
   ·rw [d] at h;cases h
   ·rw [dlt_tr h e] at d;cases d
   ·rw [f] at e;cases e) (λa b=>by
  cases h:dotLt b a with
  | false=>rfl
  | true =>
   cases d:dotLt a b with
   | false=>rfl
   | true=>have:=dlt_tr h d;rw [dlt_irr] at this;cases this) L
 refine this.imp λ{a b} h=>?_;simpa using h
theorem srt_perm (L:List GDot):(srt L).Perm L:=List.mergeSort_perm ..
theorem sortDots_is {L:List GDot} (c:L.length<=yK):sortO (λx y=>wK x y) L=some (srt L) :=
 sortO_le (cf:=dotCmp) (lt:=λa b=>dotLt a b=true) (λx _ y _=>dotCompare_is x y) dotCmp_iff (λx=>by simp [dlt_irr]) (λ_ _ _=>dlt_tr) (λx _ y _=>dlt_tot x y) (srt_perm L) (srt_pw L) c
theorem bur_mem (L:List GDot) (d x:GDot):x ∈ burP L d ↔ x=d \/ x ∈ L:=by
 unfold burP;split
 ·rename_i h;rw [List.any_eq_true] at h;obtain ⟨y,a,e⟩:=h;have e:=of_decide_eq_true e;subst e;constructor
  ·exact .inr
  ·rintro (rfl | h)
   ·exact a
   ·exact h
 ·have h:x ∈ L ↔ x ∈ L.takeWhile (λy=>dotLt y d) \/ x ∈ L.dropWhile (λy=>dotLt y d):=by
   rw [<- List.mem_append,List.takeWhile_append_dropWhile]
  rw [h];simp only [List.mem_append,List.mem_singleton];constructor
  ·rintro (h | h | h)
   ·exact .inr (.inl h)
   ·exact .inl h
   ·exact .inr (.inr h)
  ·rintro (h | h | h)
   ·exact .inr (.inl h)
   ·exact .inl h
   ·exact .inr (.inr h)
theorem dw_not {α:Type} {lt:α->α->Bool} (f:∀a b c,lt a b=true->lt b c=true->lt a c=true) (x:α) {L:List α} (hs:L.Pairwise (λa b=>lt a b=true)):∀y ∈ L.dropWhile (λy=>lt y x),lt y x=false:=by
 intro y d;rw [<- drop_tw] at d;obtain ⟨j,e⟩:=List.mem_iff_getElem?.1 d;rw [List.getElem?_drop] at e;have:=ahead_pre f x L hs _ y e;cases h:lt y x with
 | false=>rfl
 | true=>have:=this.1 h;omega
theorem ins_pw {α:Type} {lt:α->α->Bool} (m:∀a b c,lt a b=true->lt b c=true->lt a c=true) {x:α} {L:List α} (hs:L.Pairwise (λa b=>lt a b=true)) (j:∀y ∈ L,lt y x=true \/ lt x y=true):(L.takeWhile (λy=>lt y x)++([x]++L.dropWhile λy=>lt y x)).Pairwise λa b=>lt a b=true:=by
 have f:=hs;rw [<- List.takeWhile_append_dropWhile (p:=λy=>lt y x) (l:=L)] at f;obtain ⟨k,n,i⟩:=List.pairwise_append.1 f;have hd:∀y ∈ L.dropWhile (λy=>lt y x),lt x y=true:=λy g=>by
  rcases j y (List.dropWhile_sublist _ |>.subset g) with h | h
  ·rw [dw_not m x hs y g] at h;cases h
  ·exact h
 refine List.pairwise_append.2 ⟨k,List.pairwise_append.2 ⟨by simp,n,λa e b d=>?_⟩,λa e b d=>?_⟩
 ·rw [List.mem_singleton] at e;subst e;exact hd b d
 ·rcases List.mem_append.1 d with d | d
  ·rw [List.mem_singleton] at d;subst d;exact tw_all (λy=>lt y b) _ _ e
  ·exact i a e b d
theorem bur_pw {L:List GDot} (d:GDot) (h:L.Pairwise λa b=>dotLt a b=true):(burP L d).Pairwise λa b=>dotLt a b=true:=by
 unfold burP;split
 ·exact h
 ·rename_i f;refine ins_pw (lt:=dotLt) (λ_ _ _=>dlt_tr) h λy e=>?_;rcases dlt_tot y d with rfl | c | c
  ·exfalso;apply f;rw [List.any_eq_true];exact ⟨y,e,by simp⟩
  ·exact .inl c
  ·exact .inr c
theorem bur_len (L:List GDot) (d:GDot):(burP L d).length<=L.length+1:=by
 unfold burP;split
 ·omega
 ·have:=tw_add (λy=>dotLt y d) L;simp;omega
def burs (L ds:List GDot):List GDot:=ds.foldl burP L
theorem burs_mem:∀(ds L:List GDot) (x:GDot),x ∈ burs L ds ↔ x ∈ ds \/ x ∈ L
 | [],L,x=>by simp [burs]
 | d::ds,L,x=>by
  have:=burs_mem ds (burP L d) x;simp only [burs,List.foldl_cons] at this ⊢;rw [this,bur_mem];simp only [List.mem_cons];constructor
  ·rintro (h | h | h)
   ·exact .inl (.inr h)
   ·exact .inl (.inl h)
   ·exact .inr h
  ·rintro ((h | h) | h)
   ·exact .inr (.inl h)
   ·exact .inl h
   ·exact .inr (.inr h)
theorem burs_pw:∀(ds:List GDot) {L:List GDot},L.Pairwise (λa b=>dotLt a b=true)->(burs L ds).Pairwise λa b=>dotLt a b=true
 | [],_,h=>h
 | d::ds,_,h=>burs_pw ds (bur_pw d h)
theorem burs_len:∀(ds L:List GDot),(burs L ds).length<=L.length+ds.length
 | [],L=>by simp [burs]
 | d::ds,L=>by
  have a:=burs_len ds (burP L d);have b:=bur_len L d;simp only [burs,List.foldl_cons,List.length_cons] at a ⊢;omega
theorem burs_eq {L ds:List GDot} (h:L.Pairwise λa b=>dotLt a b=true):dd (srt (L++ds))=burs L ds:=by
 refine strict_ext (lt:=λa b=>dotLt a b=true) (λa=>by simp [dlt_irr]) (λ_ _ _=>dlt_tr) _ _ (dd_strict (lt:=λa b=>dotLt a b=true) (λa b c=>?_) (λ_ _ _=>dlt_tr) _ (srt_pw _)) (burs_pw ds h) λx=>?_
 ·rcases dlt_tot a b with e | e | e
  ·exact .inl e
  ·exact .inr e
  ·exact (c e).elim
 ·rw [dd_mem,(srt_perm _).mem_iff,burs_mem,List.mem_append];exact Or.comm
theorem layC_is (a b:GItem):∃v,yF a b=some v/\(v < 0 ↔ aheadI a b=true):=by
 have h:=leafAhead_is a.time a.dot b.time b.dot;unfold leafAhead at h;unfold yF;cases hc:vB a.time a.dot b.time b.dot with
 | none=>rw [hc] at h;cases h
 | some v =>
  rw [hc] at h;simp only [Option.bind_some,Option.some.injEq] at h;refine ⟨v,rfl,?_⟩;have:aheadI a b=decide (v < 0):=h.symm;rw [this];simp
theorem searchI {L:List GItem} (j:L.length<=1048576) (hs:L.Pairwise λa b=>aheadI a b=true) (x:GItem):∃b,zN L x (λg l=>yF g l)=some (((L.takeWhile λy=>aheadI y x).length:Int),b):=by
 have m:=tw_le (λy=>aheadI y x) L;have k:∀i n,L[i]?=some n->∃v,yF n x=some v/\(i < (L.takeWhile λy=>aheadI y x).length->v < 0)/\((L.takeWhile λy=>aheadI y x).length<=i->0<=v):=λi n hi=>by
  obtain ⟨v,e,d⟩:=layC_is n x;have f:=ahead_pre (lt:=aheadI) (λ_ _ _=>ilt_tr) x L hs i n hi;refine ⟨v,e,λh=>d.2 (f.2 h),λh=>?_⟩;rcases Int.lt_or_le v 0 with c | c
  ·have:=f.1 (d.1 c);omega
  ·exact c
 rw [bsI_is j m k];by_cases h:(L.takeWhile λy=>aheadI y x).length < L.length
 ·rw [if_pos h];obtain ⟨v,e,_⟩:=layC_is (L.getD (L.takeWhile λy=>aheadI y x).length default) x;rw [e];exact ⟨_,rfl⟩
 ·rw [if_neg h];exact ⟨_,rfl⟩
theorem insO_is {L:List GItem} (a:L.length<=1048576) (x:GItem) {n:Nat} (b:n<=L.length):insO L (n:Int) [x]=some (L.take n++([x]++L.drop n)):=by
 unfold insO;rw [if_pos ⟨⟨by omega,by omega⟩,by simp,by simp [yK];omega⟩,Int.toNat_natCast]
theorem progLay_is {L:List GItem} (f:L.length<=1048576) (hs:L.Pairwise λa b=>aheadI a b=true) (x:GItem) :
  ((leafXhas L x.dot).bind λc=>(if c=true then some L else ((zN L x (λg i=>yF g i)).bind λd=>((insO L d.1 ([x]:List GItem)).bind λv39=>some v39))))=some (layP L x):=by
 rw [leafXhas_is,Option.bind_some];unfold layP;cases h:L.any λy=>decide (y.dot=x.dot) with
 | true=>rfl
 | false =>
  simp only [Bool.false_eq_true,if_false];obtain ⟨b,e⟩:=searchI f hs x;rw [e,Option.bind_some,insO_is f x (tw_le _ _),Option.bind_some,take_tw,drop_tw]
theorem containsDot_is (L:List GDot) (d:GDot):xA L d=some (L.any λy=>decide (y=d)):=by
 unfold xA qH;have:=first_loop (α:=GDot) (f:=λx=>some (decide (x=d))) (q:=λx=>decide (x=d)) L (λ_ _=>rfl);have e:∀(b:Nat) (a:GDot),(if (d.actor.rep==a.actor.rep&&(d.actor.inc==a.actor.inc&&(d.seq==a.seq&&true)))=true then some (.ret (b:Int)) else some (.nxt ()):Option (Out Int Unit))=((some (decide (a=d)):Option Bool).bind λv=>if v=true then some (.ret (b:Int)) else some (.nxt ())):=λb a=>by
  rw [dotEq,Option.bind_some];have:decide (d=a)=decide (a=d):=decide_eq_decide.2 eq_comm;rw [this]
 simp only [e];rw [this,Option.bind_some,firstI_pos]
theorem dropC_is (x:GItem) (e:GEvent):xS x e=some (e.op.dots.any λy=>decide (y=x.dot)):=by
 unfold xS;rw [containsDot_is];rfl

def yH (l:GLeaf) (e:GEvent):GLeaf :=
 if e.op.kind=1 then { l with n:=IntKind.wrap .i64 (l.n+e.op.n) }
 else if e.op.kind=2 then (if (decide (l.time=0) || (if l.time ≠ e.time then decide (l.time < e.time) else dotLt l.dot e.dot))=true then { l with time:=e.time,dot:=e.dot,text:=e.op.text } else l)
 else if e.op.kind=3 then (if (l.tombs.any λy=>decide (y=e.dot))=true then l else { l with items:=layP l.items ⟨0,e.dot,e.op.text⟩ })
 else if e.op.kind=4 then { l with items:=l.items.filter (λx=>!(e.op.dots.any λy=>decide (y=x.dot))),tombs:=burs l.tombs e.op.dots }
 else { l with items:=layP l.items ⟨e.time,e.dot,e.op.text⟩ }
def zeroLf:GLeaf:=GLeaf.mk (0:Int) (0:Int) (0:Int) (GDot.mk (GActor.mk (0:Int) (0:Int)) (0:Int)) ([]:zk) ([]:List GItem) ([]:List GDot)
def applyW (l:GLeaf) (e:GEvent):GLeaf×Int:=if (!leafB l || !xZ e)=true then (zeroLf,2) else if x9 e.op.kind ≠ l.typ then (zeroLf,15) else (yH l e,0)
theorem riseB_of {l:GLeaf} (h:leafB l=true):l.items.Pairwise λa b=>aheadI a b=true:=by
 unfold leafB at h;split at h
 ·simp only [Bool.and_eq_true,decide_eq_true_eq] at h;rw [h.1.2];exact .nil
 ·split at h
  ·simp only [Bool.and_eq_true,decide_eq_true_eq] at h;rw [h.1.1.2];exact .nil
  ·split at h
   ·simp only [Bool.and_eq_true] at h;exact rise_pw h.1.2.1.2
   ·split at h
    ·simp only [Bool.and_eq_true] at h;exact rise_pw h.2.1.2
    ·cases h
theorem tombs_of {l:GLeaf} (h:leafB l=true):l.tombs.Pairwise λa b=>dotLt a b=true:=by
 unfold leafB at h;split at h
 ·simp only [Bool.and_eq_true,decide_eq_true_eq] at h;rw [h.2];exact .nil
 ·split at h
  ·simp only [Bool.and_eq_true,decide_eq_true_eq] at h;rw [h.1.2];exact .nil
  ·split at h
   ·simp only [Bool.and_eq_true,tombsB] at h;exact rising_pw h.2.1.2
   ·split at h
    ·simp only [Bool.and_eq_true,decide_eq_true_eq] at h;rw [h.1.2];exact .nil
    ·cases h
theorem apart_of_leaf {l:GLeaf} (h:leafB l=true):∀x ∈ l.items,∀d ∈ l.tombs,d ≠ x.dot:=by
 intro x a d hd;unfold leafB at h;split at h
 ·simp only [Bool.and_eq_true,decide_eq_true_eq] at h;rw [h.2] at hd;simp at hd
 ·split at h
  ·simp only [Bool.and_eq_true,decide_eq_true_eq] at h;rw [h.1.2] at hd;simp at hd
  ·split at h
   ·simp only [Bool.and_eq_true,tombsB] at h;have:=List.all_eq_true.1 h.2.2 d hd
    rintro rfl
    simp only [Bool.not_eq_true',List.any_eq_false,decide_eq_true_eq] at this;exact this x a rfl
   ·split at h
    ·simp only [Bool.and_eq_true,decide_eq_true_eq] at h;rw [h.1.2] at hd;simp at hd
    ·cases h
theorem kind_of {e:GEvent} (h:xZ e=true):1<=e.op.kind/\e.op.kind<=5:=by
 simp only [xZ,opB,Bool.and_eq_true,decide_eq_true_eq] at h;exact ⟨h.2.1.1.1.1.1,h.2.1.1.1.1.2⟩
theorem dots_of {e:GEvent} (h:xZ e=true):e.op.dots.length<=64:=by
 simp only [xZ,opB,Bool.and_eq_true,decide_eq_true_eq] at h;exact h.2.1.2
theorem leafApply_is {l:GLeaf} (e:GEvent) (hi:l.items.length<=1048576) (f:l.tombs.length<=1048576):leafApply l e=some (applyW l e):=by
 unfold leafApply applyW;rw [leafMay_is (by unfold maxLen;omega) (by unfold maxLen;omega),Option.bind_some];cases hl:leafB l with
 | false=>simp [zeroLf]
 | true =>
  simp only [Bool.not_true,Bool.false_or,beq_self_eq_true,if_true,opMayEvent_is,Option.bind_some];cases he:xZ e with
  | false=>simp [zeroLf]
  | true =>
   simp only [Bool.not_true,Bool.false_eq_true,if_false,opType_is,Option.bind_some];by_cases hk:x9 e.op.kind=l.typ
   ·rw [if_neg (show ¬ (x9 e.op.kind != l.typ)=true by simp [hk]),if_neg (show ¬ x9 e.op.kind ≠ l.typ by simp [hk])];rw [qY (by unfold yK;omega),Option.bind_some,cloneDot_is (by unfold yK;omega),Option.bind_some];unfold yH;by_cases h1:e.op.kind=1
    ·simp only [h1,if_true,Option.bind_some]
    simp only [h1,if_false];by_cases h2:e.op.kind=2
    ·simp only [h2,if_true,leafAhead_is,Option.bind_some];have d:(l.time==(0:Int))=decide (l.time=0):=by rw [Bool.eq_iff_iff];simp
     rw [d];cases h0:decide (l.time=0) with
     | true=>simp
     | false =>
      simp only [beq_self_eq_true,if_true,Option.bind_some,Bool.false_or];generalize (if l.time ≠ e.time then decide (l.time < e.time) else dotLt l.dot e.dot)=b;cases b <;> rfl
    simp only [h2,if_false];by_cases h3:e.op.kind=3
    ·simp only [h3,if_true,containsDot_is,Option.bind_some];have:=progLay_is hi (riseB_of hl) ⟨0,e.dot,e.op.text⟩;simp only at this;rw [this];cases l.tombs.any (λy=>decide (y=e.dot)) <;> rfl
    simp only [h3,if_false];have hd:=dots_of he;by_cases h4:e.op.kind=4
    ·simp only [h4,if_true];rw [zj (by unfold yK;omega),sortDots_is (by simp [yK];omega),Option.bind_some,compact_is (by rw [(srt_perm _).length_eq];simp;omega),Option.bind_some,
      deleteI_is (q:=λx=>e.op.dots.any λy=>decide (y=x.dot)) (by omega) (λx _=>dropC_is x e),Option.bind_some,burs_eq (tombs_of hl)]
     rfl
    simp only [h4,if_false];have c:e.op.kind=5:=by have:=kind_of he;omega
    simp only [c,if_true];have:=progLay_is hi (riseB_of hl) ⟨e.time,e.dot,e.op.text⟩;simp only at this;rw [this];rfl
   ·have a:(x9 e.op.kind != l.typ)=true:=by simp [hk]
    simp only [a,if_true,hk,ne_eq,not_false_eq_true,Bool.false_eq_true,if_false,zeroLf]
theorem refTombs_fold:∀(ds L:List GDot) (n:Nat),L.length+ds.length<=16777215->zq (λ(f:Nat) (c:GDot) (b:(List GDot))=>(((ref05Bury b c).bind λa=>some (.nxt a)):Option (Out (GLeaf×Int) (List GDot)))) ds n L=some (.inr (burs L ds))
 | [],L,n,_=>rfl
 | d::ds,L,n,h=>by
  simp only [List.length_cons] at h;have e:=bur_len L d;simp only [zq];rw [refBury_is (by omega),Option.bind_some];exact refTombs_fold ds (burP L d) (n+1) (by omega)
theorem refLeft_is (L:List GItem) (T:List GDot) (d:L.length<=16777215):ref05Left L T=some (L.filter λx=>!(T.any λy=>decide (y=x.dot))):=by
 unfold ref05Left;have:∀(L s:List GItem) (n:Nat),s.length+L.length<=16777215->zq (λ(e:Nat) (b:GItem) (a:(List GItem))=>(((vw T b.dot).bind λc=>(if (!c)=true then (yf ((a).length+(([b]:List GItem)).length<=yK) (some (.nxt (a++([b]:List GItem))))) else some (.nxt a))):Option (Out (List GItem) (List GItem)))) L n s=some (.inr (s++L.filter λx=>!(T.any λy=>decide (y=x.dot)))):=by
  intro L
  induction L with
  | nil=>intro s n _;simp [zq]
  | cons x r ih =>
   intro s n h;simp only [List.length_cons] at h;simp only [zq,vu,Option.bind_some];cases hx:T.any λy=>decide (y=x.dot) with
   | true =>
    simp only [Bool.not_true,Bool.false_eq_true,if_false];rw [List.filter_cons,if_neg (by simp [hx])];have:=ih s (n+1) (by omega);simp only [vu,Option.bind_some] at this;exact this
   | false =>
    simp only [Bool.not_false,if_true];rw [zj (by simp [yK];omega),List.filter_cons,if_pos (by simp [hx])];have:=ih (s++[x]) (n+1) (by simp;omega);simp only [vu,Option.bind_some,List.append_assoc,List.singleton_append] at this;exact this
 rw [this L [] 0 (by simpa using d)];rfl
theorem refApply_is {l:GLeaf} (e:GEvent) (hi:l.items.length<=1048576) (n:l.tombs.length<=1048576) (h0:0<=l.time):ref05Apply l e=some (applyW l e):=by
 unfold ref05Apply applyW;rw [ref05May_is (by unfold maxLen;omega) (by unfold maxLen;omega) h0,Option.bind_some];cases hl:leafB l with
 | false=>simp [zeroLf]
 | true =>
  simp only [Bool.not_true,Bool.false_or,beq_self_eq_true,if_true,vz,Option.bind_some];cases he:xZ e with
  | false=>simp [zeroLf]
  | true =>
   simp only [Bool.not_true,Bool.false_eq_true,if_false,ref04Type_is,Option.bind_some];by_cases hk:x9 e.op.kind=l.typ
   ·rw [if_neg (show ¬ (x9 e.op.kind != l.typ)=true by simp [hk]),if_neg (show ¬ x9 e.op.kind ≠ l.typ by simp [hk])];unfold yH;by_cases h1:e.op.kind=1
    ·simp only [h1,beq_self_eq_true,if_true]
    have j:(e.op.kind==(1:Int))=false:=by simp [h1]
    simp only [h1,j,Bool.false_eq_true,if_false];by_cases h2:e.op.kind=2
    ·simp only [h2,beq_self_eq_true,if_true,ref05Ahead_is,Option.bind_some];have f:(l.time==(0:Int))=decide (l.time=0):=by rw [Bool.eq_iff_iff];simp
     rw [f];cases h0:decide (l.time=0) with
     | true=>simp
     | false =>
      simp only [beq_self_eq_true,if_true,Option.bind_some,Bool.false_or];generalize (if l.time ≠ e.time then decide (l.time < e.time) else dotLt l.dot e.dot)=b;cases b <;> rfl
    have n2:(e.op.kind==(2:Int))=false:=by simp [h2]
    simp only [h2,n2,Bool.false_eq_true,if_false];by_cases a:e.op.kind=3
    ·simp only [a,beq_self_eq_true,if_true,vu,Option.bind_some];cases l.tombs.any (λy=>decide (y=e.dot)) with
     | true=>rfl
     | false=>simp only [Bool.not_false,if_true,Bool.false_eq_true,if_false];rw [refLay_is (by omega)];rfl
    have g:(e.op.kind==(3:Int))=false:=by simp [a]
    simp only [a,g,Bool.false_eq_true,if_false];have hd:=dots_of he;by_cases h4:e.op.kind=4
    ·simp only [h4,beq_self_eq_true,if_true];rw [refTombs_fold _ _ _ (by omega)];simp only [lp];rw [refLeft_is _ _ (by omega),Option.bind_some];congr 3;refine List.filter_congr λx i=>?_;congr 1;rw [Bool.eq_iff_iff,List.any_eq_true,List.any_eq_true];constructor
     ·rintro ⟨d,hd,h⟩
      have h:=of_decide_eq_true h;rcases (burs_mem _ _ _).1 hd with a | a
      ·exact ⟨d,a,by simp [h]⟩
      ·exact (apart_of_leaf hl x i d a h).elim
     ·rintro ⟨d,hd,h⟩
      exact ⟨d,(burs_mem _ _ _).2 (.inl hd),h⟩
    have m:(e.op.kind==(4:Int))=false:=by simp [h4]
    simp only [h4,m,Bool.false_eq_true,if_false];have k:e.op.kind=5:=by have:=kind_of he;omega
    simp only [k,beq_self_eq_true,if_true];rw [refLay_is (by omega)];rfl
   ·have c:(x9 e.op.kind != l.typ)=true:=by simp [hk]
    simp only [c,if_true,hk,ne_eq,not_false_eq_true,Bool.false_eq_true,if_false,zeroLf]

end Go.Vv
