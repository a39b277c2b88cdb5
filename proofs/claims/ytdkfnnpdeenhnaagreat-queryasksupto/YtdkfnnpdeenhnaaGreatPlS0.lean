/- Plain laws, joined. -/
import Derived.Test.YtdkfnnpdeenhnaaGreatD
import Derived.Test.YtdkfnnpdeenhnaaGreatVvQ
namespace Go.Vv
open Go
def alnum (b:UInt8):Bool:=(decide (97<=b.toNat)&&decide (b.toNat<=122)) || (decide (65<=b.toNat)&&decide (b.toNat<=90)) || (decide (48<=b.toNat)&&decide (b.toNat<=57))
def other (r:Int):Bool:=!((decide (97<=r)&&decide (r<=122)) || (decide (65<=r)&&decide (r<=90)) || (decide (48<=r)&&decide (r<=57)))
def runeIdx (q:Int->Bool) (s:List UInt8) (i:Nat):Int :=
 if h:i < s.length then (if q (dec s i).1 then i else if (dec s i).2=0 then -1 else runeIdx q s (i+(dec s i).2)) else -1
termination_by s.length - i
decreasing_by omega
theorem dec_width (s:List UInt8) (i:Nat) (h:i < s.length):1<=(dec s i).2:=by
 have hs:i < (⟨s.toArray⟩:ByteArray).size:=by simpa [ByteArray.size] using h
 by_cases ha:((⟨s.toArray⟩:ByteArray)[i]'hs).toNat < 128
 ·unfold dec;rw [decode_ascii _ i hs ha];exact Nat.le_refl _
 ·exact (decode_high _ i hs (by omega)).2
theorem dec_low {s:List UInt8} {i:Nat} {b:UInt8} (a:s[i]?=some b) (h:b.toNat < 128):dec s i=(b.toNat,1):=by
 have c:i < s.length:=(List.getElem?_eq_some_iff.1 a).1;have hs:i < (⟨s.toArray⟩:ByteArray).size:=by simpa [ByteArray.size] using c
 have e:((⟨s.toArray⟩:ByteArray)[i]'hs)=b:=by
  have d:((⟨s.toArray⟩:ByteArray)[i]'hs)=s[i]:=rfl;rw [d];rw [List.getElem?_eq_getElem c] at a;injection a
 unfold dec;rw [decode_ascii _ i hs (by rw [e];exact h),e]
theorem dec_hi {s:List UInt8} {i:Nat} {b:UInt8} (a:s[i]?=some b) (h:128<=b.toNat):128<=(dec s i).1:=by
 have c:i < s.length:=(List.getElem?_eq_some_iff.1 a).1;have hs:i < (⟨s.toArray⟩:ByteArray).size:=by simpa [ByteArray.size] using c
 have e:((⟨s.toArray⟩:ByteArray)[i]'hs)=b:=by
  have d:((⟨s.toArray⟩:ByteArray)[i]'hs)=s[i]:=rfl;rw [d];rw [List.getElem?_eq_getElem c] at a;injection a
 exact (decode_high _ i hs (by rw [e];exact h)).1
theorem other_alnum {b:UInt8}:other (b.toNat:Int)=!alnum b:=by
 unfold other alnum;congr 1;rw [Bool.eq_iff_iff];simp;omega
theorem rune_all {s:List UInt8} (h:s.all alnum=true):∀(n i:Nat),s.length - i=n->runeIdx other s i=-1
 | n,i,hn=>by
  rw [runeIdx.eq_def];by_cases hi:i < s.length
  ·rw [dif_pos hi];have c:s[i]?=some s[i]:=List.getElem?_eq_getElem hi;have b:alnum s[i]=true:=by rw [List.all_eq_true] at h;exact h _ (List.getElem_mem hi)
   have a:s[i].toNat < 128:=by
    unfold alnum at b;simp only [Bool.or_eq_true,Bool.and_eq_true,decide_eq_true_eq] at b;omega
   rw [dec_low c a];simp only [other_alnum,b,Bool.not_true,Bool.false_eq_true,if_false,Nat.one_ne_zero];exact rune_all h (s.length - (i+1)) (i+1) rfl
  ·rw [dif_neg hi]
 termination_by n=>n
 decreasing_by omega
theorem rune_some {s:List UInt8} {k:Nat} {b:UInt8} (a:s[k]?=some b) (e:alnum b=false):∀(n i:Nat),k - i=n->i<=k->0<=runeIdx other s i
 | n,i,hn,hik=>by
  have g:k < s.length:=(List.getElem?_eq_some_iff.1 a).1;have hi:i < s.length:=by omega
  rw [runeIdx.eq_def,dif_pos hi];by_cases ho:other ((dec s i).1:Nat)=true
  ·rw [if_pos ho];omega
  ·rw [if_neg ho];have d:s[i]?=some s[i]:=List.getElem?_eq_getElem hi;have c:s[i].toNat < 128:=by
    refine Decidable.byContradiction λhh=>ho ?_;have:=dec_hi d (by omega);unfold other;simp;omega
   rw [dec_low d c] at ho ⊢;rw [other_alnum] at ho;have f:i ≠ k:=by
    rintro rfl
    rw [d] at a;injection a with a;subst a;rw [e] at ho;exact ho rfl
   simp only [Nat.one_ne_zero,if_false];exact rune_some a e (k - (i+1)) (i+1) rfl (by omega)
 termination_by n=>n
 decreasing_by omega

def nameB (s:ze):Bool:=decide (1<=s.length)&&decide (s.length<=12)&&s.all alnum
def vE (p:List ze):Bool:=decide (1<=p.length)&&decide (p.length<=3)&&p.all nameB
theorem bnd1 (n:Nat):decide ((n:Int) >= 1)=decide (1<=n):=decide_eq_decide.2 (by omega)
theorem bnd12 (n:Nat):decide ((n:Int)<=12)=decide (n<=12):=decide_eq_decide.2 (by omega)
theorem bnd3 (n:Nat):decide ((n:Int)<=3)=decide (n<=3):=decide_eq_decide.2 (by omega)
theorem ref04IsName_is (s:ze):xB s=some (nameB s):=by
 unfold xB nameB;rw [loopL_all alnum false]
 ·split
  ·rename_i h;simp only [Bool.or_eq_true,decide_eq_true_eq] at h;congr 1;rw [eq_comm,Bool.and_eq_false_iff,Bool.and_eq_false_iff];left;rcases h with h | h
   ·exact .inl (decide_eq_false (by omega))
   ·exact .inr (decide_eq_false (by omega))
  ·rename_i h;simp only [Bool.or_eq_true,decide_eq_true_eq] at h;have a:1<=s.length:=by omega
   have c:s.length<=12:=by omega
   cases ha:s.all alnum <;> simp [a,c]
 ·intro i x _;unfold alnum;have e:(((decide ((x.toNat:Int) >= 97))&&(decide ((x.toNat:Int)<=122)) || (decide ((x.toNat:Int) >= 65))&&(decide ((x.toNat:Int)<=90))) || (decide ((x.toNat:Int) >= 48))&&(decide ((x.toNat:Int)<=57))) =
    (decide (97<=x.toNat)&&decide (x.toNat<=122) || decide (65<=x.toNat)&&decide (x.toNat<=90) || decide (48<=x.toNat)&&decide (x.toNat<=57)):=by
   rw [Bool.eq_iff_iff];simp;omega
  rw [e];generalize (decide (97<=x.toNat)&&decide (x.toNat<=122) || decide (65<=x.toNat)&&decide (x.toNat<=90) || decide (48<=x.toNat)&&decide (x.toNat<=57))=b;cases b <;> rfl
theorem rune_loop (q:Int->Bool) (s:ze) {f:Nat->Option (Out Int Nat)} (a:∀i,f i=if i < s.length then (if q (dec s i).1=true then some (.ret (i:Int)) else some (.nxt (i+(dec s i).2))) else some (.brk i)) :
  ∀(k i:Nat),s.length - i=k->lp (yb f i) (λ_=>some (-1:Int))=some (runeIdx q s i)
 | k,i,hk=>by
  rw [x5,runeIdx.eq_def,a];by_cases h:i < s.length
  ·have b:=dec_width s i h;rw [if_pos h,dif_pos h];by_cases hq:q (dec s i).1=true
   ·simp [hq]
   ·have h0:¬ (dec s i).2=0:=by omega
    simp only [if_neg hq,if_neg h0];exact rune_loop q s a (s.length - (i+(dec s i).2)) _ rfl
  ·rw [if_neg h,dif_neg h];rfl
 termination_by k=>k
 decreasing_by omega
theorem stringsContains_other (s:ze):yI s (λx=>vg x)=some (!s.all alnum):=by
 have e:(λx=>vg x)=λx=>some (other x):=by
  funext x;unfold vg other;congr 1;rw [Bool.eq_iff_iff];simp
 unfold yI wa xS;rw [e,rune_loop other s (λi=>by simp) _ 0 rfl];simp only [Option.bind_some];congr 1;cases h:s.all alnum with
 | true=>rw [rune_all h _ 0 rfl];rfl
 | false =>
  rw [List.all_eq_false] at h;obtain ⟨b,c,d⟩:=h;obtain ⟨k,a,rfl⟩:=List.getElem_of_mem c;have:=rune_some (List.getElem?_eq_getElem a) (by simpa using d) _ 0 rfl (Nat.zero_le _);simp [this]
theorem opIsName_is (s:ze):vF s=some (nameB s):=by
 unfold vF nameB;rw [stringsContains_other,bnd1,bnd12];cases h1:decide (1<=s.length) <;> cases h2:decide (s.length<=12) <;> simp
theorem contains_is {f:ze->Option Bool} {q:ze->Bool} (p:List ze) (a:∀x ∈ p,f x=some (q x)):zW p f=some (p.any q):=by
 unfold zW yZ;rw [first_loop p a];simp only [Option.bind_some,firstI_any]
theorem opMayPath_is (p:List ze):wJ p=some (vE p):=by
 unfold wJ vE;rw [contains_is (q:=λs=>!nameB s) p (λx _=>by unfold qL;rw [opIsName_is];rfl),bnd1,bnd3];have e:p.any (λs=>!nameB s)=!p.all nameB:=by rw [Bool.eq_iff_iff];simp
 rw [e];cases h1:decide (1<=p.length) <;> cases h2:decide (p.length<=3) <;> simp
def actorB (a:GActor):Bool:=decide (a.rep < 16)&&decide (a.inc >= 1)&&decide (a.inc<=4)
def wh (d:GDot):Bool:=actorB d.actor&&decide (d.seq >= 1)&&decide (d.seq<=1048576)
theorem dotMay_is (d:GDot):dotMay d=some (wh d):=rfl
theorem ref03MayActor_is (a:GActor):wm a=some (actorB a):=by
 unfold wm actorB;have:decide (a.rep<=15)=decide (a.rep < 16):=decide_eq_decide.2 (by omega);rw [this]
theorem ref03May_is (d:GDot):wU d=some (wh d):=by unfold wU;rw [ref03MayActor_is];rfl
def x7 (a b:GDot):Bool:=if a.actor.rep ≠ b.actor.rep then decide (a.actor.rep < b.actor.rep) else if a.actor.inc ≠ b.actor.inc then decide (a.actor.inc < b.actor.inc) else decide (a.seq < b.seq)
theorem ref03Less_is (a b:GDot):wg a b=some (x7 a b):=by
 unfold wg x7;by_cases h1:a.actor.rep=b.actor.rep <;> by_cases h2:a.actor.inc=b.actor.inc <;> simp [h1,h2]
def cmpI (a b:Int):Int:=if a < b then -1 else if b < a then 1 else 0
theorem cmpU8is (a b:Int):yv a b=some (cmpI a b):=by
 unfold yv x9 cmpI;simp only [bne_self_eq_false,Option.bind_some,Bool.false_eq_true,if_false,decide_eq_true_eq,gt_iff_lt];split <;> (try split) <;> rfl
theorem cmpU32is (a b:Int):xy a b=some (cmpI a b):=by
 unfold xy xP cmpI;simp only [bne_self_eq_false,Option.bind_some,Bool.false_eq_true,if_false,decide_eq_true_eq,gt_iff_lt];split <;> (try split) <;> rfl
theorem cmpU64is (a b:Int):yS a b=some (cmpI a b):=by
 unfold yS xO cmpI;simp only [bne_self_eq_false,Option.bind_some,Bool.false_eq_true,if_false,decide_eq_true_eq,gt_iff_lt];split <;> (try split) <;> rfl
def or2 (a b:Int):Int:=if a ≠ 0 then a else b
theorem cmpOr2_is (a b:Int):vK [a,b]=some (or2 a b):=by
 unfold vK or2;by_cases h1:a=0 <;> by_cases h2:b=0 <;> simp [zj,h1,h2]
def actorCmp (a b:GActor):Int:=or2 (cmpI a.rep b.rep) (cmpI a.inc b.inc)
def dotCmp (a b:GDot):Int:=or2 (actorCmp a.actor b.actor) (cmpI a.seq b.seq)
theorem dotXcompare_is (a b:GActor):vJ a b=some (actorCmp a b):=by
 unfold vJ;rw [cmpU8is,cmpU32is];simp only [Option.bind_some];rw [cmpOr2_is];rfl
theorem dotCompare_is (a b:GDot):x8 a b=some (dotCmp a b):=by
 unfold x8;rw [dotXcompare_is,cmpU64is];simp only [Option.bind_some];rw [cmpOr2_is];rfl
theorem dotCmp_lt (a b:GDot):decide (dotCmp a b >= 0)=!x7 a b:=by
 unfold dotCmp actorCmp x7 cmpI or2
 grind

def rising:List GDot->Bool
 | a::b::r=>x7 a b&&rising (b::r)
 | _=>true
def xA (ds:List GDot) (i:Nat) (x:GDot):Bool:=decide (i=0) || x7 (ds.getD (i - 1) default) x
theorem rising_loop (ds:List GDot) {g:Nat->GDot->Unit->Option (Out Bool Unit)}
  (d:∀i x,ds[i]?=some x->g i x ()=if (wh x&&xA ds i x)=true then some (.nxt ()) else some (.ret false)) :
  lp (zj g ds 0 ()) (λ_=>some true)=some (ds.all wh&&rising ds):=by
 have key:∀(L pre:List GDot),ds=pre++L->lp (zj g L pre.length ()) (λ_=>some true)=some (L.all wh&&rising (match pre.getLast? with | some y=>y::L | none=>L)):=by
  intro L
  induction L with
  | nil=>intro pre h;cases hp:pre.getLast? <;> simp [zj,rising]
  | cons x t ih =>
   intro pre h;have j:ds[pre.length]?=some x:=by rw [h];simp
   have a:=ih (pre++[x]) (by rw [h];simp);simp only [List.length_append,List.length_cons,List.length_nil,Nat.zero_add,List.getLast?_append,List.getLast?_singleton,Option.some_or] at a;simp only [zj,d _ _ j];cases hp:pre.getLast? with
   | none =>
    have b:pre=[]:=List.getLast?_eq_none_iff.1 hp;subst b;simp only [List.length_nil,Nat.zero_add] at a ⊢;cases hd:wh x <;> simp [xA,hd,a]
   | some y =>
    have c:pre ≠ []:=by rintro rfl;simp at hp
    have h0:0 < pre.length:=List.length_pos_iff.2 c;have e:ds.getD (pre.length - 1) default=y:=by
     rw [List.getD_eq_getElem?_getD,h,List.getElem?_append_left (by omega)];rw [List.getLast?_eq_getElem?] at hp;rw [hp];rfl
    have f:xA ds pre.length x=x7 y x:=by
     unfold xA;rw [e];have:decide (pre.length=0)=false:=decide_eq_false (by omega);rw [this];rfl
    rw [f];cases hd:wh x <;> cases hlt:x7 y x <;> simp [hd,hlt,a,rising]
 have:=key ds [] rfl;simpa using this
theorem same_loop {α:Type} [DecidableEq α] (M:List α) {eq:α->α->Bool} (d:∀a b,eq a b=decide (a=b)) {f:Nat->α->Unit->Option (Out Bool Unit)} :
  ∀(L:List α) (i:Nat),L.length+i=M.length->(∀j x,L[j]?=some x->f (i+j) x ()=(yd M ((i+j:Nat):Int)).bind λy=>if (!eq x y)=true then some (.ret false) else some (.nxt ())) ->
  zj f L i ()=if L=M.drop i then some (.inr ()) else some (.inl false)
 | [],i,hl,_=>by
  rw [List.drop_of_length_le (by simp at hl;omega)];rfl
 | x::t,i,hl,h=>by
  simp only [List.length_cons] at hl;have hi:i < M.length:=by omega
  have h0:=h 0 x rfl;simp only [Nat.add_zero] at h0;rw [vS hi] at h0;have k:=same_loop M d (f:=f) t (i+1) (by omega) (λj y g=>by have:=h (j+1) y g;rw [show i+1+j=i+(j+1) by omega];exact this);have e:M.drop i=M[i]::M.drop (i+1):=(List.getElem_cons_drop hi).symm;simp only [zj,h0,Option.bind_some,d,e];by_cases hx:x=M[i]
  ·simp only [hx,decide_true,Bool.not_true,Bool.false_eq_true,if_false,k,List.cons.injEq,true_and]
  ·have c:¬ (x::t=M[i]::M.drop (i+1)):=λhh=>hx (List.cons.inj hh).1;simp only [decide_eq_false hx,Bool.not_false,if_true,if_neg c]
theorem dotEq (a b:GDot):(a.actor.rep==b.actor.rep&&(a.actor.inc==b.actor.inc&&(a.seq==b.seq&&true)))=decide (a=b):=by
 rcases a with ⟨⟨e,c⟩,a3⟩;rcases b with ⟨⟨f,d⟩,g⟩
 rw [Bool.eq_iff_iff];simp [and_assoc]
theorem slicesEqualDot_is (L M:List GDot):xU L M=some (decide (L=M)):=by
 unfold xU;by_cases hl:L.length=M.length
 ·have e:((L.length:Int) != (M.length:Int))=false:=by simp;omega
  rw [e,same_loop M dotEq L 0 (by omega) (λj x a=>by simp)];by_cases h:L=M <;> simp [h]
 ·have e:((L.length:Int) != (M.length:Int))=true:=by simp;omega
  rw [e,decide_eq_false (λh=>hl (by rw [h]))];rfl
section
variable {α ρ:Type}
def qF (g:Nat->α->Bool) (L:List α):Bool:=L.zipIdx.all λp=>g p.2 p.1
theorem xz {g:Nat->α->Bool} {L:List α}:qF g L=true ↔ ∀i x,L[i]?=some x->g i x=true:=by
 unfold qF;rw [List.all_eq_true];constructor
 ·intro h i x a;exact h (x,i) (List.mem_zipIdx_iff_getElem?.2 a)
 ·rintro h ⟨x,i⟩ a
  exact h i x (List.mem_zipIdx_iff_getElem?.1 a)
theorem loopL_allI (g:Nat->α->Bool) {r:ρ} {f:Nat->α->Unit->Option (Out ρ Unit)}:∀(L:List α) (k:Nat),(∀i x,L[i]?=some x->f (k+i) x ()=if g (k+i) x=true then some (.nxt ()) else some (.ret r)) ->
  zj f L k ()=if ((L.zipIdx k).all λp=>g p.2 p.1)=true then some (.inr ()) else some (.inl r)
 | [],_,_=>rfl
 | x::t,k,h=>by
  have h0:=h 0 x rfl;simp only [Nat.add_zero] at h0;have a:=loopL_allI g (f:=f) (r:=r) t (k+1) (λi y b=>by have:=h (i+1) y (by simpa using b);rw [show k+1+i=k+(i+1) by omega];exact this);simp only [zj,h0,List.zipIdx_cons,List.all_cons];by_cases hg:g k x=true
  ·simp only [hg,if_true,a,Bool.true_and]
  ·simp only [hg,Bool.false_eq_true,if_false,Bool.false_and]
theorem vh {σ:Type} (g:Nat->α->Bool) {r:σ} {L:List α} {f:Nat->α->Unit->Option (Out σ Unit)} {rest:Unit->Option σ} (a:∀i x,L[i]?=some x->f i x ()=if g i x=true then some (.nxt ()) else some (.ret r)) :
  lp (zj f L 0 ()) rest=if qF g L=true then rest () else some r:=by
 rw [loopL_allI g L 0 (λi x b=>by simpa using a i x b)];unfold qF;split <;> rfl
theorem lp_all0 {σ:Type} (g:α->Bool) {r:σ} {L:List α} {f:Nat->α->Unit->Option (Out σ Unit)} {rest:Unit->Option σ} (b:∀i x,L[i]?=some x->f i x ()=if g x=true then some (.nxt ()) else some (.ret r)) :
  lp (zj f L 0 ()) rest=if L.all g=true then rest () else some r:=by
 rw [vh (λ_=>g) b];have:qF (λ_=>g) L=L.all g:=by
  rw [Bool.eq_iff_iff,xz,List.all_eq_true];exact ⟨λh x a=>by obtain ⟨i,hi⟩:=List.mem_iff_getElem?.1 a;exact h i x hi,λh i x a=>h x (List.mem_of_getElem? a)⟩
 rw [this]
end
theorem wE {j:Nat} (a:j+1<=maxLen):IntKind.wrap .i64 (((j+1:Nat):Int) - 1)=(j:Int):=by
 simp only [maxLen] at a;rw [w64n (by omega)];omega
theorem wrap_add1 {j:Nat} (a:j+1<=maxLen):IntKind.wrap .i64 ((j:Int)+1)=((j+1:Nat):Int):=by
 simp only [maxLen] at a;rw [w64n (by omega)];omega
theorem vD (j:Nat):decide (((j+1:Nat):Int) > 0)=true:=decide_eq_true (by omega)
def vU (n:Int):Bool:=decide (n >= 1)&&decide (n<=1099511627776)
def aheadI (a b:GItem):Bool:=if a.time ≠ b.time then decide (a.time < b.time) else x7 a.dot b.dot
theorem leafXisTime_is (n:Int):vG n=some (vU n):=rfl
theorem leafXisText_is (s:ze):wK s=some (decide (s.length<=40)):=by unfold wK;rw [decide_eq_decide.2 (show ((s.length:Int)<=40) ↔ s.length<=40 by omega)]
theorem dotCmp_neg (a b:GDot):decide (dotCmp a b < 0)=x7 a b:=by
 have h:=dotCmp_lt a b;have:decide (dotCmp a b < 0)=!decide (dotCmp a b >= 0):=by rw [Bool.eq_iff_iff];simp
 rw [this,h,Bool.not_not]
theorem leafAhead_is (a:Int) (d:GDot) (b:Int) (o:GDot):qd a d b o=some (if a ≠ b then decide (a < b) else x7 d o):=by
 unfold qd wX;rw [cmpU64is,dotCompare_is];simp only [Option.bind_some,cmpOr2_is];congr 1;by_cases h:a=b
 ·subst h;have:cmpI a a=0:=by unfold cmpI;simp
  simp [or2,this,dotCmp_neg]
 ·have:cmpI a b ≠ 0:=by unfold cmpI;split <;> (try split) <;> omega
  simp only [or2,this,ne_eq,not_false_eq_true,if_true,h];unfold cmpI;rw [Bool.eq_iff_iff];simp only [decide_eq_true_eq];split <;> (try split) <;> omega
theorem ref05Ahead_is (a:Int) (d:GDot) (b:Int) (o:GDot):xY a d b o=some (if a ≠ b then decide (a < b) else x7 d o):=by
 unfold xY;by_cases h:a=b <;> simp [h,ref03Less_is]
def prevI {α:Type} [Inhabited α] (L:List α) (i:Nat):α:=L.getD (i - 1) default
def wq (timed:Bool) (x:GItem):Bool:=wh x.dot&&decide (x.text.length<=40)&&(if timed then vU x.time else decide (x.time=0))
def riseB (L:List GItem):Bool:=qF (λi x=>decide (i=0) || aheadI (prevI L i) x) L
def onceB (L:List GItem):Bool:=decide ((L.map (·.dot)).Nodup)
theorem eqb_iff (a b:GDot):GDot.eqb a b=decide (a=b):=by unfold GDot.eqb;exact dotEq a b
def wY (m:List (GDot×Int)):List GDot:=m.map (·.1)
theorem mput_keys (m:List (GDot×Int)) (k:GDot) (v:Int):wY (mput GDot.eqb m k v)=if k ∈ wY m then wY m else wY m++[k]:=by
 induction m with
 | nil=>simp [mput,wY]
 | cons e r ih =>
  simp only [mput,eqb_iff];by_cases h:k=e.1
  ·simp [h,wY]
  ·simp only [decide_eq_false h,Bool.false_eq_true,if_false,wY,List.map_cons,List.mem_cons] at ih ⊢;rw [ih];by_cases h2:k ∈ r.map (·.1) <;> simp [h,h2]
theorem twice_fold:∀(L:List GItem) (m:List (GDot×Int)),(wY m).Nodup ->
  (L.foldl (λs x=>mput GDot.eqb s x.dot (IntKind.wrap .i64 ((xg GDot.eqb 0 s x.dot)+1))) m).length<=m.length+L.length /\
  ((L.foldl (λs x=>mput GDot.eqb s x.dot (IntKind.wrap .i64 ((xg GDot.eqb 0 s x.dot)+1))) m).length=m.length+L.length ↔ (wY m++L.map (·.dot)).Nodup)
 | [],m,h=>by simp [h]
 | x::t,m,h=>by
  simp only [List.foldl_cons];have c:=mput_keys m x.dot (IntKind.wrap .i64 ((xg GDot.eqb 0 m x.dot)+1));generalize hm:mput GDot.eqb m x.dot (IntKind.wrap .i64 ((xg GDot.eqb 0 m x.dot)+1))=m' at c;have f:m'.length=(wY m').length:=by simp [wY]
  have l:m.length=(wY m).length:=by simp [wY]
  by_cases hx:x.dot ∈ wY m
  ·rw [if_pos hx] at c;have d:=twice_fold t m' (by rw [c];exact h);rw [c] at d f;refine ⟨by simp only [List.length_cons];omega,?_⟩;constructor
   ·intro k;simp only [List.length_cons] at k;omega
   ·intro j;rw [List.nodup_append] at j;exact absurd rfl (j.2.2 _ hx _ (by simp))
  ·rw [if_neg hx] at c;have g:(wY m++[x.dot]).Nodup:=by
    rw [List.nodup_append];refine ⟨h,by simp,λa n b i=>?_⟩;simp at i;subst i;rintro rfl;exact hx n
   have d:=twice_fold t m' (by rw [c];exact g);rw [c] at d f;simp only [List.length_append,List.length_cons,List.length_nil] at f;refine ⟨by simp only [List.length_cons];omega,?_⟩;have e:wY m++[x.dot]++t.map (·.dot)=wY m++(x::t).map (·.dot):=by simp
   rw [<- e,<- d.2];simp only [List.length_cons];omega
theorem leafXtwice_is (L:List GItem):qv L=some (!onceB L):=by
 unfold qv;rw [loopL_fold (λs x=>mput GDot.eqb s x.dot (IntKind.wrap .i64 ((xg GDot.eqb 0 s x.dot)+1))) L 0 [] (λ_ _ _ _=>rfl)];have h:=twice_fold L [] (by simp [wY]);simp only [List.length_nil,Nat.zero_add,wY,List.map_nil,List.nil_append] at h;simp only [wz,onceB];congr 1;generalize List.length (List.foldl _ _ _)=n at h ⊢;by_cases hn:(L.map (·.dot)).Nodup
 ·have:=h.2.2 hn;rw [decide_eq_true hn,decide_eq_false (by omega)];rfl
 ·have a:n ≠ L.length:=λe=>hn (h.2.1 e);rw [decide_eq_false hn,decide_eq_true (by omega)];rfl
theorem leafXitems_is {L:List GItem} (d:L.length<=maxLen) (a:Bool):vj L a=some (L.all (wq a)&&riseB L&&onceB L):=by
 unfold vj;rw [vh (r:=false) (λi x=>wq a x&&(decide (i=0) || aheadI (prevI L i) x))]
 ·rw [leafXtwice_is];have e:qF (λi x=>wq a x&&(decide (i=0) || aheadI (prevI L i) x)) L=(L.all (wq a)&&riseB L):=by
   rw [Bool.eq_iff_iff,Bool.and_eq_true,riseB,xz,xz,List.all_eq_true];constructor
   ·intro h;exact ⟨λx b=>by obtain ⟨i,hi⟩:=List.mem_iff_getElem?.1 b;have:=h i x hi;simp only [Bool.and_eq_true] at this;exact this.1,λi x b=>by have:=h i x b;simp only [Bool.and_eq_true] at this;exact this.2⟩
   ·rintro ⟨k,m⟩ i x b
    simp only [Bool.and_eq_true];exact ⟨k x (List.mem_of_getElem? b),m i x b⟩
  rw [e];simp only [Option.bind_some,Bool.not_not];cases L.all (wq a)&&riseB L <;> simp
 ·intro i x b;have hi:i < L.length:=(List.getElem?_eq_some_iff.1 b).1;simp only [dotMay_is,leafXisText_is,leafXisTime_is,Option.bind_some,leafAhead_is];have l:wq a x=(wh x.dot&&decide (x.text.length<=40)&&(a==vU x.time)&&(a || decide (x.time=0))):=by
   unfold wq;cases a
   ·by_cases h0:x.time=0
    ·simp [h0,show vU 0=false from rfl]
    ·simp [h0]
   ·simp
  rw [l];cases hd:wh x.dot
  ·simp
  cases ht:decide (x.text.length<=40)
  ·simp
  by_cases htt:a=vU x.time
  ·have g:(x.time != 0)=!decide (x.time=0):=by rw [Bool.eq_iff_iff];simp
   have c:(a==vU x.time)=true:=by simpa using htt
   rw [g,c];cases hzz:(a || decide (x.time=0))
   ·have:(!a&&!decide (x.time=0))=true:=by rw [<- Bool.not_or,hzz];rfl
    simp [this]
   have:(!a&&!decide (x.time=0))=false:=by rw [<- Bool.not_or,hzz];rfl
   rw [this];rcases i with _ | j
   ·simp [zB,htt]
   ·rw [wE (by simp only [maxLen] at d ⊢;omega),vD];have f:(j:Int) < (L.length:Int):=by omega
    simp [zB,f,prevI,aheadI,htt];by_cases hq:(L[j]?.getD default).time=x.time
    ·cases hdl:x7 (L[j]?.getD default).dot x.dot <;> simp [hq,hdl]
    ·by_cases hlt:(L[j]?.getD default).time < x.time
     ·simp [hq,hlt,Int.not_le.2 hlt]
     ·simp [hq,hlt,Int.not_lt.1 hlt]
  ·have c:(a==vU x.time)=false:=by simpa using htt
   rw [c];simp [htt]

theorem itemEq (a b:GItem):(a.time==b.time&&(a.dot.actor.rep==b.dot.actor.rep&&(a.dot.actor.inc==b.dot.actor.inc&&(a.dot.seq==b.dot.seq&&(a.text==b.text&&true)))))=decide (a=b):=by
 rcases a with ⟨a0,⟨⟨f,c⟩,a3⟩,a4⟩;rcases b with ⟨g,⟨⟨h,d⟩,i⟩,e⟩
 rw [Bool.eq_iff_iff];simp [and_assoc]
theorem slicesEqualItem_is (L M:List GItem):xI L M=some (decide (L=M)):=by
 unfold xI;by_cases hl:L.length=M.length
 ·have e:((L.length:Int) != (M.length:Int))=false:=by simp;omega
  rw [e,same_loop M itemEq L 0 (by omega) (λj x a=>by simp)];by_cases h:L=M <;> simp [h]
 ·have e:((L.length:Int) != (M.length:Int))=true:=by simp;omega
  rw [e,decide_eq_false (λh=>hl (by rw [h]))];rfl
theorem leafSame_is (a b:GLeaf):xN a b=some (decide (a=b)):=by
 unfold xN;simp only [slicesEqualItem_is,slicesEqualDot_is,dotEq];rcases a with ⟨a0,h,e,a3,a4,a5,d⟩;rcases b with ⟨i,j,f,l,g,k,c⟩
 simp only [GLeaf.mk.injEq];by_cases h0:a0=i <;> by_cases h1:h=j <;> by_cases h2:e=f <;> by_cases h3:a3=l <;> by_cases h4:a4=g <;> by_cases h5:a5=k <;> by_cases h6:d=c <;> simp [h0,h1,h2,h3,h4,h5,h6]
def dot0:GDot:=⟨⟨0,0⟩,0⟩
def zeroB (l:GLeaf):Bool:=decide (l.time=0)&&decide (l.dot=dot0)&&decide (l.text=[])
def tombsB (l:GLeaf):Bool:=l.tombs.all wh&&rising l.tombs&&l.tombs.all (λd=>!l.items.any λx=>decide (x.dot=d))
def leafB (l:GLeaf):Bool :=
 if l.typ=1 then zeroB l&&decide (l.items=[])&&decide (l.tombs=[])
 else if l.typ=2 then decide (l.n=0)&&decide (l.items=[])&&decide (l.tombs=[])&&(if l.time=0 then decide (l.dot=dot0)&&decide (l.text=[]) else vU l.time&&wh l.dot&&decide (l.text.length<=40))
 else if l.typ=3 then decide (l.n=0)&&zeroB l&&(l.items.all (wq false)&&riseB l.items&&onceB l.items)&&tombsB l
 else if l.typ=4 then decide (l.n=0)&&zeroB l&&decide (l.tombs=[])&&(l.items.all (wq true)&&riseB l.items&&onceB l.items)
 else false
theorem containsItem_is {f:GItem->Option Bool} {q:GItem->Bool} (p:List GItem) (a:∀x ∈ p,f x=some (q x)):yn p f=some (p.any q):=by
 unfold yn yJ;rw [first_loop p a,Option.bind_some,firstI_any]
theorem leafXhas_is (L:List GItem) (d:GDot):qx L d=some (L.any λx=>decide (x.dot=d)):=by
 unfold qx;rw [containsItem_is (q:=λx=>decide (x.dot=d)) L (λx _=>by unfold leafXhasC1;rw [dotEq]),Option.bind_some]
theorem rising_allI (ds:List GDot):rising ds=qF (λi x=>xA ds i x) ds:=by
 have h:=rising_loop ds (g:=λi x _=>if (wh x&&xA ds i x)=true then some (.nxt ()) else some (.ret false)) (λ_ _ _=>rfl);have key:∀(L pre:List GDot),ds=pre++L->rising (match pre.getLast? with | some y=>y::L | none=>L)=(L.zipIdx pre.length).all λp=>xA ds p.2 p.1:=by
  intro L
  induction L with
  | nil=>intro pre _;cases pre.getLast? <;> simp [rising]
  | cons x t ih =>
   intro pre hd;have a:=ih (pre++[x]) (by rw [hd];simp);simp only [List.length_append,List.length_cons,List.length_nil,Nat.zero_add,List.getLast?_append,List.getLast?_singleton,Option.some_or] at a;simp only [List.zipIdx_cons,List.all_cons];cases hp:pre.getLast? with
   | none =>
    have b:pre=[]:=List.getLast?_eq_none_iff.1 hp;subst b;simp only [List.length_nil,Nat.zero_add] at a ⊢;rw [a];simp [xA]
   | some y =>
    have c:pre ≠ []:=by rintro rfl;simp at hp
    have h0:0 < pre.length:=List.length_pos_iff.2 c;have d:ds.getD (pre.length - 1) default=y:=by
     rw [List.getD_eq_getElem?_getD,hd,List.getElem?_append_left (by omega)];rw [List.getLast?_eq_getElem?] at hp;rw [hp];rfl
    have e:xA ds pre.length x=x7 y x:=by
     unfold xA;rw [d,decide_eq_false (by omega)];rfl
    rw [e,<- a];simp [rising]
 simpa [qF] using key ds [] rfl
theorem leafXtombs_is {l:GLeaf} (c:l.tombs.length<=maxLen):qw l=some (tombsB l):=by
 unfold qw;rw [vh (r:=false) (λi x=>wh x&&xA l.tombs i x&&!(l.items.any λy=>decide (y.dot=x)))]
 ·have e:qF (λi x=>wh x&&xA l.tombs i x&&!(l.items.any λy=>decide (y.dot=x))) l.tombs=tombsB l:=by
   unfold tombsB;rw [Bool.eq_iff_iff,rising_allI,Bool.and_eq_true,Bool.and_eq_true,xz,xz,List.all_eq_true,List.all_eq_true];constructor
   ·intro h;refine ⟨⟨λx a=>?_,λi x a=>?_⟩,λx a=>?_⟩
    ·obtain ⟨i,hi⟩:=List.mem_iff_getElem?.1 a;have:=h i x hi;simp only [Bool.and_eq_true] at this;exact this.1.1
    ·have:=h i x a;simp only [Bool.and_eq_true] at this;exact this.1.2
    ·obtain ⟨i,hi⟩:=List.mem_iff_getElem?.1 a;have:=h i x hi;simp only [Bool.and_eq_true] at this;exact this.2
   ·rintro ⟨⟨d,g⟩,k⟩ i x a
    have b:=List.mem_of_getElem? a;simp only [Bool.and_eq_true];exact ⟨⟨d x b,g i x a⟩,k x b⟩
  rw [e];cases tombsB l <;> rfl
 ·intro i x a;have hi:i < l.tombs.length:=(List.getElem?_eq_some_iff.1 a).1;simp only [dotMay_is,Option.bind_some,dotCompare_is,leafXhas_is];cases hd:wh x
  ·simp [zB]
  rcases i with _ | j
  ·cases hh:(l.items.any λy=>decide (y.dot=x)) <;> simp [zB,xA]
  ·rw [wE (by simp only [maxLen] at c ⊢;omega),vD];have m:(j:Int) < (l.tombs.length:Int):=by omega
   have f:xA l.tombs (j+1) x=x7 (l.tombs.getD j default) x:=by unfold xA;simp
   have e:=dotCmp_lt (l.tombs.getD j default) x;rw [zx (by intro _;omega),f,Int.toNat_natCast];generalize l.tombs.getD j default=y at e ⊢;simp only [Bool.not_true,BEq.rfl,Bool.true_and,if_true,Option.bind_some,e,Bool.false_or];cases hlt:x7 y x
   ·simp
   ·cases hh:(l.items.any λy=>decide (y.dot=x)) <;> simp
theorem leafMay_is {l:GLeaf} (hi:l.items.length<=maxLen) (e:l.tombs.length<=maxLen):qO l=some (leafB l):=by
 unfold qO leafB;simp only [leafSame_is,leafXisTime_is,dotMay_is,leafXisText_is,leafXitems_is hi,leafXtombs_is e,dotEq,Option.bind_some];rcases l with ⟨t,n,b,d,c,a,f⟩
 simp only [GLeaf.mk.injEq,zeroB,beq_iff_eq,dot0];by_cases h1:t=1
 ·simp only [h1,if_true];congr 1;rw [Bool.eq_iff_iff];simp [and_assoc];intros;exact decide_eq_true_iff.symm
 by_cases h2:t=2
 ·subst h2;by_cases h0:b=0
  ·subst h0;by_cases hd:d=⟨⟨0,0⟩,0⟩
   ·by_cases hx:c=[]
    ·simp [hd,hx];rw [Bool.eq_iff_iff];simp [and_assoc]
    ·simp [hd,hx]
   ·have h:((0:Int)==0&&!decide (d=⟨⟨0,0⟩,0⟩))=true:=by simp [hd]
    simp [hd];intro i;rcases d with ⟨⟨j,g⟩,k⟩
    simp_all
  ·cases htt:vU b <;> cases hdd:wh d <;> cases hxx:decide (c.length<=40) <;> simp_all [and_assoc];rw [Bool.eq_iff_iff];simp [and_assoc]
 by_cases h3:t=3
 ·subst h3;cases ha:(a.all (wq false)&&riseB a&&onceB a) <;> cases hb:tombsB ⟨3,n,b,d,c,a,f⟩ <;> simp [and_assoc];rw [Bool.eq_iff_iff];simp [and_assoc];intros;exact decide_eq_true_iff.symm
 by_cases h4:t=4
 ·subst h4;cases ha:(a.all (wq true)&&riseB a&&onceB a) <;> simp [and_assoc];rw [Bool.eq_iff_iff];simp [and_assoc];intros;exact decide_eq_true_iff.symm
 simp [h1,h2,h3,h4]

theorem ref05Item_is (L:List GItem) (d:GDot):qa L d=some (vk (λx=>decide (x.dot=d)) L):=by
 unfold qa;rw [loopL_first (λx:GItem=>decide (x.dot=d)) (λi _=>(i:Int)) _ _ (λi x _=>by rw [dotEq])];unfold vk;cases h:L.findIdx? (λx=>decide (x.dot=d)) with
 | none=>simp
 | some j =>
  obtain ⟨a,_⟩:=List.findIdx?_eq_some_iff_getElem.1 h;simp [List.getElem?_eq_getElem a]
theorem ref05Tomb_is (L:List GDot) (d:GDot):wH L d=some (L.any λx=>decide (x=d)):=by
 unfold wH;rw [lp_all0 (r:=true) (λx:GDot=>!decide (x=d)) (λi x _=>by rw [dotEq];cases decide (x=d) <;> rfl)];have e:L.any (λx=>decide (x=d))=!L.all (λx=>!decide (x=d)):=by rw [Bool.eq_iff_iff];simp
 rw [e];cases L.all (λx=>!decide (x=d)) <;> rfl
theorem first_nodup (L:List GItem):(∀(i:Nat) (x:GItem),L[i]?=some x->vk (λy:GItem=>decide (y.dot=x.dot)) L=(i:Int)) ↔ (L.map (·.dot)).Nodup:=by
 constructor
 ·intro h;rw [List.nodup_iff_pairwise_ne,List.pairwise_iff_getElem];intro i j hi a d e;simp only [List.length_map] at hi a;simp only [List.getElem_map] at e;have c:=h i _ (List.getElem?_eq_getElem hi);have f:=h j _ (List.getElem?_eq_getElem a);rw [e] at c;rw [c] at f;omega
 ·intro h i x g;obtain ⟨hi,rfl⟩:=List.getElem?_eq_some_iff.1 g;unfold vk;have:L.findIdx? (λy=>decide (y.dot=L[i].dot))=some i:=by
   rw [List.findIdx?_eq_some_iff_getElem];refine ⟨hi,by simp,λj a=>?_⟩;have b:j < L.length:=by omega
   simp only [decide_eq_true_eq];intro e;rw [List.nodup_iff_pairwise_ne,List.pairwise_iff_getElem] at h;exact h j i (by simpa using b) (by simpa using hi) a (by simpa using e)
  rw [this]
def qP (t:Int) (x:GItem):Bool:=wh x.dot&&decide (x.text.length<=40)&&(decide (t ≠ 3) || decide (x.time=0))&&(decide (t ≠ 4) || vU x.time)
def tailB (l:GLeaf):Bool:=l.items.all (qP l.typ)&&onceB l.items&&l.items.all (λx=>!(l.tombs.any λy=>decide (y=x.dot)))&&riseB l.items&&(l.tombs.all wh&&rising l.tombs)
theorem items_allI (l:GLeaf):qF (λi x=>qP l.typ x&&(decide (vk (λy:GItem=>decide (y.dot=x.dot)) l.items=(i:Int))&&(!(l.tombs.any λy=>decide (y=x.dot))&&(decide (i=0) || aheadI (prevI l.items i) x)))) l.items =
  (l.items.all (qP l.typ)&&onceB l.items&&l.items.all (λx=>!(l.tombs.any λy=>decide (y=x.dot)))&&riseB l.items):=by
 rw [Bool.eq_iff_iff,xz];simp only [Bool.and_eq_true,decide_eq_true_eq,onceB,riseB,xz,List.all_eq_true,<- first_nodup];constructor
 ·intro h;refine ⟨⟨⟨λx a=>?_,λi x a=>(h i x a).2.1⟩,λx a=>?_⟩,λi x a=>(h i x a).2.2.2⟩
  ·obtain ⟨i,hi⟩:=List.mem_iff_getElem?.1 a;exact (h i x hi).1
  ·obtain ⟨i,hi⟩:=List.mem_iff_getElem?.1 a;exact (h i x hi).2.2.1
 ·rintro ⟨⟨⟨c,d⟩,f⟩,e⟩ i x a
  have b:=List.mem_of_getElem? a;exact ⟨c x b,d i x a,f x b,e i x a⟩
theorem tombs_allI (ds:List GDot):qF (λi x=>wh x&&xA ds i x) ds=(ds.all wh&&rising ds):=by
 rw [Bool.eq_iff_iff,xz,rising_allI];simp only [Bool.and_eq_true,xz,List.all_eq_true];constructor
 ·intro h;exact ⟨λx a=>by obtain ⟨i,hi⟩:=List.mem_iff_getElem?.1 a;exact (h i x hi).1,λi x a=>(h i x a).2⟩
 ·rintro ⟨b,c⟩ i x a
  exact ⟨b x (List.mem_of_getElem? a),c i x a⟩
theorem ref05May_is {l:GLeaf} (hi:l.items.length<=maxLen) (C:l.tombs.length<=maxLen) (h0:0<=l.time):qp l=some (leafB l):=by
 unfold qp;simp only [ref03May_is,ref05Item_is,ref05Tomb_is,ref05Ahead_is,ref03Less_is,Option.bind_some,dotEq];generalize hT:lp (zj _ l.items 0 ()) _=T;have E:decide ((l.items.length:Int) > 0)=!decide (l.items=[]):=by cases l.items <;> simp
 have t:decide ((l.tombs.length:Int) > 0)=!decide (l.tombs=[]):=by cases l.tombs <;> simp
 have g:T=some (tailB l):=by
  rw [<- hT,vh (r:=false) (λi x=>qP l.typ x&&(decide (vk (λy:GItem=>decide (y.dot=x.dot)) l.items=(i:Int))&&(!(l.tombs.any λy=>decide (y=x.dot))&&(decide (i=0) || aheadI (prevI l.items i) x))))]
  ·rw [vh (r:=false) (λi x=>wh x&&xA l.tombs i x)]
   ·rw [items_allI,tombs_allI];unfold tailB;cases (l.items.all (qP l.typ)&&onceB l.items&&l.items.all (λx=>!(l.tombs.any λy=>decide (y=x.dot)))&&riseB l.items) <;> cases (l.tombs.all wh&&rising l.tombs) <;> simp
   ·intro i x b;have k:i < l.tombs.length:=(List.getElem?_eq_some_iff.1 b).1;have p:l.tombs.getD i default=x:=by rw [List.getD_eq_getElem?_getD,b];rfl
    rcases i with _ | j
    ·cases hd:wh x <;> simp [zB,xA]
    ·rw [wE (by simp only [maxLen] at C ⊢;omega),vD,Int.toNat_natCast,Int.toNat_natCast,p];have f:xA l.tombs (j+1) x=x7 (l.tombs.getD j default) x:=by unfold xA;simp
     rw [zx (by intro _;omega),zx (by intro _;omega),f];generalize l.tombs.getD j default=y;cases hd:wh x <;> cases s:x7 y x <;> simp
  ·intro i x b;have k:i < l.items.length:=(List.getElem?_eq_some_iff.1 b).1;have w:decide ((x.text.length:Int) > 40)=!decide (x.text.length<=40):=by rw [Bool.eq_iff_iff];simp;omega
   have u:(((l.typ==4)&&(decide (x.time < 1) || decide (x.time > 1099511627776))))=!(decide (l.typ ≠ 4) || vU x.time):=by
    rw [Bool.eq_iff_iff];simp [vU]
   have G:((l.typ==3)&&(x.time != 0))=!(decide (l.typ ≠ 3) || decide (x.time=0)):=by rw [Bool.eq_iff_iff];simp
   rw [w,u,G];have F:(((!wh x.dot || !decide (x.text.length<=40)) || !(decide (l.typ ≠ 3) || decide (x.time=0))) || !(decide (l.typ ≠ 4) || vU x.time))=!qP l.typ x:=by unfold qP;simp only [Bool.not_and]
   rw [F];have A:(vk (λy:GItem=>decide (y.dot=x.dot)) l.items != (i:Int))=!decide (vk (λy:GItem=>decide (y.dot=x.dot)) l.items=(i:Int)):=by rw [Bool.eq_iff_iff];simp
   cases hr:qP l.typ x
   ·simp
   simp only [Bool.not_true,BEq.rfl,if_true,Option.bind_some,Bool.false_or];rw [A];cases hf:decide (vk (λy:GItem=>decide (y.dot=x.dot)) l.items=(i:Int))
   ·simp
   cases htb:l.tombs.any λy=>decide (y=x.dot)
   ·rcases i with _ | j
    ·simp [zB]
    ·rw [wE (by simp only [maxLen] at hi ⊢;omega),vD,Int.toNat_natCast];rw [zx (by intro _;omega),zx (by intro _;omega)];have f:(if (l.items.getD j default).time ≠ x.time then decide ((l.items.getD j default).time < x.time) else x7 (l.items.getD j default).dot x.dot)=aheadI (prevI l.items (j+1)) x:=rfl;rw [f];cases aheadI (prevI l.items (j+1)) x <;> simp
   ·simp
 subst g;clear hT;rw [E,t];have B:(l.time != 0)=!decide (l.time=0):=by rw [Bool.eq_iff_iff];simp
 have D:(l.time==0)=decide (l.time=0):=by rw [Bool.eq_iff_iff];simp
 have z3:(l.text==([]:ze))=decide (l.text=[]):=by rw [Bool.eq_iff_iff];simp
 have z4:decide (l.time > 1099511627776)=!decide (l.time<=1099511627776):=by rw [Bool.eq_iff_iff];simp
 have z5:decide ((l.text.length:Int) > 40)=!decide (l.text.length<=40):=by rw [Bool.eq_iff_iff];simp;omega
 have o:zeroB l=(decide (l.time=0)&&decide (l.dot=dot0)&&decide (l.text=[])):=rfl;have v:(l.dot.actor.rep==0&&(l.dot.actor.inc==0&&(l.dot.seq==0&&true)))=decide (l.dot=dot0):=dotEq l.dot dot0;rw [B,D,z3,z4,z5,v];by_cases h1:l.typ=1
 ·have hi:decide (l.items=[])=true->tailB l=(l.tombs.all wh&&rising l.tombs):=by
   intro h;have:=of_decide_eq_true h;unfold tailB;rw [this];simp [onceB,riseB,qF]
  unfold leafB;simp only [h1,if_true,o];cases hi2:decide (l.items=[])
  ·simp
  ·rw [hi hi2];cases ht2:decide (l.tombs=[])
   ·simp
   ·have:=of_decide_eq_true ht2;rw [this];cases decide (l.time=0) <;> cases decide (l.dot=dot0) <;> cases decide (l.text=[]) <;> simp [rising]
 by_cases h2:l.typ=2
 ·have hi:decide (l.items=[])=true->tailB l=(l.tombs.all wh&&rising l.tombs):=by
   intro h;have:=of_decide_eq_true h;unfold tailB;rw [this];simp [onceB,riseB,qF]
  unfold leafB;have c:vU l.time=(!decide (l.time=0)&&decide (l.time<=1099511627776)):=by
   unfold vU;rw [Bool.eq_iff_iff];simp;omega
  simp only [h2,if_true,c];cases hn:decide (l.n=0)
  ·have:(l.n != 0)=true:=by simpa using hn
   simp [this]
  ·have a:l.n=0:=of_decide_eq_true hn;cases hi2:decide (l.items=[])
   ·simp [a]
   ·rw [hi hi2];cases ht2:decide (l.tombs=[])
    ·simp [a]
    ·have:=of_decide_eq_true ht2;rw [this];by_cases ht0:l.time=0
     ·cases hdd:decide (l.dot=dot0) <;> cases htx:decide (l.text=[]) <;> simp [a,ht0,rising]
     ·cases hm:decide (l.time<=1099511627776) <;> cases hdd:wh l.dot <;> cases htx:decide (l.text.length<=40) <;> simp [a,ht0,rising]
 by_cases h3:l.typ=3
 ·have q:(λx=>qP 3 x)=wq false:=by
   funext x;unfold qP wq;simp
  have m:tailB l=(l.items.all (wq false)&&riseB l.items&&onceB l.items&&tombsB l):=by
   unfold tailB tombsB;rw [h3,show qP 3=wq false from q];have z:l.items.all (λx=>!(l.tombs.any λy=>decide (y=x.dot)))=l.tombs.all (λd=>!l.items.any λx=>decide (x.dot=d)):=by
    rw [Bool.eq_iff_iff];simp only [List.all_eq_true,Bool.not_eq_true',List.any_eq_false,decide_eq_true_eq];exact ⟨λh d hd x b e=>h x b d hd e.symm,λh x b d hd e=>h d hd x b e.symm⟩
   rw [z];cases l.items.all (wq false) <;> cases onceB l.items <;> cases riseB l.items <;> cases l.tombs.all wh <;> cases rising l.tombs <;> cases l.tombs.all (λd=>!l.items.any λx=>decide (x.dot=d)) <;> rfl
  unfold leafB;simp only [h3,m,o];cases hn:decide (l.n=0)
  ·have:(l.n != 0)=true:=by simpa using hn
   simp [this]
  ·have a:l.n=0:=of_decide_eq_true hn;cases decide (l.time=0) <;> cases decide (l.dot=dot0) <;> cases decide (l.text=[]) <;> simp [a]
 by_cases h4:l.typ=4
 ·have q:(λx=>qP 4 x)=wq true:=by
   funext x;unfold qP wq;simp
  have m:decide (l.tombs=[])=true->tailB l=(l.items.all (wq true)&&riseB l.items&&onceB l.items):=by
   intro h;have:=of_decide_eq_true h;unfold tailB;rw [h4,show qP 4=wq true from q,this];cases l.items.all (wq true) <;> cases onceB l.items <;> cases riseB l.items <;> simp [rising]
  unfold leafB;simp only [h4,o];cases hn:decide (l.n=0)
  ·have:(l.n != 0)=true:=by simpa using hn
   simp [this]
  ·have a:l.n=0:=of_decide_eq_true hn;cases ht2:decide (l.tombs=[])
   ·simp [a]
   ·rw [m ht2];cases decide (l.time=0) <;> cases decide (l.dot=dot0) <;> cases decide (l.text=[]) <;> simp [a]
 have s:l.typ < 1 \/ 4 < l.typ:=by omega
 have:(decide (l.typ < 1) || decide (l.typ > 4))=true:=by simp;omega
 unfold leafB;rw [this,if_neg h1,if_neg h2,if_neg h3,if_neg h4];simp

mutual
def GNode.dep:GNode->Nat
 | ⟨_,_,sb⟩=>GNode.deps sb+1
def GNode.deps:List GNode->Nat
 | []=>0
 | x::r=>max x.dep (GNode.deps r)
end
theorem qX {x:GNode}:∀{t:List GNode},x ∈ t->x.dep<=GNode.deps t
 | [],h=>by cases h
 | y::r,h=>by
  simp only [GNode.deps];rcases List.mem_cons.1 h with rfl | h
  ·omega
  ·have:=qX h;omega
theorem wr (x:GNode):GNode.deps x.subs+1=x.dep:=by cases x;simp [GNode.dep]
def Small (t:List GNode):Prop:=GNode.wfs t/\GNode.bks t<=16777216
theorem bk_pos (x:GNode):1<=x.bk:=by cases x;simp only [GNode.bk];omega
theorem len_bks:∀t:List GNode,t.length<=GNode.bks t
 | []=>by simp [GNode.bks]
 | x::r=>by have:=len_bks r;have:=bk_pos x;simp only [GNode.bks,List.length_cons];omega
theorem bk_mem {x:GNode}:∀{t:List GNode},x ∈ t->x.bk<=GNode.bks t
 | [],h=>by cases h
 | y::r,h=>by
  simp only [GNode.bks];rcases List.mem_cons.1 h with rfl | h
  ·omega
  ·have:=bk_mem h;omega
theorem sum_len {α:Type} {f:α->Nat} (h:∀x,1<=f x):∀l:List α,l.length<=(l.map f).sum
 | []=>by simp
 | x::r=>by have:=sum_len h r;have:=h x;simp only [List.length_cons,List.map_cons,List.sum_cons];omega
theorem sum_mem {α:Type} {f:α->Nat} {x:α}:∀{l:List α},x ∈ l->f x<=(l.map f).sum
 | [],h=>by cases h
 | y::r,h=>by
  simp only [List.map_cons,List.sum_cons];rcases List.mem_cons.1 h with rfl | h
  ·omega
  ·have:=sum_mem (f:=f) h;omega
theorem bk_node (x:GNode):x.name.length+1+((x.leaves.map GLeaf.bk).sum+1)+(GNode.bks x.subs+1)<=x.bk:=by cases x;simp only [GNode.bk];omega
theorem Small.subs {t:List GNode} (h:Small t) {x:GNode} (a:x ∈ t):Small x.subs:=by
 refine ⟨?_,by have:=bk_mem a;have:=bk_node x;have:=h.2;omega⟩;have:=(GNode.wfs_iff t).1 h.1 x a;cases x;simp only [GNode.wf] at this;exact this.2.2
theorem Small.len {t:List GNode} (h:Small t):t.length<=16777216:=Nat.le_trans (len_bks t) h.2
structure LeafOk (l:GLeaf):Prop where
 items:l.items.length<=16777216
 tombs:l.tombs.length<=16777216
 time:0<=l.time
theorem Small.leaf {t:List GNode} (h:Small t) {x:GNode} (b:x ∈ t) {l:GLeaf} (a:l ∈ x.leaves):LeafOk l:=by
 have c:=bk_mem b;have i:=bk_node x;have k:=h.2;have j:l.bk<=_:=sum_mem (f:=GLeaf.bk) a;have d:(l.items.map GItem.bk).sum+1+((l.tombs.map GDot.bk).sum+1)<=l.bk:=by unfold GLeaf.bk;omega
 have e:=sum_len (f:=GItem.bk) (λx=>by unfold GItem.bk;omega) l.items;have g:=sum_len (f:=GDot.bk) (λx=>by unfold GDot.bk;omega) l.tombs;refine ⟨by omega,by omega,?_⟩;have:=(GNode.wfs_iff t).1 h.1 x b;cases x;simp only [GNode.wf] at this;have:=this.2.1.2 l a;unfold GLeaf.wf at this;have:=this.2.2.1;unfold InK at this;simp [IntKind.min,IntKind.max,IntKind.signed,IntKind.bits] at this;omega
theorem Small.leaves {t:List GNode} (h:Small t) {x:GNode} (a:x ∈ t):x.leaves.length<=16777216:=by
 have b:=bk_mem a;have d:=bk_node x;have e:=h.2;have c:=sum_len (f:=GLeaf.bk) (λx=>by unfold GLeaf.bk;omega) x.leaves;omega
def upB (t:List GNode):Bool:=qF (λi x=>decide (i=0) || Op.bytesLess (t.getD (i - 1) default).name x.name) t
def leavesB (ls:List GLeaf):Bool:=qF (λi l=>leafB l&&(decide (i=0) || decide ((ls.getD (i - 1) default).typ < l.typ))) ls
mutual
def nodeB (d:Nat):GNode->Bool
 | ⟨nm,ls,sb⟩=>nameB nm&&!(ls.isEmpty&&sb.isEmpty)&&((sb.isEmpty || decide (d+1 < 3))&&upB sb&&vR (d+1) sb)&&leavesB ls
def vR (d:Nat):List GNode->Bool
 | []=>true
 | x::r=>nodeB d x&&vR d r
end
def treeB (d:Nat) (t:List GNode):Bool:=(t.isEmpty || decide (d < 3))&&upB t&&vR d t
theorem nodesB_all (d:Nat):∀t,vR d t=t.all (nodeB d)
 | []=>rfl
 | x::r=>by simp only [vR,List.all_cons,nodesB_all d r]
theorem nodeB_eq (d:Nat) (x:GNode):nodeB d x=(nameB x.name&&!(x.leaves.isEmpty&&x.subs.isEmpty)&&treeB (d+1) x.subs&&leavesB x.leaves):=by cases x;rfl
theorem up_nodes (d:Nat) (t:List GNode):qF (λi x=>nodeB d x&&(decide (i=0) || Op.bytesLess (t.getD (i - 1) default).name x.name)) t=(upB t&&vR d t):=by
 rw [Bool.eq_iff_iff,xz,nodesB_all];simp only [Bool.and_eq_true,upB,xz,List.all_eq_true];constructor
 ·intro h;exact ⟨λi x a=>(h i x a).2,λx a=>by obtain ⟨i,hi⟩:=List.mem_iff_getElem?.1 a;exact (h i x hi).1⟩
 ·rintro ⟨b,c⟩ i x a
  exact ⟨c x (List.mem_of_getElem? a),b i x a⟩
theorem lenE {α:Type} (l:List α):((l.length:Int)==0)=l.isEmpty:=by cases l <;> simp;omega
theorem treeXmayN_is:∀(n:Nat) (t:List GNode) (d:Nat),GNode.deps t < n->d<=3->Small t->wF n t (d:Int)=some (treeB d t)
 | 0,_,_,h,_,_=>by omega
 | n+1,t,d,h,hd,hs=>by
  unfold wF;by_cases hc:(decide ((t.length:Int) > 0)&&((d:Int)==3))=true
  ·rw [if_pos hc];simp only [Bool.and_eq_true,decide_eq_true_eq,beq_iff_eq] at hc;have:t.isEmpty=false:=by cases t <;> simp at hc ⊢
   have a:decide (d < 3)=false:=decide_eq_false (by omega);simp [treeB,this,a]
  ·rw [if_neg hc];have m:(t.isEmpty || decide (d < 3))=true:=by
    simp only [Bool.and_eq_true,decide_eq_true_eq,beq_iff_eq] at hc;cases t with
    | nil=>rfl
    | cons x r=>simp at hc ⊢;omega
   have F:=hs.len;rw [vh (r:=false) (λi x=>nodeB d x&&(decide (i=0) || Op.bytesLess (t.getD (i - 1) default).name x.name)),up_nodes]
   ·unfold treeB;rw [m,Bool.true_and];cases upB t&&vR d t <;> rfl
   ·intro i x q;have hi:i < t.length:=(List.getElem?_eq_some_iff.1 q).1;have c:=List.mem_of_getElem? q;have A:=qX c;have C:=wr x;have u:0 < t.length:=by omega
    have a:d < 3:=by
     simp only [Bool.and_eq_true,decide_eq_true_eq,beq_iff_eq] at hc;omega
    have v:IntKind.wrap .i64 ((d:Int)+1)=((d+1:Nat):Int):=by rw [w64n (by omega)];omega
    have z:=treeXmayN_is n x.subs (d+1) (by omega) (by omega) (hs.subs c);have D:=hs.leaves c;have E:=(hs.subs c).len;have k:IntKind.wrap .i64 ((x.leaves.length:Int)+(x.subs.length:Int))=((x.leaves.length+x.subs.length:Nat):Int):=by rw [w64n (by omega)];omega
    have w:((((x.leaves.length+x.subs.length:Nat):Int))==0)=(x.leaves.isEmpty&&x.subs.isEmpty):=by
     cases h1:x.leaves <;> cases h2:x.subs <;> simp <;> omega
    rw [opIsName_is,v,z,k,w,nodeB_eq];have o:lp (zj (λ(n2:Nat) (p:GLeaf) (B:Unit)=>(((qO p).bind λf=>(zB ((((!f)==false)&&((decide ((n2:Int) > (0:Int)))==true))=true->0<=(IntKind.wrap .i64 ((n2:Int) - (1:Int)))/\(IntKind.wrap .i64 ((n2:Int) - (1:Int))) < ((x.leaves).length:Int)) ((if ((!f) || ((decide ((n2:Int) > (0:Int)))&&(decide (((x.leaves).getD (IntKind.wrap .i64 ((n2:Int) - (1:Int))).toNat default).typ >= p.typ))))=true then some (.ret (.ret false)) else some (.nxt ()))))):Option (Out (Out Bool Unit) Unit))) x.leaves 0 ()) (λ(B:Unit)=>some (.nxt ()))=if leavesB x.leaves=true then some (.nxt ()) else some (.ret false):=by
     rw [vh (r:=.ret false) (λi l=>leafB l&&(decide (i=0) || decide ((x.leaves.getD (i - 1) default).typ < l.typ)))]
     ·rfl
     ·intro j l b;have s:j < x.leaves.length:=(List.getElem?_eq_some_iff.1 b).1;have g:=hs.leaf c (List.mem_of_getElem? b);rw [leafMay_is (by have:=g.items;simp only [maxLen];omega) (by have:=g.tombs;simp only [maxLen];omega)];simp only [Option.bind_some];rcases j with _ | j
      ·cases leafB l <;> simp [zB]
      ·rw [wE (by simp only [maxLen];omega),vD,Int.toNat_natCast,zx (by intro _;omega)];have e:decide ((x.leaves.getD j default).typ >= l.typ)=!decide ((x.leaves.getD j default).typ < l.typ):=by rw [Bool.eq_iff_iff];simp
       rw [e,Nat.add_sub_cancel];generalize (x.leaves.getD j default)=y;cases leafB l <;> cases decide (y.typ < l.typ) <;> simp
    rw [o];simp only [Option.bind_some];rcases i with _ | j
    ·cases nameB x.name <;> cases (x.leaves.isEmpty&&x.subs.isEmpty) <;> cases treeB (d+1) x.subs <;> cases leavesB x.leaves <;> simp [zB]
    ·rw [wE (by simp only [maxLen];omega),vD,Int.toNat_natCast,zx (by intro _;omega),Nat.add_sub_cancel];generalize (t.getD j default)=y;cases nameB x.name <;> cases (x.leaves.isEmpty&&x.subs.isEmpty) <;> cases treeB (d+1) x.subs <;> cases leavesB x.leaves <;> cases Op.bytesLess y.name x.name <;> simp
theorem treeMay_is {t:List GNode} (h:Small t):yL t=some (treeB 0 t):=by
 unfold yL treeXmay;have:=anyN_of (g:=λn=>wF n t 0) (r:=treeB 0 t) (GNode.deps t+1) (λn a=>by have:=treeXmayN_is n t 0 (by omega) (by omega) h;simpa using this);rw [this];rfl
theorem ref07XmayN_is:∀(n:Nat) (t:List GNode) (d:Nat),GNode.deps t < n->d<=3->Small t->xX n t (d:Int)=some (treeB d t)
 | 0,_,_,h,_,_=>by omega
 | n+1,t,d,h,hd,hs=>by
  unfold xX;have B:=hs.len;rw [vh (r:=false) (λi x=>decide (d < 3)&&(nodeB d x&&(decide (i=0) || Op.bytesLess (t.getD (i - 1) default).name x.name)))]
  ·have e:qF (λi x=>decide (d < 3)&&(nodeB d x&&(decide (i=0) || Op.bytesLess (t.getD (i - 1) default).name x.name))) t=treeB d t:=by
    unfold treeB;rw [Bool.and_assoc,<- up_nodes];cases hd3:decide (d < 3)
    ·cases t with
     | nil=>rfl
     | cons x r=>simp [qF]
    ·simp
   rw [e];cases treeB d t <;> rfl
  ·intro i x o;have hi:i < t.length:=(List.getElem?_eq_some_iff.1 o).1;have f:=List.mem_of_getElem? o;have v:=qX f;have z:=wr x;have m:decide ((d:Int) >= 3)=!decide (d < 3):=by rw [Bool.eq_iff_iff];simp;omega
   rw [m];by_cases hd3:d < 3
   ·have q:IntKind.wrap .i64 ((d:Int)+1)=((d+1:Nat):Int):=by rw [w64n (by omega)];omega
    have s:=ref07XmayN_is n x.subs (d+1) (by omega) (by omega) (hs.subs f);have A:=hs.leaves f;rw [ref04IsName_is,q,s,nodeB_eq,lenE,lenE];have k:lp (zj (λ(n2:Nat) (u:GLeaf) (w:Unit)=>(((qp u).bind λb=>(zB ((((!b)==false)&&((decide ((n2:Int) > (0:Int)))==true))=true->0<=(IntKind.wrap .i64 ((n2:Int) - (1:Int)))/\(IntKind.wrap .i64 ((n2:Int) - (1:Int))) < ((x.leaves).length:Int)) ((zB ((((!b)==false)&&((decide ((n2:Int) > (0:Int)))==true))=true->0<=(n2:Int)/\(n2:Int) < ((x.leaves).length:Int)) ((if ((!b) || ((decide ((n2:Int) > (0:Int)))&&(decide (((x.leaves).getD (IntKind.wrap .i64 ((n2:Int) - (1:Int))).toNat default).typ >= ((x.leaves).getD (n2:Int).toNat default).typ))))=true then some (.ret (.ret false)) else some (.nxt ()))))))):Option (Out (Out Bool Unit) Unit))) x.leaves 0 ()) (λ(w:Unit)=>some (.nxt ()))=if leavesB x.leaves=true then some (.nxt ()) else some (.ret false):=by
     rw [vh (r:=.ret false) (λi l=>leafB l&&(decide (i=0) || decide ((x.leaves.getD (i - 1) default).typ < l.typ)))]
     ·rfl
     ·intro j l a;have p:j < x.leaves.length:=(List.getElem?_eq_some_iff.1 a).1;have g:x.leaves.getD j default=l:=by rw [List.getD_eq_getElem?_getD,a];rfl
      have c:=hs.leaf f (List.mem_of_getElem? a);rw [ref05May_is (by have:=c.items;simp only [maxLen];omega) (by have:=c.tombs;simp only [maxLen];omega) c.time];simp only [Option.bind_some];rcases j with _ | j
      ·cases leafB l <;> simp [zB]
      ·rw [wE (by simp only [maxLen];omega),vD,Int.toNat_natCast,Int.toNat_natCast,g,zx (by intro _;omega),zx (by intro _;omega)];have e:decide ((x.leaves.getD j default).typ >= l.typ)=!decide ((x.leaves.getD j default).typ < l.typ):=by rw [Bool.eq_iff_iff];simp
       rw [e,Nat.add_sub_cancel];generalize (x.leaves.getD j default)=y;cases leafB l <;> cases decide (y.typ < l.typ) <;> simp
    rw [k,decide_eq_true hd3];simp only [Option.bind_some,Bool.not_true,Bool.false_or,Bool.true_and,BEq.rfl,if_true];rcases i with _ | j
    ·cases nameB x.name <;> cases (x.leaves.isEmpty&&x.subs.isEmpty) <;> cases treeB (d+1) x.subs <;> cases leavesB x.leaves <;> simp [zB]
    ·rw [wE (by simp only [maxLen];omega),vD,Int.toNat_natCast,zx (by intro _;omega),Nat.add_sub_cancel];generalize (t.getD j default)=y;cases nameB x.name <;> cases (x.leaves.isEmpty&&x.subs.isEmpty) <;> cases treeB (d+1) x.subs <;> cases leavesB x.leaves <;> cases Op.bytesLess y.name x.name <;> simp
   ·rw [decide_eq_false hd3];simp [zB]
theorem ref07May_is {t:List GNode} (h:Small t):xK t=some (treeB 0 t):=by
 unfold xK ref07Xmay;have:=anyN_of (g:=λn=>xX n t 0) (r:=treeB 0 t) (GNode.deps t+1) (λn a=>by have:=ref07XmayN_is n t 0 (by omega) (by omega) h;simpa using this);rw [this];rfl

theorem loopW_end {σ ρ:Type} {f:σ->Option (Out ρ σ)} (b:σ->Prop) (c:σ->Nat) (h:∀s,b s->(∃a,f s=some (.brk a)) \/ ∃a,f s=some (.nxt a)/\b a/\c a < c s):∀(k:Nat) (s:σ),c s=k->b s->∃a,yb f s=some (.inr a):=by
 intro k
 induction k using Nat.strongRecOn with
 | _ k ih =>
  intro s g hi;rw [x5];rcases h s hi with ⟨a,e⟩ | ⟨a,e,d,i⟩
  ·exact ⟨a,by rw [e]⟩
  ·rw [e];exact ih (c a) (by omega) a rfl d
theorem lpW_end {σ ρ:Type} {f:σ->Option (Out ρ σ)} {rest:σ->Option ρ} (a:σ->Prop) (c:σ->Nat) (g:∀s,∃v,rest s=some v) (d:σ) (hi:a d) (h:∀s,a s->(∃b,f s=some (.brk b)) \/ ∃b,f s=some (.nxt b)/\a b/\c b < c s):∃v,lp (yb f d) rest=some v:=by
 obtain ⟨b,e⟩:=loopW_end a c h _ d rfl hi;rw [e];exact g b
theorem idx_mem {α:Type} {L:List α} {i:Int} {x:α} (h:yd L i=some x):x ∈ L:=by
 unfold yd at h;split at h
 ·exact List.mem_of_getElem? h
 ·cases h
theorem size_tot:∀(n:Nat) (t:List GNode) (d:Int),GNode.deps t < n->Small t->∃v,yC n t d=some v
 | 0,_,_,h,_=>by omega
 | n+1,t,d,h,hs=>by
  unfold yC;have A:=hs.len;refine lpW_end (λs=>0<=s.2/\s.2<=(t.length:Int)) (λs=>(t.length - s.2.toNat)) (λ_=>⟨_,rfl⟩) _ ⟨by simp,by simp⟩ (λs hi=>?_);rcases s with ⟨a,i⟩
  obtain ⟨k,rfl⟩:∃k:Nat,i=(k:Int):=⟨i.toNat,by have:=hi.1;simp at this;omega⟩
  by_cases hc:(decide ((k:Int) < (t.length:Int))&&decide (d < 10))=true
  ·right;simp only [Bool.and_eq_true,decide_eq_true_eq] at hc;have o:k < t.length:=by omega
   have r:t[k] ∈ t:=List.getElem_mem o;have x:=qX r;have y:=wr t[k];obtain ⟨v,w⟩:=size_tot n t[k].subs (IntKind.wrap .i64 (d+1)) (by omega) (hs.subs r);have z:=hs.leaves r;obtain ⟨e,u⟩:=loopW_end (ρ:=Out Int (Int×Int)) (σ:=Int×Int) (f:=λe:Int×Int=>(((yd t (k:Int)).bind λj=>(if decide (e.2 < ((j.leaves).length:Int))=true then ((yd t (k:Int)).bind λm=>((yd m.leaves e.2).bind λc=>(lp (zj (λ(B:Nat) (p:GItem) (l:Int)=>(some (.nxt (IntKind.wrap .i64 ((IntKind.wrap .i64 (l+(1:Int)))+((p.text).length:Int)))):Option (Out _ Int))) c.items 0 (IntKind.wrap .i64 ((IntKind.wrap .i64 ((IntKind.wrap .i64 (e.1+(1:Int)))+((c.text).length:Int)))+((c.tombs).length:Int)))) λ(l:Int)=>some (.nxt (l,(IntKind.wrap .i64 (e.2+(1:Int)))))))) else some (.brk (e.1,e.2)))):Option (Out (Out Int (Int×Int)) (Int×Int))))
    (λs=>0<=s.2/\s.2<=(t[k].leaves.length:Int)) (λs=>(t[k].leaves.length - s.2.toNat)) (λs hi=>by
     rcases s with ⟨b,i⟩
     obtain ⟨q,rfl⟩:∃q:Nat,i=(q:Int):=⟨i.toNat,by have:=hi.1;simp at this;omega⟩
     simp only [vS o,Option.bind_some];by_cases hq:q < t[k].leaves.length
     ·right;have g:decide ((q:Int) < (t[k].leaves.length:Int))=true:=by simpa using hq
      simp only [g,if_true,vS hq,Option.bind_some];rw [loopL_fold (λ(l:Int) (p:GItem)=>IntKind.wrap .i64 ((IntKind.wrap .i64 (l+(1:Int)))+((p.text).length:Int))) _ 0 _ (λ_ _ _ _=>rfl),wz];refine ⟨_,rfl,?_,?_⟩
      ·simp only;rw [w64n (by omega)];omega
      ·simp only;rw [w64n (by omega)];omega
     ·left;have g:decide ((q:Int) < (t[k].leaves.length:Int))=false:=by simp;omega
      simp only [g];exact ⟨_,rfl⟩) _ ((IntKind.wrap .i64 ((IntKind.wrap .i64 ((IntKind.wrap .i64 (a+(1:Int)))+((t[k].name).length:Int)))+v)),(0:Int)) rfl ⟨by simp,by simp⟩
   refine ⟨(e.1,IntKind.wrap .i64 ((k:Int)+1)),?_,?_,?_⟩
   ·simp only [hc,decide_true,Bool.and_self,if_true,vS o,Option.bind_some,w];simp only [vS o,Option.bind_some] at u;rw [u];rfl
   ·simp only;rw [w64n (by omega)];omega
   ·simp only;rw [w64n (by omega)];omega
  ·left;refine ⟨(a,(k:Int)),?_⟩;simp only at hc ⊢;rw [if_neg hc]
theorem size_fuel:∀(n m:Nat) (t:List GNode) (d:Int),GNode.deps t < n->GNode.deps t < m->yC n t d=yC m t d
 | 0,_,_,_,h,_=>by omega
 | _+1,0,_,_,_,h=>by omega
 | n+1,m+1,t,d,h1,h2=>by
  unfold yC;congr 2;funext s;split
  ·cases hx:yd t s.2 with
   | none=>rfl
   | some y =>
    have b:=qX (idx_mem hx);have a:=wr y;simp only [Option.bind_some];rw [size_fuel n m y.subs _ (by omega) (by omega)]
  ·rfl
theorem ref07Great_tot {t:List GNode} (h:Small t):∃b,wy t=some b:=by
 unfold wy ref07Xsize;obtain ⟨v,a⟩:∃v,∀n,GNode.deps t+1<=n->yC n t 0=some v:=by
  obtain ⟨v,a⟩:=size_tot (GNode.deps t+1) t 0 (by omega) h;exact ⟨v,λn c=>by rw [size_fuel n (GNode.deps t+1) t 0 (by omega) (by omega)];exact a⟩
 rw [anyN_of (GNode.deps t+1) a];exact ⟨_,rfl⟩

def endsB (p:List ze):Bool:=p.getLast?==some [42,42]
def partsL (p:List ze):List ze:=if endsB p then p.dropLast else p
def agreeB:List ze->List ze->Bool
 | [],_=>true
 | x::t,y::r=>(x==[42] || x==y)&&agreeB t r
 | _::_,[]=>false
def patB (p:List ze):Bool:=(decide (0 < (partsL p).length) || endsB p)&&decide ((partsL p).length<=3)&&(partsL p).all (λs=>s==[42] || nameB s)
def matchB (p path:List ze):Bool:=patB p&&vE path&&decide ((partsL p).length<=path.length)&&(endsB p || decide (path.length<=(partsL p).length))&&agreeB (partsL p) path
section
variable {S X:Type}
def foldF (y:S->X->Option (Bool×S)):List X->S->Option (Bool×S)
 | [],s=>some (true,s)
 | x::r,s=>(y s x).bind λv=>if v.1=true then foldF y r v.2 else some (false,v.2)
end
theorem clone_is {α:Type} {L:List α} (h:L.length<=yg):(nilq L λa=>(if a=true then some ([]:List α) else (zB ((([]:List α)).length+L.length<=yg) (some (([]:List α)++L)))))=some L:=by
 refine nilq_of ?_ λe=>by subst e;rfl
 rw [zx (by simpa using h)];simp
theorem cloneItem_is {L:List GItem} (h:L.length<=yg):yk L=some L:=clone_is h
theorem cloneDot_is {L:List GDot} (h:L.length<=yg):yo L=some L:=clone_is h
mutual
def rowsN (a:List ze):GNode->List GRow
 | ⟨nm,ls,sb⟩=>ls.map (λl=>GRow.mk (a++[nm]) l)++zH (a++[nm]) sb
def zH (a:List ze):List GNode->List GRow
 | []=>[]
 | x::r=>rowsN a x++zH a r
end
mutual
def keepN (is:List ze->Bool) (a:List ze):GNode->GNode
 | ⟨nm,ls,sb⟩=>⟨nm,if is (a++[nm])=true then ls else [],keepL is (a++[nm]) sb⟩
def keepL (is:List ze->Bool) (a:List ze):List GNode->List GNode
 | []=>[]
 | x::r=>if (keepN is a x).leaves.isEmpty&&(keepN is a x).subs.isEmpty then keepL is a r else keepN is a x::keepL is a r
end
theorem wl (a:List ze) (x:GNode):rowsN a x=x.leaves.map (λl=>GRow.mk (a++[x.name]) l)++zH (a++[x.name]) x.subs:=by cases x;rfl
theorem yi (a:List ze):∀t,zH a t=t.flatMap (rowsN a)
 | []=>rfl
 | x::r=>by simp only [zH,List.flatMap_cons,yi a r]
theorem loop_keep {α a ρ:Type} (p:α->Bool) (g:α->a) {f:Nat->α->List a->Option (Out ρ (List a))}:∀(L:List α) (i:Nat) (s:List a),s.length+L.length<=yg->(∀i x s,x ∈ L->s.length+1<=yg->f i x s=if p x=true then some (.nxt (s++[g x])) else some (.nxt s)) ->
  zj f L i s=some (.inr (s++(L.filter p).map g))
 | [],_,s,_,_=>by simp [zj]
 | x::t,i,s,hl,h=>by
  simp only [List.length_cons] at hl;simp only [zj,h i x s (List.mem_cons_self ..) (by omega),List.filter_cons];cases hp:p x
  ·simp only [Bool.false_eq_true,if_false];exact loop_keep p g t (i+1) s (by omega) λi x s b=>h i x s (List.mem_cons_of_mem _ b)
  ·simp only [if_true];rw [loop_keep p g t (i+1) (s++[g x]) (by simp;omega) λi x s b=>h i x s (List.mem_cons_of_mem _ b)];simp
theorem deps_bks:∀(n:Nat) (t:List GNode),GNode.deps t<=n->GNode.deps t<=GNode.bks t:=by
 intro n
 induction n with
 | zero=>intro t a;omega
 | succ n ih =>
  intro t
  induction t with
  | nil=>intro _;simp [GNode.deps]
  | cons x r ihr =>
   intro a;simp only [GNode.deps] at a ⊢;simp only [GNode.bks];have b:=ihr (by omega);have c:=wr x;have e:=ih x.subs (by omega);have d:=bk_node x;omega
theorem Small.dep {t:List GNode} (h:Small t):GNode.deps t<=16777216:=Nat.le_trans (deps_bks _ t (Nat.le_refl _)) h.2
theorem yX:∀{a b c:List UInt8},Op.bytesLess a b=true->Op.bytesLess b c=true->Op.bytesLess a c=true
 | _,[],_,h,_=>by cases ‹List UInt8› <;> simp [Op.bytesLess] at h
 | a,b::y,[],_,h=>by simp [Op.bytesLess] at h
 | [],b::y,c::z,_,_=>rfl
 | a::x,b::y,c::z,e,d=>by
  simp only [Op.bytesLess,Bool.or_eq_true,decide_eq_true_eq,Bool.and_eq_true,beq_iff_eq] at e d ⊢;rcases e with e | ⟨rfl,e⟩
  ·rcases d with d | ⟨rfl,d⟩
   ·left;exact UInt8.lt_trans e d
   ·left;exact e
  ·rcases d with d | ⟨rfl,d⟩
   ·left;exact d
   ·right;exact ⟨rfl,yX e d⟩
theorem upB_iff (t:List GNode):upB t=true ↔ t.Pairwise (λx y=>Op.bytesLess x.name y.name=true):=by
 unfold upB;rw [xz];constructor
 ·intro h;rw [List.pairwise_iff_getElem];intro i j hi a b;obtain ⟨k,rfl⟩:∃k,j=i+1+k:=⟨j - i - 1,by omega⟩
  induction k with
  | zero =>
   have:=h (i+1) _ (List.getElem?_eq_getElem a);simp only [Nat.add_sub_cancel,Bool.or_eq_true,decide_eq_true_eq] at this;rcases this with h0 | h0
   ·omega
   ·rw [List.getD_eq_getElem?_getD,List.getElem?_eq_getElem hi] at h0;exact h0
  | succ k ih =>
   have c:=ih (by omega) (by omega);have:=h (i+1+(k+1)) _ (List.getElem?_eq_getElem a);simp only [Bool.or_eq_true,decide_eq_true_eq] at this;rcases this with h0 | h0
   ·omega
   ·rw [show i+1+(k+1) - 1=i+1+k by omega,List.getD_eq_getElem?_getD,List.getElem?_eq_getElem (by omega:i+1+k < t.length)] at h0;exact yX c h0
 ·intro h i x d;rcases i with _ | i
  ·rfl
  ·rw [List.pairwise_iff_getElem] at h;obtain ⟨hi,rfl⟩:=List.getElem?_eq_some_iff.1 d;have:=h i (i+1) (by omega) hi (by omega);simp only [Nat.add_sub_cancel,Bool.or_eq_true];right;rw [List.getD_eq_getElem?_getD,List.getElem?_eq_getElem (by omega:i < t.length)];exact this
section
variable (is:List ze->Bool)
theorem vA {M:List GNode->Prop} (h0:M []) (a:∀x r,M x.subs->M r->M (x::r)):∀t,M t:=by
 have key:∀(n:Nat) (t:List GNode),GNode.deps t<=n->M t:=by
  intro n
  induction n with
  | zero =>
   intro t h;cases t with
   | nil=>exact h0
   | cons x r=>simp only [GNode.deps] at h;have:=wr x;omega
  | succ n ih =>
   intro t
   induction t with
   | nil=>intro _;exact h0
   | cons x r ihr =>
    intro h;simp only [GNode.deps] at h;have:=wr x;exact a x r (ih x.subs (by omega)) (ihr (by omega))
 exact λt=>key _ t (Nat.le_refl _)
theorem keep_small:∀(t:List GNode) (a:List ze),(GNode.wfs t->GNode.wfs (keepL is a t))/\GNode.bks (keepL is a t)<=GNode.bks t:=by
 refine vA (λa=>⟨λh=>h,Nat.le_refl _⟩) ?_;intro x r d b a;have j:(keepN is a x).bk<=x.bk:=by
  have:=(d (a++[x.name])).2;cases x with
  | mk nm ls sb =>
   simp only [keepN,GNode.bk] at this ⊢;have c:((if is (a++[nm])=true then ls else []).map GLeaf.bk).sum<=(ls.map GLeaf.bk).sum:=by split <;> simp
   omega
 have i:x.wf->(keepN is a x).wf:=by
  have:=(d (a++[x.name])).1;cases x with
  | mk nm ls sb =>
   simp only [keepN,GNode.wf] at this ⊢
   rintro ⟨f,c,e⟩
   refine ⟨f,?_,this e⟩;split
   ·exact c
   ·exact ⟨by simp,λy g=>by cases g⟩
 simp only [keepL];split
 ·refine ⟨λh=>(b a).1 (by simp only [GNode.wfs] at h;exact h.2),?_⟩;have:=(b a).2;simp only [GNode.bks];omega
 ·refine ⟨λh=>?_,?_⟩
  ·simp only [GNode.wfs] at h ⊢;exact ⟨i h.1,(b a).1 h.2⟩
  ·have:=(b a).2;simp only [GNode.bks];omega
theorem Small.keep {t:List GNode} (h:Small t) (a:List ze):Small (keepL is a t):=⟨(keep_small is t a).1 h.1,Nat.le_trans (keep_small is t a).2 h.2⟩
end
theorem ref05Same_refl (l:GLeaf):ref05Same l l=some true:=by
 unfold ref05Same;simp only [dotEq,itemEq];rw [if_neg (by simp),vh (r:=false) (λ_ _=>true),vh (r:=false) (λ_ _=>true)]
 ·simp [qF]
 ·intro i x a;have hi:=(List.getElem?_eq_some_iff.1 a).1;have b:l.tombs[i]=x:=(List.getElem?_eq_some_iff.1 a).2;rw [vS hi,b];simp
 ·intro i x a;have hi:=(List.getElem?_eq_some_iff.1 a).1;have b:l.items[i]=x:=(List.getElem?_eq_some_iff.1 a).2;rw [vS hi,b];simp
theorem ref07SameN_refl:∀(n:Nat) (t:List GNode),GNode.deps t < n->wx n t t=some true
 | 0,_,h=>by omega
 | n+1,t,h=>by
  unfold wx;rw [if_neg (by simp),vh (r:=false) (λ_ _=>true)]
  ·simp [qF]
  ·intro i x a;have hi:=(List.getElem?_eq_some_iff.1 a).1;have f:t[i]=x:=(List.getElem?_eq_some_iff.1 a).2;have hd:t.getD i default=x:=by rw [List.getD_eq_getElem?_getD,a];rfl
   have g:=qX (List.mem_of_getElem? a);have e:=wr x;rw [vS hi,f];simp only [Option.bind_some,Int.toNat_natCast,hd,ref07SameN_refl n x.subs (by omega)];rw [zx (by intro _;omega),zx (by intro _;omega),zx (by intro _;omega),zx (by intro _;omega)];rw [vh (r:=.ret false) (λ_ _=>true)]
   ·simp [qF]
   ·intro j l c;have d:=(List.getElem?_eq_some_iff.1 c).1;have b:x.leaves[j]=l:=(List.getElem?_eq_some_iff.1 c).2;rw [vS d,b];simp [ref05Same_refl]
theorem ref07Same_refl (t:List GNode):ref07Same t t=some true:=by
 unfold ref07Same;exact anyN_of (GNode.deps t+1) λn a=>ref07SameN_refl n t (by omega)

theorem small_of {t:List GNode} (h:t.length<=maxLen/\∀y ∈ t,GNode.wf y) (a:(t.map GNode.bk).sum<=16777216):Small t:=⟨(GNode.wfs_iff t).2 h.2,by rw [GNode.bks_eq];exact a⟩
theorem lim_le {n:Nat} (h:n<=16777217):n<=yg:=Nat.le_trans h (by decide)
def preR (a:List ze) (r:GRow):GRow:=⟨a++r.path,r.leaf⟩
theorem rows_pre:∀(t:List GNode) (a b:List ze),zH (a++b) t=(zH b t).map (preR a):=by
 refine vA (λ_ _=>rfl) ?_;intro x r d c a b;rw [yi,yi,List.flatMap_cons,List.flatMap_cons,<- yi,<- yi,c,List.map_append];congr 1;rw [wl,wl,List.append_assoc,d,List.map_append,List.map_map];rfl
theorem rows_path:∀(t:List GNode) (a:List ze) (r:GRow),r ∈ zH a t->a.length < r.path.length/\r.path.length<=a.length+GNode.deps t:=by
 refine vA (λ_ _ h=>by simp [zH] at h) ?_;intro x r d c a q b;rw [yi,List.flatMap_cons,List.mem_append,<- yi] at b;have f:x.dep<=GNode.deps (x::r):=qX (by simp);have g:=wr x;have e:GNode.deps r<=GNode.deps (x::r):=by
  simp only [GNode.deps];omega
 rcases b with b | b
 ·rw [wl,List.mem_append,List.mem_map] at b;rcases b with ⟨l,_,rfl⟩ | b
  ·simp;omega
  ·have:=d _ _ b;simp only [List.length_append,List.length_cons,List.length_nil] at this;omega
 ·have:=c _ _ b;omega
theorem leaves_up {ls:List GLeaf} (h:leavesB ls=true):ls.Pairwise (λx y=>x.typ < y.typ)/\∀l ∈ ls,leafB l=true:=by
 unfold leavesB at h;rw [xz] at h;have f:∀l ∈ ls,leafB l=true:=λl d=>by
  obtain ⟨i,hi⟩:=List.mem_iff_getElem?.1 d;have:=h i l hi;simp only [Bool.and_eq_true] at this;exact this.1
 refine ⟨?_,f⟩;have a:∀i,(hi:i+1 < ls.length)->ls[i].typ < ls[i+1].typ:=λi hi=>by
  have:=h (i+1) _ (List.getElem?_eq_getElem hi);simp only [Nat.add_eq_zero_iff,Nat.one_ne_zero,and_false,decide_false,Bool.false_or,Bool.and_eq_true,decide_eq_true_eq,Nat.add_sub_cancel] at this;have e:ls.getD i default=ls[i]:=by simp [List.getD_eq_getElem?_getD,List.getElem?_eq_getElem (show i < ls.length by omega)]
  rw [e] at this;exact this.2
 rw [List.pairwise_iff_getElem];intro i j hi c b;obtain ⟨k,rfl⟩:∃k,j=i+1+k:=⟨j - (i+1),by omega⟩
 clear b
 induction k with
 | zero=>exact a i c
 | succ k ih=>exact Int.lt_trans (ih (by omega)) (a (i+1+k) c)
theorem Small.tail {x:GNode} {r:List GNode} (h:Small (x::r)):Small r:=by
 refine ⟨(GNode.wfs_iff r).2 λy a=>(GNode.wfs_iff _).1 h.1 y (by simp [a]),?_⟩;have:=h.2;simp only [GNode.bks] at this;omega
def pathLt (a b:List ze):Prop:=(∃y q,b=a++y::q) \/ ∃p x y a' b',a=p++x::a'/\b=p++y::b'/\Op.bytesLess x y=true
theorem qu:∀(a:List UInt8),Op.bytesLess a a=false
 | []=>rfl
 | x::a=>by simp [Op.bytesLess,qu a]
theorem less_ne {a b:List UInt8} (h:Op.bytesLess a b=true):a ≠ b:=by
 rintro rfl;rw [qu] at h;cases h
noncomputable def cmpF (s2:List ze):Nat->ze->Unit->Option (Out Int Unit):=λn x _=>if (decide ((n:Int) >= ((s2).length:Int)))=true then some (.ret (1:Int)) else ((yd s2 (n:Int)).bind λy12=>((cmpCompareString x y12).bind λv13=>(if (v13 != (0:Int))=true then some (.ret v13) else some (.nxt ()))))
def rowLt (r q:GRow):Prop:=pathLt r.path q.path \/ (r.path=q.path/\r.leaf.typ < q.leaf.typ)
def leaf0:GLeaf:=GLeaf.mk (0:Int) (0:Int) (0:Int) (GDot.mk (GActor.mk (0:Int) (0:Int)) (0:Int)) ([]:ze) ([]:List GItem) ([]:List GDot)
theorem rows_head {t:List GNode} {a:List ze} {r:GRow} (h:r ∈ zH a t):∃x ∈ t,∃w,r.path=a++x.name::w:=by
 rw [yi,List.mem_flatMap] at h;obtain ⟨x,b,h⟩:=h;refine ⟨x,b,?_⟩;rw [wl,List.mem_append,List.mem_map] at h;rcases h with ⟨l,_,rfl⟩ | h
 ·exact ⟨[],rfl⟩
 ·have:=rows_pre x.subs (a++[x.name]) [];rw [List.append_nil] at this;rw [this,List.mem_map] at h;obtain ⟨q,_,rfl⟩:=h;exact ⟨q.path,by simp [preR]⟩
theorem rows_lt:∀(t:List GNode) (d:Nat) (a:List ze),upB t=true->vR d t=true->(zH a t).Pairwise rowLt:=by
 refine vA (λ_ _ _ _=>List.Pairwise.nil) ?_;intro x r A u d a k o;rw [yi,List.flatMap_cons,<- yi];rw [upB_iff,List.pairwise_cons] at k;simp only [vR,Bool.and_eq_true] at o;obtain ⟨c,m⟩:=o;rw [nodeB_eq] at c;simp only [Bool.and_eq_true] at c;obtain ⟨⟨⟨_,_⟩,b⟩,j⟩:=c;simp only [treeB,Bool.and_eq_true] at b;obtain ⟨i,_⟩:=leaves_up j;rw [List.pairwise_append];refine ⟨?_,u d a (upB_iff r |>.2 k.2) m,λq g p f=>?_⟩
 ·rw [wl,List.pairwise_append];refine ⟨?_,A (d+1) _ b.1.2 b.2,λq g p f=>?_⟩
  ·rw [List.pairwise_map];exact i.imp λh=>.inr ⟨rfl,h⟩
  ·rw [List.mem_map] at g;obtain ⟨l,_,rfl⟩:=g;obtain ⟨y,_,w,e⟩:=rows_head f;exact .inl (.inl ⟨y.name,w,e⟩)
 ·have B:∃w,q.path=a++x.name::w:=by
   have:q ∈ zH a [x]:=by rw [yi];simpa using g
   obtain ⟨z,n,w,e⟩:=rows_head this;simp only [List.mem_singleton] at n;subst n;exact ⟨w,e⟩
  obtain ⟨w,C⟩:=B;obtain ⟨y,s,w',v⟩:=rows_head f;exact .inl (.inr ⟨a,x.name,y.name,w,w',C,v,k.1 y s⟩)
structure RowOk' (r:GRow):Prop where
 path:vE r.path=true
 leaf:leafB r.leaf=true
 ok:LeafOk r.leaf
theorem rows_ok:∀(t:List GNode) (d:Nat) (a:List ze),Small t->treeB d t=true->a.length=d->a.all nameB=true->∀r ∈ zH a t,RowOk' r:=by
 have key:∀(t:List GNode),(∀(d:Nat) (a:List ze),Small t->vR d t=true->d < 3->a.length=d->a.all nameB=true->∀r ∈ zH a t,RowOk' r):=by
  refine vA (λ_ _ _ _ _ _ _ _ h=>by simp [zH] at h) ?_;intro x r u f d a hs s hd k j q b;rw [yi,List.flatMap_cons,List.mem_append,<- yi] at b;simp only [vR,Bool.and_eq_true] at s;obtain ⟨e,p⟩:=s;rcases b with b | b
  ·rw [nodeB_eq] at e;simp only [Bool.and_eq_true] at e;obtain ⟨⟨⟨m,_⟩,c⟩,n⟩:=e;have g:(a++[x.name]).all nameB=true:=by rw [List.all_append,j];simpa using m
   rw [wl,List.mem_append,List.mem_map] at b;rcases b with ⟨l,i,rfl⟩ | b
   ·refine ⟨?_,(leaves_up n).2 l i,hs.leaf (by simp) i⟩;simp only [vE,g,Bool.and_true,List.length_append,List.length_cons,List.length_nil,Bool.and_eq_true,decide_eq_true_eq];omega
   ·simp only [treeB,Bool.and_eq_true,Bool.or_eq_true,List.isEmpty_iff,decide_eq_true_eq] at c;rcases c.1.1 with h0 | h0
    ·rw [h0] at b;simp [zH] at b
    ·exact u (d+1) _ (hs.subs (by simp)) c.2 h0 (by simp [k]) g q b
  ·exact f d a hs.tail p hd k j q b
 intro t d a hs o k j r f;simp only [treeB,Bool.and_eq_true,Bool.or_eq_true,List.isEmpty_iff,decide_eq_true_eq] at o;rcases o.1.1 with h0 | h0
 ·rw [h0] at f;simp [zH] at f
 ·exact key t d a hs o.2 h0 k j r f
theorem small_nil:Small []:=⟨(GNode.wfs_iff []).2 (by simp),by simp [GNode.bks]⟩
theorem leafNew_tot (k:Int):∃v,wu k=some v:=by unfold wu;split <;> exact ⟨_,rfl⟩
theorem pathB_ne {p:List ze} (h:vE p=true):p ≠ []:=by
 rintro rfl
 simp [vE] at h
theorem pathAll {p:List ze} {f:ze->Option Bool} (a:∀x,f x=some (nameB x)):(lp (zj (λ(_:Nat) (b:ze) (_:Unit)=>(((f b).bind λv9=>(if (!v9)=true then some (.ret false) else some (.nxt ()))):Option (Out _ Unit))) p 0 ()) λ(_:Unit)=>some ((decide (((p).length:Int) >= (1:Int)))&&(decide (((p).length:Int)<=(3:Int)))))=some (vE p):=by
 rw [loopL_all nameB false _ _ (λi x _=>by rw [a];cases nameB x <;> rfl),bnd1,bnd3];unfold vE;cases h:p.all nameB <;> simp
theorem ref04MayPath_is (p:List ze):we p=some (vE p):=pathAll ref04IsName_is
def typeB (k:Int):Int:=if k=1 then 1 else if k=2 then 2 else if k=3 \/ k=4 then 3 else if k=5 then 4 else 0
def opB (o:GOp):Bool:=decide (1<=o.kind)&&decide (o.kind<=5)&&vE o.path&&decide (o.text.length<=40)&&decide (o.dots.length<=64) &&
 (if o.kind=1 then decide (-1000000<=o.n)&&decide (o.n<=1000000)&&(o.text==[])&&decide (o.dots.length=0)
   else decide (o.n=0)&&(decide (o.kind=4) || decide (o.dots.length=0))&&(o.dots.all wh&&rising o.dots))
theorem wrap_pred {i:Nat} (h0:0 < i) (a:i<=9223372036854775807):(IntKind.wrap .i64 ((i:Int) - 1))=((i - 1:Nat):Int):=by rw [w64n (by omega)];omega
def eventB (e:GEvent):Bool:=wh e.dot&&decide (e.time >= 1)&&decide (e.time<=1099511627776)&&opB e.op
theorem loopL_tot {α ρ σ:Type} {f:Nat->α->σ->Option (Out ρ σ)}:∀(L:List α) (i:Nat) (s:σ),(∀i x s,x ∈ L->∃o,f i x s=some o)->∃v,zj f L i s=some v
 | [],_,_,_=>⟨_,rfl⟩
 | x::t,i,s,h=>by
  obtain ⟨o,a⟩:=h i x s (List.mem_cons_self ..);simp only [zj,a];cases o with
  | ret r=>exact ⟨_,rfl⟩
  | brk s=>exact ⟨_,rfl⟩
  | nxt s=>exact loopL_tot t (i+1) s λi y s b=>h i y s (List.mem_cons_of_mem _ b)
end Go.Vv
namespace Go.Vv
open Go
theorem loopW_inv {σ ρ:Type} {f:σ->Option (Out ρ σ)} (c b:σ->Prop) (d:σ->Nat) (h:∀s,c s->(∃a,f s=some (.brk a)/\b a) \/ ∃a,f s=some (.nxt a)/\c a/\d a < d s):∀(k:Nat) (s:σ),d s=k->c s->∃a,yb f s=some (.inr a)/\b a:=by
 intro k
 induction k using Nat.strongRecOn with
 | _ k ih =>
  intro s j hi;rw [x5];rcases h s hi with ⟨a,e,i⟩ | ⟨a,e,g,l⟩
  ·exact ⟨a,by rw [e],i⟩
  ·rw [e];exact ih (d a) (by omega) a rfl g
theorem wrap_a1 {a:Nat} (h:a<=16777216):IntKind.wrap .i64 ((a:Int)+1)=((a+1:Nat):Int):=wrap_add1 (Nat.le_trans (Nat.succ_le_succ h) (by decide))
noncomputable def delF (del:GLeaf->Option Bool) (n:Nat):Int×Int×(List GLeaf)->Option (Out (List GLeaf) (Int×Int×(List GLeaf))):=λs1=>((zB ((s1.2.2).length=n) ((if (decide (s1.2.1 < ((n:Nat):Int)))=true then ((yd s1.2.2 s1.2.1).bind λy14=>((del y14).bind λv15=>(if (!v15)=true then ((yd s1.2.2 s1.1).bind λy17=>some (.nxt ((IntKind.wrap .i64 (s1.1+(1:Int))),(IntKind.wrap .i64 (s1.2.1+(1:Int))),(s1.2.2.set s1.1.toNat y14)))) else some (.nxt (s1.1,(IntKind.wrap .i64 (s1.2.1+(1:Int))),s1.2.2))))) else some (.brk (s1.1,s1.2.1,s1.2.2))))))
theorem less_tot:∀(a b:List UInt8),a=b \/ Op.bytesLess a b=true \/ Op.bytesLess b a=true
 | [],[]=>.inl rfl
 | [],_::_=>.inr (.inl rfl)
 | _::_,[]=>.inr (.inr rfl)
 | x::a,y::b=>by
  by_cases h:x=y
  ·subst h;rcases less_tot a b with rfl | h | h
   ·exact .inl rfl
   ·exact .inr (.inl (by simp [Op.bytesLess,h]))
   ·exact .inr (.inr (by simp [Op.bytesLess,h]))
  ·have c:x.toNat ≠ y.toNat:=λe=>h (UInt8.toNat_inj.1 e);rcases Nat.lt_or_gt_of_ne c with h | h
   ·exact .inr (.inl (by simp [Op.bytesLess,UInt8.lt_iff_toNat_lt,h]))
   ·exact .inr (.inr (by simp [Op.bytesLess,UInt8.lt_iff_toNat_lt,h]))
def pltB:List ze->List ze->Bool
 | _,[]=>false
 | [],_::_=>true
 | x::a,y::b=>Op.bytesLess x y || (decide (x=y)&&pltB a b)
theorem plt_irr:∀a,pltB a a=false
 | []=>rfl
 | x::a=>by simp [pltB,qu,plt_irr a]
theorem plt_path:∀{a b:List ze},pltB a b=true->pathLt a b
 | _,[],h=>by cases ‹List ze› <;> simp [pltB] at h
 | [],y::b,_=>.inl ⟨y,b,rfl⟩
 | x::a,y::b,h=>by
  simp only [pltB,Bool.or_eq_true,Bool.and_eq_true,decide_eq_true_eq] at h;rcases h with h | ⟨rfl,h⟩
  ·exact .inr ⟨[],x,y,a,b,rfl,rfl,h⟩
  ·rcases plt_path h with ⟨z,q,rfl⟩ | ⟨p,u,v,a',d,rfl,rfl,c⟩
   ·exact .inl ⟨z,q,rfl⟩
   ·exact .inr ⟨x::p,u,v,a',d,rfl,rfl,c⟩
theorem path_plt {a b:List ze} (h:pathLt a b):pltB a b=true:=by
 rcases h with ⟨y,q,rfl⟩ | ⟨p,x,y,a',c,rfl,rfl,h⟩
 ·induction a with
  | nil=>rfl
  | cons x a ih=>simp [pltB,ih]
 ·induction p with
  | nil=>simp [pltB,h]
  | cons x a ih=>simp [pltB,ih]
def Key:=List ze×Int
def kltB (a b:Key):Bool:=pltB a.1 b.1 || (decide (a.1=b.1)&&decide (a.2 < b.2))
theorem klt_irr (a:Key):kltB a a=false:=by simp [kltB,plt_irr]
def ekey (e:GEdit):Key:=(e.path,e.typ)
def rkey (r:GRow):Key:=(r.path,r.leaf.typ)
def ordI (a b:GEdit):Int:=if kltB (ekey a) (ekey b)=true then -1 else if kltB (ekey b) (ekey a)=true then 1 else 0
def NLt (s:ze) (A:List GNode):Prop:=∀y ∈ A,Op.bytesLess y.name s=true
def NGt (s:ze) (B:List GNode):Prop:=∀y ∈ B,Op.bytesLess s y.name=true
theorem split_up {t:List GNode} (s:ze) (h:upB t=true):(∃A B,t=A++B/\NLt s A/\NGt s B) \/ ∃A x B,t=A++x::B/\x.name=s/\NLt s A/\NGt s B:=by
 rw [upB_iff] at h
 induction t with
 | nil=>exact .inl ⟨[],[],rfl,λ_ h=>by simp at h,λ_ h=>by simp at h⟩
 | cons x t ih =>
  obtain ⟨d,g⟩:=List.pairwise_cons.1 h;rcases less_tot x.name s with e | e | e
  ·exact .inr ⟨[],x,t,rfl,e,λ_ h=>by simp at h,λy a=>by rw [<- e];exact d y a⟩
  ·rcases ih g with ⟨A,B,rfl,c,b⟩ | ⟨A,z,B,rfl,f,c,b⟩
   ·refine .inl ⟨x::A,B,rfl,λy a=>?_,b⟩;rcases List.mem_cons.1 a with rfl | a
    ·exact e
    ·exact c y a
   ·refine .inr ⟨x::A,z,B,rfl,f,λy a=>?_,b⟩;rcases List.mem_cons.1 a with rfl | a
    ·exact e
    ·exact c y a
  ·refine .inl ⟨[],x::t,rfl,λ_ h=>by simp at h,λy a=>?_⟩;rcases List.mem_cons.1 a with rfl | a
   ·exact e
   ·exact yX e (d y a)
noncomputable def layIn (n:Nat) (path1:List ze) (kind2:Int) (l3:GLeaf) (there4:Bool) (s1:ze×(List GLeaf)×(List GNode)):Option (List GNode ⊕ ((List GLeaf)×(List GNode))):=((if (decide (((path1).length:Int) > (1:Int)))=true then ((slc path1 (1:Int) ((path1).length:Int)).bind λm20=>((diffXlayN n s1.2.2 m20 kind2 l3 there4).bind λv21=>some (.inr (s1.2.1,v21)))) else ((xJ s1.2.1).bind λv22=>((w8 v22 (λx0=>diffXlayC2 x0 kind2)).bind λv23=>(if there4=true then ((diffXown l3).bind λv25=>(zB ((v23).length+(([v25]:List GLeaf)).length<=yg) (((sortO (λx y=>diffXlayC3 x y) (v23++([v25]:List GLeaf))).bind λv27=>some (.inr (v27,s1.2.2)))))) else some (.inr (v23,s1.2.2)))))):Option (_ ⊕ ((List GLeaf)×(List GNode))))
noncomputable def layRest (t0:List GNode) (i:Int) (f:Bool) (nm:ze) (s2:(List GLeaf)×(List GNode)):Option (List GNode):=((slc t0 (0:Int) i).bind λm28=>((wj m28).bind λv29=>(if (decide ((IntKind.wrap .i64 (((s2.1).length:Int)+((s2.2).length:Int))) > (0:Int)))=true then (zB ((v29).length+(([(GNode.mk nm s2.1 s2.2)]:List GNode)).length<=yg) ((if f=true then ((slc t0 (IntKind.wrap .i64 (i+(1:Int))) ((t0).length:Int)).bind λm35=>(zB (((v29++([(GNode.mk nm s2.1 s2.2)]:List GNode))).length+(m35).length<=yg) (some ((v29++([(GNode.mk nm s2.1 s2.2)]:List GNode))++m35)))) else ((slc t0 i ((t0).length:Int)).bind λm37=>(zB (((v29++([(GNode.mk nm s2.1 s2.2)]:List GNode))).length+(m37).length<=yg) (some ((v29++([(GNode.mk nm s2.1 s2.2)]:List GNode))++m37))))))) else (if f=true then ((slc t0 (IntKind.wrap .i64 (i+(1:Int))) ((t0).length:Int)).bind λm40=>(zB ((v29).length+(m40).length<=yg) (some (v29++m40)))) else ((slc t0 i ((t0).length:Int)).bind λm42=>(zB ((v29).length+(m42).length<=yg) (some (v29++m42))))))))
def layLs (k:Int) (l:GLeaf) (there:Bool) (ls:List GLeaf):List GLeaf:=if there=true then ls.filter (λx=>decide (x.typ < k))++[l]++ls.filter (λx=>decide (k < x.typ)) else ls.filter (λx=>!decide (x.typ=k))
def fitN (nm:ze) (ls:List GLeaf) (sb:List GNode):List GNode:=if ls.length+sb.length=0 then [] else [⟨nm,ls,sb⟩]
theorem rowsL_app (a:List ze) (A B:List GNode):zH a (A++B)=zH a A++zH a B:=by rw [yi,yi,yi,List.flatMap_append]
theorem rowsN_mem {a:List ze} {x:GNode} {r:GRow}:r ∈ rowsN a x ↔ (∃l ∈ x.leaves,r=⟨a++[x.name],l⟩) \/ r ∈ zH (a++[x.name]) x.subs:=by
 rw [wl,List.mem_append,List.mem_map];constructor
 ·rintro (⟨l,b,rfl⟩ | h)
  ·exact .inl ⟨l,b,rfl⟩
  ·exact .inr h
 ·rintro (⟨l,b,rfl⟩ | h)
  ·exact .inl ⟨l,b,rfl⟩
  ·exact .inr h
theorem rows_one {a:List ze} {x:GNode}:zH a [x]=rowsN a x:=by simp [zH]
theorem len_rows (t:List GNode) (a b:List ze):(zH a t).length=(zH b t).length:=by
 have c:=rows_pre t a [];have d:=rows_pre t b [];rw [List.append_nil] at c d;rw [c,d,List.length_map,List.length_map]
theorem mem_rows_len {t:List GNode} {x:GNode} (a:x ∈ t):x.leaves.length+(zH [] x.subs).length<=(zH [] t).length:=by
 obtain ⟨A,B,rfl⟩:=List.append_of_mem a;rw [rowsL_app,show x::B=[x]++B from rfl,rowsL_app,rows_one,wl];simp only [List.length_append,List.length_map];rw [len_rows x.subs ([]++[x.name]) []];omega
theorem wG {d:Nat} {t:List GNode} (h:treeB d t=true):upB t=true/\∀x ∈ t,nodeB d x=true:=by
 simp only [treeB,Bool.and_eq_true,nodesB_all,List.all_eq_true] at h;exact ⟨h.1.2,h.2⟩
theorem nodeB_parts {d:Nat} {x:GNode} (h:nodeB d x=true):nameB x.name=true/\treeB (d+1) x.subs=true/\leavesB x.leaves=true:=by
 rw [nodeB_eq] at h;simp only [Bool.and_eq_true] at h;exact ⟨h.1.1.1,h.1.2,h.2⟩
theorem rows_off {s:ze} {A:List GNode} (h:∀y ∈ A,y.name ≠ s) {a q:List ze} {r:GRow} (c:r ∈ zH a A):r.path ≠ a++s::q:=by
 obtain ⟨x,f,w,e⟩:=rows_head c;rw [e];intro d;have:=List.append_cancel_left d;injection this with b _;exact h x f b
theorem NLt.ne {s:ze} {A:List GNode} (h:NLt s A):∀y ∈ A,y.name ≠ s:=λy a=>less_ne (h y a)
theorem NGt.ne {s:ze} {A:List GNode} (h:NGt s A):∀y ∈ A,y.name ≠ s:=λy a=>(less_ne (h y a)).symm
theorem rowLt_iff {r q:GRow}:rowLt r q ↔ kltB (rkey r) (rkey q)=true:=by
 unfold rowLt kltB rkey;simp only [Bool.or_eq_true,Bool.and_eq_true,decide_eq_true_eq];constructor
 ·rintro (h | h)
  ·exact .inl (path_plt h)
  ·exact .inr h
 ·rintro (h | h)
  ·exact .inl (plt_path h)
  ·exact .inr h
def hasN (n:Nat) (s:ze) (r:GRow):Bool:=decide ((r.path.drop n).head?=some s)
theorem rows_sorted {d:Nat} {t:List GNode} (h:treeB d t=true) (a:List ze):(zH a t).Pairwise λr q=>kltB (rkey r) (rkey q)=true:=by
 have:=rows_lt t d a (wG h).1 (by rw [nodesB_all];exact List.all_eq_true.2 (wG h).2);exact this.imp λh=>rowLt_iff.1 h
theorem sorted_key {α:Type} {key:α->Key} {L:List α} (h:L.Pairwise λr q=>kltB (key r) (key q)=true) {x y:α} (g:x ∈ L) (i:y ∈ L) (e:key x=key y):x=y:=by
 induction L with
 | nil=>simp at g
 | cons z r ih =>
  obtain ⟨c,j⟩:=List.pairwise_cons.1 h;rcases List.mem_cons.1 g with f | b <;> rcases List.mem_cons.1 i with d | a
  ·rw [f,d]
  ·have:=c y a;rw [<- f,e,klt_irr] at this;cases this
  ·have:=c x b;rw [<- d,e,klt_irr] at this;cases this
  ·exact ih j b a

theorem first_is {α:Type} {q:α->Bool} {del:α->Option Bool}:∀(L:List α) (n:Nat),(∀x ∈ L,del x=some (q x)) ->
  (zj (λ(i:Nat) (d:α) (_:Unit)=>(((del d).bind λc=>(if c=true then some (.ret (i:Int)) else some (.nxt ()))):Option (Out Int Unit))) L n ()=some (.inr ())/\∀x ∈ L,q x=false) \/
  ∃A x B,L=A++x::B/\q x=true/\(∀y ∈ A,q y=false)/\zj (λ(i:Nat) (d:α) (_:Unit)=>(((del d).bind λc=>(if c=true then some (.ret (i:Int)) else some (.nxt ()))):Option (Out Int Unit))) L n ()=some (.inl ((n+A.length:Nat):Int))
 | [],n,_=>.inl ⟨rfl,by simp⟩
 | x::r,n,h=>by
  have g:=h x (by simp);cases hq:q x with
  | true=>exact .inr ⟨[],x,r,rfl,hq,by simp,by simp [zj,g,hq]⟩
  | false =>
   rcases first_is r (n+1) (λy a=>h y (by simp [a])) with ⟨e,f⟩ | ⟨A,y,B,rfl,j,f,e⟩
   ·refine .inl ⟨by simp only [zj,g,hq,Option.bind_some];exact e,?_⟩;intro y a;rcases List.mem_cons.1 a with rfl | a
    ·exact hq
    ·exact f y a
   ·refine .inr ⟨x::A,y,B,rfl,j,?_,?_⟩
    ·intro z b;rcases List.mem_cons.1 b with rfl | b
     ·exact hq
     ·exact f z b
    ·simp only [zj,g,hq,Option.bind_some];rw [show n+(x::A).length=n+1+A.length by simp only [List.length_cons];omega];exact e
def node0:GNode:=GNode.mk ([]:ze) ([]:List GLeaf) ([]:List GNode)
def nodeOf (t:List GNode) (s:ze):Option GNode:=t.find? λx=>x.name==s
theorem linear_is (t:List GNode) (s:ze):xd t s=some (match nodeOf t s with | some x=>(x,true) | none=>(node0,false)):=by
 unfold xd yE;rcases first_is (q:=λx:GNode=>x.name==s) (del:=λa=>vr a s) t 0 (λx _=>rfl) with ⟨e,h⟩ | ⟨A,x,B,rfl,b,d,e⟩
 ·rw [e];have:nodeOf t s=none:=List.find?_eq_none.2 λx f=>by rw [h x f];simp
  rw [this];rfl
 ·rw [e];have:nodeOf (A++x::B) s=some x:=by
   unfold nodeOf;rw [List.find?_append,List.find?_eq_none.2 (λy c=>by rw [d y c];simp),List.find?_cons,b];rfl
  rw [this];simp only [lp,Option.bind_some,Nat.zero_add];rw [if_neg (by simp),zC (x:=x) (by simp)];rfl
def xF:List GNode->List ze->Option GNode
 | _,[]=>none
 | t,[s]=>nodeOf t s
 | t,s::c::q=>(nodeOf t s).bind λx=>xF x.subs (c::q)
noncomputable def tlF:Nat->ze->(List GNode)×Bool×ze×(List GLeaf)×(List GNode)->Option (Out ((GLeaf×Bool) ⊕ (Bool×ze×(List GLeaf)×(List GNode))) ((List GNode)×Bool×ze×(List GLeaf)×(List GNode))):=(λ(_:Nat) (x2:ze) (s2:(List GNode)×Bool×ze×(List GLeaf)×(List GNode))=>(((xd s2.1 x2).bind λv47=>(if (!v47.2)=true then some (.brk (s2.1,v47.2,v47.1.name,v47.1.leaves,v47.1.subs)) else some (.nxt (v47.1.subs,v47.2,v47.1.name,v47.1.leaves,v47.1.subs))))))
noncomputable def tlR (kind2:Int) (s1:Bool×ze×(List GLeaf)×(List GNode)):Option (GLeaf×Bool):=((yh s1.2.2.1 (λx0=>qi x0 kind2)).bind λv49=>((if (((!s1.1) || (decide (v49 < (0:Int))))==false)=true then wu kind2 else some default).bind λv50=>(if (((!s1.1) || (decide (v49 < (0:Int)))) || (v50.typ==(0:Int)))=true then ((wu kind2).bind λv52=>some (v52,false)) else ((yd s1.2.2.1 v49).bind λy53=>((yk y53.items).bind λv54=>((yo y53.tombs).bind λv55=>some ((GLeaf.mk y53.typ y53.n y53.time y53.dot y53.text v54 v55),true)))))))
theorem tl_eq (t0:List GNode) (a:List ze) (b:Int):yT t0 a b=(lp ((lp (zj tlF a 0 (t0,(decide (((a).length:Int) > (0:Int))),([]:ze),([]:List GLeaf),([]:List GNode))) λ(c:(List GNode)×Bool×ze×(List GLeaf)×(List GNode))=>some (.inr (c.2.1,c.2.2.1,c.2.2.2.1,c.2.2.2.2))):Option ((GLeaf×Bool) ⊕ (Bool×ze×(List GLeaf)×(List GNode)))) (tlR b)):=rfl
theorem tl_walk:∀(p:List ze) (n:Nat) (t:List GNode) (z:Bool×ze×(List GLeaf)×(List GNode)),p ≠ [] ->
  match xF t p with
  | some x=>zj tlF p n (t,z)=some (.inr (x.subs,true,x.name,x.leaves,x.subs))
  | none=>∃u,zj tlF p n (t,z)=some (.inr (u,false,([]:ze),([]:List GLeaf),([]:List GNode)))
 | [],_,_,_,h=>absurd rfl h
 | [s],n,t,z,_=>by
  simp only [xF,zj,tlF,linear_is,Option.bind_some];cases nodeOf t s with
  | none=>exact ⟨t,rfl⟩
  | some x=>rfl
 | s::c::q,n,t,z,_=>by
  have a:=λu z=>tl_walk (c::q) (n+1) u z (by simp);simp only [xF];cases e:nodeOf t s with
  | none=>exact ⟨t,by rw [zj];simp only [tlF,linear_is,e,Option.bind_some];rfl⟩
  | some x =>
   have b:tlF n s (t,z)=some (.nxt (x.subs,true,x.name,x.leaves,x.subs)):=by simp only [tlF,linear_is,e,Option.bind_some];rfl
   have:=a x.subs (true,x.name,x.leaves,x.subs);rw [zj,b,Option.bind_some];exact this
theorem nodeOf_split {t:List GNode} (s:ze) (h:upB t=true):(nodeOf t s=none/\∀y ∈ t,y.name ≠ s) \/ ∃A x B,t=A++x::B/\nodeOf t s=some x/\x.name=s/\(∀y ∈ A,y.name ≠ s)/\∀y ∈ B,y.name ≠ s:=by
 rcases split_up s h with ⟨A,B,rfl,b,c⟩ | ⟨A,x,B,rfl,d,b,c⟩
 ·left;have:∀y ∈ A++B,y.name ≠ s:=λy a=>by
   rcases List.mem_append.1 a with a | a
   ·exact b.ne y a
   ·exact c.ne y a
  exact ⟨List.find?_eq_none.2 λy a=>by simp [this y a],this⟩
 ·refine .inr ⟨A,x,B,rfl,?_,d,b.ne,c.ne⟩;unfold nodeOf;rw [List.find?_append,List.find?_eq_none.2 (λy a=>by simp [b.ne y a]),List.find?_cons];simp [d]
theorem row_at:∀(p:List ze) (t:List GNode) (d:Nat) (a:List ze) (l:GLeaf),p ≠ []->treeB d t=true->(GRow.mk (a++p) l ∈ zH a t ↔ ∃x,xF t p=some x/\l ∈ x.leaves)
 | [],_,_,_,_,h,_=>absurd rfl h
 | s::q,t,d,a,l,_,h=>by
  obtain ⟨C,u⟩:=wG h;rcases nodeOf_split s C with ⟨e,z⟩ | ⟨A,x,B,rfl,e,v,r,o⟩
  ·have m:xF t (s::q)=none:=by cases q <;> simp [xF,e]
   rw [m];constructor
   ·intro b;exact (rows_off z b rfl).elim
   ·rintro ⟨x,h,_⟩;cases h
  ·rw [rowsL_app,show x::B=[x]++B from rfl,rowsL_app,rows_one,List.mem_append,List.mem_append,rowsN_mem,v];have j:¬ GRow.mk (a++s::q) l ∈ zH a A:=λb=>rows_off r b rfl;have i:¬ GRow.mk (a++s::q) l ∈ zH a B:=λb=>rows_off o b rfl;have f:=(nodeB_parts (u x (by simp))).2.1;cases q with
   | nil =>
    have E:¬ GRow.mk (a++[s]) l ∈ zH (a++[s]) x.subs:=λb=>by
     have:=(rows_path _ _ _ b).1;simp at this
    have m:xF (A++x::B) [s]=some x:=e;have g:xF (A++([x]++B)) [s]=some x:=e;rw [g];constructor
    ·rintro (h | (⟨y,k,h⟩ | h) | h)
     ·exact (j h).elim
     ·injection h with _ h;subst h;exact ⟨x,rfl,k⟩
     ·exact (E h).elim
     ·exact (i h).elim
    ·rintro ⟨y,h,w⟩
     injection h with h;subst h;exact .inr (.inl (.inl ⟨l,w,rfl⟩))
   | cons c q =>
    have n:=row_at (c::q) x.subs (d+1) (a++[s]) l (by simp) f;have D:a++[s]++c::q=a++s::c::q:=by simp
    rw [D] at n;have g:xF (A++([x]++B)) (s::c::q)=xF x.subs (c::q):=by
     show (nodeOf (A++x::B) s).bind _=_;rw [e];rfl
    rw [g,n];constructor
    ·rintro (h | (⟨y,k,h⟩ | h) | h)
     ·exact (j h).elim
     ·injection h with h _;have:=congrArg List.length h;simp at this
     ·exact h
     ·exact (i h).elim
    ·intro h;exact .inr (.inl (.inr h))
theorem row_mk {r:GRow} {p:List ze} {k:Int} (h:rkey r=(p,k)):r=GRow.mk ([]++p) r.leaf:=by
 have e:r.path=p:=congrArg Prod.fst h;cases r;simp only at e;rw [e];rfl
theorem leafNew_typ {k:Int} (h:1<=k/\k<=4):∃v,wu k=some v/\v.typ=k:=by
 unfold wu;rw [if_neg (by simp;omega)];exact ⟨_,rfl,rfl⟩
theorem tlR_none {k:Int} (s:ze):∃v,tlR k (false,s,([]:List GLeaf),([]:List GNode))=some (v,false):=by
 obtain ⟨v,e⟩:=leafNew_tot k;refine ⟨v,?_⟩;unfold tlR yh;simp [zj,lp,e]
theorem treeLeaf_is {t:List GNode} (h:treeB 0 t=true) (j:∀r ∈ zH [] t,LeafOk r.leaf) {p:List ze} (s:p ≠ []) {k:Int} (G:1<=k/\k<=4) :
  (∃l,GRow.mk p l ∈ zH [] t/\l.typ=k/\yT t p k=some (l,true)) \/ ((∀r ∈ zH [] t,rkey r ≠ (p,k))/\∃v,yT t p k=some (v,false)):=by
 have c:=tl_walk p 0 t (decide ((p.length:Int) > 0),([]:ze),([]:List GLeaf),([]:List GNode)) s;have m:=λl=>row_at p t 0 [] l s h;rw [tl_eq];cases e:xF t p with
 | none =>
  rw [e] at c;obtain ⟨u,c⟩:=c;right;refine ⟨λr a i=>?_,?_⟩
  ·have:=row_mk i;rw [this] at a;obtain ⟨x,d,_⟩:=(m _).1 a;rw [e] at d;cases d
  ·rw [c];exact tlR_none []
 | some x =>
  rw [e] at c;simp only at c;rw [c];simp only [wz];obtain ⟨v0,w,n2⟩:=leafNew_typ G;unfold tlR yh;rcases first_is (q:=λy:GLeaf=>y.typ==k) (del:=λC=>qi C k) x.leaves 0 (λx _=>rfl) with ⟨o,d⟩ | ⟨A,y,B,f,d,I,o⟩
  ·right;refine ⟨λr a i=>?_,v0,?_⟩
   ·have:=row_mk i;rw [this] at a;obtain ⟨H,g,F⟩:=(m _).1 a;rw [e] at g;injection g with g;subst g;have:=d _ F;simp only [beq_eq_false_iff_ne] at this;exact this (congrArg Prod.snd i)
   ·simp only [];rw [o];simp [lp,w]
  ·left;have D:y ∈ x.leaves:=by rw [f];simp
   have b:GRow.mk ([]++p) y ∈ zH [] t:=(m y).2 ⟨x,e,D⟩;have n:y.typ=k:=by simpa using d
   have z:=j _ b;refine ⟨y,b,n,?_⟩;simp only [];rw [o];simp only [lp,Option.bind_some,Nat.zero_add];have E:((!true) || (decide (((A.length:Nat):Int) < (0:Int))))=false:=by simp
   rw [E];simp only [beq_self_eq_true,if_true,w,Option.bind_some,Bool.false_or,n2];rw [if_neg (by simp;omega),f,zC (x:=y) (by simp),Option.bind_some,cloneItem_is (lim_le (Nat.le_succ_of_le z.items)),Option.bind_some,cloneDot_is (lim_le (Nat.le_succ_of_le z.tombs)),Option.bind_some]

structure EOk (e:GEdit):Prop where
 path:vE e.path=true
 typ:1<=e.typ/\e.typ<=4
 any:e.had=true \/ e.has=true
 ne:e.had=true->e.has=true->e.was ≠ e.is
 was1:e.had=true->leafB e.was=true/\LeafOk e.was/\e.was.typ=e.typ
 was0:e.had=false->e.was=leaf0
 is1:e.has=true->leafB e.is=true/\LeafOk e.is/\e.is.typ=e.typ
 is0:e.has=false->e.is=leaf0
def eLt (a b:GEdit):Prop:=kltB (ekey a) (ekey b)=true
noncomputable def patF (t0:List GNode):Nat->GEdit->List GNode->Option (Out (List GNode×Int) (List GNode)):=(λ(n1:Nat) (x1:GEdit) (s1:(List GNode))=>(((yT t0 x1.path x1.typ).bind λv14=>((if (((!(v14.2==x1.had))==false)&&(v14.2==true))=true then xN v14.1 x1.was else some default).bind λv15=>(if ((!(v14.2==x1.had)) || (v14.2&&(!v15)))=true then some (.ret (([]:List GNode),(16:Int))) else ((diffXlay s1 x1.path x1.typ x1.is x1.has).bind λv17=>some (.nxt v17))))):Option (Out _ (List GNode))))
theorem pathB_parts {p:List ze} (h:vE p=true):p ≠ []/\p.length<=3/\p.all nameB=true:=by
 refine ⟨pathB_ne h,?_⟩;simp only [vE,Bool.and_eq_true,decide_eq_true_eq] at h;exact ⟨h.1.2,h.2⟩
structure EFits (t:List GNode) (e:GEdit):Prop where
 had:e.had=true->GRow.mk e.path e.was ∈ zH [] t
 new:e.had=false->∀r ∈ zH [] t,rkey r ≠ ekey e
end Go.Vv
namespace Go.Vv
open Go
noncomputable def delI (del:GItem->Option Bool) (n:Nat):Int×Int×(List GItem)->Option (Out (List GItem) (Int×Int×(List GItem))):=λs1=>((zB ((s1.2.2).length=n) ((if (decide (s1.2.1 < ((n:Nat):Int)))=true then ((yd s1.2.2 s1.2.1).bind λy14=>((del y14).bind λv15=>(if (!v15)=true then ((yd s1.2.2 s1.1).bind λy17=>some (.nxt ((IntKind.wrap .i64 (s1.1+(1:Int))),(IntKind.wrap .i64 (s1.2.1+(1:Int))),(s1.2.2.set s1.1.toNat y14)))) else some (.nxt (s1.1,(IntKind.wrap .i64 (s1.2.1+(1:Int))),s1.2.2))))) else some (.brk (s1.1,s1.2.1,s1.2.2))))))
def dd:List GDot->List GDot
 | []=>[]
 | [x]=>[x]
 | x::y::r=>if x=y then dd (y::r) else x::dd (y::r)
def nn (L:List GDot):Prop:=∀i a b,L[i]?=some a->L[i+1]?=some b->a ≠ b
noncomputable def cmpIn (n:Nat) (s1:Int):Int×Int×(List GDot)->Option (Out (Out (List GDot) Int) (Int×Int×(List GDot))):=λ(s2:Int×Int×(List GDot))=>((zB ((s2.2.2).length=n) ((if (decide (s2.2.1 < ((n - s1.toNat:Nat):Int)))=true then ((yd (s2.2.2.drop s1.toNat) s2.2.1).bind λy51=>((yd (s2.2.2.drop s1.toNat) (IntKind.wrap .i64 (s2.2.1 - (1:Int)))).bind λy52=>(if (!(y51.actor.rep==y52.actor.rep&&(y51.actor.inc==y52.actor.inc&&(y51.seq==y52.seq&&true))))=true then ((yd (s2.2.2.drop s1.toNat) s2.2.1).bind λy54=>((yd s2.2.2 s2.1).bind λy55=>some (.nxt ((IntKind.wrap .i64 (s2.1+(1:Int))),(IntKind.wrap .i64 (s2.2.1+(1:Int))),(s2.2.2.set s2.1.toNat y54))))) else some (.nxt (s2.1,(IntKind.wrap .i64 (s2.2.1+(1:Int))),s2.2.2))))) else some (.brk (s2.1,s2.2.1,s2.2.2))))))
theorem wrap_p1 {i:Nat} (h0:0 < i) (a:i<=9223372036854775807):(IntKind.wrap .i64 ((i:Int) - 1))=((i - 1:Nat):Int):=wrap_pred h0 a
noncomputable def cmpOut (s0:List GDot):Int->Option (Out (List GDot) Int):=λ(s1:Int)=>((if (decide (s1 < ((s0).length:Int)))=true then ((yd s0 s1).bind λy35=>((yd s0 (IntKind.wrap .i64 (s1 - (1:Int)))).bind λy36=>(if (y35.actor.rep==y36.actor.rep&&(y35.actor.inc==y36.actor.inc&&(y35.seq==y36.seq&&true)))=true then (zB (0<=s1/\s1<=((s0.length:Nat):Int)) ((lp (yb (cmpIn s0.length s1) (s1,(1:Int),s0)) λ(s2:Int×Int×(List GDot))=>(zB (0<=s2.1/\s2.1<=((s0.length:Nat):Int)) (((slc (s2.2.2.take s2.1.toNat++List.replicate (s0.length - s2.1.toNat) (GDot.mk (GActor.mk (0:Int) (0:Int)) (0:Int))) (0:Int) s2.1).bind λm57=>some (.ret m57))))))) else some (.nxt (IntKind.wrap .i64 (s1+(1:Int))))))) else some (.brk s1)))
theorem ahead_pre {α:Type} {lt:α->α->Bool} (d:∀a b c,lt a b=true->lt b c=true->lt a c=true) (x:α):∀(L:List α),L.Pairwise (λa b=>lt a b=true)->∀(i:Nat) (y:α),L[i]?=some y->(lt y x=true ↔ i < (L.takeWhile λy=>lt y x).length)
 | [],_,i,y,h=>by simp at h
 | z::r,hs,i,y,h=>by
  obtain ⟨e,j⟩:=List.pairwise_cons.1 hs;cases i with
  | zero =>
   simp only [List.getElem?_cons_zero,Option.some.injEq] at h;subst h;cases hz:lt z x <;> simp [List.takeWhile_cons,hz]
  | succ i =>
   simp only [List.getElem?_cons_succ] at h;have f:=ahead_pre d x r j i y h;cases hz:lt z x with
   | true=>simp [List.takeWhile_cons,hz,f]
   | false =>
    simp only [List.takeWhile_cons,hz,Bool.false_eq_true,if_false,List.length_nil,Nat.not_lt_zero,iff_false];intro g;have:=d _ _ _ (e y (List.mem_of_getElem? h)) g;rw [hz] at this;cases this
theorem take_tw {α:Type} (p:α->Bool):∀L:List α,L.take (L.takeWhile p).length=L.takeWhile p
 | []=>rfl
 | x::r=>by cases h:p x <;> simp [List.takeWhile_cons,h,take_tw p r]
theorem drop_tw {α:Type} (p:α->Bool):∀L:List α,L.drop (L.takeWhile p).length=L.dropWhile p
 | []=>rfl
 | x::r=>by cases h:p x <;> simp [List.takeWhile_cons,List.dropWhile_cons,h,drop_tw p r]
theorem tw_le {α:Type} (p:α->Bool):∀L:List α,(L.takeWhile p).length<=L.length
 | []=>by simp
 | x::r=>by have:=tw_le p r;cases h:p x <;> simp [List.takeWhile_cons,h] <;> omega
theorem tw_add {α:Type} (p:α->Bool) (L:List α):(L.takeWhile p).length+(L.dropWhile p).length=L.length:=by
 rw [<- List.length_append,List.takeWhile_append_dropWhile]
theorem tw_all {α:Type} (p:α->Bool):∀(L:List α),∀y ∈ L.takeWhile p,p y=true
 | [],y,h=>by simp at h
 | x::r,y,h=>by
  cases hx:p x with
  | true =>
   rw [List.takeWhile_cons,if_pos hx] at h;rcases List.mem_cons.1 h with rfl | h
   ·exact hx
   ·exact tw_all p r y h
  | false=>rw [List.takeWhile_cons,if_neg (by simp [hx])] at h;simp at h
theorem strict_ext {α:Type} {lt:α->α->Prop} (d:∀a,¬ lt a a) (k:∀a b c,lt a b->lt b c->lt a c):∀(A B:List α),A.Pairwise lt->B.Pairwise lt->(∀x,x ∈ A ↔ x ∈ B)->A=B
 | [],[],_,_,_=>rfl
 | [],b::B,_,_,h=>by have:=(h b).2 (by simp);simp at this
 | a::A,[],_,_,h=>by have:=(h a).1 (by simp);simp at this
 | a::A,b::B,hA,hB,h=>by
  obtain ⟨l,n⟩:=List.pairwise_cons.1 hA;obtain ⟨m,o⟩:=List.pairwise_cons.1 hB;have i:a=b:=by
   rcases List.mem_cons.1 ((h a).1 (by simp)) with e | f
   ·exact e
   ·rcases List.mem_cons.1 ((h b).2 (by simp)) with e | g
    ·exact e.symm
    ·exact (d _ (k _ _ _ (l b g) (m a f))).elim
  subst i;rw [strict_ext d k A B n o λx=>?_];have j:=h x;simp only [List.mem_cons] at j;constructor
  ·intro f;rcases j.1 (.inr f) with rfl | g
   ·exact (d _ (l _ f)).elim
   ·exact g
  ·intro f;rcases j.2 (.inr f) with rfl | g
   ·exact (d _ (m _ f)).elim
   ·exact g
def layP (L:List GItem) (x:GItem):List GItem:=if (L.any λy=>decide (y.dot=x.dot))=true then L else L.takeWhile (λy=>aheadI y x)++([x]++L.dropWhile λy=>aheadI y x)
def burP (L:List GDot) (d:GDot):List GDot:=if (L.any λy=>decide (y=d))=true then L else L.takeWhile (λy=>x7 y d)++([d]++L.dropWhile λy=>x7 y d)
theorem slcT {α:Type} (L:List α) (n:Nat) (h:n<=L.length):slc L (n:Int) (L.length:Int)=some (L.drop n):=by
 unfold slc;rw [if_pos (by omega)];simp
theorem tw_loop {α:Type} {L:List α} (p:α->Bool) {f:List α×Int->Option (Out (List α) (List α×Int))} (h:∀(A:List α) (i:Nat) (y:α),A.length=i->L[i]?=some y->f (A,(i:Int))=if p y=true then some (.nxt (A++[y],((i+1:Nat):Int))) else some (.brk (A,(i:Int))))
  (g:∀A:List α,f (A,(L.length:Int))=some (.brk (A,(L.length:Int)))):∀(n i:Nat),L.length - i=n->i<=(L.takeWhile p).length ->
  yb f (L.take i,(i:Int))=some (.inr (L.takeWhile p,((L.takeWhile p).length:Int))):=by
 intro n
 induction n with
 | zero =>
  intro i s hi;have q:=tw_le p L;have j:i=L.length:=by omega
  subst j;rw [x5,g];have o:(L.takeWhile p).length=L.length:=by omega
  have m:=take_tw p L;rw [o] at m ⊢;rw [m]
 | succ n ih =>
  intro i s hi;have d:i < L.length:=by omega
  have k:L[i]?=some L[i]:=List.getElem?_eq_getElem d;have b:L.takeWhile p=L.take i++(L.drop i).takeWhile p:=by
   have h:L.take i=(L.takeWhile p).take i:=by
    conv=>lhs;rw [<- List.takeWhile_append_dropWhile (p:=p) (l:=L)]
    rw [List.take_append_of_le_length hi]
   have g:∀y ∈ L.take i,p y=true:=by
    rw [h];intro y r;exact tw_all _ _ _ (List.mem_of_mem_take r)
   conv=>lhs;rw [<- List.take_append_drop i L]
   rw [List.takeWhile_append_of_pos g]
  have c:L.drop i=L[i]::L.drop (i+1):=(List.getElem_cons_drop d).symm;have a:(L.take i).length=i:=by simp;omega
  rw [x5,h _ _ _ a k];cases ha:p L[i] with
  | true =>
   simp only [if_true];have e:L.take i++[L[i]]=L.take (i+1):=by rw [List.take_add_one,k];rfl
   rw [e];refine ih (i+1) (by omega) ?_;rw [b,c,List.takeWhile_cons,if_pos ha];simp;omega
  | false =>
   simp only [Bool.false_eq_true,if_false];have e:L.takeWhile p=L.take i:=by rw [b,c,List.takeWhile_cons,if_neg (by simp [ha])];simp
   rw [e,a]
noncomputable def layF (L:List GItem) (x:GItem):(List GItem)×Int->Option (Out (List GItem) ((List GItem)×Int)):=(λ(s1:(List GItem)×Int)=>((zB (((decide (s1.2 < ((L).length:Int)))==true)=true->0<=s1.2/\s1.2 < ((L).length:Int)) ((zB (((decide (s1.2 < ((L).length:Int)))==true)=true->0<=s1.2/\s1.2 < ((L).length:Int)) (((if ((decide (s1.2 < ((L).length:Int)))==true)=true then xY (((L).getD s1.2.toNat default).time) (((L).getD s1.2.toNat default).dot) x.time x.dot else some default).bind λv21=>(if ((decide (s1.2 < ((L).length:Int)))&&v21)=true then ((yd L s1.2).bind λy23=>(zB ((s1.1).length+(([y23]:List GItem)).length<=yg) (some (.nxt ((s1.1++([y23]:List GItem)),(IntKind.wrap .i64 (s1.2+(1:Int)))))))) else some (.brk (s1.1,s1.2)))))))):Option (Out _ ((List GItem)×Int))))
noncomputable def burF (L:List GDot) (x:GDot):(List GDot)×Int->Option (Out (List GDot) ((List GDot)×Int)):=(λ(s1:(List GDot)×Int)=>((zB (((decide (s1.2 < ((L).length:Int)))==true)=true->0<=s1.2/\s1.2 < ((L).length:Int)) (((if ((decide (s1.2 < ((L).length:Int)))==true)=true then wg ((L).getD s1.2.toNat default) x else some default).bind λv16=>(if ((decide (s1.2 < ((L).length:Int)))&&v16)=true then ((yd L s1.2).bind λy18=>(zB ((s1.1).length+(([y18]:List GDot)).length<=yg) (some (.nxt ((s1.1++([y18]:List GDot)),(IntKind.wrap .i64 (s1.2+(1:Int)))))))) else some (.brk (s1.1,s1.2)))))):Option (Out _ ((List GDot)×Int))))
def srt (L:List GDot):List GDot:=L.mergeSort λa b=>!x7 b a
theorem dw_not {α:Type} {lt:α->α->Bool} (f:∀a b c,lt a b=true->lt b c=true->lt a c=true) (x:α) {L:List α} (hs:L.Pairwise (λa b=>lt a b=true)):∀y ∈ L.dropWhile (λy=>lt y x),lt y x=false:=by
 intro y e;rw [<- drop_tw] at e;obtain ⟨j,d⟩:=List.mem_iff_getElem?.1 e;rw [List.getElem?_drop] at d;have:=ahead_pre f x L hs _ y d;cases h:lt y x with
 | false=>rfl
 | true=>have:=this.1 h;omega
theorem ins_pw {α:Type} {lt:α->α->Bool} (k:∀a b c,lt a b=true->lt b c=true->lt a c=true) {x:α} {L:List α} (hs:L.Pairwise (λa b=>lt a b=true)) (j:∀y ∈ L,lt y x=true \/ lt x y=true):(L.takeWhile (λy=>lt y x)++([x]++L.dropWhile λy=>lt y x)).Pairwise λa b=>lt a b=true:=by
 have f:=hs;rw [<- List.takeWhile_append_dropWhile (p:=λy=>lt y x) (l:=L)] at f;obtain ⟨m,i,n⟩:=List.pairwise_append.1 f;have hd:∀y ∈ L.dropWhile (λy=>lt y x),lt x y=true:=λy g=>by
  rcases j y (List.dropWhile_sublist _ |>.subset g) with h | h
  ·rw [dw_not k x hs y g] at h;cases h
  ·exact h
 refine List.pairwise_append.2 ⟨m,List.pairwise_append.2 ⟨by simp,i,λa e b d=>?_⟩,λa e b d=>?_⟩
 ·rw [List.mem_singleton] at e;subst e;exact hd b d
 ·rcases List.mem_append.1 d with d | d
  ·rw [List.mem_singleton] at d;subst d;exact tw_all (λy=>lt y b) _ _ e
  ·exact n a e b d
def burs (L ds:List GDot):List GDot:=ds.foldl burP L
def applyP (l:GLeaf) (e:GEvent):GLeaf :=
 if e.op.kind=1 then { l with n:=IntKind.wrap .i64 (l.n+e.op.n) }
 else if e.op.kind=2 then (if (decide (l.time=0) || (if l.time ≠ e.time then decide (l.time < e.time) else x7 l.dot e.dot))=true then { l with time:=e.time,dot:=e.dot,text:=e.op.text } else l)
 else if e.op.kind=3 then (if (l.tombs.any λy=>decide (y=e.dot))=true then l else { l with items:=layP l.items ⟨0,e.dot,e.op.text⟩ })
 else if e.op.kind=4 then { l with items:=l.items.filter (λx=>!(e.op.dots.any λy=>decide (y=x.dot))),tombs:=burs l.tombs e.op.dots }
 else { l with items:=layP l.items ⟨e.time,e.dot,e.op.text⟩ }
def zeroLf:GLeaf:=GLeaf.mk (0:Int) (0:Int) (0:Int) (GDot.mk (GActor.mk (0:Int) (0:Int)) (0:Int)) ([]:ze) ([]:List GItem) ([]:List GDot)
def applyW (l:GLeaf) (e:GEvent):GLeaf×Int:=if (!leafB l || !eventB e)=true then (zeroLf,2) else if typeB e.op.kind ≠ l.typ then (zeroLf,15) else (applyP l e,0)
end Go.Vv
