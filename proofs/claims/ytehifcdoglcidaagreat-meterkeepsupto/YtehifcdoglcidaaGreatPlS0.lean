/- Plain laws, joined. -/
import Derived.Test.YtehifcdoglcidaaGreatD
import Derived.Test.YtehifcdoglcidaaGreatVvQ
namespace Go.Vv
open Go
def alnum (b:UInt8):Bool:=(decide (97<=b.toNat)&&decide (b.toNat<=122)) || (decide (65<=b.toNat)&&decide (b.toNat<=90)) || (decide (48<=b.toNat)&&decide (b.toNat<=57))
def other (r:Int):Bool:=!((decide (97<=r)&&decide (r<=122)) || (decide (65<=r)&&decide (r<=90)) || (decide (48<=r)&&decide (r<=57)))
def runeIdx (q:Int->Bool) (s:List UInt8) (i:Nat):Int :=
 if h:i < s.length then (if q (dec s i).1 then i else if (dec s i).2=0 then -1 else runeIdx q s (i+(dec s i).2)) else -1
termination_by s.length - i
decreasing_by omega
theorem dec_width (s:List UInt8) (i:Nat) (h:i < s.length):1<=(dec s i).2:=by
 have hs:i < (⟨s.toArray⟩:ByteArray).size:=by simpa [ByteArray.size] using h
 by_cases ha:((⟨s.toArray⟩:ByteArray)[i]'hs).toNat < 128
 ·unfold dec;rw [decode_ascii _ i hs ha];exact Nat.le_refl _
 ·exact (decode_high _ i hs (by omega)).2
theorem dec_low {s:List UInt8} {i:Nat} {b:UInt8} (a:s[i]?=some b) (h:b.toNat < 128):dec s i=(b.toNat,1):=by
 have c:i < s.length:=(List.getElem?_eq_some_iff.1 a).1;have hs:i < (⟨s.toArray⟩:ByteArray).size:=by simpa [ByteArray.size] using c
 have e:((⟨s.toArray⟩:ByteArray)[i]'hs)=b:=by
  have d:((⟨s.toArray⟩:ByteArray)[i]'hs)=s[i]:=rfl;rw [d];rw [List.getElem?_eq_getElem c] at a;injection a
 unfold dec;rw [decode_ascii _ i hs (by rw [e];exact h),e]
theorem dec_hi {s:List UInt8} {i:Nat} {b:UInt8} (a:s[i]?=some b) (h:128<=b.toNat):128<=(dec s i).1:=by
 have c:i < s.length:=(List.getElem?_eq_some_iff.1 a).1;have hs:i < (⟨s.toArray⟩:ByteArray).size:=by simpa [ByteArray.size] using c
 have e:((⟨s.toArray⟩:ByteArray)[i]'hs)=b:=by
  have d:((⟨s.toArray⟩:ByteArray)[i]'hs)=s[i]:=rfl;rw [d];rw [List.getElem?_eq_getElem c] at a;injection a
 exact (decode_high _ i hs (by rw [e];exact h)).1
theorem other_alnum {b:UInt8}:other (b.toNat:Int)=!alnum b:=by
 unfold other alnum;congr 1;rw [Bool.eq_iff_iff];simp;omega
theorem rune_all {s:List UInt8} (h:s.all alnum=true):∀(n i:Nat),s.length - i=n->runeIdx other s i=-1
 | n,i,hn=>by
  rw [runeIdx.eq_def];by_cases hi:i < s.length
  ·rw [dif_pos hi];have c:s[i]?=some s[i]:=List.getElem?_eq_getElem hi;have b:alnum s[i]=true:=by rw [List.all_eq_true] at h;exact h _ (List.getElem_mem hi)
   have a:s[i].toNat < 128:=by
    unfold alnum at b;simp only [Bool.or_eq_true,Bool.and_eq_true,decide_eq_true_eq] at b;omega
   rw [dec_low c a];simp only [other_alnum,b,Bool.not_true,Bool.false_eq_true,if_false,Nat.one_ne_zero];exact rune_all h (s.length - (i+1)) (i+1) rfl
  ·rw [dif_neg hi]
 termination_by n=>n
 decreasing_by omega
theorem rune_some {s:List UInt8} {k:Nat} {b:UInt8} (a:s[k]?=some b) (e:alnum b=false):∀(n i:Nat),k - i=n->i<=k->0<=runeIdx other s i
 | n,i,hn,hik=>by
  have g:k < s.length:=(List.getElem?_eq_some_iff.1 a).1;have hi:i < s.length:=by omega
  rw [runeIdx.eq_def,dif_pos hi];by_cases ho:other ((dec s i).1:Nat)=true
  ·rw [if_pos ho];omega
  ·rw [if_neg ho];have d:s[i]?=some s[i]:=List.getElem?_eq_getElem hi;have c:s[i].toNat < 128:=by
    refine Decidable.byContradiction λhh=>ho ?_;have:=dec_hi d (by omega);unfold other;simp;omega
   rw [dec_low d c] at ho ⊢;rw [other_alnum] at ho;have f:i ≠ k:=by
    rintro rfl
    rw [d] at a;injection a with a;subst a;rw [e] at ho;exact ho rfl
   simp only [Nat.one_ne_zero,if_false];exact rune_some a e (k - (i+1)) (i+1) rfl (by omega)
 termination_by n=>n
 decreasing_by omega

def nameB (s:zn):Bool:=decide (1<=s.length)&&decide (s.length<=12)&&s.all alnum
def vQ (p:List zn):Bool:=decide (1<=p.length)&&decide (p.length<=3)&&p.all nameB
theorem bnd1 (n:Nat):decide ((n:Int) >= 1)=decide (1<=n):=decide_eq_decide.2 (by omega)
theorem bnd12 (n:Nat):decide ((n:Int)<=12)=decide (n<=12):=decide_eq_decide.2 (by omega)
theorem bnd3 (n:Nat):decide ((n:Int)<=3)=decide (n<=3):=decide_eq_decide.2 (by omega)
theorem ref04IsName_is (s:zn):wc s=some (nameB s):=by
 unfold wc nameB;rw [loopL_all alnum false]
 ·split
  ·rename_i h;simp only [Bool.or_eq_true,decide_eq_true_eq] at h;congr 1;rw [eq_comm,Bool.and_eq_false_iff,Bool.and_eq_false_iff];left;rcases h with h | h
   ·exact .inl (decide_eq_false (by omega))
   ·exact .inr (decide_eq_false (by omega))
  ·rename_i h;simp only [Bool.or_eq_true,decide_eq_true_eq] at h;have c:1<=s.length:=by omega
   have a:s.length<=12:=by omega
   cases ha:s.all alnum <;> simp [c,a]
 ·intro i x _;unfold alnum;have e:(((decide ((x.toNat:Int) >= 97))&&(decide ((x.toNat:Int)<=122)) || (decide ((x.toNat:Int) >= 65))&&(decide ((x.toNat:Int)<=90))) || (decide ((x.toNat:Int) >= 48))&&(decide ((x.toNat:Int)<=57))) =
    (decide (97<=x.toNat)&&decide (x.toNat<=122) || decide (65<=x.toNat)&&decide (x.toNat<=90) || decide (48<=x.toNat)&&decide (x.toNat<=57)):=by
   rw [Bool.eq_iff_iff];simp;omega
  rw [e];generalize (decide (97<=x.toNat)&&decide (x.toNat<=122) || decide (65<=x.toNat)&&decide (x.toNat<=90) || decide (48<=x.toNat)&&decide (x.toNat<=57))=b;cases b <;> rfl
theorem rune_loop (q:Int->Bool) (s:zn) {f:Nat->Option (Out Int Nat)} (a:∀i,f i=if i < s.length then (if q (dec s i).1=true then some (.ret (i:Int)) else some (.nxt (i+(dec s i).2))) else some (.brk i)) :
  ∀(k i:Nat),s.length - i=k->lp (yp f i) (λ_=>some (-1:Int))=some (runeIdx q s i)
 | k,i,hk=>by
  rw [yV,runeIdx.eq_def,a];by_cases h:i < s.length
  ·have b:=dec_width s i h;rw [if_pos h,dif_pos h];by_cases hq:q (dec s i).1=true
   ·simp [hq]
   ·have h0:¬ (dec s i).2=0:=by omega
    simp only [if_neg hq,if_neg h0];exact rune_loop q s a (s.length - (i+(dec s i).2)) _ rfl
  ·rw [if_neg h,dif_neg h];rfl
 termination_by k=>k
 decreasing_by omega
theorem stringsContains_other (s:zn):xz s (λx=>qB x)=some (!s.all alnum):=by
 have e:(λx=>qB x)=λx=>some (other x):=by
  funext x;unfold qB other;congr 1;rw [Bool.eq_iff_iff];simp
 unfold xz w9 wF;rw [e,rune_loop other s (λi=>by simp) _ 0 rfl];simp only [Option.bind_some];congr 1;cases h:s.all alnum with
 | true=>rw [rune_all h _ 0 rfl];rfl
 | false =>
  rw [List.all_eq_false] at h;obtain ⟨b,a,c⟩:=h;obtain ⟨k,d,rfl⟩:=List.getElem_of_mem a;have:=rune_some (List.getElem?_eq_getElem d) (by simpa using c) _ 0 rfl (Nat.zero_le _);simp [this]
theorem opIsName_is (s:zn):qY s=some (nameB s):=by
 unfold qY nameB;rw [stringsContains_other,bnd1,bnd12];cases h1:decide (1<=s.length) <;> cases h2:decide (s.length<=12) <;> simp
theorem contains_is {f:zn->Option Bool} {q:zn->Bool} (p:List zn) (a:∀x ∈ p,f x=some (q x)):yv p f=some (p.any q):=by
 unfold yv xN;rw [first_loop p a];simp only [Option.bind_some,firstI_any]
theorem opMayPath_is (p:List zn):qA p=some (vQ p):=by
 unfold qA vQ;rw [contains_is (q:=λs=>!nameB s) p (λx _=>by unfold opMayPathC1;rw [opIsName_is];rfl),bnd1,bnd3];have e:p.any (λs=>!nameB s)=!p.all nameB:=by rw [Bool.eq_iff_iff];simp
 rw [e];cases h1:decide (1<=p.length) <;> cases h2:decide (p.length<=3) <;> simp
def actorB (a:GActor):Bool:=decide (a.rep < 16)&&decide (a.inc >= 1)&&decide (a.inc<=4)
def xX (d:GDot):Bool:=actorB d.actor&&decide (d.seq >= 1)&&decide (d.seq<=1048576)
theorem dotMay_is (d:GDot):dotMay d=some (xX d):=rfl
theorem ref03MayActor_is (a:GActor):vn a=some (actorB a):=by
 unfold vn actorB;have:decide (a.rep<=15)=decide (a.rep < 16):=decide_eq_decide.2 (by omega);rw [this]
theorem ref03May_is (d:GDot):qa d=some (xX d):=by unfold qa;rw [ref03MayActor_is];rfl
def dotLt (a b:GDot):Bool:=if a.actor.rep ≠ b.actor.rep then decide (a.actor.rep < b.actor.rep) else if a.actor.inc ≠ b.actor.inc then decide (a.actor.inc < b.actor.inc) else decide (a.seq < b.seq)
theorem ref03Less_is (a b:GDot):vh a b=some (dotLt a b):=by
 unfold vh dotLt;by_cases h1:a.actor.rep=b.actor.rep <;> by_cases h2:a.actor.inc=b.actor.inc <;> simp [h1,h2]
def cmpI (a b:Int):Int:=if a < b then -1 else if b < a then 1 else 0
theorem cmpU8is (a b:Int):yZ a b=some (cmpI a b):=by
 unfold yZ wW cmpI;simp only [bne_self_eq_false,Option.bind_some,Bool.false_eq_true,if_false,decide_eq_true_eq,gt_iff_lt];split <;> (try split) <;> rfl
theorem cmpU32is (a b:Int):wb a b=some (cmpI a b):=by
 unfold wb wz cmpI;simp only [bne_self_eq_false,Option.bind_some,Bool.false_eq_true,if_false,decide_eq_true_eq,gt_iff_lt];split <;> (try split) <;> rfl
theorem cmpU64is (a b:Int):xH a b=some (cmpI a b):=by
 unfold xH wy cmpI;simp only [bne_self_eq_false,Option.bind_some,Bool.false_eq_true,if_false,decide_eq_true_eq,gt_iff_lt];split <;> (try split) <;> rfl
def or2 (a b:Int):Int:=if a ≠ 0 then a else b
theorem cmpOr2_is (a b:Int):cmpOrInt [a,b]=some (or2 a b):=by
 unfold cmpOrInt or2;by_cases h1:a=0 <;> by_cases h2:b=0 <;> simp [zk,h1,h2]
def actorCmp (a b:GActor):Int:=or2 (cmpI a.rep b.rep) (cmpI a.inc b.inc)
def dotCmp (a b:GDot):Int:=or2 (actorCmp a.actor b.actor) (cmpI a.seq b.seq)
theorem dotXcompare_is (a b:GActor):dotXcompare a b=some (actorCmp a b):=by
 unfold dotXcompare;rw [cmpU8is,cmpU32is];simp only [Option.bind_some];rw [cmpOr2_is];rfl
theorem qQ (a b:GDot):wm a b=some (dotCmp a b):=by
 unfold wm;rw [dotXcompare_is,cmpU64is];simp only [Option.bind_some];rw [cmpOr2_is];rfl
theorem dotCmp_lt (a b:GDot):decide (dotCmp a b >= 0)=!dotLt a b:=by
 unfold dotCmp actorCmp dotLt cmpI or2
 grind

def rising:List GDot->Bool
 | a::b::r=>dotLt a b&&rising (b::r)
 | _=>true
def xc (ds:List GDot) (i:Nat) (x:GDot):Bool:=decide (i=0) || dotLt (ds.getD (i - 1) default) x
theorem rising_loop (ds:List GDot) {g:Nat->GDot->Unit->Option (Out Bool Unit)}
  (e:∀i x,ds[i]?=some x->g i x ()=if (xX x&&xc ds i x)=true then some (.nxt ()) else some (.ret false)) :
  lp (zk g ds 0 ()) (λ_=>some true)=some (ds.all xX&&rising ds):=by
 have key:∀(L pre:List GDot),ds=pre++L->lp (zk g L pre.length ()) (λ_=>some true)=some (L.all xX&&rising (match pre.getLast? with | some y=>y::L | none=>L)):=by
  intro L
  induction L with
  | nil=>intro pre h;cases hp:pre.getLast? <;> simp [zk,rising]
  | cons x t ih =>
   intro pre h;have f:ds[pre.length]?=some x:=by rw [h];simp
   have a:=ih (pre++[x]) (by rw [h];simp);simp only [List.length_append,List.length_cons,List.length_nil,Nat.zero_add,List.getLast?_append,List.getLast?_singleton,Option.some_or] at a;simp only [zk,e _ _ f];cases hp:pre.getLast? with
   | none =>
    have b:pre=[]:=List.getLast?_eq_none_iff.1 hp;subst b;simp only [List.length_nil,Nat.zero_add] at a ⊢;cases hd:xX x <;> simp [xc,hd,a]
   | some y =>
    have c:pre ≠ []:=by rintro rfl;simp at hp
    have h0:0 < pre.length:=List.length_pos_iff.2 c;have d:ds.getD (pre.length - 1) default=y:=by
     rw [List.getD_eq_getElem?_getD,h,List.getElem?_append_left (by omega)];rw [List.getLast?_eq_getElem?] at hp;rw [hp];rfl
    have j:xc ds pre.length x=dotLt y x:=by
     unfold xc;rw [d];have:decide (pre.length=0)=false:=decide_eq_false (by omega);rw [this];rfl
    rw [j];cases hd:xX x <;> cases hlt:dotLt y x <;> simp [hd,hlt,a,rising]
 have:=key ds [] rfl;simpa using this
theorem same_loop {α:Type} [DecidableEq α] (M:List α) {eq:α->α->Bool} (d:∀a b,eq a b=decide (a=b)) {f:Nat->α->Unit->Option (Out Bool Unit)} :
  ∀(L:List α) (i:Nat),L.length+i=M.length->(∀j x,L[j]?=some x->f (i+j) x ()=(yi M ((i+j:Nat):Int)).bind λy=>if (!eq x y)=true then some (.ret false) else some (.nxt ())) ->
  zk f L i ()=if L=M.drop i then some (.inr ()) else some (.inl false)
 | [],i,hl,_=>by
  rw [List.drop_of_length_le (by simp at hl;omega)];rfl
 | x::t,i,hl,h=>by
  simp only [List.length_cons] at hl;have hi:i < M.length:=by omega
  have h0:=h 0 x rfl;simp only [Nat.add_zero] at h0;rw [idx_at hi] at h0;have g:=same_loop M d (f:=f) t (i+1) (by omega) (λj y k=>by have:=h (j+1) y k;rw [show i+1+j=i+(j+1) by omega];exact this);have e:M.drop i=M[i]::M.drop (i+1):=(List.getElem_cons_drop hi).symm;simp only [zk,h0,Option.bind_some,d,e];by_cases hx:x=M[i]
  ·simp only [hx,decide_true,Bool.not_true,Bool.false_eq_true,if_false,g,List.cons.injEq,true_and]
  ·have c:¬ (x::t=M[i]::M.drop (i+1)):=λhh=>hx (List.cons.inj hh).1;simp only [decide_eq_false hx,Bool.not_false,if_true,if_neg c]
theorem dotEq (a b:GDot):(a.actor.rep==b.actor.rep&&(a.actor.inc==b.actor.inc&&(a.seq==b.seq&&true)))=decide (a=b):=by
 rcases a with ⟨⟨c,g⟩,a3⟩;rcases b with ⟨⟨e,f⟩,d⟩
 rw [Bool.eq_iff_iff];simp [and_assoc]
theorem slicesEqualDot_is (L M:List GDot):wK L M=some (decide (L=M)):=by
 unfold wK;by_cases hl:L.length=M.length
 ·have e:((L.length:Int) != (M.length:Int))=false:=by simp;omega
  rw [e,same_loop M dotEq L 0 (by omega) (λj x a=>by simp)];by_cases h:L=M <;> simp [h]
 ·have e:((L.length:Int) != (M.length:Int))=true:=by simp;omega
  rw [e,decide_eq_false (λh=>hl (by rw [h]))];rfl
section
variable {α ρ:Type}
def allI (g:Nat->α->Bool) (L:List α):Bool:=L.zipIdx.all λp=>g p.2 p.1
theorem allI_iff {g:Nat->α->Bool} {L:List α}:allI g L=true ↔ ∀i x,L[i]?=some x->g i x=true:=by
 unfold allI;rw [List.all_eq_true];constructor
 ·intro h i x a;exact h (x,i) (List.mem_zipIdx_iff_getElem?.2 a)
 ·rintro h ⟨x,i⟩ a
  exact h i x (List.mem_zipIdx_iff_getElem?.1 a)
theorem loopL_allI (g:Nat->α->Bool) {r:ρ} {f:Nat->α->Unit->Option (Out ρ Unit)}:∀(L:List α) (k:Nat),(∀i x,L[i]?=some x->f (k+i) x ()=if g (k+i) x=true then some (.nxt ()) else some (.ret r)) ->
  zk f L k ()=if ((L.zipIdx k).all λp=>g p.2 p.1)=true then some (.inr ()) else some (.inl r)
 | [],_,_=>rfl
 | x::t,k,h=>by
  have h0:=h 0 x rfl;simp only [Nat.add_zero] at h0;have b:=loopL_allI g (f:=f) (r:=r) t (k+1) (λi y a=>by have:=h (i+1) y (by simpa using a);rw [show k+1+i=k+(i+1) by omega];exact this);simp only [zk,h0,List.zipIdx_cons,List.all_cons];by_cases hg:g k x=true
  ·simp only [hg,if_true,b,Bool.true_and]
  ·simp only [hg,Bool.false_eq_true,if_false,Bool.false_and]
theorem lp_all {σ:Type} (g:Nat->α->Bool) {r:σ} {L:List α} {f:Nat->α->Unit->Option (Out σ Unit)} {rest:Unit->Option σ} (a:∀i x,L[i]?=some x->f i x ()=if g i x=true then some (.nxt ()) else some (.ret r)) :
  lp (zk f L 0 ()) rest=if allI g L=true then rest () else some r:=by
 rw [loopL_allI g L 0 (λi x b=>by simpa using a i x b)];unfold allI;split <;> rfl
theorem lp_all0 {σ:Type} (g:α->Bool) {r:σ} {L:List α} {f:Nat->α->Unit->Option (Out σ Unit)} {rest:Unit->Option σ} (b:∀i x,L[i]?=some x->f i x ()=if g x=true then some (.nxt ()) else some (.ret r)) :
  lp (zk f L 0 ()) rest=if L.all g=true then rest () else some r:=by
 rw [lp_all (λ_=>g) b];have:allI (λ_=>g) L=L.all g:=by
  rw [Bool.eq_iff_iff,allI_iff,List.all_eq_true];exact ⟨λh x a=>by obtain ⟨i,hi⟩:=List.mem_iff_getElem?.1 a;exact h i x hi,λh i x a=>h x (List.mem_of_getElem? a)⟩
 rw [this]
end
theorem vG {j:Nat} (a:j+1<=maxLen):IntKind.wrap .i64 (((j+1:Nat):Int) - 1)=(j:Int):=by
 simp only [maxLen] at a;rw [w64n (by omega)];omega
theorem wrap_add1 {j:Nat} (a:j+1<=maxLen):IntKind.wrap .i64 ((j:Int)+1)=((j+1:Nat):Int):=by
 simp only [maxLen] at a;rw [w64n (by omega)];omega
theorem qX (j:Nat):decide (((j+1:Nat):Int) > 0)=true:=decide_eq_true (by omega)
def vW (n:Int):Bool:=decide (n >= 1)&&decide (n<=1099511627776)
def aheadI (a b:GItem):Bool:=if a.time ≠ b.time then decide (a.time < b.time) else dotLt a.dot b.dot
theorem leafXisTime_is (n:Int):leafXisTime n=some (vW n):=rfl
theorem leafXisText_is (s:zn):vR s=some (decide (s.length<=40)):=by unfold vR;rw [decide_eq_decide.2 (show ((s.length:Int)<=40) ↔ s.length<=40 by omega)]
theorem dotCmp_neg (a b:GDot):decide (dotCmp a b < 0)=dotLt a b:=by
 have h:=dotCmp_lt a b;have:decide (dotCmp a b < 0)=!decide (dotCmp a b >= 0):=by rw [Bool.eq_iff_iff];simp
 rw [this,h,Bool.not_not]
theorem leafAhead_is (a:Int) (d:GDot) (b:Int) (o:GDot):qJ a d b o=some (if a ≠ b then decide (a < b) else dotLt d o):=by
 unfold qJ vi;rw [cmpU64is,qQ];simp only [Option.bind_some,cmpOr2_is];congr 1;by_cases h:a=b
 ·subst h;have:cmpI a a=0:=by unfold cmpI;simp
  simp [or2,this,dotCmp_neg]
 ·have:cmpI a b ≠ 0:=by unfold cmpI;split <;> (try split) <;> omega
  simp only [or2,this,ne_eq,not_false_eq_true,if_true,h];unfold cmpI;rw [Bool.eq_iff_iff];simp only [decide_eq_true_eq];split <;> (try split) <;> omega
theorem ref05Ahead_is (a:Int) (d:GDot) (b:Int) (o:GDot):wN a d b o=some (if a ≠ b then decide (a < b) else dotLt d o):=by
 unfold wN;by_cases h:a=b <;> simp [h,ref03Less_is]
def prevI {α:Type} [Inhabited α] (L:List α) (i:Nat):α:=L.getD (i - 1) default
def wU (timed:Bool) (x:GItem):Bool:=xX x.dot&&decide (x.text.length<=40)&&(if timed then vW x.time else decide (x.time=0))
def riseB (L:List GItem):Bool:=allI (λi x=>decide (i=0) || aheadI (prevI L i) x) L
def onceB (L:List GItem):Bool:=decide ((L.map (·.dot)).Nodup)
theorem eqb_iff (a b:GDot):GDot.eqb a b=decide (a=b):=by unfold GDot.eqb;exact dotEq a b
def qe (m:List (GDot×Int)):List GDot:=m.map (·.1)
theorem mput_keys (m:List (GDot×Int)) (k:GDot) (v:Int):qe (mput GDot.eqb m k v)=if k ∈ qe m then qe m else qe m++[k]:=by
 induction m with
 | nil=>simp [mput,qe]
 | cons e r ih =>
  simp only [mput,eqb_iff];by_cases h:k=e.1
  ·simp [h,qe]
  ·simp only [decide_eq_false h,Bool.false_eq_true,if_false,qe,List.map_cons,List.mem_cons] at ih ⊢;rw [ih];by_cases h2:k ∈ r.map (·.1) <;> simp [h,h2]
theorem twice_fold:∀(L:List GItem) (m:List (GDot×Int)),(qe m).Nodup ->
  (L.foldl (λs x=>mput GDot.eqb s x.dot (IntKind.wrap .i64 ((x7 GDot.eqb 0 s x.dot)+1))) m).length<=m.length+L.length /\
  ((L.foldl (λs x=>mput GDot.eqb s x.dot (IntKind.wrap .i64 ((x7 GDot.eqb 0 s x.dot)+1))) m).length=m.length+L.length ↔ (qe m++L.map (·.dot)).Nodup)
 | [],m,h=>by simp [h]
 | x::t,m,h=>by
  simp only [List.foldl_cons];have c:=mput_keys m x.dot (IntKind.wrap .i64 ((x7 GDot.eqb 0 m x.dot)+1));generalize hm:mput GDot.eqb m x.dot (IntKind.wrap .i64 ((x7 GDot.eqb 0 m x.dot)+1))=m' at c;have f:m'.length=(qe m').length:=by simp [qe]
  have l:m.length=(qe m).length:=by simp [qe]
  by_cases hx:x.dot ∈ qe m
  ·rw [if_pos hx] at c;have d:=twice_fold t m' (by rw [c];exact h);rw [c] at d f;refine ⟨by simp only [List.length_cons];omega,?_⟩;constructor
   ·intro k;simp only [List.length_cons] at k;omega
   ·intro i;rw [List.nodup_append] at i;exact absurd rfl (i.2.2 _ hx _ (by simp))
  ·rw [if_neg hx] at c;have g:(qe m++[x.dot]).Nodup:=by
    rw [List.nodup_append];refine ⟨h,by simp,λa n b j=>?_⟩;simp at j;subst j;rintro rfl;exact hx n
   have d:=twice_fold t m' (by rw [c];exact g);rw [c] at d f;simp only [List.length_append,List.length_cons,List.length_nil] at f;refine ⟨by simp only [List.length_cons];omega,?_⟩;have e:qe m++[x.dot]++t.map (·.dot)=qe m++(x::t).map (·.dot):=by simp
   rw [<- e,<- d.2];simp only [List.length_cons];omega
theorem leafXtwice_is (L:List GItem):leafXtwice L=some (!onceB L):=by
 unfold leafXtwice;rw [loopL_fold (λs x=>mput GDot.eqb s x.dot (IntKind.wrap .i64 ((x7 GDot.eqb 0 s x.dot)+1))) L 0 [] (λ_ _ _ _=>rfl)];have h:=twice_fold L [] (by simp [qe]);simp only [List.length_nil,Nat.zero_add,qe,List.map_nil,List.nil_append] at h;simp only [xb,onceB];congr 1;generalize List.length (List.foldl _ _ _)=n at h ⊢;by_cases hn:(L.map (·.dot)).Nodup
 ·have:=h.2.2 hn;rw [decide_eq_true hn,decide_eq_false (by omega)];rfl
 ·have a:n ≠ L.length:=λe=>hn (h.2.1 e);rw [decide_eq_false hn,decide_eq_true (by omega)];rfl
theorem leafXitems_is {L:List GItem} (l:L.length<=maxLen) (a:Bool):qI L a=some (L.all (wU a)&&riseB L&&onceB L):=by
 unfold qI;rw [lp_all (r:=false) (λi x=>wU a x&&(decide (i=0) || aheadI (prevI L i) x))]
 ·rw [leafXtwice_is];have e:allI (λi x=>wU a x&&(decide (i=0) || aheadI (prevI L i) x)) L=(L.all (wU a)&&riseB L):=by
   rw [Bool.eq_iff_iff,Bool.and_eq_true,riseB,allI_iff,allI_iff,List.all_eq_true];constructor
   ·intro h;exact ⟨λx b=>by obtain ⟨i,hi⟩:=List.mem_iff_getElem?.1 b;have:=h i x hi;simp only [Bool.and_eq_true] at this;exact this.1,λi x b=>by have:=h i x b;simp only [Bool.and_eq_true] at this;exact this.2⟩
   ·rintro ⟨m,f⟩ i x b
    simp only [Bool.and_eq_true];exact ⟨m x (List.mem_of_getElem? b),f i x b⟩
  rw [e];simp only [Option.bind_some,Bool.not_not];cases L.all (wU a)&&riseB L <;> simp
 ·intro i x b;have hi:i < L.length:=(List.getElem?_eq_some_iff.1 b).1;simp only [dotMay_is,leafXisText_is,leafXisTime_is,Option.bind_some,leafAhead_is];have k:wU a x=(xX x.dot&&decide (x.text.length<=40)&&(a==vW x.time)&&(a || decide (x.time=0))):=by
   unfold wU;cases a
   ·by_cases h0:x.time=0
    ·simp [h0,show vW 0=false from rfl]
    ·simp [h0]
   ·simp
  rw [k];cases hd:xX x.dot
  ·simp
  cases ht:decide (x.text.length<=40)
  ·simp
  by_cases htt:a=vW x.time
  ·have g:(x.time != 0)=!decide (x.time=0):=by rw [Bool.eq_iff_iff];simp
   have c:(a==vW x.time)=true:=by simpa using htt
   rw [g,c];cases hzz:(a || decide (x.time=0))
   ·have:(!a&&!decide (x.time=0))=true:=by rw [<- Bool.not_or,hzz];rfl
    simp [this]
   have:(!a&&!decide (x.time=0))=false:=by rw [<- Bool.not_or,hzz];rfl
   rw [this];rcases i with _ | j
   ·simp [zY,htt]
   ·rw [vG (by simp only [maxLen] at l ⊢;omega),qX];have d:(j:Int) < (L.length:Int):=by omega
    simp [zY,d,prevI,aheadI,htt];by_cases hq:(L[j]?.getD default).time=x.time
    ·cases hdl:dotLt (L[j]?.getD default).dot x.dot <;> simp [hq,hdl]
    ·by_cases hlt:(L[j]?.getD default).time < x.time
     ·simp [hq,hlt,Int.not_le.2 hlt]
     ·simp [hq,hlt,Int.not_lt.1 hlt]
  ·have c:(a==vW x.time)=false:=by simpa using htt
   rw [c];simp [htt]

theorem itemEq (a b:GItem):(a.time==b.time&&(a.dot.actor.rep==b.dot.actor.rep&&(a.dot.actor.inc==b.dot.actor.inc&&(a.dot.seq==b.dot.seq&&(a.text==b.text&&true)))))=decide (a=b):=by
 rcases a with ⟨a0,⟨⟨c,h⟩,a3⟩,a4⟩;rcases b with ⟨b0,⟨⟨e,g⟩,d⟩,f⟩
 rw [Bool.eq_iff_iff];simp [and_assoc]
theorem slicesEqualItem_is (L M:List GItem):wt L M=some (decide (L=M)):=by
 unfold wt;by_cases hl:L.length=M.length
 ·have e:((L.length:Int) != (M.length:Int))=false:=by simp;omega
  rw [e,same_loop M itemEq L 0 (by omega) (λj x a=>by simp)];by_cases h:L=M <;> simp [h]
 ·have e:((L.length:Int) != (M.length:Int))=true:=by simp;omega
  rw [e,decide_eq_false (λh=>hl (by rw [h]))];rfl
theorem leafSame_is (a b:GLeaf):ww a b=some (decide (a=b)):=by
 unfold ww;simp only [slicesEqualItem_is,slicesEqualDot_is,dotEq];rcases a with ⟨a0,c,j,a3,a4,a5,e⟩;rcases b with ⟨b0,f,i,d,g,k,h⟩
 simp only [GLeaf.mk.injEq];by_cases h0:a0=b0 <;> by_cases h1:c=f <;> by_cases h2:j=i <;> by_cases h3:a3=d <;> by_cases h4:a4=g <;> by_cases h5:a5=k <;> by_cases h6:e=h <;> simp [h0,h1,h2,h3,h4,h5,h6]
def dot0:GDot:=⟨⟨0,0⟩,0⟩
def zeroB (l:GLeaf):Bool:=decide (l.time=0)&&decide (l.dot=dot0)&&decide (l.text=[])
def tombsB (l:GLeaf):Bool:=l.tombs.all xX&&rising l.tombs&&l.tombs.all (λd=>!l.items.any λx=>decide (x.dot=d))
def leafB (l:GLeaf):Bool :=
 if l.typ=1 then zeroB l&&decide (l.items=[])&&decide (l.tombs=[])
 else if l.typ=2 then decide (l.n=0)&&decide (l.items=[])&&decide (l.tombs=[])&&(if l.time=0 then decide (l.dot=dot0)&&decide (l.text=[]) else vW l.time&&xX l.dot&&decide (l.text.length<=40))
 else if l.typ=3 then decide (l.n=0)&&zeroB l&&(l.items.all (wU false)&&riseB l.items&&onceB l.items)&&tombsB l
 else if l.typ=4 then decide (l.n=0)&&zeroB l&&decide (l.tombs=[])&&(l.items.all (wU true)&&riseB l.items&&onceB l.items)
 else false
theorem containsItem_is {f:GItem->Option Bool} {q:GItem->Bool} (p:List GItem) (a:∀x ∈ p,f x=some (q x)):yT p f=some (p.any q):=by
 unfold yT yg;rw [first_loop p a,Option.bind_some,firstI_any]
theorem leafXhas_is (L:List GItem) (d:GDot):leafXhas L d=some (L.any λx=>decide (x.dot=d)):=by
 unfold leafXhas;rw [containsItem_is (q:=λx=>decide (x.dot=d)) L (λx _=>by unfold leafXhasC1;rw [dotEq]),Option.bind_some]
theorem rising_allI (ds:List GDot):rising ds=allI (λi x=>xc ds i x) ds:=by
 have h:=rising_loop ds (g:=λi x _=>if (xX x&&xc ds i x)=true then some (.nxt ()) else some (.ret false)) (λ_ _ _=>rfl);have key:∀(L pre:List GDot),ds=pre++L->rising (match pre.getLast? with | some y=>y::L | none=>L)=(L.zipIdx pre.length).all λp=>xc ds p.2 p.1:=by
  intro L
  induction L with
  | nil=>intro pre _;cases pre.getLast? <;> simp [rising]
  | cons x t ih =>
   intro pre hd;have a:=ih (pre++[x]) (by rw [hd];simp);simp only [List.length_append,List.length_cons,List.length_nil,Nat.zero_add,List.getLast?_append,List.getLast?_singleton,Option.some_or] at a;simp only [List.zipIdx_cons,List.all_cons];cases hp:pre.getLast? with
   | none =>
    have b:pre=[]:=List.getLast?_eq_none_iff.1 hp;subst b;simp only [List.length_nil,Nat.zero_add] at a ⊢;rw [a];simp [xc]
   | some y =>
    have c:pre ≠ []:=by rintro rfl;simp at hp
    have h0:0 < pre.length:=List.length_pos_iff.2 c;have d:ds.getD (pre.length - 1) default=y:=by
     rw [List.getD_eq_getElem?_getD,hd,List.getElem?_append_left (by omega)];rw [List.getLast?_eq_getElem?] at hp;rw [hp];rfl
    have e:xc ds pre.length x=dotLt y x:=by
     unfold xc;rw [d,decide_eq_false (by omega)];rfl
    rw [e,<- a];simp [rising]
 simpa [allI] using key ds [] rfl
theorem leafXtombs_is {l:GLeaf} (f:l.tombs.length<=maxLen):leafXtombs l=some (tombsB l):=by
 unfold leafXtombs;rw [lp_all (r:=false) (λi x=>xX x&&xc l.tombs i x&&!(l.items.any λy=>decide (y.dot=x)))]
 ·have e:allI (λi x=>xX x&&xc l.tombs i x&&!(l.items.any λy=>decide (y.dot=x))) l.tombs=tombsB l:=by
   unfold tombsB;rw [Bool.eq_iff_iff,rising_allI,Bool.and_eq_true,Bool.and_eq_true,allI_iff,allI_iff,List.all_eq_true,List.all_eq_true];constructor
   ·intro h;refine ⟨⟨λx a=>?_,λi x a=>?_⟩,λx a=>?_⟩
    ·obtain ⟨i,hi⟩:=List.mem_iff_getElem?.1 a;have:=h i x hi;simp only [Bool.and_eq_true] at this;exact this.1.1
    ·have:=h i x a;simp only [Bool.and_eq_true] at this;exact this.1.2
    ·obtain ⟨i,hi⟩:=List.mem_iff_getElem?.1 a;have:=h i x hi;simp only [Bool.and_eq_true] at this;exact this.2
   ·rintro ⟨⟨g,d⟩,c⟩ i x a
    have b:=List.mem_of_getElem? a;simp only [Bool.and_eq_true];exact ⟨⟨g x b,d i x a⟩,c x b⟩
  rw [e];cases tombsB l <;> rfl
 ·intro i x a;have hi:i < l.tombs.length:=(List.getElem?_eq_some_iff.1 a).1;simp only [dotMay_is,Option.bind_some,qQ,leafXhas_is];cases hd:xX x
  ·simp [zY]
  rcases i with _ | j
  ·cases hh:(l.items.any λy=>decide (y.dot=x)) <;> simp [zY,xc]
  ·rw [vG (by simp only [maxLen] at f ⊢;omega),qX];have m:(j:Int) < (l.tombs.length:Int):=by omega
   have k:xc l.tombs (j+1) x=dotLt (l.tombs.getD j default) x:=by unfold xc;simp
   have e:=dotCmp_lt (l.tombs.getD j default) x;rw [zp (by intro _;omega),k,Int.toNat_natCast];generalize l.tombs.getD j default=y at e ⊢;simp only [Bool.not_true,BEq.rfl,Bool.true_and,if_true,Option.bind_some,e,Bool.false_or];cases hlt:dotLt y x
   ·simp
   ·cases hh:(l.items.any λy=>decide (y.dot=x)) <;> simp
theorem leafMay_is {l:GLeaf} (hi:l.items.length<=maxLen) (e:l.tombs.length<=maxLen):leafMay l=some (leafB l):=by
 unfold leafMay leafB;simp only [leafSame_is,leafXisTime_is,dotMay_is,leafXisText_is,leafXitems_is hi,leafXtombs_is e,dotEq,Option.bind_some];rcases l with ⟨t,n,b,d,c,a,f⟩
 simp only [GLeaf.mk.injEq,zeroB,beq_iff_eq,dot0];by_cases h1:t=1
 ·simp only [h1,if_true];congr 1;rw [Bool.eq_iff_iff];simp [and_assoc];intros;exact decide_eq_true_iff.symm
 by_cases h2:t=2
 ·subst h2;by_cases h0:b=0
  ·subst h0;by_cases hd:d=⟨⟨0,0⟩,0⟩
   ·by_cases hx:c=[]
    ·simp [hd,hx];rw [Bool.eq_iff_iff];simp [and_assoc]
    ·simp [hd,hx]
   ·have h:((0:Int)==0&&!decide (d=⟨⟨0,0⟩,0⟩))=true:=by simp [hd]
    simp [hd];intro j;rcases d with ⟨⟨g,k⟩,i⟩
    simp_all
  ·cases htt:vW b <;> cases hdd:xX d <;> cases hxx:decide (c.length<=40) <;> simp_all [and_assoc];rw [Bool.eq_iff_iff];simp [and_assoc]
 by_cases h3:t=3
 ·subst h3;cases ha:(a.all (wU false)&&riseB a&&onceB a) <;> cases hb:tombsB ⟨3,n,b,d,c,a,f⟩ <;> simp [and_assoc];rw [Bool.eq_iff_iff];simp [and_assoc];intros;exact decide_eq_true_iff.symm
 by_cases h4:t=4
 ·subst h4;cases ha:(a.all (wU true)&&riseB a&&onceB a) <;> simp [and_assoc];rw [Bool.eq_iff_iff];simp [and_assoc];intros;exact decide_eq_true_iff.symm
 simp [h1,h2,h3,h4]

theorem ref05Item_is (L:List GItem) (d:GDot):ref05Item L d=some (qf (λx=>decide (x.dot=d)) L):=by
 unfold ref05Item;rw [loopL_first (λx:GItem=>decide (x.dot=d)) (λi _=>(i:Int)) _ _ (λi x _=>by rw [dotEq])];unfold qf;cases h:L.findIdx? (λx=>decide (x.dot=d)) with
 | none=>simp
 | some j =>
  obtain ⟨a,_⟩:=List.findIdx?_eq_some_iff_getElem.1 h;simp [List.getElem?_eq_getElem a]
theorem vf (L:List GDot) (d:GDot):vg L d=some (L.any λx=>decide (x=d)):=by
 unfold vg;rw [lp_all0 (r:=true) (λx:GDot=>!decide (x=d)) (λi x _=>by rw [dotEq];cases decide (x=d) <;> rfl)];have e:L.any (λx=>decide (x=d))=!L.all (λx=>!decide (x=d)):=by rw [Bool.eq_iff_iff];simp
 rw [e];cases L.all (λx=>!decide (x=d)) <;> rfl
theorem first_nodup (L:List GItem):(∀(i:Nat) (x:GItem),L[i]?=some x->qf (λy:GItem=>decide (y.dot=x.dot)) L=(i:Int)) ↔ (L.map (·.dot)).Nodup:=by
 constructor
 ·intro h;rw [List.nodup_iff_pairwise_ne,List.pairwise_iff_getElem];intro i j hi a f e;simp only [List.length_map] at hi a;simp only [List.getElem_map] at e;have c:=h i _ (List.getElem?_eq_getElem hi);have d:=h j _ (List.getElem?_eq_getElem a);rw [e] at c;rw [c] at d;omega
 ·intro h i x g;obtain ⟨hi,rfl⟩:=List.getElem?_eq_some_iff.1 g;unfold qf;have:L.findIdx? (λy=>decide (y.dot=L[i].dot))=some i:=by
   rw [List.findIdx?_eq_some_iff_getElem];refine ⟨hi,by simp,λj a=>?_⟩;have b:j < L.length:=by omega
   simp only [decide_eq_true_eq];intro e;rw [List.nodup_iff_pairwise_ne,List.pairwise_iff_getElem] at h;exact h j i (by simpa using b) (by simpa using hi) a (by simpa using e)
  rw [this]
def itemR (t:Int) (x:GItem):Bool:=xX x.dot&&decide (x.text.length<=40)&&(decide (t ≠ 3) || decide (x.time=0))&&(decide (t ≠ 4) || vW x.time)
def tailB (l:GLeaf):Bool:=l.items.all (itemR l.typ)&&onceB l.items&&l.items.all (λx=>!(l.tombs.any λy=>decide (y=x.dot)))&&riseB l.items&&(l.tombs.all xX&&rising l.tombs)
theorem items_allI (l:GLeaf):allI (λi x=>itemR l.typ x&&(decide (qf (λy:GItem=>decide (y.dot=x.dot)) l.items=(i:Int))&&(!(l.tombs.any λy=>decide (y=x.dot))&&(decide (i=0) || aheadI (prevI l.items i) x)))) l.items =
  (l.items.all (itemR l.typ)&&onceB l.items&&l.items.all (λx=>!(l.tombs.any λy=>decide (y=x.dot)))&&riseB l.items):=by
 rw [Bool.eq_iff_iff,allI_iff];simp only [Bool.and_eq_true,decide_eq_true_eq,onceB,riseB,allI_iff,List.all_eq_true,<- first_nodup];constructor
 ·intro h;refine ⟨⟨⟨λx a=>?_,λi x a=>(h i x a).2.1⟩,λx a=>?_⟩,λi x a=>(h i x a).2.2.2⟩
  ·obtain ⟨i,hi⟩:=List.mem_iff_getElem?.1 a;exact (h i x hi).1
  ·obtain ⟨i,hi⟩:=List.mem_iff_getElem?.1 a;exact (h i x hi).2.2.1
 ·rintro ⟨⟨⟨e,d⟩,c⟩,f⟩ i x a
  have b:=List.mem_of_getElem? a;exact ⟨e x b,d i x a,c x b,f i x a⟩
theorem tombs_allI (ds:List GDot):allI (λi x=>xX x&&xc ds i x) ds=(ds.all xX&&rising ds):=by
 rw [Bool.eq_iff_iff,allI_iff,rising_allI];simp only [Bool.and_eq_true,allI_iff,List.all_eq_true];constructor
 ·intro h;exact ⟨λx a=>by obtain ⟨i,hi⟩:=List.mem_iff_getElem?.1 a;exact (h i x hi).1,λi x a=>(h i x a).2⟩
 ·rintro ⟨c,b⟩ i x a
  exact ⟨c x (List.mem_of_getElem? a),b i x a⟩
theorem ref05May_is {l:GLeaf} (hi:l.items.length<=maxLen) (z:l.tombs.length<=maxLen) (h0:0<=l.time):ref05May l=some (leafB l):=by
 unfold ref05May;simp only [ref03May_is,ref05Item_is,vf,ref05Ahead_is,ref03Less_is,Option.bind_some,dotEq];generalize hT:lp (zk _ l.items 0 ()) _=T;have t:decide ((l.items.length:Int) > 0)=!decide (l.items=[]):=by cases l.items <;> simp
 have v:decide ((l.tombs.length:Int) > 0)=!decide (l.tombs=[]):=by cases l.tombs <;> simp
 have k:T=some (tailB l):=by
  rw [<- hT,lp_all (r:=false) (λi x=>itemR l.typ x&&(decide (qf (λy:GItem=>decide (y.dot=x.dot)) l.items=(i:Int))&&(!(l.tombs.any λy=>decide (y=x.dot))&&(decide (i=0) || aheadI (prevI l.items i) x))))]
  ·rw [lp_all (r:=false) (λi x=>xX x&&xc l.tombs i x)]
   ·rw [items_allI,tombs_allI];unfold tailB;cases (l.items.all (itemR l.typ)&&onceB l.items&&l.items.all (λx=>!(l.tombs.any λy=>decide (y=x.dot)))&&riseB l.items) <;> cases (l.tombs.all xX&&rising l.tombs) <;> simp
   ·intro i x b;have p:i < l.tombs.length:=(List.getElem?_eq_some_iff.1 b).1;have g:l.tombs.getD i default=x:=by rw [List.getD_eq_getElem?_getD,b];rfl
    rcases i with _ | j
    ·cases hd:xX x <;> simp [zY,xc]
    ·rw [vG (by simp only [maxLen] at z ⊢;omega),qX,Int.toNat_natCast,Int.toNat_natCast,g];have s:xc l.tombs (j+1) x=dotLt (l.tombs.getD j default) x:=by unfold xc;simp
     rw [zp (by intro _;omega),zp (by intro _;omega),s];generalize l.tombs.getD j default=y;cases hd:xX x <;> cases f:dotLt y x <;> simp
  ·intro i x b;have p:i < l.items.length:=(List.getElem?_eq_some_iff.1 b).1;have u:decide ((x.text.length:Int) > 40)=!decide (x.text.length<=40):=by rw [Bool.eq_iff_iff];simp;omega
   have B:(((l.typ==4)&&(decide (x.time < 1) || decide (x.time > 1099511627776))))=!(decide (l.typ ≠ 4) || vW x.time):=by
    rw [Bool.eq_iff_iff];simp [vW]
   have C:((l.typ==3)&&(x.time != 0))=!(decide (l.typ ≠ 3) || decide (x.time=0)):=by rw [Bool.eq_iff_iff];simp
   rw [u,B,C];have D:(((!xX x.dot || !decide (x.text.length<=40)) || !(decide (l.typ ≠ 3) || decide (x.time=0))) || !(decide (l.typ ≠ 4) || vW x.time))=!itemR l.typ x:=by unfold itemR;simp only [Bool.not_and]
   rw [D];have E:(qf (λy:GItem=>decide (y.dot=x.dot)) l.items != (i:Int))=!decide (qf (λy:GItem=>decide (y.dot=x.dot)) l.items=(i:Int)):=by rw [Bool.eq_iff_iff];simp
   cases hr:itemR l.typ x
   ·simp
   simp only [Bool.not_true,BEq.rfl,if_true,Option.bind_some,Bool.false_or];rw [E];cases hf:decide (qf (λy:GItem=>decide (y.dot=x.dot)) l.items=(i:Int))
   ·simp
   cases htb:l.tombs.any λy=>decide (y=x.dot)
   ·rcases i with _ | j
    ·simp [zY]
    ·rw [vG (by simp only [maxLen] at hi ⊢;omega),qX,Int.toNat_natCast];rw [zp (by intro _;omega),zp (by intro _;omega)];have s:(if (l.items.getD j default).time ≠ x.time then decide ((l.items.getD j default).time < x.time) else dotLt (l.items.getD j default).dot x.dot)=aheadI (prevI l.items (j+1)) x:=rfl;rw [s];cases aheadI (prevI l.items (j+1)) x <;> simp
   ·simp
 subst k;clear hT;rw [t,v];have F:(l.time != 0)=!decide (l.time=0):=by rw [Bool.eq_iff_iff];simp
 have A:(l.time==0)=decide (l.time=0):=by rw [Bool.eq_iff_iff];simp
 have z3:(l.text==([]:zn))=decide (l.text=[]):=by rw [Bool.eq_iff_iff];simp
 have z4:decide (l.time > 1099511627776)=!decide (l.time<=1099511627776):=by rw [Bool.eq_iff_iff];simp
 have z5:decide ((l.text.length:Int) > 40)=!decide (l.text.length<=40):=by rw [Bool.eq_iff_iff];simp;omega
 have m:zeroB l=(decide (l.time=0)&&decide (l.dot=dot0)&&decide (l.text=[])):=rfl;have w:(l.dot.actor.rep==0&&(l.dot.actor.inc==0&&(l.dot.seq==0&&true)))=decide (l.dot=dot0):=dotEq l.dot dot0;rw [F,A,z3,z4,z5,w];by_cases h1:l.typ=1
 ·have hi:decide (l.items=[])=true->tailB l=(l.tombs.all xX&&rising l.tombs):=by
   intro h;have:=of_decide_eq_true h;unfold tailB;rw [this];simp [onceB,riseB,allI]
  unfold leafB;simp only [h1,if_true,m];cases hi2:decide (l.items=[])
  ·simp
  ·rw [hi hi2];cases ht2:decide (l.tombs=[])
   ·simp
   ·have:=of_decide_eq_true ht2;rw [this];cases decide (l.time=0) <;> cases decide (l.dot=dot0) <;> cases decide (l.text=[]) <;> simp [rising]
 by_cases h2:l.typ=2
 ·have hi:decide (l.items=[])=true->tailB l=(l.tombs.all xX&&rising l.tombs):=by
   intro h;have:=of_decide_eq_true h;unfold tailB;rw [this];simp [onceB,riseB,allI]
  unfold leafB;have c:vW l.time=(!decide (l.time=0)&&decide (l.time<=1099511627776)):=by
   unfold vW;rw [Bool.eq_iff_iff];simp;omega
  simp only [h2,if_true,c];cases hn:decide (l.n=0)
  ·have:(l.n != 0)=true:=by simpa using hn
   simp [this]
  ·have a:l.n=0:=of_decide_eq_true hn;cases hi2:decide (l.items=[])
   ·simp [a]
   ·rw [hi hi2];cases ht2:decide (l.tombs=[])
    ·simp [a]
    ·have:=of_decide_eq_true ht2;rw [this];by_cases ht0:l.time=0
     ·cases hdd:decide (l.dot=dot0) <;> cases htx:decide (l.text=[]) <;> simp [a,ht0,rising]
     ·cases hm:decide (l.time<=1099511627776) <;> cases hdd:xX l.dot <;> cases htx:decide (l.text.length<=40) <;> simp [a,ht0,rising]
 by_cases h3:l.typ=3
 ·have o:(λx=>itemR 3 x)=wU false:=by
   funext x;unfold itemR wU;simp
  have q:tailB l=(l.items.all (wU false)&&riseB l.items&&onceB l.items&&tombsB l):=by
   unfold tailB tombsB;rw [h3,show itemR 3=wU false from o];have G:l.items.all (λx=>!(l.tombs.any λy=>decide (y=x.dot)))=l.tombs.all (λd=>!l.items.any λx=>decide (x.dot=d)):=by
    rw [Bool.eq_iff_iff];simp only [List.all_eq_true,Bool.not_eq_true',List.any_eq_false,decide_eq_true_eq];exact ⟨λh d hd x b e=>h x b d hd e.symm,λh x b d hd e=>h d hd x b e.symm⟩
   rw [G];cases l.items.all (wU false) <;> cases onceB l.items <;> cases riseB l.items <;> cases l.tombs.all xX <;> cases rising l.tombs <;> cases l.tombs.all (λd=>!l.items.any λx=>decide (x.dot=d)) <;> rfl
  unfold leafB;simp only [h3,q,m];cases hn:decide (l.n=0)
  ·have:(l.n != 0)=true:=by simpa using hn
   simp [this]
  ·have a:l.n=0:=of_decide_eq_true hn;cases decide (l.time=0) <;> cases decide (l.dot=dot0) <;> cases decide (l.text=[]) <;> simp [a]
 by_cases h4:l.typ=4
 ·have o:(λx=>itemR 4 x)=wU true:=by
   funext x;unfold itemR wU;simp
  have q:decide (l.tombs=[])=true->tailB l=(l.items.all (wU true)&&riseB l.items&&onceB l.items):=by
   intro h;have:=of_decide_eq_true h;unfold tailB;rw [h4,show itemR 4=wU true from o,this];cases l.items.all (wU true) <;> cases onceB l.items <;> cases riseB l.items <;> simp [rising]
  unfold leafB;simp only [h4,m];cases hn:decide (l.n=0)
  ·have:(l.n != 0)=true:=by simpa using hn
   simp [this]
  ·have a:l.n=0:=of_decide_eq_true hn;cases ht2:decide (l.tombs=[])
   ·simp [a]
   ·rw [q ht2];cases decide (l.time=0) <;> cases decide (l.dot=dot0) <;> cases decide (l.text=[]) <;> simp [a]
 have f:l.typ < 1 \/ 4 < l.typ:=by omega
 have:(decide (l.typ < 1) || decide (l.typ > 4))=true:=by simp;omega
 unfold leafB;rw [this,if_neg h1,if_neg h2,if_neg h3,if_neg h4];simp

mutual
def GNode.dep:GNode->Nat
 | ⟨_,_,sb⟩=>GNode.deps sb+1
def GNode.deps:List GNode->Nat
 | []=>0
 | x::r=>max x.dep (GNode.deps r)
end
theorem qh {x:GNode}:∀{t:List GNode},x ∈ t->x.dep<=GNode.deps t
 | [],h=>by cases h
 | y::r,h=>by
  simp only [GNode.deps];rcases List.mem_cons.1 h with rfl | h
  ·omega
  ·have:=qh h;omega
theorem xM (x:GNode):GNode.deps x.subs+1=x.dep:=by cases x;simp [GNode.dep]
def Small (t:List GNode):Prop:=GNode.wfs t/\GNode.bks t<=16777216
theorem bk_pos (x:GNode):1<=x.bk:=by cases x;simp only [GNode.bk];omega
theorem len_bks:∀t:List GNode,t.length<=GNode.bks t
 | []=>by simp [GNode.bks]
 | x::r=>by have:=len_bks r;have:=bk_pos x;simp only [GNode.bks,List.length_cons];omega
theorem bk_mem {x:GNode}:∀{t:List GNode},x ∈ t->x.bk<=GNode.bks t
 | [],h=>by cases h
 | y::r,h=>by
  simp only [GNode.bks];rcases List.mem_cons.1 h with rfl | h
  ·omega
  ·have:=bk_mem h;omega
theorem sum_len {α:Type} {f:α->Nat} (h:∀x,1<=f x):∀l:List α,l.length<=(l.map f).sum
 | []=>by simp
 | x::r=>by have:=sum_len h r;have:=h x;simp only [List.length_cons,List.map_cons,List.sum_cons];omega
theorem sum_mem {α:Type} {f:α->Nat} {x:α}:∀{l:List α},x ∈ l->f x<=(l.map f).sum
 | [],h=>by cases h
 | y::r,h=>by
  simp only [List.map_cons,List.sum_cons];rcases List.mem_cons.1 h with rfl | h
  ·omega
  ·have:=sum_mem (f:=f) h;omega
theorem bk_node (x:GNode):x.name.length+1+((x.leaves.map GLeaf.bk).sum+1)+(GNode.bks x.subs+1)<=x.bk:=by cases x;simp only [GNode.bk];omega
theorem Small.subs {t:List GNode} (h:Small t) {x:GNode} (a:x ∈ t):Small x.subs:=by
 refine ⟨?_,by have:=bk_mem a;have:=bk_node x;have:=h.2;omega⟩;have:=(GNode.wfs_iff t).1 h.1 x a;cases x;simp only [GNode.wf] at this;exact this.2.2
theorem Small.len {t:List GNode} (h:Small t):t.length<=16777216:=Nat.le_trans (len_bks t) h.2
structure LeafOk (l:GLeaf):Prop where
 items:l.items.length<=16777216
 tombs:l.tombs.length<=16777216
 time:0<=l.time
theorem Small.leaf {t:List GNode} (h:Small t) {x:GNode} (a:x ∈ t) {l:GLeaf} (b:l ∈ x.leaves):LeafOk l:=by
 have g:=bk_mem a;have e:=bk_node x;have c:=h.2;have i:l.bk<=_:=sum_mem (f:=GLeaf.bk) b;have j:(l.items.map GItem.bk).sum+1+((l.tombs.map GDot.bk).sum+1)<=l.bk:=by unfold GLeaf.bk;omega
 have k:=sum_len (f:=GItem.bk) (λx=>by unfold GItem.bk;omega) l.items;have d:=sum_len (f:=GDot.bk) (λx=>by unfold GDot.bk;omega) l.tombs;refine ⟨by omega,by omega,?_⟩;have:=(GNode.wfs_iff t).1 h.1 x a;cases x;simp only [GNode.wf] at this;have:=this.2.1.2 l b;unfold GLeaf.wf at this;have:=this.2.2.1;unfold InK at this;simp [IntKind.min,IntKind.max,IntKind.signed,IntKind.bits] at this;omega
theorem Small.leaves {t:List GNode} (h:Small t) {x:GNode} (a:x ∈ t):x.leaves.length<=16777216:=by
 have e:=bk_mem a;have c:=bk_node x;have b:=h.2;have d:=sum_len (f:=GLeaf.bk) (λx=>by unfold GLeaf.bk;omega) x.leaves;omega
def upB (t:List GNode):Bool:=allI (λi x=>decide (i=0) || Op.bytesLess (t.getD (i - 1) default).name x.name) t
def leavesB (ls:List GLeaf):Bool:=allI (λi l=>leafB l&&(decide (i=0) || decide ((ls.getD (i - 1) default).typ < l.typ))) ls
mutual
def nodeB (d:Nat):GNode->Bool
 | ⟨nm,ls,sb⟩=>nameB nm&&!(ls.isEmpty&&sb.isEmpty)&&((sb.isEmpty || decide (d+1 < 3))&&upB sb&&wQ (d+1) sb)&&leavesB ls
def wQ (d:Nat):List GNode->Bool
 | []=>true
 | x::r=>nodeB d x&&wQ d r
end
def treeB (d:Nat) (t:List GNode):Bool:=(t.isEmpty || decide (d < 3))&&upB t&&wQ d t
theorem yO (d:Nat):∀t,wQ d t=t.all (nodeB d)
 | []=>rfl
 | x::r=>by simp only [wQ,List.all_cons,yO d r]
theorem nodeB_eq (d:Nat) (x:GNode):nodeB d x=(nameB x.name&&!(x.leaves.isEmpty&&x.subs.isEmpty)&&treeB (d+1) x.subs&&leavesB x.leaves):=by cases x;rfl
theorem up_nodes (d:Nat) (t:List GNode):allI (λi x=>nodeB d x&&(decide (i=0) || Op.bytesLess (t.getD (i - 1) default).name x.name)) t=(upB t&&wQ d t):=by
 rw [Bool.eq_iff_iff,allI_iff,yO];simp only [Bool.and_eq_true,upB,allI_iff,List.all_eq_true];constructor
 ·intro h;exact ⟨λi x a=>(h i x a).2,λx a=>by obtain ⟨i,hi⟩:=List.mem_iff_getElem?.1 a;exact (h i x hi).1⟩
 ·rintro ⟨c,b⟩ i x a
  exact ⟨b x (List.mem_of_getElem? a),c i x a⟩
theorem lenE {α:Type} (l:List α):((l.length:Int)==0)=l.isEmpty:=by cases l <;> simp;omega
theorem treeXmayN_is:∀(n:Nat) (t:List GNode) (d:Nat),GNode.deps t < n->d<=3->Small t->vH n t (d:Int)=some (treeB d t)
 | 0,_,_,h,_,_=>by omega
 | n+1,t,d,h,hd,hs=>by
  unfold vH;by_cases hc:(decide ((t.length:Int) > 0)&&((d:Int)==3))=true
  ·rw [if_pos hc];simp only [Bool.and_eq_true,decide_eq_true_eq,beq_iff_eq] at hc;have:t.isEmpty=false:=by cases t <;> simp at hc ⊢
   have a:decide (d < 3)=false:=decide_eq_false (by omega);simp [treeB,this,a]
  ·rw [if_neg hc];have o:(t.isEmpty || decide (d < 3))=true:=by
    simp only [Bool.and_eq_true,decide_eq_true_eq,beq_iff_eq] at hc;cases t with
    | nil=>rfl
    | cons x r=>simp at hc ⊢;omega
   have F:=hs.len;rw [lp_all (r:=false) (λi x=>nodeB d x&&(decide (i=0) || Op.bytesLess (t.getD (i - 1) default).name x.name)),up_nodes]
   ·unfold treeB;rw [o,Bool.true_and];cases upB t&&wQ d t <;> rfl
   ·intro i x q;have hi:i < t.length:=(List.getElem?_eq_some_iff.1 q).1;have g:=List.mem_of_getElem? q;have E:=qh g;have s:=xM x;have v:0 < t.length:=by omega
    have a:d < 3:=by
     simp only [Bool.and_eq_true,decide_eq_true_eq,beq_iff_eq] at hc;omega
    have B:IntKind.wrap .i64 ((d:Int)+1)=((d+1:Nat):Int):=by rw [w64n (by omega)];omega
    have z:=treeXmayN_is n x.subs (d+1) (by omega) (by omega) (hs.subs g);have C:=hs.leaves g;have A:=(hs.subs g).len;have m:IntKind.wrap .i64 ((x.leaves.length:Int)+(x.subs.length:Int))=((x.leaves.length+x.subs.length:Nat):Int):=by rw [w64n (by omega)];omega
    have u:((((x.leaves.length+x.subs.length:Nat):Int))==0)=(x.leaves.isEmpty&&x.subs.isEmpty):=by
     cases h1:x.leaves <;> cases h2:x.subs <;> simp <;> omega
    rw [opIsName_is,B,z,m,u,nodeB_eq];have k:lp (zk (λ(n2:Nat) (p:GLeaf) (D:Unit)=>(((leafMay p).bind λc=>(zY ((((!c)==false)&&((decide ((n2:Int) > (0:Int)))==true))=true->0<=(IntKind.wrap .i64 ((n2:Int) - (1:Int)))/\(IntKind.wrap .i64 ((n2:Int) - (1:Int))) < ((x.leaves).length:Int)) ((if ((!c) || ((decide ((n2:Int) > (0:Int)))&&(decide (((x.leaves).getD (IntKind.wrap .i64 ((n2:Int) - (1:Int))).toNat default).typ >= p.typ))))=true then some (.ret (.ret false)) else some (.nxt ()))))):Option (Out (Out Bool Unit) Unit))) x.leaves 0 ()) (λ(D:Unit)=>some (.nxt ()))=if leavesB x.leaves=true then some (.nxt ()) else some (.ret false):=by
     rw [lp_all (r:=.ret false) (λi l=>leafB l&&(decide (i=0) || decide ((x.leaves.getD (i - 1) default).typ < l.typ)))]
     ·rfl
     ·intro j l f;have w:j < x.leaves.length:=(List.getElem?_eq_some_iff.1 f).1;have b:=hs.leaf g (List.mem_of_getElem? f);rw [leafMay_is (by have:=b.items;simp only [maxLen];omega) (by have:=b.tombs;simp only [maxLen];omega)];simp only [Option.bind_some];rcases j with _ | j
      ·cases leafB l <;> simp [zY]
      ·rw [vG (by simp only [maxLen];omega),qX,Int.toNat_natCast,zp (by intro _;omega)];have e:decide ((x.leaves.getD j default).typ >= l.typ)=!decide ((x.leaves.getD j default).typ < l.typ):=by rw [Bool.eq_iff_iff];simp
       rw [e,Nat.add_sub_cancel];generalize (x.leaves.getD j default)=y;cases leafB l <;> cases decide (y.typ < l.typ) <;> simp
    rw [k];simp only [Option.bind_some];rcases i with _ | j
    ·cases nameB x.name <;> cases (x.leaves.isEmpty&&x.subs.isEmpty) <;> cases treeB (d+1) x.subs <;> cases leavesB x.leaves <;> simp [zY]
    ·rw [vG (by simp only [maxLen];omega),qX,Int.toNat_natCast,zp (by intro _;omega),Nat.add_sub_cancel];generalize (t.getD j default)=y;cases nameB x.name <;> cases (x.leaves.isEmpty&&x.subs.isEmpty) <;> cases treeB (d+1) x.subs <;> cases leavesB x.leaves <;> cases Op.bytesLess y.name x.name <;> simp
theorem treeMay_is {t:List GNode} (h:Small t):w8 t=some (treeB 0 t):=by
 unfold w8 treeXmay;have:=anyN_of (g:=λn=>vH n t 0) (r:=treeB 0 t) (GNode.deps t+1) (λn a=>by have:=treeXmayN_is n t 0 (by omega) (by omega) h;simpa using this);rw [this];rfl
theorem ref07XmayN_is:∀(n:Nat) (t:List GNode) (d:Nat),GNode.deps t < n->d<=3->Small t->wM n t (d:Int)=some (treeB d t)
 | 0,_,_,h,_,_=>by omega
 | n+1,t,d,h,hd,hs=>by
  unfold wM;have A:=hs.len;rw [lp_all (r:=false) (λi x=>decide (d < 3)&&(nodeB d x&&(decide (i=0) || Op.bytesLess (t.getD (i - 1) default).name x.name)))]
  ·have e:allI (λi x=>decide (d < 3)&&(nodeB d x&&(decide (i=0) || Op.bytesLess (t.getD (i - 1) default).name x.name))) t=treeB d t:=by
    unfold treeB;rw [Bool.and_assoc,<- up_nodes];cases hd3:decide (d < 3)
    ·cases t with
     | nil=>rfl
     | cons x r=>simp [allI]
    ·simp
   rw [e];cases treeB d t <;> rfl
  ·intro i x m;have hi:i < t.length:=(List.getElem?_eq_some_iff.1 m).1;have c:=List.mem_of_getElem? m;have z:=qh c;have o:=xM x;have g:decide ((d:Int) >= 3)=!decide (d < 3):=by rw [Bool.eq_iff_iff];simp;omega
   rw [g];by_cases hd3:d < 3
   ·have u:IntKind.wrap .i64 ((d:Int)+1)=((d+1:Nat):Int):=by rw [w64n (by omega)];omega
    have s:=ref07XmayN_is n x.subs (d+1) (by omega) (by omega) (hs.subs c);have v:=hs.leaves c;rw [ref04IsName_is,u,s,nodeB_eq,lenE,lenE];have k:lp (zk (λ(n2:Nat) (p:GLeaf) (w:Unit)=>(((ref05May p).bind λv50=>(zY ((((!v50)==false)&&((decide ((n2:Int) > (0:Int)))==true))=true->0<=(IntKind.wrap .i64 ((n2:Int) - (1:Int)))/\(IntKind.wrap .i64 ((n2:Int) - (1:Int))) < ((x.leaves).length:Int)) ((zY ((((!v50)==false)&&((decide ((n2:Int) > (0:Int)))==true))=true->0<=(n2:Int)/\(n2:Int) < ((x.leaves).length:Int)) ((if ((!v50) || ((decide ((n2:Int) > (0:Int)))&&(decide (((x.leaves).getD (IntKind.wrap .i64 ((n2:Int) - (1:Int))).toNat default).typ >= ((x.leaves).getD (n2:Int).toNat default).typ))))=true then some (.ret (.ret false)) else some (.nxt ()))))))):Option (Out (Out Bool Unit) Unit))) x.leaves 0 ()) (λ(w:Unit)=>some (.nxt ()))=if leavesB x.leaves=true then some (.nxt ()) else some (.ret false):=by
     rw [lp_all (r:=.ret false) (λi l=>leafB l&&(decide (i=0) || decide ((x.leaves.getD (i - 1) default).typ < l.typ)))]
     ·rfl
     ·intro j l b;have q:j < x.leaves.length:=(List.getElem?_eq_some_iff.1 b).1;have f:x.leaves.getD j default=l:=by rw [List.getD_eq_getElem?_getD,b];rfl
      have a:=hs.leaf c (List.mem_of_getElem? b);rw [ref05May_is (by have:=a.items;simp only [maxLen];omega) (by have:=a.tombs;simp only [maxLen];omega) a.time];simp only [Option.bind_some];rcases j with _ | j
      ·cases leafB l <;> simp [zY]
      ·rw [vG (by simp only [maxLen];omega),qX,Int.toNat_natCast,Int.toNat_natCast,f,zp (by intro _;omega),zp (by intro _;omega)];have e:decide ((x.leaves.getD j default).typ >= l.typ)=!decide ((x.leaves.getD j default).typ < l.typ):=by rw [Bool.eq_iff_iff];simp
       rw [e,Nat.add_sub_cancel];generalize (x.leaves.getD j default)=y;cases leafB l <;> cases decide (y.typ < l.typ) <;> simp
    rw [k,decide_eq_true hd3];simp only [Option.bind_some,Bool.not_true,Bool.false_or,Bool.true_and,BEq.rfl,if_true];rcases i with _ | j
    ·cases nameB x.name <;> cases (x.leaves.isEmpty&&x.subs.isEmpty) <;> cases treeB (d+1) x.subs <;> cases leavesB x.leaves <;> simp [zY]
    ·rw [vG (by simp only [maxLen];omega),qX,Int.toNat_natCast,zp (by intro _;omega),Nat.add_sub_cancel];generalize (t.getD j default)=y;cases nameB x.name <;> cases (x.leaves.isEmpty&&x.subs.isEmpty) <;> cases treeB (d+1) x.subs <;> cases leavesB x.leaves <;> cases Op.bytesLess y.name x.name <;> simp
   ·rw [decide_eq_false hd3];simp [zY]
theorem ref07May_is {t:List GNode} (h:Small t):vm t=some (treeB 0 t):=by
 unfold vm ref07Xmay;have:=anyN_of (g:=λn=>wM n t 0) (r:=treeB 0 t) (GNode.deps t+1) (λn a=>by have:=ref07XmayN_is n t 0 (by omega) (by omega) h;simpa using this);rw [this];rfl

theorem loopW_end {σ ρ:Type} {f:σ->Option (Out ρ σ)} (b:σ->Prop) (c:σ->Nat) (h:∀s,b s->(∃a,f s=some (.brk a)) \/ ∃a,f s=some (.nxt a)/\b a/\c a < c s):∀(k:Nat) (s:σ),c s=k->b s->∃a,yp f s=some (.inr a):=by
 intro k
 induction k using Nat.strongRecOn with
 | _ k ih =>
  intro s i hi;rw [yV];rcases h s hi with ⟨a,e⟩ | ⟨a,e,d,g⟩
  ·exact ⟨a,by rw [e]⟩
  ·rw [e];exact ih (c a) (by omega) a rfl d
theorem lpW_end {σ ρ:Type} {f:σ->Option (Out ρ σ)} {rest:σ->Option ρ} (a:σ->Prop) (c:σ->Nat) (g:∀s,∃v,rest s=some v) (d:σ) (hi:a d) (h:∀s,a s->(∃b,f s=some (.brk b)) \/ ∃b,f s=some (.nxt b)/\a b/\c b < c s):∃v,lp (yp f d) rest=some v:=by
 obtain ⟨b,e⟩:=loopW_end a c h _ d rfl hi;rw [e];exact g b
theorem idx_mem {α:Type} {L:List α} {i:Int} {x:α} (h:yi L i=some x):x ∈ L:=by
 unfold yi at h;split at h
 ·exact List.mem_of_getElem? h
 ·cases h
theorem size_tot:∀(n:Nat) (t:List GNode) (d:Int),GNode.deps t < n->Small t->∃v,xl n t d=some v
 | 0,_,_,h,_=>by omega
 | n+1,t,d,h,hs=>by
  unfold xl;have A:=hs.len;refine lpW_end (λs=>0<=s.2/\s.2<=(t.length:Int)) (λs=>(t.length - s.2.toNat)) (λ_=>⟨_,rfl⟩) _ ⟨by simp,by simp⟩ (λs hi=>?_);rcases s with ⟨a,i⟩
  obtain ⟨k,rfl⟩:∃k:Nat,i=(k:Int):=⟨i.toNat,by have:=hi.1;simp at this;omega⟩
  by_cases hc:(decide ((k:Int) < (t.length:Int))&&decide (d < 10))=true
  ·right;simp only [Bool.and_eq_true,decide_eq_true_eq] at hc;have o:k < t.length:=by omega
   have r:t[k] ∈ t:=List.getElem_mem o;have z:=qh r;have w:=xM t[k];obtain ⟨v,x⟩:=size_tot n t[k].subs (IntKind.wrap .i64 (d+1)) (by omega) (hs.subs r);have y:=hs.leaves r;obtain ⟨e,u⟩:=loopW_end (ρ:=Out Int (Int×Int)) (σ:=Int×Int) (f:=λe:Int×Int=>(((yi t (k:Int)).bind λj=>(if decide (e.2 < ((j.leaves).length:Int))=true then ((yi t (k:Int)).bind λl=>((yi l.leaves e.2).bind λc=>(lp (zk (λ(B:Nat) (p:GItem) (m:Int)=>(some (.nxt (IntKind.wrap .i64 ((IntKind.wrap .i64 (m+(1:Int)))+((p.text).length:Int)))):Option (Out _ Int))) c.items 0 (IntKind.wrap .i64 ((IntKind.wrap .i64 ((IntKind.wrap .i64 (e.1+(1:Int)))+((c.text).length:Int)))+((c.tombs).length:Int)))) λ(m:Int)=>some (.nxt (m,(IntKind.wrap .i64 (e.2+(1:Int)))))))) else some (.brk (e.1,e.2)))):Option (Out (Out Int (Int×Int)) (Int×Int))))
    (λs=>0<=s.2/\s.2<=(t[k].leaves.length:Int)) (λs=>(t[k].leaves.length - s.2.toNat)) (λs hi=>by
     rcases s with ⟨b,i⟩
     obtain ⟨q,rfl⟩:∃q:Nat,i=(q:Int):=⟨i.toNat,by have:=hi.1;simp at this;omega⟩
     simp only [idx_at o,Option.bind_some];by_cases hq:q < t[k].leaves.length
     ·right;have g:decide ((q:Int) < (t[k].leaves.length:Int))=true:=by simpa using hq
      simp only [g,if_true,idx_at hq,Option.bind_some];rw [loopL_fold (λ(m:Int) (p:GItem)=>IntKind.wrap .i64 ((IntKind.wrap .i64 (m+(1:Int)))+((p.text).length:Int))) _ 0 _ (λ_ _ _ _=>rfl),xb];refine ⟨_,rfl,?_,?_⟩
      ·simp only;rw [w64n (by omega)];omega
      ·simp only;rw [w64n (by omega)];omega
     ·left;have g:decide ((q:Int) < (t[k].leaves.length:Int))=false:=by simp;omega
      simp only [g];exact ⟨_,rfl⟩) _ ((IntKind.wrap .i64 ((IntKind.wrap .i64 ((IntKind.wrap .i64 (a+(1:Int)))+((t[k].name).length:Int)))+v)),(0:Int)) rfl ⟨by simp,by simp⟩
   refine ⟨(e.1,IntKind.wrap .i64 ((k:Int)+1)),?_,?_,?_⟩
   ·simp only [hc,decide_true,Bool.and_self,if_true,idx_at o,Option.bind_some,x];simp only [idx_at o,Option.bind_some] at u;rw [u];rfl
   ·simp only;rw [w64n (by omega)];omega
   ·simp only;rw [w64n (by omega)];omega
  ·left;refine ⟨(a,(k:Int)),?_⟩;simp only at hc ⊢;rw [if_neg hc]
theorem size_fuel:∀(n m:Nat) (t:List GNode) (d:Int),GNode.deps t < n->GNode.deps t < m->xl n t d=xl m t d
 | 0,_,_,_,h,_=>by omega
 | _+1,0,_,_,_,h=>by omega
 | n+1,m+1,t,d,h1,h2=>by
  unfold xl;congr 2;funext s;split
  ·cases hx:yi t s.2 with
   | none=>rfl
   | some y =>
    have b:=qh (idx_mem hx);have a:=xM y;simp only [Option.bind_some];rw [size_fuel n m y.subs _ (by omega) (by omega)]
  ·rfl
theorem ref07Great_tot {t:List GNode} (h:Small t):∃b,qv t=some b:=by
 unfold qv ref07Xsize;obtain ⟨v,a⟩:∃v,∀n,GNode.deps t+1<=n->xl n t 0=some v:=by
  obtain ⟨v,a⟩:=size_tot (GNode.deps t+1) t 0 (by omega) h;exact ⟨v,λn c=>by rw [size_fuel n (GNode.deps t+1) t 0 (by omega) (by omega)];exact a⟩
 rw [anyN_of (GNode.deps t+1) a];exact ⟨_,rfl⟩

def endsB (p:List zn):Bool:=p.getLast?==some [42,42]
def partsL (p:List zn):List zn:=if endsB p then p.dropLast else p
def agreeB:List zn->List zn->Bool
 | [],_=>true
 | x::t,y::r=>(x==[42] || x==y)&&agreeB t r
 | _::_,[]=>false
def patB (p:List zn):Bool:=(decide (0 < (partsL p).length) || endsB p)&&decide ((partsL p).length<=3)&&(partsL p).all (λs=>s==[42] || nameB s)
def matchB (p path:List zn):Bool:=patB p&&vQ path&&decide ((partsL p).length<=path.length)&&(endsB p || decide (path.length<=(partsL p).length))&&agreeB (partsL p) path
section
variable {S X:Type}
def foldF (y:S->X->Option (Bool×S)):List X->S->Option (Bool×S)
 | [],s=>some (true,s)
 | x::r,s=>(y s x).bind λv=>if v.1=true then foldF y r v.2 else some (false,v.2)
theorem foldF_app (y:S->X->Option (Bool×S)):∀(a b:List X) (s:S),foldF y (a++b) s=(foldF y a s).bind λv=>if v.1=true then foldF y b v.2 else some v
 | [],b,s=>by simp [foldF]
 | x::r,b,s=>by
  simp only [List.cons_append,foldF];cases y s x with
  | none=>rfl
  | some v =>
   simp only [Option.bind_some];cases hv:v.1
   ·simp
   ·simp only [if_true];exact foldF_app y r b v.2
theorem foldF_stp (y:S->X->Option (Bool×S)):∀(xs:List X) (s:S),
  foldF (stp (λ(c:S) (d:X)=>(((y c d).bind λv=>(if (!v.1)=true then some (false,(v.2,some 0)) else some (true,(v.2,none)))):Option (Bool×(S×Option Nat))))) xs (s,none)=(foldF y xs s).map λv=>(v.1,(v.2,if v.1=true then none else some 0))
 | [],s=>rfl
 | x::r,s=>by
  simp only [foldF,stp];cases y s x with
  | none=>rfl
  | some v =>
   rcases v with ⟨b,a⟩
   cases b
   ·simp
   ·simp only [Bool.not_true,Bool.false_eq_true,if_false,Option.bind_some,if_true];exact foldF_stp y r a
theorem loop_tell {ρ α:Type} (y:S->X->Option (Bool×S)) (g:α->X) (r:S->ρ) {f:Nat->α->S->Option (Out ρ S)}:∀(L:List α) (i:Nat) (s:S),(∀i x s,x ∈ L->f i x s=(y s (g x)).bind λv=>if (!v.1)=true then some (.ret (r v.2)) else some (.nxt v.2)) ->
  zk f L i s=(foldF y (L.map g) s).map λv=>if v.1=true then .inr v.2 else .inl (r v.2)
 | [],_,_,_=>rfl
 | x::t,i,s,h=>by
  simp only [zk,h i x s (List.mem_cons_self ..),List.map_cons,foldF];cases y s (g x) with
  | none=>rfl
  | some v =>
   rcases v with ⟨b,a⟩
   cases b
   ·rfl
   ·simp only [Bool.not_true,Bool.false_eq_true,if_false,Option.bind_some,if_true];exact loop_tell y g r t (i+1) a λi x s c=>h i x s (List.mem_cons_of_mem _ c)
theorem loop_tells {ρ α:Type} (y:S->X->Option (Bool×S)) (g:α->List X) (r:S->ρ) {f:Nat->α->S->Option (Out ρ S)}:∀(L:List α) (i:Nat) (s:S),(∀i x s,x ∈ L->f i x s=(foldF y (g x) s).map λv=>if v.1=true then .nxt v.2 else .ret (r v.2)) ->
  zk f L i s=(foldF y (L.flatMap g) s).map λv=>if v.1=true then .inr v.2 else .inl (r v.2)
 | [],_,_,_=>rfl
 | x::t,i,s,h=>by
  simp only [zk,h i x s (List.mem_cons_self ..),List.flatMap_cons,foldF_app];cases foldF y (g x) s with
  | none=>rfl
  | some v =>
   rcases v with ⟨b,a⟩
   cases b
   ·rfl
   ·simp only [Option.map_some,if_true,Option.bind_some];exact loop_tells y g r t (i+1) a λi x s c=>h i x s (List.mem_cons_of_mem _ c)
end
theorem clone_is {α:Type} {L:List α} (h:L.length<=yB):(nilq L λa=>(if a=true then some ([]:List α) else (zY ((([]:List α)).length+L.length<=yB) (some (([]:List α)++L)))))=some L:=by
 refine nilq_of ?_ λe=>by subst e;rfl
 rw [zp (by simpa using h)];simp
theorem cloneString_is {L:List zn} (h:L.length<=yB):xu L=some L:=clone_is h
theorem qj {L:List GItem} (h:L.length<=yB):yo L=some L:=clone_is h
theorem cloneDot_is {L:List GDot} (h:L.length<=yB):yA L=some L:=clone_is h
theorem pathsXown_is {l:GLeaf} (h:LeafOk l):pathsXown l=some l:=by
 unfold pathsXown;rw [qj (by have:=h.items;unfold yB;omega),cloneDot_is (by have:=h.tombs;unfold yB;omega)];rfl
mutual
def wL (a:List zn):GNode->List GRow
 | ⟨nm,ls,sb⟩=>ls.map (λl=>GRow.mk (a++[nm]) l)++zq (a++[nm]) sb
def zq (a:List zn):List GNode->List GRow
 | []=>[]
 | x::r=>wL a x++zq a r
end
mutual
def keepN (is:List zn->Bool) (a:List zn):GNode->GNode
 | ⟨nm,ls,sb⟩=>⟨nm,if is (a++[nm])=true then ls else [],keepL is (a++[nm]) sb⟩
def keepL (is:List zn->Bool) (a:List zn):List GNode->List GNode
 | []=>[]
 | x::r=>if (keepN is a x).leaves.isEmpty&&(keepN is a x).subs.isEmpty then keepL is a r else keepN is a x::keepL is a r
end
theorem yU (a:List zn) (x:GNode):wL a x=x.leaves.map (λl=>GRow.mk (a++[x.name]) l)++zq (a++[x.name]) x.subs:=by cases x;rfl
theorem yk (a:List zn):∀t,zq a t=t.flatMap (wL a)
 | []=>rfl
 | x::r=>by simp only [zq,List.flatMap_cons,yk a r]
theorem rows_is {S:Type}:∀(n:Nat) (S:Type) (y:S->GRow->Option (Bool×S)) (t:List GNode) (a:List zn) (s:S),GNode.deps t < n->Small t->a.length+GNode.deps t<=40000000->x5 n S y t a s=(foldF y (zq a t) s).map (·.2)
 | 0,_,_,_,_,_,h,_,_=>by omega
 | n+1,S,y,t,a,s,h,hs,ha=>by
  unfold x5;rw [loop_tells y (wL a) (λs=>s),<- yk]
  ·cases foldF y (zq a t) s with
   | none=>rfl
   | some v=>rcases v with ⟨b,c⟩;cases b <;> rfl
  ·intro i x f d;have k:=qh d;have e:=xM x;rw [cloneString_is (by unfold yB;omega),Option.bind_some,zp (by simp [yB];omega)];rw [loop_tell y (λl=>GRow.mk (a++[x.name]) l) (λs=>Out.ret s)]
   ·rw [yU,foldF_app];cases foldF y (x.leaves.map λl=>GRow.mk (a++[x.name]) l) f with
    | none=>rfl
    | some v =>
     rcases v with ⟨b,c⟩
     cases b
     ·rfl
     ·simp only [Option.map_some,if_true,xb,Option.bind_some];unfold qx;simp only [Option.bind_some];rw [rows_is (S:=Unit) n _ _ x.subs (a++[x.name]) (c,none) (by omega) (hs.subs d) (by simp;omega),foldF_stp];cases foldF y (zq (a++[x.name]) x.subs) c with
      | none=>rfl
      | some v=>rcases v with ⟨b,g⟩;cases b <;> rfl
   ·intro j l g m;rw [cloneString_is (by simp [yB];omega),Option.bind_some,pathsXown_is (hs.leaf d m),Option.bind_some]

theorem loop_keep {α a ρ:Type} (p:α->Bool) (g:α->a) {f:Nat->α->List a->Option (Out ρ (List a))}:∀(L:List α) (i:Nat) (s:List a),s.length+L.length<=yB->(∀i x s,x ∈ L->s.length+1<=yB->f i x s=if p x=true then some (.nxt (s++[g x])) else some (.nxt s)) ->
  zk f L i s=some (.inr (s++(L.filter p).map g))
 | [],_,s,_,_=>by simp [zk]
 | x::t,i,s,hl,h=>by
  simp only [List.length_cons] at hl;simp only [zk,h i x s (List.mem_cons_self ..) (by omega),List.filter_cons];cases hp:p x
  ·simp only [Bool.false_eq_true,if_false];exact loop_keep p g t (i+1) s (by omega) λi x s b=>h i x s (List.mem_cons_of_mem _ b)
  ·simp only [if_true];rw [loop_keep p g t (i+1) (s++[g x]) (by simp;omega) λi x s b=>h i x s (List.mem_cons_of_mem _ b)];simp
theorem deps_bks:∀(n:Nat) (t:List GNode),GNode.deps t<=n->GNode.deps t<=GNode.bks t:=by
 intro n
 induction n with
 | zero=>intro t a;omega
 | succ n ih =>
  intro t
  induction t with
  | nil=>intro _;simp [GNode.deps]
  | cons x r ihr =>
   intro a;simp only [GNode.deps] at a ⊢;simp only [GNode.bks];have e:=ihr (by omega);have c:=xM x;have b:=ih x.subs (by omega);have d:=bk_node x;omega
theorem Small.dep {t:List GNode} (h:Small t):GNode.deps t<=16777216:=Nat.le_trans (deps_bks _ t (Nat.le_refl _)) h.2
theorem rows_len:∀(n:Nat) (t:List GNode) (a:List zn),GNode.deps t<=n->(zq a t).length<=GNode.bks t:=by
 intro n
 induction n with
 | zero =>
  intro t a h;cases t with
  | nil=>simp [zq]
  | cons x r=>simp only [GNode.deps] at h;have:=xM x;omega
 | succ n ih =>
  intro t
  induction t with
  | nil=>intro a _;simp [zq]
  | cons x r ihr =>
   intro a b;simp only [GNode.deps] at b;simp only [GNode.bks,zq,List.length_append];have i:=ihr a (by omega);have d:=xM x;have c:=ih x.subs (a++[x.name]) (by omega);have e:=bk_node x;have g:=sum_len (f:=GLeaf.bk) (λx=>by unfold GLeaf.bk;omega) x.leaves;rw [yU];simp only [List.length_append,List.length_map];omega
theorem fold_app {X:Type}:∀(xs s:List X),s.length+xs.length<=yB->foldF (stp (λ(a:List X) (b:X)=>((zY (a.length+([b]:List X).length<=yB) (some (true,((a++[b]),none)))):Option (Bool×(List X×Option Nat))))) xs (s,none)=some (true,(s++xs,none))
 | [],s,_=>by simp [foldF]
 | x::r,s,h=>by
  simp only [List.length_cons] at h;simp only [foldF,stp];rw [zp (by simp;omega)];simp only [Option.bind_some,if_true];rw [fold_app r (s++[x]) (by simp;omega)];simp
theorem pathsRows_is {t:List GNode} (h:Small t):qy t=some (if treeB 0 t=true then zq [] t else []):=by
 unfold qy;rw [treeMay_is h,Option.bind_some];cases treeB 0 t
 ·rfl
 ·have hd:=h.dep;have a:=rows_len _ t [] (Nat.le_refl _);have c:=h.2;simp only [Bool.not_true,Bool.false_eq_true,if_false,if_true,qx,Option.bind_some,va,we,pathsXrowsC1];rw [anyN_of (r:=(zq [] t,none)) (GNode.deps t+1) λn b=>by
   rw [rows_is (S:=Unit) n _ _ t [] ([],none) (by omega) h (by simp;omega),fold_app _ _ (by simp [yB];omega)];rfl]
  rfl

theorem qF:∀{a b c:List UInt8},Op.bytesLess a b=true->Op.bytesLess b c=true->Op.bytesLess a c=true
 | _,[],_,h,_=>by cases ‹List UInt8› <;> simp [Op.bytesLess] at h
 | a,b::y,[],_,h=>by simp [Op.bytesLess] at h
 | [],b::y,c::z,_,_=>rfl
 | a::x,b::y,c::z,e,d=>by
  simp only [Op.bytesLess,Bool.or_eq_true,decide_eq_true_eq,Bool.and_eq_true,beq_iff_eq] at e d ⊢;rcases e with e | ⟨rfl,e⟩
  ·rcases d with d | ⟨rfl,d⟩
   ·left;exact UInt8.lt_trans e d
   ·left;exact e
  ·rcases d with d | ⟨rfl,d⟩
   ·left;exact d
   ·right;exact ⟨rfl,qF e d⟩
theorem vV (t:List GNode):upB t=true ↔ t.Pairwise (λx y=>Op.bytesLess x.name y.name=true):=by
 unfold upB;rw [allI_iff];constructor
 ·intro h;rw [List.pairwise_iff_getElem];intro i j hi a b;obtain ⟨k,rfl⟩:∃k,j=i+1+k:=⟨j - i - 1,by omega⟩
  induction k with
  | zero =>
   have:=h (i+1) _ (List.getElem?_eq_getElem a);simp only [Nat.add_sub_cancel,Bool.or_eq_true,decide_eq_true_eq] at this;rcases this with h0 | h0
   ·omega
   ·rw [List.getD_eq_getElem?_getD,List.getElem?_eq_getElem hi] at h0;exact h0
  | succ k ih =>
   have d:=ih (by omega) (by omega);have:=h (i+1+(k+1)) _ (List.getElem?_eq_getElem a);simp only [Bool.or_eq_true,decide_eq_true_eq] at this;rcases this with h0 | h0
   ·omega
   ·rw [show i+1+(k+1) - 1=i+1+k by omega,List.getD_eq_getElem?_getD,List.getElem?_eq_getElem (by omega:i+1+k < t.length)] at h0;exact qF d h0
 ·intro h i x c;rcases i with _ | i
  ·rfl
  ·rw [List.pairwise_iff_getElem] at h;obtain ⟨hi,rfl⟩:=List.getElem?_eq_some_iff.1 c;have:=h i (i+1) (by omega) hi (by omega);simp only [Nat.add_sub_cancel,Bool.or_eq_true];right;rw [List.getD_eq_getElem?_getD,List.getElem?_eq_getElem (by omega:i < t.length)];exact this
section
variable (is:List zn->Bool)
theorem wq {M:List GNode->Prop} (h0:M []) (a:∀x r,M x.subs->M r->M (x::r)):∀t,M t:=by
 have key:∀(n:Nat) (t:List GNode),GNode.deps t<=n->M t:=by
  intro n
  induction n with
  | zero =>
   intro t h;cases t with
   | nil=>exact h0
   | cons x r=>simp only [GNode.deps] at h;have:=xM x;omega
  | succ n ih =>
   intro t
   induction t with
   | nil=>intro _;exact h0
   | cons x r ihr =>
    intro h;simp only [GNode.deps] at h;have:=xM x;exact a x r (ih x.subs (by omega)) (ihr (by omega))
 exact λt=>key _ t (Nat.le_refl _)
theorem keep_small:∀(t:List GNode) (a:List zn),(GNode.wfs t->GNode.wfs (keepL is a t))/\GNode.bks (keepL is a t)<=GNode.bks t:=by
 refine wq (λa=>⟨λh=>h,Nat.le_refl _⟩) ?_;intro x r d b a;have j:(keepN is a x).bk<=x.bk:=by
  have:=(d (a++[x.name])).2;cases x with
  | mk nm ls sb =>
   simp only [keepN,GNode.bk] at this ⊢;have c:((if is (a++[nm])=true then ls else []).map GLeaf.bk).sum<=(ls.map GLeaf.bk).sum:=by split <;> simp
   omega
 have g:x.wf->(keepN is a x).wf:=by
  have:=(d (a++[x.name])).1;cases x with
  | mk nm ls sb =>
   simp only [keepN,GNode.wf] at this ⊢
   rintro ⟨i,c,f⟩
   refine ⟨i,?_,this f⟩;split
   ·exact c
   ·exact ⟨by simp,λy e=>by cases e⟩
 simp only [keepL];split
 ·refine ⟨λh=>(b a).1 (by simp only [GNode.wfs] at h;exact h.2),?_⟩;have:=(b a).2;simp only [GNode.bks];omega
 ·refine ⟨λh=>?_,?_⟩
  ·simp only [GNode.wfs] at h ⊢;exact ⟨g h.1,(b a).1 h.2⟩
  ·have:=(b a).2;simp only [GNode.bks];omega
theorem Small.keep {t:List GNode} (h:Small t) (a:List zn):Small (keepL is a t):=⟨(keep_small is t a).1 h.1,Nat.le_trans (keep_small is t a).2 h.2⟩
end
theorem small_of {t:List GNode} (h:t.length<=maxLen/\∀y ∈ t,GNode.wf y) (a:(t.map GNode.bk).sum<=16777216):Small t:=⟨(GNode.wfs_iff t).2 h.2,by rw [GNode.bks_eq];exact a⟩
theorem half_mid {lo hi:Nat} (h:lo < hi) (e:hi<=4611686018427387904):IntKind.wrap .i64 (Int.fdiv (IntKind.wrap .u64 (IntKind.wrap .i64 ((lo:Int)+(hi:Int)))) (2 ^ (min (1:Int).toNat (IntKind.bits .u64))))=(((lo+hi) / 2:Nat):Int):=by
 have c:IntKind.wrap .i64 ((lo:Int)+(hi:Int))=((lo+hi:Nat):Int):=by rw [w64n (by omega)];omega
 have b:IntKind.wrap .u64 (((lo+hi:Nat):Int))=((lo+hi:Nat):Int):=by rw [IntKind.wrap_u64];omega
 have d:(2:Int) ^ (min (1:Int).toNat (IntKind.bits .u64))=2:=by decide
 rw [c,b,d,Int.fdiv_eq_ediv_of_nonneg _ (by decide)];have a:((lo+hi:Nat):Int) / 2=(((lo+hi) / 2:Nat):Int):=by omega
 rw [a,w64n (by omega)]
theorem bs_loop {b:GNode->zn->Option Int} {x:List GNode} {s:zn} {c:Nat} (r:x.length<=16777216) (q:∀i n,x[i]?=some n->∃v,b n s=some v/\(i < c->v < 0)/\(c<=i->0<=v)) :
  ∀(k lo hi:Nat),hi - lo<=k->lo<=c->c<=hi->hi<=x.length->yp (ρ:=Int×Bool) (λ(a:Int×Int)=>((if (decide (a.1 < a.2))=true then ((yi x (IntKind.wrap .i64 ((Int.fdiv (IntKind.wrap .u64 ((IntKind.wrap .i64 (a.1+a.2)))) (2 ^ (min (1:Int).toNat (IntKind.bits .u64))))))).bind λm=>((b m s).bind λd=>(if (decide (d < (0:Int)))=true then some (.nxt ((IntKind.wrap .i64 ((IntKind.wrap .i64 ((Int.fdiv (IntKind.wrap .u64 ((IntKind.wrap .i64 (a.1+a.2)))) (2 ^ (min (1:Int).toNat (IntKind.bits .u64))))))+(1:Int))),a.2)) else some (.nxt (a.1,(IntKind.wrap .i64 ((Int.fdiv (IntKind.wrap .u64 ((IntKind.wrap .i64 (a.1+a.2)))) (2 ^ (min (1:Int).toNat (IntKind.bits .u64))))))))))) else some (.brk (a.1,a.2))):Option (Out _ (Int×Int)))) ((lo:Int),(hi:Int))=some (.inr ((c:Int),(c:Int))):=by
 intro k
 induction k with
 | zero =>
  intro lo hi p f g hh;obtain rfl:lo=hi:=by omega
  obtain rfl:lo=c:=by omega
  rw [yV];simp
 | succ k ih =>
  intro lo hi p f g hh;rw [yV];by_cases hlt:lo < hi
  ·have hd:decide ((lo:Int) < (hi:Int))=true:=decide_eq_true (by omega);simp only [hd,if_true,half_mid hlt (by omega)];have h:(lo+hi) / 2 < x.length:=by omega
   rw [idx_at h,Option.bind_some];obtain ⟨v,j,o,l⟩:=q ((lo+hi) / 2) _ (List.getElem?_eq_getElem h);rw [j,Option.bind_some];by_cases hcm:(lo+hi) / 2 < c
   ·rw [decide_eq_true (o hcm),if_pos rfl];simp only;have e:IntKind.wrap .i64 ((((lo+hi) / 2:Nat):Int)+1)=(((lo+hi) / 2+1:Nat):Int):=by rw [w64n (by omega)];omega
    rw [e];exact ih _ _ (by omega) (by omega) g hh
   ·rw [decide_eq_false (by have:=l (by omega);omega)];simp only [Bool.false_eq_true,if_false];exact ih _ _ (by omega) f (by omega) (by omega)
  ·obtain rfl:lo=hi:=by omega
   obtain rfl:lo=c:=by omega
   simp
theorem bs_is {a:GNode->zn->Option Int} {x:List GNode} {s:zn} {c:Nat} (d:x.length<=16777216) (b:c<=x.length) (e:∀i n,x[i]?=some n->∃v,a n s=some v/\(i < c->v < 0)/\(c<=i->0<=v)) :
  zg x s a=(if c < x.length then a (x.getD c default) s else some 1).bind λv=>some ((c:Int),(decide (c < x.length)&&(v==0))):=by
 unfold zg;have:=bs_loop d e x.length 0 x.length (by omega) (Nat.zero_le _) b (Nat.le_refl _);simp only [Int.natCast_zero] at this;rw [show ((0:Int),(x.length:Int))=(((0:Nat):Int),(x.length:Int)) from rfl] at *;rw [this];simp only [lp];by_cases h:c < x.length
 ·have hd:decide ((c:Int) < (x.length:Int))=true:=decide_eq_true (by omega);simp only [hd,h,if_true,Int.toNat_natCast,beq_self_eq_true,decide_true,Bool.true_and];rw [zp (by intro _;omega)]
 ·have hd:decide ((c:Int) < (x.length:Int))=false:=decide_eq_false (by omega);simp only [hd,h,if_false,decide_false,Bool.false_and,Option.bind_some];rw [zp (by intro hh;cases hh)];simp
theorem cmp_less {a b:List UInt8}:Lib.compareBytes a b < 0 ↔ Op.bytesLess a b=true:=by
 induction a generalizing b with
 | nil=>cases b <;> simp [Lib.compareBytes,Op.bytesLess]
 | cons x a ih =>
  cases b with
  | nil=>simp [Lib.compareBytes,Op.bytesLess]
  | cons y b =>
   simp only [Lib.compareBytes,Op.bytesLess];by_cases h1:x < y
   ·simp [h1]
   ·by_cases h2:y < x
    ·have:¬ x=y:=by rintro rfl;exact h1 h2
     simp [h1,h2,this]
    ·have:x=y:=UInt8.le_antisymm (UInt8.not_lt.1 h2) (UInt8.not_lt.1 h1);simp [h1,h2,this,ih]
theorem cmp_self (a:List UInt8):Lib.compareBytes a a=0:=by
 induction a with
 | nil=>rfl
 | cons x a ih=>simp [Lib.compareBytes,ih]
theorem layC1_is (n:GNode) (s:zn):xi n s=some (Lib.compareBytes n.name s):=rfl
theorem cloneLeaf_is {L:List GLeaf} (h:L.length<=yB):yY L=some L:=clone_is h
theorem cloneNode_is {L:List GNode} (h:L.length<=yB):yH L=some L:=clone_is h
theorem yP {n:Nat} (h:n<=16777217):n<=yB:=Nat.le_trans h (by decide)
theorem own_is {l:GLeaf} (h:LeafOk l):diffXown l=some l:=by
 unfold diffXown;rw [qj (yP (Nat.le_succ_of_le h.items)),Option.bind_some,cloneDot_is (yP (Nat.le_succ_of_le h.tombs)),Option.bind_some]
def preR (a:List zn) (r:GRow):GRow:=⟨a++r.path,r.leaf⟩
theorem rows_pre:∀(t:List GNode) (a b:List zn),zq (a++b) t=(zq b t).map (preR a):=by
 refine wq (λ_ _=>rfl) ?_;intro x r d c a b;rw [yk,yk,List.flatMap_cons,List.flatMap_cons,<- yk,<- yk,c,List.map_append];congr 1;rw [yU,yU,List.append_assoc,d,List.map_append,List.map_map];rfl
theorem rows_path:∀(t:List GNode) (a:List zn) (r:GRow),r ∈ zq a t->a.length < r.path.length/\r.path.length<=a.length+GNode.deps t:=by
 refine wq (λ_ _ h=>by simp [zq] at h) ?_;intro x r d c a q b;rw [yk,List.flatMap_cons,List.mem_append,<- yk] at b;have g:x.dep<=GNode.deps (x::r):=qh (by simp);have f:=xM x;have e:GNode.deps r<=GNode.deps (x::r):=by
  simp only [GNode.deps];omega
 rcases b with b | b
 ·rw [yU,List.mem_append,List.mem_map] at b;rcases b with ⟨l,_,rfl⟩ | b
  ·simp;omega
  ·have:=d _ _ b;simp only [List.length_append,List.length_cons,List.length_nil] at this;omega
 ·have:=c _ _ b;omega
theorem qH {ls:List GLeaf} (h:leavesB ls=true):ls.Pairwise (λx y=>x.typ < y.typ)/\∀l ∈ ls,leafB l=true:=by
 unfold leavesB at h;rw [allI_iff] at h;have f:∀l ∈ ls,leafB l=true:=λl d=>by
  obtain ⟨i,hi⟩:=List.mem_iff_getElem?.1 d;have:=h i l hi;simp only [Bool.and_eq_true] at this;exact this.1
 refine ⟨?_,f⟩;have a:∀i,(hi:i+1 < ls.length)->ls[i].typ < ls[i+1].typ:=λi hi=>by
  have:=h (i+1) _ (List.getElem?_eq_getElem hi);simp only [Nat.add_eq_zero_iff,Nat.one_ne_zero,and_false,decide_false,Bool.false_or,Bool.and_eq_true,decide_eq_true_eq,Nat.add_sub_cancel] at this;have e:ls.getD i default=ls[i]:=by simp [List.getD_eq_getElem?_getD,List.getElem?_eq_getElem (show i < ls.length by omega)]
  rw [e] at this;exact this.2
 rw [List.pairwise_iff_getElem];intro i j hi c b;obtain ⟨k,rfl⟩:∃k,j=i+1+k:=⟨j - (i+1),by omega⟩
 clear b
 induction k with
 | zero=>exact a i c
 | succ k ih=>exact Int.lt_trans (ih (by omega)) (a (i+1+k) c)
theorem Small.tail {x:GNode} {r:List GNode} (h:Small (x::r)):Small r:=by
 refine ⟨(GNode.wfs_iff r).2 λy a=>(GNode.wfs_iff _).1 h.1 y (by simp [a]),?_⟩;have:=h.2;simp only [GNode.bks] at this;omega
def pathLt (a b:List zn):Prop:=(∃y q,b=a++y::q) \/ ∃p x y a' b',a=p++x::a'/\b=p++y::b'/\Op.bytesLess x y=true
theorem q9:∀(a:List UInt8),Op.bytesLess a a=false
 | []=>rfl
 | x::a=>by simp [Op.bytesLess,q9 a]
theorem less_ne {a b:List UInt8} (h:Op.bytesLess a b=true):a ≠ b:=by
 rintro rfl;rw [q9] at h;cases h
noncomputable def cmpF (s2:List zn):Nat->zn->Unit->Option (Out Int Unit):=λn x _=>if (decide ((n:Int) >= ((s2).length:Int)))=true then some (.ret (1:Int)) else ((yi s2 (n:Int)).bind λy12=>((cmpCompareString x y12).bind λv13=>(if (v13 != (0:Int))=true then some (.ret v13) else some (.nxt ()))))
def rowLt (r q:GRow):Prop:=pathLt r.path q.path \/ (r.path=q.path/\r.leaf.typ < q.leaf.typ)
def leaf0:GLeaf:=GLeaf.mk (0:Int) (0:Int) (0:Int) (GDot.mk (GActor.mk (0:Int) (0:Int)) (0:Int)) ([]:zn) ([]:List GItem) ([]:List GDot)
theorem qt {t:List GNode} {a:List zn} {r:GRow} (h:r ∈ zq a t):∃x ∈ t,∃w,r.path=a++x.name::w:=by
 rw [yk,List.mem_flatMap] at h;obtain ⟨x,b,h⟩:=h;refine ⟨x,b,?_⟩;rw [yU,List.mem_append,List.mem_map] at h;rcases h with ⟨l,_,rfl⟩ | h
 ·exact ⟨[],rfl⟩
 ·have:=rows_pre x.subs (a++[x.name]) [];rw [List.append_nil] at this;rw [this,List.mem_map] at h;obtain ⟨q,_,rfl⟩:=h;exact ⟨q.path,by simp [preR]⟩
theorem rows_lt:∀(t:List GNode) (d:Nat) (a:List zn),upB t=true->wQ d t=true->(zq a t).Pairwise rowLt:=by
 refine wq (λ_ _ _ _=>List.Pairwise.nil) ?_;intro x r s p d a j n;rw [yk,List.flatMap_cons,<- yk];rw [vV,List.pairwise_cons] at j;simp only [wQ,Bool.and_eq_true] at n;obtain ⟨f,k⟩:=n;rw [nodeB_eq] at f;simp only [Bool.and_eq_true] at f;obtain ⟨⟨⟨_,_⟩,b⟩,m⟩:=f;simp only [treeB,Bool.and_eq_true] at b;obtain ⟨i,_⟩:=qH m;rw [List.pairwise_append];refine ⟨?_,p d a (vV r |>.2 j.2) k,λq g v c=>?_⟩
 ·rw [yU,List.pairwise_append];refine ⟨?_,s (d+1) _ b.1.2 b.2,λq g v c=>?_⟩
  ·rw [List.pairwise_map];exact i.imp λh=>.inr ⟨rfl,h⟩
  ·rw [List.mem_map] at g;obtain ⟨l,_,rfl⟩:=g;obtain ⟨y,_,w,e⟩:=qt c;exact .inl (.inl ⟨y.name,w,e⟩)
 ·have C:∃w,q.path=a++x.name::w:=by
   have:q ∈ zq a [x]:=by rw [yk];simpa using g
   obtain ⟨z,o,w,e⟩:=qt this;simp only [List.mem_singleton] at o;subst o;exact ⟨w,e⟩
  obtain ⟨w,u⟩:=C;obtain ⟨y,A,w',B⟩:=qt c;exact .inl (.inr ⟨a,x.name,y.name,w,w',u,B,j.1 y A⟩)
structure RowOk' (r:GRow):Prop where
 path:vQ r.path=true
 leaf:leafB r.leaf=true
 ok:LeafOk r.leaf
theorem rows_ok:∀(t:List GNode) (d:Nat) (a:List zn),Small t->treeB d t=true->a.length=d->a.all nameB=true->∀r ∈ zq a t,RowOk' r:=by
 have key:∀(t:List GNode),(∀(d:Nat) (a:List zn),Small t->wQ d t=true->d < 3->a.length=d->a.all nameB=true->∀r ∈ zq a t,RowOk' r):=by
  refine wq (λ_ _ _ _ _ _ _ _ h=>by simp [zq] at h) ?_;intro x r u f d a hs s hd j k q c;rw [yk,List.flatMap_cons,List.mem_append,<- yk] at c;simp only [wQ,Bool.and_eq_true] at s;obtain ⟨e,o⟩:=s;rcases c with c | c
  ·rw [nodeB_eq] at e;simp only [Bool.and_eq_true] at e;obtain ⟨⟨⟨n,_⟩,b⟩,p⟩:=e;have i:(a++[x.name]).all nameB=true:=by rw [List.all_append,k];simpa using n
   rw [yU,List.mem_append,List.mem_map] at c;rcases c with ⟨l,g,rfl⟩ | c
   ·refine ⟨?_,(qH p).2 l g,hs.leaf (by simp) g⟩;simp only [vQ,i,Bool.and_true,List.length_append,List.length_cons,List.length_nil,Bool.and_eq_true,decide_eq_true_eq];omega
   ·simp only [treeB,Bool.and_eq_true,Bool.or_eq_true,List.isEmpty_iff,decide_eq_true_eq] at b;rcases b.1.1 with h0 | h0
    ·rw [h0] at c;simp [zq] at c
    ·exact u (d+1) _ (hs.subs (by simp)) b.2 h0 (by simp [j]) i q c
  ·exact f d a hs.tail o hd j k q c
 intro t d a hs m j k r f;simp only [treeB,Bool.and_eq_true,Bool.or_eq_true,List.isEmpty_iff,decide_eq_true_eq] at m;rcases m.1.1 with h0 | h0
 ·rw [h0] at f;simp [zq] at f
 ·exact key t d a hs m.2 h0 j k r f
theorem tree_nil (d:Nat):treeB d []=true:=by simp [treeB,wQ,upB,allI]
theorem leafNew_tot (k:Int):∃v,vw k=some v:=by unfold vw;split <;> exact ⟨_,rfl⟩
theorem pathB_ne {p:List zn} (h:vQ p=true):p ≠ []:=by
 rintro rfl
 simp [vQ] at h
theorem pathAll {p:List zn} {f:zn->Option Bool} (a:∀x,f x=some (nameB x)):(lp (zk (λ(_:Nat) (b:zn) (_:Unit)=>(((f b).bind λv9=>(if (!v9)=true then some (.ret false) else some (.nxt ()))):Option (Out _ Unit))) p 0 ()) λ(_:Unit)=>some ((decide (((p).length:Int) >= (1:Int)))&&(decide (((p).length:Int)<=(3:Int)))))=some (vQ p):=by
 rw [loopL_all nameB false _ _ (λi x _=>by rw [a];cases nameB x <;> rfl),bnd1,bnd3];unfold vQ;cases h:p.all nameB <;> simp
theorem ref04MayPath_is (p:List zn):vZ p=some (vQ p):=pathAll ref04IsName_is
def wp (k:Int):Int:=if k=1 then 1 else if k=2 then 2 else if k=3 \/ k=4 then 3 else if k=5 then 4 else 0
def opB (o:GOp):Bool:=decide (1<=o.kind)&&decide (o.kind<=5)&&vQ o.path&&decide (o.text.length<=40)&&decide (o.dots.length<=64) &&
 (if o.kind=1 then decide (-1000000<=o.n)&&decide (o.n<=1000000)&&(o.text==[])&&decide (o.dots.length=0)
   else decide (o.n=0)&&(decide (o.kind=4) || decide (o.dots.length=0))&&(o.dots.all xX&&rising o.dots))
theorem ref04Type_is (k:Int):vN k=some (wp k):=by unfold vN wp;grind
theorem opType_is (k:Int):opType k=some (wp k):=by
 unfold opType opXof wp;by_cases h:k < 1 \/ 5 < k
 ·have a:(decide (k < 1) || decide (k > 5))=true:=by simp;omega
  rw [if_pos a];grind
 ·have a:¬ (decide (k < 1) || decide (k > 5))=true:=by simp;omega
  rw [if_neg a];rcases (show k=1 \/ k=2 \/ k=3 \/ k=4 \/ k=5 by omega) with rfl | rfl | rfl | rfl | rfl <;> rfl
theorem wrap_pred {i:Nat} (h0:0 < i) (a:i<=9223372036854775807):(IntKind.wrap .i64 ((i:Int) - 1))=((i - 1:Nat):Int):=by rw [w64n (by omega)];omega
theorem opXdrops_is (o:GOp):opXdrops o=some (decide (o.n=0)&&decide (o.text.length<=40)&&decide (o.dots.length<=64)&&(o.dots.all xX&&rising o.dots)):=by
 unfold opXdrops;by_cases a:o.n ≠ 0 \/ 40 < o.text.length \/ 64 < o.dots.length
 ·have b:((o.n != 0 || decide (((o.text).length:Int) > 40)) || decide (((o.dots).length:Int) > 64))=true:=by simp;omega
  rw [if_pos b];congr 1;rw [eq_comm,Bool.and_eq_false_iff,Bool.and_eq_false_iff,Bool.and_eq_false_iff];left;rcases a with a | a | a
  ·exact .inl (.inl (decide_eq_false a))
  ·exact .inl (.inr (decide_eq_false (by omega)))
  ·exact .inr (decide_eq_false (by omega))
 ·have b:¬ ((o.n != 0 || decide (((o.text).length:Int) > 40)) || decide (((o.dots).length:Int) > 64))=true:=by simp;omega
  rw [if_neg b,rising_loop]
  ·have c:o.n=0:=by omega
   have g:o.text.length<=40:=by omega
   have d:o.dots.length<=64:=by omega
   simp [c,g,d]
  ·intro i x h;have hi:i < o.dots.length:=(List.getElem?_eq_some_iff.1 h).1;simp only [dotMay_is,Option.bind_some];by_cases h0:i=0
   ·subst h0;cases hd:xX x <;> simp [zY,xc,hd]
   ·have c:decide ((i:Int) > 0)=true:=by simp;omega
    have f:=wrap_pred (i:=i) (by omega) (by omega);rw [f,Int.toNat_natCast];have j:xc o.dots i x=dotLt (o.dots.getD (i - 1) default) x:=by unfold xc;rw [decide_eq_false h0];rfl
    rw [zp (by intro _;omega),c,j];generalize o.dots.getD (i - 1) default=y;cases hd:xX x
    ·simp
    ·have e:=dotCmp_lt y x;simp only [qQ,Bool.not_true,Bool.false_or,Bool.true_and,BEq.rfl,if_true,Option.bind_some,e];cases dotLt y x <;> rfl
theorem nil_rises {ds:List GDot} (h:ds.length=0):(ds.all xX&&rising ds)=true:=by
 have:ds=[]:=List.eq_nil_of_length_eq_zero h;subst this;rfl
theorem lenB {α:Type} (l:List α):((l.length:Int)==0)=decide (l.length=0):=by
 rw [Bool.eq_iff_iff];simp
theorem opMay_is (o:GOp):opMay o=some (opB o):=by
 unfold opMay opXof opB;by_cases h:o.kind < 1 \/ 5 < o.kind
 ·have b:(decide (o.kind < 1) || decide (o.kind > 5))=true:=by simp;omega
  rw [if_pos b];have c:(decide (1<=o.kind)&&decide (o.kind<=5))=false:=by rw [Bool.and_eq_false_iff];simp;omega
  simp [c]
 ·have b:¬ (decide (o.kind < 1) || decide (o.kind > 5))=true:=by simp;omega
  rw [if_neg b,opMayPath_is];have d:=nil_rises (ds:=o.dots);rcases (show o.kind=1 \/ o.kind=2 \/ o.kind=3 \/ o.kind=4 \/ o.kind=5 by omega) with a | a | a | a | a <;> rw [a] <;>
   simp only [yi,Int.toNat,Option.bind_some,callOp,opXadds,opXplain,opXdrops_is,lenB] <;> generalize (o.dots.all xX&&rising o.dots)=R at d ⊢ <;> cases hp:vQ o.path <;> simp [a] <;> grind
theorem ref04May_is (o:GOp):ref04May o=some (opB o):=by
 unfold ref04May opB;rw [ref04Type_is];simp only [Option.bind_some,ref04MayPath_is];have k:=nil_rises (ds:=o.dots);by_cases h:o.kind < 1 \/ 5 < o.kind
 ·have m:(decide (1<=o.kind)&&decide (o.kind<=5))=false:=by rw [Bool.and_eq_false_iff];simp;omega
  have a:wp o.kind=0:=by unfold wp;grind
  simp [m,a]
 ·have a:(wp o.kind==0)=false:=by unfold wp;grind
  have f:(decide (1<=o.kind)&&decide (o.kind<=5))=true:=by simp;omega
  by_cases hb:40 < o.text.length \/ 64 < o.dots.length
  ·have c:(decide ((o.text.length:Int) > 40) || decide ((o.dots.length:Int) > 64))=true:=by simp;omega
   have d:(decide (o.text.length<=40)&&decide (o.dots.length<=64))=false:=by rw [Bool.and_eq_false_iff];simp;omega
   rw [a,f];cases hp:vQ o.path <;> simp at c d ⊢ <;> grind
  ·rw [rising_loop]
   ·have c:decide ((o.text.length:Int) > 40)=false:=decide_eq_false (by omega);have d:decide ((o.dots.length:Int) > 64)=false:=decide_eq_false (by omega);have r:decide (o.text.length<=40)=true:=decide_eq_true (by omega);have j:decide (o.dots.length<=64)=true:=decide_eq_true (by omega);have g:decide ((o.dots.length:Int) > 0)=!decide (o.dots.length=0):=by
     by_cases hd:o.dots.length=0
     ·rw [decide_eq_true hd,decide_eq_false (by omega)];rfl
     ·rw [decide_eq_false hd,decide_eq_true (by omega)];rfl
    rw [a,f,c,d,r,j,g,lenB];generalize (o.dots.all xX&&rising o.dots)=R at k ⊢;cases hp:vQ o.path
    ·simp
    ·by_cases k1:o.kind=1
     ·simp [k1]
     ·by_cases n0:o.n=0 <;> by_cases k4:o.kind=4 <;> by_cases d0:o.dots.length=0 <;> simp [k1,n0,k4,d0]
   ·intro i x e;have hi:i < o.dots.length:=(List.getElem?_eq_some_iff.1 e).1;simp only [ref03May_is,Option.bind_some];by_cases h0:i=0
    ·subst h0;cases hd:xX x <;> simp [zY,xc]
    ·have q:decide ((i:Int) > 0)=true:=by simp;omega
     have l:=wrap_pred (i:=i) (by omega) (by omega);rw [l,Int.toNat_natCast,Int.toNat_natCast];have p:xc o.dots i x=dotLt (o.dots.getD (i - 1) default) x:=by unfold xc;rw [decide_eq_false h0];rfl
     have b:o.dots.getD i default=x:=by rw [List.getD_eq_getElem?_getD,e];rfl
     rw [zp (by intro _;omega),zp (by intro _;omega),q,p,b];generalize o.dots.getD (i - 1) default=y;cases hd:xX x
     ·simp
     ·simp only [ref03Less_is,Bool.not_true,Bool.false_or,Bool.true_and,BEq.rfl,if_true,Option.bind_some];cases dotLt y x <;> rfl
def wa (e:GEvent):Bool:=xX e.dot&&decide (e.time >= 1)&&decide (e.time<=1099511627776)&&opB e.op
theorem qP (e:GEvent):wP e=some (wa e):=by
 unfold wP wa;rw [dotMay_is,opMay_is];simp only [Option.bind_some];cases (xX e.dot&&decide (e.time >= 1)&&decide (e.time<=1099511627776)) <;> rfl
theorem ref04MayEvent_is (e:GEvent):x4 e=some (wa e):=by
 unfold x4 wa;rw [ref03May_is,ref04May_is];simp only [Option.bind_some];cases (xX e.dot&&decide (e.time >= 1)&&decide (e.time<=1099511627776)) <;> rfl
end Go.Vv
namespace Go.Vv
open Go
theorem loopW_inv {σ ρ:Type} {f:σ->Option (Out ρ σ)} (c b:σ->Prop) (d:σ->Nat) (h:∀s,c s->(∃a,f s=some (.brk a)/\b a) \/ ∃a,f s=some (.nxt a)/\c a/\d a < d s):∀(k:Nat) (s:σ),d s=k->c s->∃a,yp f s=some (.inr a)/\b a:=by
 intro k
 induction k using Nat.strongRecOn with
 | _ k ih =>
  intro s l hi;rw [yV];rcases h s hi with ⟨a,e,i⟩ | ⟨a,e,g,j⟩
  ·exact ⟨a,by rw [e],i⟩
  ·rw [e];exact ih (d a) (by omega) a rfl g
theorem idxF_is {q:GLeaf->Bool} {del:GLeaf->Option Bool}:∀(L:List GLeaf) (n:Nat),(∀x ∈ L,del x=some (q x)) ->
  (zk (λ(f:Nat) (g:GLeaf) (_:Unit)=>(((del g).bind λi=>(if i=true then some (.ret (f:Int)) else some (.nxt ()))):Option (Out Int Unit))) L n ()=some (.inr ())/\∀x ∈ L,q x=false) \/
  ∃A x B,L=A++x::B/\q x=true/\(∀y ∈ A,q y=false)/\zk (λ(f:Nat) (g:GLeaf) (_:Unit)=>(((del g).bind λi=>(if i=true then some (.ret (f:Int)) else some (.nxt ()))):Option (Out Int Unit))) L n ()=some (.inl ((n+A.length:Nat):Int))
 | [],n,_=>.inl ⟨rfl,by simp⟩
 | x::r,n,h=>by
  have d:=h x (by simp);cases hq:q x with
  | true=>exact .inr ⟨[],x,r,rfl,hq,by simp,by simp [zk,d,hq]⟩
  | false =>
   rcases idxF_is r (n+1) (λy a=>h y (by simp [a])) with ⟨e,b⟩ | ⟨A,y,B,rfl,j,b,e⟩
   ·refine .inl ⟨by simp only [zk,d,hq,Option.bind_some];exact e,?_⟩;intro y a;rcases List.mem_cons.1 a with rfl | a
    ·exact hq
    ·exact b y a
   ·refine .inr ⟨x::A,y,B,rfl,j,?_,?_⟩
    ·intro z c;rcases List.mem_cons.1 c with rfl | c
     ·exact hq
     ·exact b z c
    ·simp only [zk,d,hq,Option.bind_some];rw [show n+(x::A).length=n+1+A.length by simp only [List.length_cons];omega];exact e
theorem wE {a:Nat} (h:a<=16777216):IntKind.wrap .i64 ((a:Int)+1)=((a+1:Nat):Int):=wrap_add1 (Nat.le_trans (Nat.succ_le_succ h) (by decide))
noncomputable def delF (del:GLeaf->Option Bool) (n:Nat):Int×Int×(List GLeaf)->Option (Out (List GLeaf) (Int×Int×(List GLeaf))):=λs1=>((zY ((s1.2.2).length=n) ((if (decide (s1.2.1 < ((n:Nat):Int)))=true then ((yi s1.2.2 s1.2.1).bind λy14=>((del y14).bind λv15=>(if (!v15)=true then ((yi s1.2.2 s1.1).bind λy17=>some (.nxt ((IntKind.wrap .i64 (s1.1+(1:Int))),(IntKind.wrap .i64 (s1.2.1+(1:Int))),(s1.2.2.set s1.1.toNat y14)))) else some (.nxt (s1.1,(IntKind.wrap .i64 (s1.2.1+(1:Int))),s1.2.2))))) else some (.brk (s1.1,s1.2.1,s1.2.2))))))
theorem delR_eq (b:List GLeaf) (a:GLeaf->Option Bool):xO b a=((yf b a).bind λd=>(if (d==(-1:Int))=true then some b else (lp (yp (delF a b.length) (d,(IntKind.wrap .i64 (d+(1:Int))),b)) λ(c:Int×Int×(List GLeaf))=>(zY (0<=c.1/\c.1<=((b.length:Nat):Int)) (((slc (c.2.2.take c.1.toNat++List.replicate (b.length - c.1.toNat) zLf) (0:Int) c.1).bind λe=>some e)))))):=rfl
theorem delF_run {q:GLeaf->Bool} {del:GLeaf->Option Bool} {L0:List GLeaf} (u:L0.length<=16777216) (h:∀x ∈ L0,del x=some (q x)) {a0 b0:Nat} (A:a0 < b0) (z:b0<=L0.length) (w:L0.take a0=(L0.take b0).filter λx=>!q x) :
  ∃m,yp (delF del L0.length) ((a0:Int),(b0:Int),L0)=some (.inr m)/\∃a:Nat,m.1=(a:Int)/\a < L0.length/\m.2.2.length=L0.length/\m.2.2.take a=L0.filter λx=>!q x:=by
 refine loopW_inv (f:=delF del L0.length) (λs=>∃a b:Nat,s.1=(a:Int)/\s.2.1=(b:Int)/\a < b/\b<=L0.length/\s.2.2.length=L0.length/\s.2.2.take a=(L0.take b).filter (λx=>!q x)/\s.2.2.drop b=L0.drop b)
  _ (λs=>L0.length - s.2.1.toNat) ?_ _ _ rfl ⟨a0,b0,rfl,rfl,A,z,rfl,w,rfl⟩
 rintro ⟨i,j,M⟩ ⟨a,b,v,r,B,t,d,n,k⟩
 simp only at v r d n k;subst v r;simp only [delF,zY,d,if_true];by_cases hb:b < L0.length
 ·right;have y:M[b]?=L0[b]?:=by
   have:=congrArg (λl=>l[0]?) k;simpa [List.getElem?_drop] using this
  have o:L0[b]?=some L0[b]:=List.getElem?_eq_getElem hb;have hd:=h L0[b] (List.getElem_mem hb);have e:yi M (b:Int)=some L0[b]:=by simp [yi,y]
  have c:yi M (a:Int)=some (M[a]'(by omega)):=by simp [yi]
  rw [if_pos (by simp;omega),e,Option.bind_some,hd,Option.bind_some];have g:L0.take (b+1)=L0.take b++[L0[b]]:=by rw [List.take_add_one,o];rfl
  cases hq:q L0[b] with
  | true =>
   refine ⟨((a:Int),((b+1:Nat):Int),M),by simp [wE (Nat.le_trans t u)],⟨a,b+1,rfl,rfl,by omega,by omega,d,?_,?_⟩,by simp;omega⟩
   ·rw [n,g,List.filter_append];simp [hq]
   ·have:=congrArg (λl=>l.drop 1) k;simpa [List.drop_drop] using this
  | false =>
   refine ⟨(((a+1:Nat):Int),((b+1:Nat):Int),M.set a L0[b]),by simp [c,wE (Nat.le_trans t u),wE (show a<=16777216 by omega)],⟨a+1,b+1,rfl,rfl,by omega,by omega,by simpa using d,?_,?_⟩,by simp;omega⟩
   ·rw [List.take_add_one,List.take_set_of_le (Nat.le_refl _),n,g,List.filter_append,List.getElem?_set_self (by omega)];simp [hq]
   ·have:=congrArg (λl=>l.drop 1) k;rw [List.drop_set_of_lt (by omega)];simpa [List.drop_drop] using this
 ·left;have p:b=L0.length:=by omega
  rw [if_neg (by simp;omega)];exact ⟨_,rfl,a,rfl,by omega,d,by rw [n,p,List.take_length]⟩
theorem deleteR_is {q:GLeaf->Bool} {del:GLeaf->Option Bool} {L0:List GLeaf} (j:L0.length<=16777216) (h:∀x ∈ L0,del x=some (q x)):xO L0 del=some (L0.filter λx=>!q x):=by
 rw [delR_eq];unfold yf;rcases idxF_is L0 0 h with ⟨e,b⟩ | ⟨A,x,B,d,n,b,e⟩
 ·rw [e];simp only [lp,Option.bind_some,beq_self_eq_true,if_true];rw [List.filter_eq_self.2 (λx i=>by rw [b x i];rfl)]
 ·rw [e];have g:L0.length=A.length+1+B.length:=by rw [d];simp;omega
  simp only [lp,Option.bind_some,Nat.zero_add];rw [if_neg (by simp <;> omega),wE (by omega)];obtain ⟨f,k,a,c,p,o,m⟩:=delF_run j h (a0:=A.length) (b0:=A.length+1) (by omega) (by omega) (by
   rw [d,List.take_left,List.take_append,List.take_of_length_le (by omega),show A.length+1 - A.length=1 by omega,List.filter_append];simp only [List.take_succ_cons,List.take_zero,List.filter_cons,n,List.filter_nil];rw [List.filter_eq_self.2 (λy l=>by rw [b y l];rfl)];simp)
  rw [k];simp only [zY];rw [if_pos (by rw [c];omega),c];have hs:slc (f.2.2.take ((a:Int)).toNat++List.replicate (L0.length - ((a:Int)).toNat) zLf) (0:Int) (a:Int)=some (f.2.2.take a):=by
   unfold slc;rw [if_pos (by simp;omega)];simp only [Int.toNat_natCast,Int.toNat_zero,List.drop_zero];rw [List.take_append_of_le_length (by simp;omega),List.take_take,Nat.min_self]
  rw [hs,Option.bind_some,m]

theorem less_tot:∀(a b:List UInt8),a=b \/ Op.bytesLess a b=true \/ Op.bytesLess b a=true
 | [],[]=>.inl rfl
 | [],_::_=>.inr (.inl rfl)
 | _::_,[]=>.inr (.inr rfl)
 | x::a,y::b=>by
  by_cases h:x=y
  ·subst h;rcases less_tot a b with rfl | h | h
   ·exact .inl rfl
   ·exact .inr (.inl (by simp [Op.bytesLess,h]))
   ·exact .inr (.inr (by simp [Op.bytesLess,h]))
  ·have c:x.toNat ≠ y.toNat:=λe=>h (UInt8.toNat_inj.1 e);rcases Nat.lt_or_gt_of_ne c with h | h
   ·exact .inr (.inl (by simp [Op.bytesLess,UInt8.lt_iff_toNat_lt,h]))
   ·exact .inr (.inr (by simp [Op.bytesLess,UInt8.lt_iff_toNat_lt,h]))
def pltB:List zn->List zn->Bool
 | _,[]=>false
 | [],_::_=>true
 | x::a,y::b=>Op.bytesLess x y || (decide (x=y)&&pltB a b)
theorem plt_irr:∀a,pltB a a=false
 | []=>rfl
 | x::a=>by simp [pltB,q9,plt_irr a]
theorem plt_trans:∀{a b c:List zn},pltB a b=true->pltB b c=true->pltB a c=true
 | _,[],_,h,_=>by cases ‹List zn› <;> simp [pltB] at h
 | _,_::_,[],_,h=>by simp [pltB] at h
 | [],_::_,_::_,_,_=>rfl
 | x::a,y::b,z::c,e,d=>by
  simp only [pltB,Bool.or_eq_true,Bool.and_eq_true,decide_eq_true_eq] at *;rcases e with e | ⟨rfl,e⟩
  ·rcases d with d | ⟨rfl,d⟩
   ·exact .inl (qF e d)
   ·exact .inl e
  ·rcases d with d | ⟨rfl,d⟩
   ·exact .inl d
   ·exact .inr ⟨rfl,plt_trans e d⟩
theorem plt_path:∀{a b:List zn},pltB a b=true->pathLt a b
 | _,[],h=>by cases ‹List zn› <;> simp [pltB] at h
 | [],y::b,_=>.inl ⟨y,b,rfl⟩
 | x::a,y::b,h=>by
  simp only [pltB,Bool.or_eq_true,Bool.and_eq_true,decide_eq_true_eq] at h;rcases h with h | ⟨rfl,h⟩
  ·exact .inr ⟨[],x,y,a,b,rfl,rfl,h⟩
  ·rcases plt_path h with ⟨z,q,rfl⟩ | ⟨p,u,v,a',d,rfl,rfl,c⟩
   ·exact .inl ⟨z,q,rfl⟩
   ·exact .inr ⟨x::p,u,v,a',d,rfl,rfl,c⟩
theorem path_plt {a b:List zn} (h:pathLt a b):pltB a b=true:=by
 rcases h with ⟨y,q,rfl⟩ | ⟨p,x,y,a',c,rfl,rfl,h⟩
 ·induction a with
  | nil=>rfl
  | cons x a ih=>simp [pltB,ih]
 ·induction p with
  | nil=>simp [pltB,h]
  | cons x a ih=>simp [pltB,ih]
def Key:=List zn×Int
def kltB (a b:Key):Bool:=pltB a.1 b.1 || (decide (a.1=b.1)&&decide (a.2 < b.2))
theorem klt_irr (a:Key):kltB a a=false:=by simp [kltB,plt_irr]
theorem klt_trans {a b c:Key} (e:kltB a b=true) (d:kltB b c=true):kltB a c=true:=by
 simp only [kltB,Bool.or_eq_true,Bool.and_eq_true,decide_eq_true_eq] at *;rcases e with e | ⟨g,e⟩
 ·rcases d with d | ⟨f,d⟩
  ·exact .inl (plt_trans e d)
  ·rw [f] at e;exact .inl e
 ·rcases d with d | ⟨f,d⟩
  ·rw [<- g] at d;exact .inl d
  ·exact .inr ⟨g.trans f,by omega⟩
def ekey (e:GEdit):Key:=(e.path,e.typ)
def vl (r:GRow):Key:=(r.path,r.leaf.typ)
def ordI (a b:GEdit):Int:=if kltB (ekey a) (ekey b)=true then -1 else if kltB (ekey b) (ekey a)=true then 1 else 0
theorem sortO_lt {α:Type} {c:α->α->Option Int} {cf:α->α->Int} {lt:α->α->Prop} {L R:List α} (v:∀x ∈ L,∀y ∈ L,c x y=some (cf x y)) (p:∀x y,cf x y < 0 ↔ lt x y) (m:∀x,¬ lt x x) (q:∀x y z,lt x y->lt y z->lt x z)
  (l:∀x ∈ L,∀y ∈ L,x=y \/ lt x y \/ lt y x) (o:R.Perm L) (hs:R.Pairwise lt) (w:L.length<=yB):sortO c L=some R:=by
 unfold sortO;rw [if_pos (λx d y f=>by rw [v x d y f];rfl)];have hd:∀x ∈ L,∀y ∈ L,(c x y).getD 0 < 0 ↔ lt x y:=λx d y f=>by rw [v x d y f];exact p x y
 have i:∀x y,lt x y->¬ lt y x:=λx y j g=>m x (q _ _ _ j g);have u:R.Pairwise λa b=>¬ (c b a).getD 0 < 0:=by
  have:R.Pairwise λa b=>a ∈ L/\b ∈ L/\lt a b:=by
   refine List.Pairwise.imp_of_mem ?_ hs;intro a b s r h;exact ⟨o.subset s,o.subset r,h⟩
  refine this.imp ?_
  rintro a b ⟨s,r,h⟩ g
  exact i _ _ h ((hd b r a s).1 g)
 refine sortF_of ⟨λx d h=>m x ((hd x d x d).1 h),λx y z d f k j g=>(hd x d z k).2 (q _ _ _ ((hd x d y f).1 j) ((hd y f z k).1 g)),λx y z d f k j g n=>?_⟩ w ⟨o,u⟩ ?_
 ·have n:=(hd x d z k).1 n;rcases l x d y f with rfl | h | h
  ·exact g ((hd _ f z k).2 n)
  ·exact j ((hd x d y f).2 h)
  ·exact g ((hd y f z k).2 (q _ _ _ h n))
 ·rintro M ⟨t,A⟩
  refine sorted_one (t.trans o.symm) A u λx y d f j g=>?_;have d:=t.subset d;have f:=t.subset f;rcases l x d y f with e | h | h
  ·exact e
  ·exact (j ((hd x d y f).2 h)).elim
  ·exact (g ((hd y f x d).2 h)).elim
theorem cmp_pos:∀{a b:List UInt8},Op.bytesLess b a=true->0 < Lib.compareBytes a b
 | [],b,h=>by cases b <;> simp [Op.bytesLess] at h
 | _::_,[],_=>by simp [Lib.compareBytes]
 | x::a,y::b,h=>by
  simp only [Op.bytesLess,Bool.or_eq_true,Bool.and_eq_true,decide_eq_true_eq,beq_iff_eq] at h;rcases h with h | ⟨rfl,h⟩
  ·have d:y.toNat < x.toNat:=UInt8.lt_iff_toNat_lt.1 h;have c:¬ x < y:=λe=>by have:=UInt8.lt_iff_toNat_lt.1 e;omega
   simp [Lib.compareBytes,h,c]
  ·have:=cmp_pos h;simp [Lib.compareBytes,this]
def NLt (s:zn) (A:List GNode):Prop:=∀y ∈ A,Op.bytesLess y.name s=true
def NGt (s:zn) (B:List GNode):Prop:=∀y ∈ B,Op.bytesLess s y.name=true
theorem split_up {t:List GNode} (s:zn) (h:upB t=true):(∃A B,t=A++B/\NLt s A/\NGt s B) \/ ∃A x B,t=A++x::B/\x.name=s/\NLt s A/\NGt s B:=by
 rw [vV] at h
 induction t with
 | nil=>exact .inl ⟨[],[],rfl,λ_ h=>by simp at h,λ_ h=>by simp at h⟩
 | cons x t ih =>
  obtain ⟨d,f⟩:=List.pairwise_cons.1 h;rcases less_tot x.name s with e | e | e
  ·exact .inr ⟨[],x,t,rfl,e,λ_ h=>by simp at h,λy a=>by rw [<- e];exact d y a⟩
  ·rcases ih f with ⟨A,B,rfl,c,b⟩ | ⟨A,z,B,rfl,g,c,b⟩
   ·refine .inl ⟨x::A,B,rfl,λy a=>?_,b⟩;rcases List.mem_cons.1 a with rfl | a
    ·exact e
    ·exact c y a
   ·refine .inr ⟨x::A,z,B,rfl,g,λy a=>?_,b⟩;rcases List.mem_cons.1 a with rfl | a
    ·exact e
    ·exact c y a
  ·refine .inl ⟨[],x::t,rfl,λ_ h=>by simp at h,λy a=>?_⟩;rcases List.mem_cons.1 a with rfl | a
   ·exact e
   ·exact qF e (d y a)
theorem bs_none {A B:List GNode} {s:zn} (f:(A++B).length<=16777216) (h:NLt s A) (b:NGt s B):zg (A++B) s (λg j=>xi g j)=some ((A.length:Int),false):=by
 rw [bs_is (c:=A.length) f (by simp) λi m hi=>⟨_,layC1_is m s,λa=>by
   rw [List.getElem?_append_left a] at hi;exact cmp_less.2 (h m (List.mem_of_getElem? hi)),λa=>by
   rw [List.getElem?_append_right a] at hi;exact Int.le_of_lt (cmp_pos (b m (List.mem_of_getElem? hi)))⟩]
 cases B with
 | nil=>simp
 | cons y B =>
  have e:(A++y::B).getD A.length default=y:=by simp
  have:=cmp_pos (b y (by simp));rw [if_pos (by simp),e,layC1_is];have d:(Lib.compareBytes y.name s==0)=false:=by simp;omega
  simp [d]
theorem bs_some {A B:List GNode} {x:GNode} {s:zn} (d:(A++x::B).length<=16777216) (hs:x.name=s) (g:NLt s A) (b:NGt s B):zg (A++x::B) s (λf h=>xi f h)=some ((A.length:Int),true):=by
 subst hs;rw [bs_is (c:=A.length) d (by simp) λi m hi=>⟨_,layC1_is m x.name,λa=>by
   rw [List.getElem?_append_left a] at hi;exact cmp_less.2 (g m (List.mem_of_getElem? hi)),λa=>by
   rw [List.getElem?_append_right a] at hi;rcases List.mem_cons.1 (List.mem_of_getElem? hi) with rfl | j
   ·rw [cmp_self];exact Int.le_refl _
   ·exact Int.le_of_lt (cmp_pos (b m j))⟩]
 have e:(A++x::B).getD A.length default=x:=by simp
 rw [if_pos (by simp),e,layC1_is,cmp_self];simp
noncomputable def layIn (n:Nat) (path1:List zn) (kind2:Int) (l3:GLeaf) (there4:Bool) (s1:zn×(List GLeaf)×(List GNode)):Option (List GNode ⊕ ((List GLeaf)×(List GNode))):=((if (decide (((path1).length:Int) > (1:Int)))=true then ((slc path1 (1:Int) ((path1).length:Int)).bind λm20=>((xy n s1.2.2 m20 kind2 l3 there4).bind λv21=>some (.inr (s1.2.1,v21)))) else ((yY s1.2.1).bind λv22=>((xO v22 (λx0=>diffXlayC2 x0 kind2)).bind λv23=>(if there4=true then ((diffXown l3).bind λv25=>(zY ((v23).length+(([v25]:List GLeaf)).length<=yB) (((sortO (λx y=>diffXlayC3 x y) (v23++([v25]:List GLeaf))).bind λv27=>some (.inr (v27,s1.2.2)))))) else some (.inr (v23,s1.2.2)))))):Option (_ ⊕ ((List GLeaf)×(List GNode))))
noncomputable def layRest (t0:List GNode) (i:Int) (f:Bool) (nm:zn) (s2:(List GLeaf)×(List GNode)):Option (List GNode):=((slc t0 (0:Int) i).bind λm28=>((yH m28).bind λv29=>(if (decide ((IntKind.wrap .i64 (((s2.1).length:Int)+((s2.2).length:Int))) > (0:Int)))=true then (zY ((v29).length+(([(GNode.mk nm s2.1 s2.2)]:List GNode)).length<=yB) ((if f=true then ((slc t0 (IntKind.wrap .i64 (i+(1:Int))) ((t0).length:Int)).bind λm35=>(zY (((v29++([(GNode.mk nm s2.1 s2.2)]:List GNode))).length+(m35).length<=yB) (some ((v29++([(GNode.mk nm s2.1 s2.2)]:List GNode))++m35)))) else ((slc t0 i ((t0).length:Int)).bind λm37=>(zY (((v29++([(GNode.mk nm s2.1 s2.2)]:List GNode))).length+(m37).length<=yB) (some ((v29++([(GNode.mk nm s2.1 s2.2)]:List GNode))++m37))))))) else (if f=true then ((slc t0 (IntKind.wrap .i64 (i+(1:Int))) ((t0).length:Int)).bind λm40=>(zY ((v29).length+(m40).length<=yB) (some (v29++m40)))) else ((slc t0 i ((t0).length:Int)).bind λm42=>(zY ((v29).length+(m42).length<=yB) (some (v29++m42))))))))
theorem layN_eq (n:Nat) (t0:List GNode) (a:List zn) (c:Int) (g:GLeaf) (b:Bool):xy (n+1) t0 a c g b=((yi a (0:Int)).bind λh=>((zg t0 h (λj k=>xi j k)).bind λd=>((yi a (0:Int)).bind λl=>(lp ((if d.2=true then ((yi t0 d.1).bind λe=>some (.inr (e.name,e.leaves,e.subs))) else some (.inr (l,([]:List GLeaf),([]:List GNode)))):Option (_ ⊕ (zn×(List GLeaf)×(List GNode)))) λ(f:zn×(List GLeaf)×(List GNode))=>(lp (layIn n a c g b f) λ(i:(List GLeaf)×(List GNode))=>layRest t0 d.1 d.2 f.1 i))))):=rfl
def vS (k:Int) (l:GLeaf) (there:Bool) (ls:List GLeaf):List GLeaf:=if there=true then ls.filter (λx=>decide (x.typ < k))++[l]++ls.filter (λx=>decide (k < x.typ)) else ls.filter (λx=>!decide (x.typ=k))
theorem ups_inj {ls:List GLeaf} (h:ls.Pairwise λx y=>x.typ < y.typ) {x y:GLeaf} (c:x ∈ ls) (i:y ∈ ls) (e:x.typ=y.typ):x=y:=by
 induction ls with
 | nil=>simp at c
 | cons z r ih =>
  obtain ⟨f,j⟩:=List.pairwise_cons.1 h;rcases List.mem_cons.1 c with g | a <;> rcases List.mem_cons.1 i with d | b
  ·rw [g,d]
  ·have:=f y b;rw [<- g] at this;omega
  ·have:=f x a;rw [<- d] at this;omega
  ·exact ih j a b
theorem layLs_up {k:Int} {l:GLeaf} {there:Bool} {ls:List GLeaf} (c:there=true->l.typ=k) (h:ls.Pairwise λx y=>x.typ < y.typ):(vS k l there ls).Pairwise λx y=>x.typ < y.typ:=by
 unfold vS;split
 ·rename_i d;have c:=c d;rw [List.pairwise_append,List.pairwise_append];refine ⟨⟨h.filter _,by simp,λx a y b=>?_⟩,h.filter _,λx a y b=>?_⟩
  ·have a:=(List.mem_filter.1 a).2;simp at a b;subst b;omega
  ·have b:=(List.mem_filter.1 b).2;simp at b;rcases List.mem_append.1 a with a | a
   ·have a:=(List.mem_filter.1 a).2;simp at a;omega
   ·simp at a;subst a;omega
 ·exact h.filter _
theorem sortLs_is {k:Int} {l:GLeaf} {ls:List GLeaf} (d:l.typ=k) (g:ls.length<=16777216) (h:ls.Pairwise λx y=>x.typ < y.typ):sortO (λx y=>diffXlayC3 x y) (ls.filter (λx=>!decide (x.typ=k))++[l])=some (vS k l true ls):=by
 have i:=List.length_filter_le (λx:GLeaf=>!decide (x.typ=k)) ls;refine sortO_lt (α:=GLeaf) (cf:=λx y=>cmpI x.typ y.typ) (lt:=λx y=>x.typ < y.typ) (λx _ y _=>by unfold diffXlayC3;rw [cmpU8is];rfl) (λx y=>by unfold cmpI;split <;> (try split) <;> omega) (λx h=>by omega) (λx y z c f=>by omega) ?_ ?_ (layLs_up (λ_=>d) h) (yP (by simp;omega))
 ·intro x b y a;rcases Int.lt_trichotomy x.typ y.typ with e | e | e
  ·exact .inr (.inl e)
  ·left;rcases List.mem_append.1 b with b | b <;> rcases List.mem_append.1 a with a | a
   ·exact ups_inj h (List.mem_filter.1 b).1 (List.mem_filter.1 a).1 e
   ·have b:=(List.mem_filter.1 b).2;simp at b a;subst a;omega
   ·have a:=(List.mem_filter.1 a).2;simp at b a;subst b;omega
   ·simp at b a;rw [b,a]
  ·exact .inr (.inr e)
 ·unfold vS;rw [if_pos rfl];have c:(ls.filter (λx=>decide (x.typ < k))++ls.filter (λx=>decide (k < x.typ))).Perm (ls.filter λx=>!decide (x.typ=k)):=by
   have:=List.filter_append_perm (λx:GLeaf=>decide (x.typ < k)) (ls.filter λx=>!decide (x.typ=k));rw [List.filter_filter,List.filter_filter] at this;refine List.Perm.trans (.of_eq ?_) this;congr 1 <;> refine List.filter_congr λx _=>?_ <;> rw [Bool.eq_iff_iff] <;> simp <;> omega
  rw [List.append_assoc];refine List.Perm.trans (List.Perm.append_left _ List.perm_append_comm) ?_;rw [<- List.append_assoc];exact c.append_right _
theorem layIn_leaf {n:Nat} {s:zn} {k:Int} {l:GLeaf} {there:Bool} {b:zn} {ls:List GLeaf} {sb:List GNode} (e:there=true->l.typ=k/\LeafOk l) (a:ls.length<=16777216) (h:ls.Pairwise λx y=>x.typ < y.typ) :
  layIn n [s] k l there (b,ls,sb)=some (.inr (vS k l there ls,sb)):=by
 unfold layIn;have c:decide (((([s]:List zn).length:Int)) > 1)=false:=rfl;have g:=List.length_filter_le (λx:GLeaf=>!decide (x.typ=k)) ls;simp only [c,Bool.false_eq_true,if_false];rw [cloneLeaf_is (yP (by omega)),Option.bind_some,deleteR_is (q:=λx=>decide (x.typ=k)) a (λx _=>by unfold diffXlayC2;rfl),Option.bind_some];cases there with
 | false=>simp [vS]
 | true =>
  obtain ⟨f,d⟩:=e rfl;simp only [if_true];rw [own_is d,Option.bind_some,zp (yP (by simp;omega)),sortLs_is f a h,Option.bind_some]
theorem layIn_sub {n:Nat} {s a:zn} {r:List zn} {k:Int} {l:GLeaf} {there:Bool} {d:zn} {ls:List GLeaf} {sb b:List GNode} (f:(s::a::r).length<=16777216) (h:xy n sb (a::r) k l there=some b):layIn n (s::a::r) k l there (d,ls,sb)=some (.inr (ls,b)):=by
 unfold layIn;have e:decide ((((s::a::r).length:Int)) > 1)=true:=decide_eq_true (by simp only [List.length_cons];omega);simp only [e,if_true];rw [qs ⟨by omega,by simp only [List.length_cons];omega,Int.le_refl _⟩,Option.bind_some];have c:((s::a::r).take (((s::a::r).length:Int)).toNat).drop (1:Int).toNat=a::r:=by rw [Int.toNat_natCast,List.take_length];rfl
 rw [c,h,Option.bind_some]
def fitN (nm:zn) (ls:List GLeaf) (sb:List GNode):List GNode:=if ls.length+sb.length=0 then [] else [⟨nm,ls,sb⟩]
theorem layRest_is {A B:List GNode} {m:List GNode} {d:zn} {ls:List GLeaf} {sb:List GNode} {f:Bool} (g:m.length=if f=true then 1 else 0) (j:(A++m++B).length<=16777216) (o:ls.length<=16777216) (l:sb.length<=16777217) :
  layRest (A++m++B) (A.length:Int) f d (ls,sb)=some (A++fitN d ls sb++B):=by
 simp only [List.length_append] at j;unfold layRest;rw [qs ⟨Int.le_refl _,by omega,by simp;omega⟩,Option.bind_some];have k:((A++m++B).take ((A.length:Int)).toNat).drop (0:Int).toNat=A:=by simp
 rw [k,cloneNode_is (yP (by omega)),Option.bind_some];have h:∀(c:List GNode),c.length<=A.length+1->((if f=true then ((slc (A++m++B) (IntKind.wrap .i64 ((A.length:Int)+(1:Int))) ((A++m++B).length:Int)).bind λa=>(zY (c.length+(a).length<=yB) (some (c++a)))) else ((slc (A++m++B) (A.length:Int) ((A++m++B).length:Int)).bind λb=>(zY (c.length+(b).length<=yB) (some (c++b))))):Option (List GNode))=some (c++B):=by
  intro c n;cases f with
  | true =>
   simp only [if_true] at g ⊢;rw [w64n (by omega),qs ⟨by omega,by simp;omega,Int.le_refl _⟩,Option.bind_some];have e:((A++m++B).take (((A++m++B).length:Int)).toNat).drop ((A.length:Int)+1).toNat=B:=by
    rw [Int.toNat_natCast,List.take_length,show ((A.length:Int)+1).toNat=(A++m).length by simp;omega,List.drop_left]
   rw [e,zp (yP (by omega))]
  | false =>
   simp only [Bool.false_eq_true,if_false] at g ⊢;obtain rfl:=List.eq_nil_of_length_eq_zero g;rw [qs ⟨by omega,by simp;omega,Int.le_refl _⟩,Option.bind_some];have e:((A++[]++B).take (((A++[]++B).length:Int)).toNat).drop ((A.length:Int)).toNat=B:=by
    simp only [Int.toNat_natCast];rw [List.take_length,List.append_nil,List.drop_left]
   rw [e,zp (yP (by omega))]
 unfold fitN;have i:IntKind.wrap .i64 ((ls.length:Int)+(sb.length:Int))=(ls.length:Int)+(sb.length:Int):=w64n (by omega);simp only [i];by_cases h0:ls.length+sb.length=0
 ·rw [if_pos h0,if_neg (by simp;omega),List.append_nil];exact h A (by omega)
 ·rw [if_neg h0,if_pos (by simp;omega),zp (yP (by simp;omega))];exact h (A++[⟨d,ls,sb⟩]) (by simp)

theorem leaves_of {ls:List GLeaf} (h:ls.Pairwise λx y=>x.typ < y.typ) (b:∀l ∈ ls,leafB l=true):leavesB ls=true:=by
 unfold leavesB;rw [allI_iff];intro i x a;have c:=b x (List.mem_of_getElem? a);simp only [c,Bool.true_and];rcases i with _ | i
 ·rfl
 ·obtain ⟨hi,rfl⟩:=List.getElem?_eq_some_iff.1 a;have:=List.pairwise_iff_getElem.1 h i (i+1) (by omega) hi (by omega);simp only [Nat.add_sub_cancel,Bool.or_eq_true,decide_eq_true_eq];right;rw [List.getD_eq_getElem?_getD,List.getElem?_eq_getElem (by omega:i < ls.length)];exact this
theorem vL (a:List zn) (A B:List GNode):zq a (A++B)=zq a A++zq a B:=by rw [yk,yk,yk,List.flatMap_append]
theorem rowsN_mem {a:List zn} {x:GNode} {r:GRow}:r ∈ wL a x ↔ (∃l ∈ x.leaves,r=⟨a++[x.name],l⟩) \/ r ∈ zq (a++[x.name]) x.subs:=by
 rw [yU,List.mem_append,List.mem_map];constructor
 ·rintro (⟨l,b,rfl⟩ | h)
  ·exact .inl ⟨l,b,rfl⟩
  ·exact .inr h
 ·rintro (⟨l,b,rfl⟩ | h)
  ·exact .inl ⟨l,b,rfl⟩
  ·exact .inr h
theorem vY {a:List zn} {x:GNode}:zq a [x]=wL a x:=by simp [zq]
theorem fit_mem {a:List zn} {b:zn} {ls:List GLeaf} {sb:List GNode} {r:GRow}:r ∈ zq a (fitN b ls sb) ↔ (∃l ∈ ls,r=⟨a++[b],l⟩) \/ r ∈ zq (a++[b]) sb:=by
 unfold fitN;split
 ·rename_i h;have d:ls=[]:=List.eq_nil_of_length_eq_zero (by omega);have c:sb=[]:=List.eq_nil_of_length_eq_zero (by omega);subst d c;simp [zq]
 ·rw [vY,rowsN_mem]
theorem len_rows (t:List GNode) (a b:List zn):(zq a t).length=(zq b t).length:=by
 have d:=rows_pre t a [];have c:=rows_pre t b [];rw [List.append_nil] at d c;rw [d,c,List.length_map,List.length_map]
theorem wu:∀(t:List GNode) (d:Nat),wQ d t=true->t.length<=(zq [] t).length:=by
 refine wq (λ_ _=>Nat.zero_le _) ?_;intro x r f e d b;simp only [wQ,Bool.and_eq_true] at b;have g:=e d b.2;have a:=b.1;rw [nodeB_eq] at a;simp only [Bool.and_eq_true,treeB,Bool.not_eq_true',Bool.and_eq_false_iff] at a;have c:=f (d+1) a.1.2.2;rw [show x::r=[x]++r from rfl,vL,vY,yU];simp only [List.length_append,List.length_map,List.length_cons,List.length_nil];rw [len_rows x.subs ([]++[x.name]) []];rcases a.1.1.2 with h | h
 ·cases hl:x.leaves with
  | nil=>rw [hl] at h;cases h
  | cons l ls=>simp only [List.length_cons];omega
 ·cases hl:x.subs with
  | nil=>rw [hl] at h;cases h
  | cons l ls=>rw [hl] at c;simp only [List.length_cons] at c;omega
theorem qd {t:List GNode} {x:GNode} (a:x ∈ t):x.leaves.length+(zq [] x.subs).length<=(zq [] t).length:=by
 obtain ⟨A,B,rfl⟩:=List.append_of_mem a;rw [vL,show x::B=[x]++B from rfl,vL,vY,yU];simp only [List.length_append,List.length_map];rw [len_rows x.subs ([]++[x.name]) []];omega
theorem zx {d:Nat} {t:List GNode} (h:treeB d t=true):upB t=true/\∀x ∈ t,nodeB d x=true:=by
 simp only [treeB,Bool.and_eq_true,yO,List.all_eq_true] at h;exact ⟨h.1.2,h.2⟩
theorem treeB_of {d:Nat} {t:List GNode} (hd:d < 3) (b:upB t=true) (a:∀x ∈ t,nodeB d x=true):treeB d t=true:=by
 simp only [treeB,Bool.and_eq_true,yO,List.all_eq_true,b,hd,decide_true,Bool.or_true,true_and];exact a
theorem xW {d:Nat} {x:GNode} (h:nodeB d x=true):nameB x.name=true/\treeB (d+1) x.subs=true/\leavesB x.leaves=true:=by
 rw [nodeB_eq] at h;simp only [Bool.and_eq_true] at h;exact ⟨h.1.1.1,h.1.2,h.2⟩
theorem find_node {d:Nat} {t:List GNode} (s:zn) (h:treeB d t=true) (k:(zq [] t).length<=16777215):∃A m B f ls sb,t=A++m++B/\NLt s A/\NGt s B/\m.length=(if f=true then 1 else 0)/\zg t s (λj n=>xi j n)=some ((A.length:Int),f) /\
  ((if f=true then ((yi t (A.length:Int)).bind λg=>some (.inr (g.name,g.leaves,g.subs))) else some (.inr (s,([]:List GLeaf),([]:List GNode)))):Option (List GNode ⊕ (zn×(List GLeaf)×(List GNode))))=some (.inr (s,ls,sb))/\treeB (d+1) sb=true/\leavesB ls=true /\
  ls.length+(zq [] sb).length<=(zq [] t).length/\∀a r,r ∈ zq a m ↔ (∃l ∈ ls,r=⟨a++[s],l⟩) \/ r ∈ zq (a++[s]) sb:=by
 obtain ⟨p,i⟩:=zx h;have q:t.length<=16777215:=Nat.le_trans (wu t d (by rw [yO];exact List.all_eq_true.2 i)) k;rcases split_up s p with ⟨A,B,rfl,c,b⟩ | ⟨A,x,B,rfl,e,c,b⟩
 ·refine ⟨A,[],B,false,[],[],by simp,c,b,rfl,bs_none (by omega) c b,rfl,tree_nil _,rfl,by simp [zq],λa r=>by simp [zq]⟩
 ·obtain ⟨u,n2,o⟩:=xW (i x (by simp));refine ⟨A,[x],B,true,x.leaves,x.subs,by simp,c,b,rfl,bs_some (by omega) e c b,?_,n2,o,qd (by simp),λa r=>?_⟩
  ·rw [if_pos rfl,zI (x:=x) (by simp),Option.bind_some,e]
  ·rw [vY,rowsN_mem,e]
theorem rows_off {s:zn} {A:List GNode} (h:∀y ∈ A,y.name ≠ s) {a q:List zn} {r:GRow} (b:r ∈ zq a A):r.path ≠ a++s::q:=by
 obtain ⟨x,d,w,e⟩:=qt b;rw [e];intro c;have:=List.append_cancel_left c;injection this with f _;exact h x d f
theorem NLt.ne {s:zn} {A:List GNode} (h:NLt s A):∀y ∈ A,y.name ≠ s:=λy a=>less_ne (h y a)
theorem NGt.ne {s:zn} {A:List GNode} (h:NGt s A):∀y ∈ A,y.name ≠ s:=λy a=>(less_ne (h y a)).symm
theorem lay_fin {d:Nat} {A m B:List GNode} {s:zn} {ls:List GLeaf} {sb:List GNode} (hd:d < 3) (h:treeB d (A++m++B)=true) (g:NLt s A) (f:NGt s B) (hs:nameB s=true) (j:leavesB ls=true) (i:treeB (d+1) sb=true):treeB d (A++fitN s ls sb++B)=true:=by
 obtain ⟨u,n⟩:=zx h;rw [vV,List.pairwise_append,List.pairwise_append] at u;have e:∀x ∈ A,∀y ∈ B,Op.bytesLess x.name y.name=true:=λx a y b=>qF (g x a) (f y b);have c:∀x ∈ fitN s ls sb,x=⟨s,ls,sb⟩/\¬ ls.length+sb.length=0:=λx a=>by
  unfold fitN at a;split at a
  ·simp at a
  ·rename_i h0;simp at a;exact ⟨a,h0⟩
 refine treeB_of hd ?_ ?_
 ·rw [vV,List.pairwise_append,List.pairwise_append];refine ⟨⟨u.1.1,?_,λx a y b=>by rw [(c y b).1];exact g x a⟩,u.2.1,λx a y b=>?_⟩
  ·unfold fitN;split <;> simp
  ·rcases List.mem_append.1 a with a | a
   ·exact e x a y b
   ·rw [(c x a).1];exact f y b
 ·intro x a;rcases List.mem_append.1 a with a | a
  ·rcases List.mem_append.1 a with a | a
   ·exact n x (by simp [a])
   ·obtain ⟨rfl,h0⟩:=c x a;rw [nodeB_eq];simp only [hs,j,i,Bool.and_true,Bool.true_and,Bool.not_eq_true',Bool.and_eq_false_iff];cases ls with
    | cons _ _=>exact .inl rfl
    | nil=>cases sb with
     | cons _ _=>exact .inr rfl
     | nil=>simp at h0
  ·exact n x (by simp [a])
theorem fit_len (s:zn) (ls:List GLeaf) (sb:List GNode):(fitN s ls sb).length<=1:=by unfold fitN;split <;> simp
theorem layLs_mem {k:Int} {l:GLeaf} {there:Bool} {ls:List GLeaf} {x:GLeaf}:x ∈ vS k l there ls ↔ (x ∈ ls/\x.typ ≠ k) \/ (there=true/\x=l):=by
 unfold vS;cases there with
 | false=>simp
 | true =>
  simp only [if_true,List.mem_append,List.mem_filter,List.mem_singleton,decide_eq_true_eq,true_and];constructor
  ·rintro ((⟨h,b⟩ | h) | ⟨h,b⟩)
   ·exact .inl ⟨h,by omega⟩
   ·exact .inr h
   ·exact .inl ⟨h,by omega⟩
  ·rintro (⟨h,b⟩ | h)
   ·rcases Int.lt_or_gt_of_ne b with a | a
    ·exact .inl (.inl ⟨h,a⟩)
    ·exact .inr ⟨h,a⟩
   ·exact .inl (.inr h)
theorem lay_is {k:Int} {l:GLeaf} {there:Bool} (C:there=true->l.typ=k/\leafB l=true/\LeafOk l):∀(p:List zn) (t:List GNode) (d n:Nat),p ≠ []->p.all nameB=true->d+p.length<=3->treeB d t=true->(zq [] t).length<=16777215->p.length < n ->
  ∃t',xy n t p k l there=some t'/\treeB d t'=true/\t'.length<=t.length+1/\∀a r,r ∈ zq a t' ↔ (r ∈ zq a t/\vl r ≠ (a++p,k)) \/ (there=true/\r=⟨a++p,l⟩)
 | [],_,_,_,h,_,_,_,_,_=>absurd rfl h
 | _::_,_,_,0,_,_,_,_,_,h=>by omega
 | s::q,t,d,n+1,_,hp,hd,ht,hw,hn=>by
  simp only [List.all_cons,Bool.and_eq_true,List.length_cons] at hp hd hn;obtain ⟨A,m,B,f,ls,sb,rfl,E,D,N,F,K,o,z,M,u⟩:=find_node s ht hw;have J:yi (s::q) (0:Int)=some s:=rfl;obtain ⟨y,H⟩:=qH z;have P:(A++m++B).length<=16777215:=Nat.le_trans (wu _ d (by rw [yO];exact List.all_eq_true.2 (zx ht).2)) hw;have U:=λi b=>fit_len s i b;have g:∀i b,(A++fitN s i b++B).length<=(A++m++B).length+1:=λi b=>by
   have:=fit_len s i b;simp only [List.length_append];omega
  rw [layN_eq,J,Option.bind_some,F,Option.bind_some,Option.bind_some];simp only [];rw [K,xb];cases q with
  | nil =>
   rw [layIn_leaf (λh=>⟨(C h).1,(C h).2.2⟩) (by omega) y,xb,layRest_is N (by omega) (by
    have:(vS k l there ls).length<=ls.length+1:=by
     unfold vS;split
     ·have v:=List.filter_append_perm (λx:GLeaf=>decide (x.typ < k)) ls;have w:=v.length_eq;have W:(ls.filter λx=>decide (k < x.typ)).length<=(ls.filter λx=>!decide (x.typ < k)).length:=by
       have:(ls.filter λx=>decide (k < x.typ))=(ls.filter λx=>!decide (x.typ < k)).filter (λx=>decide (k < x.typ)):=by
        rw [List.filter_filter];refine List.filter_congr λx _=>?_;rw [Bool.eq_iff_iff];simp;omega
       rw [this];exact List.length_filter_le _ _
      simp only [List.length_append,List.length_cons,List.length_nil] at w ⊢;omega
     ·exact Nat.le_succ_of_le (List.length_filter_le _ _)
    omega) (by have:=wu sb (d+1) (by rw [yO];exact List.all_eq_true.2 (zx o).2);omega)]
   refine ⟨_,rfl,lay_fin (by omega) ht E D hp.1 (leaves_of (layLs_up (λh=>(C h).1) y) λx j=>?_) o,g _ _,λa r=>?_⟩
   ·rcases layLs_mem.1 j with h | ⟨h,rfl⟩
    ·exact H x h.1
    ·exact (C h).2.1
   ·simp only [vL,List.mem_append,fit_mem,u];have G:r ∈ zq a A->vl r ≠ (a++[s],k):=λh e=>rows_off E.ne h (congrArg Prod.fst e);have L:r ∈ zq a B->vl r ≠ (a++[s],k):=λh e=>rows_off D.ne h (congrArg Prod.fst e);have I:r ∈ zq (a++[s]) sb->vl r ≠ (a++[s],k):=λh e=>by
     have:=(rows_path sb _ r h).1;rw [show r.path=a++[s] from congrArg Prod.fst e] at this;omega
    constructor
    ·rintro ((h | ⟨x,j,rfl⟩ | h) | h)
     ·exact .inl ⟨.inl (.inl h),G h⟩
     ·rcases layLs_mem.1 j with ⟨v,w⟩ | ⟨v,rfl⟩
      ·exact .inl ⟨.inl (.inr (.inl ⟨x,v,rfl⟩)),λe=>w (congrArg Prod.snd e)⟩
      ·exact .inr ⟨v,rfl⟩
     ·exact .inl ⟨.inl (.inr (.inr h)),I h⟩
     ·exact .inl ⟨.inr h,L h⟩
    ·rintro (⟨(h | ⟨x,j,rfl⟩ | h) | h,w⟩ | ⟨v,rfl⟩)
     ·exact .inl (.inl h)
     ·exact .inl (.inr (.inl ⟨x,layLs_mem.2 (.inl ⟨j,λe=>w (by rw [<- e];rfl)⟩),rfl⟩))
     ·exact .inl (.inr (.inr h))
     ·exact .inr h
     ·exact .inl (.inr (.inl ⟨l,layLs_mem.2 (.inr ⟨v,rfl⟩),rfl⟩))
  | cons c q =>
   obtain ⟨b,Q,V,Y,O⟩:=lay_is C (c::q) sb (d+1) n (by simp) hp.2 (by simp only [List.length_cons] at hd ⊢;omega) o (by omega) (by omega);have T:=wu sb (d+1) (by rw [yO];exact List.all_eq_true.2 (zx o).2);rw [layIn_sub (by simp only [List.length_cons] at hd ⊢;omega) Q,xb,layRest_is N (by omega) (by omega) (by omega)];refine ⟨_,rfl,lay_fin (by omega) ht E D hp.1 z V,g _ _,λa r=>?_⟩;simp only [vL,List.mem_append,fit_mem,u,O];have R:a++[s]++c::q=a++s::c::q:=by simp
   rw [R];have G:r ∈ zq a A->vl r ≠ (a++s::c::q,k):=λh e=>rows_off E.ne h (congrArg Prod.fst e);have L:r ∈ zq a B->vl r ≠ (a++s::c::q,k):=λh e=>rows_off D.ne h (congrArg Prod.fst e);have I:∀x,r=⟨a++[s],x⟩->vl r ≠ (a++s::c::q,k):=λx h e=>by
    rw [h] at e;have:=congrArg List.length (congrArg Prod.fst e);simp [vl] at this
   constructor
   ·rintro ((h | ⟨x,j,h⟩ | (h | h)) | h)
    ·exact .inl ⟨.inl (.inl h),G h⟩
    ·exact .inl ⟨.inl (.inr (.inl ⟨x,j,h⟩)),I x h⟩
    ·exact .inl ⟨.inl (.inr (.inr h.1)),h.2⟩
    ·exact .inr h
    ·exact .inl ⟨.inr h,L h⟩
   ·rintro (⟨(h | ⟨x,j,h⟩ | h) | h,w⟩ | h)
    ·exact .inl (.inl h)
    ·exact .inl (.inr (.inl ⟨x,j,h⟩))
    ·exact .inl (.inr (.inr (.inl ⟨h,w⟩)))
    ·exact .inr h
    ·exact .inl (.inr (.inr (.inr h)))

theorem rowLt_iff {r q:GRow}:rowLt r q ↔ kltB (vl r) (vl q)=true:=by
 unfold rowLt kltB vl;simp only [Bool.or_eq_true,Bool.and_eq_true,decide_eq_true_eq];constructor
 ·rintro (h | h)
  ·exact .inl (path_plt h)
  ·exact .inr h
 ·rintro (h | h)
  ·exact .inl (plt_path h)
  ·exact .inr h
theorem sorted_ext {α:Type} {lt:α->α->Prop} (a:∀x,¬ lt x x) (g:∀x y z,lt x y->lt y z->lt x z):∀{L M:List α},L.Pairwise lt->M.Pairwise lt->(∀x,x ∈ L ↔ x ∈ M)->L=M
 | [],[],_,_,_=>rfl
 | [],y::M,_,_,h=>by have:=(h y).2 (by simp);simp at this
 | x::L,[],_,_,h=>by have:=(h x).1 (by simp);simp at this
 | x::L,y::M,h1,h2,h=>by
  obtain ⟨d,l⟩:=List.pairwise_cons.1 h1;obtain ⟨f,k⟩:=List.pairwise_cons.1 h2;have e:x=y:=by
   rcases List.mem_cons.1 ((h x).1 (by simp)) with e | j
   ·exact e
   ·rcases List.mem_cons.1 ((h y).2 (by simp)) with e | i
    ·exact e.symm
    ·exact (a x (g _ _ _ (d y i) (f x j))).elim
  subst e;rw [sorted_ext a g l k λz=>?_];constructor
  ·intro c;rcases List.mem_cons.1 ((h z).1 (by simp [c])) with e | b
   ·subst e;exact (a _ (d _ c)).elim
   ·exact b
  ·intro c;rcases List.mem_cons.1 ((h z).2 (by simp [c])) with e | b
   ·subst e;exact (a _ (f _ c)).elim
   ·exact b
theorem filter_app_left {α:Type} {P:α->Bool} {A B:List α} (c:∀x ∈ A,P x=true) (b:∀x ∈ B,P x=false):(A++B).filter P=A/\(A++B).filter (λx=>!P x)=B:=by
 rw [List.filter_append,List.filter_append,List.filter_eq_self.2 c,List.filter_eq_nil_iff.2 (λx a=>by simp [b x a]),List.filter_eq_nil_iff.2 (λx a=>by simp [c x a]),List.filter_eq_self.2 (λx a=>by simp [b x a])];simp
theorem app_split {α:Type} {P:α->Bool} {A B C D:List α} (h:A++B=C++D) (i:∀x ∈ A,P x=true) (f:∀x ∈ B,P x=false) (e:∀x ∈ C,P x=true) (g:∀x ∈ D,P x=false):A=C/\B=D:=by
 obtain ⟨a,b⟩:=filter_app_left i f;obtain ⟨c,d⟩:=filter_app_left e g;exact ⟨by rw [<- a,<- c,h],by rw [<- b,<- d,h]⟩
theorem vB {a:List zn} {x:GNode} {r:GRow} (h:r ∈ wL a x):∃w,r.path=a++x.name::w:=by
 rw [<- vY] at h;obtain ⟨y,b,w,e⟩:=qt h;simp only [List.mem_singleton] at b;subst b;exact ⟨w,e⟩
theorem rowsN_ne {d:Nat} {x:GNode} (h:nodeB d x=true) (a:List zn):∃r L,wL a x=r::L:=by
 have b:=wu [x] d (by simp [wQ,h]);rw [len_rows [x] [] a,vY] at b;cases e:wL a x with
 | nil=>rw [e] at b;simp at b
 | cons r L=>exact ⟨r,L,rfl⟩
def hasN (n:Nat) (s:zn) (r:GRow):Bool:=decide ((r.path.drop n).head?=some s)
theorem hasN_is (a w:List zn) (s b:zn) {r:GRow} (h:r.path=a++b::w):hasN a.length s r=decide (b=s):=by
 unfold hasN;rw [h,List.drop_left];simp
theorem rows_inj:∀(t:List GNode) (d:Nat) (a:List zn) (t':List GNode),treeB d t=true->treeB d t'=true->zq a t=zq a t'->t=t':=by
 have key:∀(t:List GNode) (d:Nat) (a:List zn) (t':List GNode),(∀x ∈ t,nodeB d x=true)->upB t=true->(∀x ∈ t',nodeB d x=true)->upB t'=true->zq a t=zq a t'->t=t':=by
  refine wq ?_ ?_
  ·intro d a t' _ _ h _ e;cases t' with
   | nil=>rfl
   | cons y r =>
    obtain ⟨q,L,g⟩:=rowsN_ne (h y (by simp)) a;rw [zq,zq,g] at e;simp at e
  ·intro x r G F d a t' n p n2 o e;cases t' with
   | nil =>
    obtain ⟨q,L,g⟩:=rowsN_ne (n x (by simp)) a;rw [zq,zq,g] at e;simp at e
   | cons y s =>
    rw [vV,List.pairwise_cons] at p o;have e:wL a x++zq a r=wL a y++zq a s:=e;have c:x.name=y.name:=by
     obtain ⟨q,L,g⟩:=rowsN_ne (n x (by simp)) a;obtain ⟨K,L',D⟩:=rowsN_ne (n2 y (by simp)) a;have B:=e;rw [g,D] at B;injection B with E _;subst E;obtain ⟨w,m⟩:=vB (a:=a) (x:=x) (r:=q) (by rw [g];simp);obtain ⟨w',k⟩:=vB (a:=a) (x:=y) (r:=q) (by rw [D];simp);rw [m] at k;have:=List.append_cancel_left k;injection this
    obtain ⟨v,H⟩:=app_split (P:=hasN a.length x.name) e
     (λq b=>by obtain ⟨w,h⟩:=vB b;rw [hasN_is a w _ _ h];simp)
     (λq b=>by
      obtain ⟨z,f,w,h⟩:=qt b;rw [hasN_is a w _ _ h];exact decide_eq_false (less_ne (p.1 z f)).symm)
     (λq b=>by obtain ⟨w,h⟩:=vB b;rw [hasN_is a w _ _ h,c];simp)
     (λq b=>by
      obtain ⟨z,f,w,h⟩:=qt b;rw [hasN_is a w _ _ h,c];exact decide_eq_false (less_ne (o.1 z f)).symm)
    have J:=F d a s (λz f=>n z (by simp [f])) ((vV r).2 p.2) (λz f=>n2 z (by simp [f])) ((vV s).2 o.2) H;rw [yU,yU,<- c] at v;obtain ⟨I,u⟩:=app_split (P:=λq=>decide (q.path.length=a.length+1)) v
     (λq b=>by obtain ⟨l,_,rfl⟩:=List.mem_map.1 b;simp)
     (λq b=>by have:=(rows_path _ _ q b).1;simp at this;exact decide_eq_false (by omega))
     (λq b=>by obtain ⟨l,_,rfl⟩:=List.mem_map.1 b;simp)
     (λq b=>by have:=(rows_path _ _ q b).1;simp at this;exact decide_eq_false (by omega))
    have i:x.leaves=y.leaves:=by
     have:=congrArg (List.map (·.leaf)) I;simpa [List.map_map,Function.comp_def] using this
    obtain ⟨_,C,_⟩:=xW (n x (by simp));obtain ⟨_,A,_⟩:=xW (n2 y (by simp));have j:=G (d+1) (a++[x.name]) y.subs (zx C).2 (zx C).1 (zx A).2 (zx A).1 u;cases x;cases y;simp only at c i j;rw [c,i,j,J]
 intro t d a t' m k e;exact key t d a t' (zx m).2 (zx m).1 (zx k).2 (zx k).1 e
theorem qV {d:Nat} {t:List GNode} (h:treeB d t=true) (a:List zn):(zq a t).Pairwise λr q=>kltB (vl r) (vl q)=true:=by
 have:=rows_lt t d a (zx h).1 (by rw [yO];exact List.all_eq_true.2 (zx h).2);exact this.imp λh=>rowLt_iff.1 h
theorem rows_ext {t t':List GNode} (b:treeB 0 t=true) (a:treeB 0 t'=true) (h:∀r,r ∈ zq [] t ↔ r ∈ zq [] t'):t=t' :=
 rows_inj t 0 [] t' b a (sorted_ext (lt:=λr q=>kltB (vl r) (vl q)=true) (λx h=>by rw [klt_irr] at h;cases h) (λ_ _ _=>klt_trans) (qV b []) (qV a []) h)
theorem sorted_key {α:Type} {key:α->Key} {L:List α} (h:L.Pairwise λr q=>kltB (key r) (key q)=true) {x y:α} (c:x ∈ L) (i:y ∈ L) (e:key x=key y):x=y:=by
 induction L with
 | nil=>simp at c
 | cons z r ih =>
  obtain ⟨d,j⟩:=List.pairwise_cons.1 h;rcases List.mem_cons.1 c with g | a <;> rcases List.mem_cons.1 i with f | b
  ·rw [g,f]
  ·have:=d y b;rw [<- g,e,klt_irr] at this;cases this
  ·have:=d x a;rw [<- f,e,klt_irr] at this;cases this
  ·exact ih j a b

theorem first_is {α:Type} {q:α->Bool} {del:α->Option Bool}:∀(L:List α) (n:Nat),(∀x ∈ L,del x=some (q x)) ->
  (zk (λ(f:Nat) (g:α) (_:Unit)=>(((del g).bind λi=>(if i=true then some (.ret (f:Int)) else some (.nxt ()))):Option (Out Int Unit))) L n ()=some (.inr ())/\∀x ∈ L,q x=false) \/
  ∃A x B,L=A++x::B/\q x=true/\(∀y ∈ A,q y=false)/\zk (λ(f:Nat) (g:α) (_:Unit)=>(((del g).bind λi=>(if i=true then some (.ret (f:Int)) else some (.nxt ()))):Option (Out Int Unit))) L n ()=some (.inl ((n+A.length:Nat):Int))
 | [],n,_=>.inl ⟨rfl,by simp⟩
 | x::r,n,h=>by
  have d:=h x (by simp);cases hq:q x with
  | true=>exact .inr ⟨[],x,r,rfl,hq,by simp,by simp [zk,d,hq]⟩
  | false =>
   rcases first_is r (n+1) (λy a=>h y (by simp [a])) with ⟨e,b⟩ | ⟨A,y,B,rfl,j,b,e⟩
   ·refine .inl ⟨by simp only [zk,d,hq,Option.bind_some];exact e,?_⟩;intro y a;rcases List.mem_cons.1 a with rfl | a
    ·exact hq
    ·exact b y a
   ·refine .inr ⟨x::A,y,B,rfl,j,?_,?_⟩
    ·intro z c;rcases List.mem_cons.1 c with rfl | c
     ·exact hq
     ·exact b z c
    ·simp only [zk,d,hq,Option.bind_some];rw [show n+(x::A).length=n+1+A.length by simp only [List.length_cons];omega];exact e
def node0:GNode:=GNode.mk ([]:zn) ([]:List GLeaf) ([]:List GNode)
def nodeOf (t:List GNode) (s:zn):Option GNode:=t.find? λx=>x.name==s
theorem linear_is (t:List GNode) (s:zn):vI t s=some (match nodeOf t s with | some x=>(x,true) | none=>(node0,false)):=by
 unfold vI xq;rcases first_is (q:=λx:GNode=>x.name==s) (del:=λd=>qK d s) t 0 (λx _=>rfl) with ⟨e,h⟩ | ⟨A,x,B,rfl,f,b,e⟩
 ·rw [e];have:nodeOf t s=none:=List.find?_eq_none.2 λx c=>by rw [h x c];simp
  rw [this];rfl
 ·rw [e];have:nodeOf (A++x::B) s=some x:=by
   unfold nodeOf;rw [List.find?_append,List.find?_eq_none.2 (λy a=>by rw [b y a];simp),List.find?_cons,f];rfl
  rw [this];simp only [lp,Option.bind_some,Nat.zero_add];rw [if_neg (by simp),zI (x:=x) (by simp)];rfl
def wh:List GNode->List zn->Option GNode
 | _,[]=>none
 | t,[s]=>nodeOf t s
 | t,s::c::q=>(nodeOf t s).bind λx=>wh x.subs (c::q)
noncomputable def tlF:Nat->zn->(List GNode)×Bool×zn×(List GLeaf)×(List GNode)->Option (Out ((GLeaf×Bool) ⊕ (Bool×zn×(List GLeaf)×(List GNode))) ((List GNode)×Bool×zn×(List GLeaf)×(List GNode))):=(λ(_:Nat) (x2:zn) (s2:(List GNode)×Bool×zn×(List GLeaf)×(List GNode))=>(((vI s2.1 x2).bind λv47=>(if (!v47.2)=true then some (.brk (s2.1,v47.2,v47.1.name,v47.1.leaves,v47.1.subs)) else some (.nxt (v47.1.subs,v47.2,v47.1.name,v47.1.leaves,v47.1.subs))))))
noncomputable def tlR (kind2:Int) (s1:Bool×zn×(List GLeaf)×(List GNode)):Option (GLeaf×Bool):=((yf s1.2.2.1 (λx0=>treeLeafC1 x0 kind2)).bind λv49=>((if (((!s1.1) || (decide (v49 < (0:Int))))==false)=true then vw kind2 else some default).bind λv50=>(if (((!s1.1) || (decide (v49 < (0:Int)))) || (v50.typ==(0:Int)))=true then ((vw kind2).bind λv52=>some (v52,false)) else ((yi s1.2.2.1 v49).bind λy53=>((yo y53.items).bind λv54=>((yA y53.tombs).bind λv55=>some ((GLeaf.mk y53.typ y53.n y53.time y53.dot y53.text v54 v55),true)))))))
theorem tl_eq (t0:List GNode) (a:List zn) (b:Int):wr t0 a b=(lp ((lp (zk tlF a 0 (t0,(decide (((a).length:Int) > (0:Int))),([]:zn),([]:List GLeaf),([]:List GNode))) λ(c:(List GNode)×Bool×zn×(List GLeaf)×(List GNode))=>some (.inr (c.2.1,c.2.2.1,c.2.2.2.1,c.2.2.2.2))):Option ((GLeaf×Bool) ⊕ (Bool×zn×(List GLeaf)×(List GNode)))) (tlR b)):=rfl
theorem tl_walk:∀(p:List zn) (n:Nat) (t:List GNode) (z:Bool×zn×(List GLeaf)×(List GNode)),p ≠ [] ->
  match wh t p with
  | some x=>zk tlF p n (t,z)=some (.inr (x.subs,true,x.name,x.leaves,x.subs))
  | none=>∃u,zk tlF p n (t,z)=some (.inr (u,false,([]:zn),([]:List GLeaf),([]:List GNode)))
 | [],_,_,_,h=>absurd rfl h
 | [s],n,t,z,_=>by
  simp only [wh,zk,tlF,linear_is,Option.bind_some];cases nodeOf t s with
  | none=>exact ⟨t,rfl⟩
  | some x=>rfl
 | s::c::q,n,t,z,_=>by
  have a:=λu z=>tl_walk (c::q) (n+1) u z (by simp);simp only [wh];cases e:nodeOf t s with
  | none=>exact ⟨t,by rw [zk];simp only [tlF,linear_is,e,Option.bind_some];rfl⟩
  | some x =>
   have b:tlF n s (t,z)=some (.nxt (x.subs,true,x.name,x.leaves,x.subs)):=by simp only [tlF,linear_is,e,Option.bind_some];rfl
   have:=a x.subs (true,x.name,x.leaves,x.subs);rw [zk,b,Option.bind_some];exact this
theorem nodeOf_split {t:List GNode} (s:zn) (h:upB t=true):(nodeOf t s=none/\∀y ∈ t,y.name ≠ s) \/ ∃A x B,t=A++x::B/\nodeOf t s=some x/\x.name=s/\(∀y ∈ A,y.name ≠ s)/\∀y ∈ B,y.name ≠ s:=by
 rcases split_up s h with ⟨A,B,rfl,b,c⟩ | ⟨A,x,B,rfl,d,b,c⟩
 ·left;have:∀y ∈ A++B,y.name ≠ s:=λy a=>by
   rcases List.mem_append.1 a with a | a
   ·exact b.ne y a
   ·exact c.ne y a
  exact ⟨List.find?_eq_none.2 λy a=>by simp [this y a],this⟩
 ·refine .inr ⟨A,x,B,rfl,?_,d,b.ne,c.ne⟩;unfold nodeOf;rw [List.find?_append,List.find?_eq_none.2 (λy a=>by simp [b.ne y a]),List.find?_cons];simp [d]
theorem row_at:∀(p:List zn) (t:List GNode) (d:Nat) (a:List zn) (l:GLeaf),p ≠ []->treeB d t=true->(GRow.mk (a++p) l ∈ zq a t ↔ ∃x,wh t p=some x/\l ∈ x.leaves)
 | [],_,_,_,_,h,_=>absurd rfl h
 | s::q,t,d,a,l,_,h=>by
  obtain ⟨u,o⟩:=zx h;rcases nodeOf_split s u with ⟨e,E⟩ | ⟨A,x,B,rfl,e,r,D,C⟩
  ·have m:wh t (s::q)=none:=by cases q <;> simp [wh,e]
   rw [m];constructor
   ·intro b;exact (rows_off E b rfl).elim
   ·rintro ⟨x,h,_⟩;cases h
  ·rw [vL,show x::B=[x]++B from rfl,vL,vY,List.mem_append,List.mem_append,rowsN_mem,r];have i:¬ GRow.mk (a++s::q) l ∈ zq a A:=λb=>rows_off D b rfl;have n:¬ GRow.mk (a++s::q) l ∈ zq a B:=λb=>rows_off C b rfl;have f:=(xW (o x (by simp))).2.1;cases q with
   | nil =>
    have z:¬ GRow.mk (a++[s]) l ∈ zq (a++[s]) x.subs:=λb=>by
     have:=(rows_path _ _ _ b).1;simp at this
    have m:wh (A++x::B) [s]=some x:=e;have g:wh (A++([x]++B)) [s]=some x:=e;rw [g];constructor
    ·rintro (h | (⟨y,k,h⟩ | h) | h)
     ·exact (i h).elim
     ·injection h with _ h;subst h;exact ⟨x,rfl,k⟩
     ·exact (z h).elim
     ·exact (n h).elim
    ·rintro ⟨y,h,v⟩
     injection h with h;subst h;exact .inr (.inl (.inl ⟨l,v,rfl⟩))
   | cons c q =>
    have j:=row_at (c::q) x.subs (d+1) (a++[s]) l (by simp) f;have w:a++[s]++c::q=a++s::c::q:=by simp
    rw [w] at j;have g:wh (A++([x]++B)) (s::c::q)=wh x.subs (c::q):=by
     show (nodeOf (A++x::B) s).bind _=_;rw [e];rfl
    rw [g,j];constructor
    ·rintro (h | (⟨y,k,h⟩ | h) | h)
     ·exact (i h).elim
     ·injection h with h _;have:=congrArg List.length h;simp at this
     ·exact h
     ·exact (n h).elim
    ·intro h;exact .inr (.inl (.inr h))
theorem row_mk {r:GRow} {p:List zn} {k:Int} (h:vl r=(p,k)):r=GRow.mk ([]++p) r.leaf:=by
 have e:r.path=p:=congrArg Prod.fst h;cases r;simp only at e;rw [e];rfl
theorem leafNew_typ {k:Int} (h:1<=k/\k<=4):∃v,vw k=some v/\v.typ=k:=by
 unfold vw;rw [if_neg (by simp;omega)];exact ⟨_,rfl,rfl⟩
theorem tlR_none {k:Int} (s:zn):∃v,tlR k (false,s,([]:List GLeaf),([]:List GNode))=some (v,false):=by
 obtain ⟨v,e⟩:=leafNew_tot k;refine ⟨v,?_⟩;unfold tlR yf;simp [zk,lp,e]
theorem treeLeaf_is {t:List GNode} (h:treeB 0 t=true) (o:∀r ∈ zq [] t,LeafOk r.leaf) {p:List zn} (z:p ≠ []) {k:Int} (G:1<=k/\k<=4) :
  (∃l,GRow.mk p l ∈ zq [] t/\l.typ=k/\wr t p k=some (l,true)) \/ ((∀r ∈ zq [] t,vl r ≠ (p,k))/\∃v,wr t p k=some (v,false)):=by
 have c:=tl_walk p 0 t (decide ((p.length:Int) > 0),([]:zn),([]:List GLeaf),([]:List GNode)) z;have j:=λl=>row_at p t 0 [] l z h;rw [tl_eq];cases e:wh t p with
 | none =>
  rw [e] at c;obtain ⟨u,c⟩:=c;right;refine ⟨λr a i=>?_,?_⟩
  ·have:=row_mk i;rw [this] at a;obtain ⟨x,d,_⟩:=(j _).1 a;rw [e] at d;cases d
  ·rw [c];exact tlR_none []
 | some x =>
  rw [e] at c;simp only at c;rw [c];simp only [xb];obtain ⟨v0,w,n2⟩:=leafNew_typ G;unfold tlR yf;rcases first_is (q:=λy:GLeaf=>y.typ==k) (del:=λC=>treeLeafC1 C k) x.leaves 0 (λx _=>rfl) with ⟨n,d⟩ | ⟨A,y,B,f,d,I,n⟩
  ·right;refine ⟨λr a i=>?_,v0,?_⟩
   ·have:=row_mk i;rw [this] at a;obtain ⟨H,g,D⟩:=(j _).1 a;rw [e] at g;injection g with g;subst g;have:=d _ D;simp only [beq_eq_false_iff_ne] at this;exact this (congrArg Prod.snd i)
   ·simp only [];rw [n];simp [lp,w]
  ·left;have F:y ∈ x.leaves:=by rw [f];simp
   have b:GRow.mk ([]++p) y ∈ zq [] t:=(j y).2 ⟨x,e,F⟩;have m:y.typ=k:=by simpa using d
   have s:=o _ b;refine ⟨y,b,m,?_⟩;simp only [];rw [n];simp only [lp,Option.bind_some,Nat.zero_add];have E:((!true) || (decide (((A.length:Nat):Int) < (0:Int))))=false:=by simp
   rw [E];simp only [beq_self_eq_true,if_true,w,Option.bind_some,Bool.false_or,n2];rw [if_neg (by simp;omega),f,zI (x:=y) (by simp),Option.bind_some,qj (yP (Nat.le_succ_of_le s.items)),Option.bind_some,cloneDot_is (yP (Nat.le_succ_of_le s.tombs)),Option.bind_some]

structure EOk (e:GEdit):Prop where
 path:vQ e.path=true
 typ:1<=e.typ/\e.typ<=4
 any:e.had=true \/ e.has=true
 ne:e.had=true->e.has=true->e.was ≠ e.is
 was1:e.had=true->leafB e.was=true/\LeafOk e.was/\e.was.typ=e.typ
 was0:e.had=false->e.was=leaf0
 is1:e.has=true->leafB e.is=true/\LeafOk e.is/\e.is.typ=e.typ
 is0:e.has=false->e.is=leaf0
def eLt (a b:GEdit):Prop:=kltB (ekey a) (ekey b)=true
noncomputable def patF (t0:List GNode):Nat->GEdit->List GNode->Option (Out (List GNode×Int) (List GNode)):=(λ(n1:Nat) (x1:GEdit) (s1:(List GNode))=>(((wr t0 x1.path x1.typ).bind λv14=>((if (((!(v14.2==x1.had))==false)&&(v14.2==true))=true then ww v14.1 x1.was else some default).bind λv15=>(if ((!(v14.2==x1.had)) || (v14.2&&(!v15)))=true then some (.ret (([]:List GNode),(16:Int))) else ((diffXlay s1 x1.path x1.typ x1.is x1.has).bind λv17=>some (.nxt v17))))):Option (Out _ (List GNode))))
theorem sub_len {α:Type} {lt:α->α->Prop} (a:∀x,¬ lt x x):∀(L M:List α),L.Pairwise lt->(∀x ∈ L,x ∈ M)->L.length<=M.length
 | [],_,_,_=>Nat.zero_le _
 | x::L,M,h,hs=>by
  obtain ⟨g,f⟩:=List.pairwise_cons.1 h;obtain ⟨A,B,rfl⟩:=List.append_of_mem (hs x (by simp));have:=sub_len a L (A++B) f λy d=>by
   have b:=hs y (by simp [d]);have c:y ≠ x:=λe=>a x (by have:=g y d;rwa [e] at this);simp only [List.mem_append,List.mem_cons] at b ⊢;rcases b with h | h | h
   ·exact .inl h
   ·exact (c h).elim
   ·exact .inr h
  simp only [List.length_append,List.length_cons] at this ⊢;omega
theorem vP {p:List zn} (h:vQ p=true):p ≠ []/\p.length<=3/\p.all nameB=true:=by
 refine ⟨pathB_ne h,?_⟩;simp only [vQ,Bool.and_eq_true,decide_eq_true_eq] at h;exact ⟨h.1.2,h.2⟩
theorem lay_all {k:Int} {l:GLeaf} {there:Bool} {p:List zn} {t:List GNode} (i:there=true->l.typ=k/\leafB l=true/\LeafOk l) (s:vQ p=true) (f:treeB 0 t=true) (g:(zq [] t).length<=16777215) :
  ∃t',diffXlay t p k l there=some t'/\treeB 0 t'=true/\(zq [] t').length<=(zq [] t).length+1/\∀r,r ∈ zq [] t' ↔ (r ∈ zq [] t/\vl r ≠ (p,k)) \/ (there=true/\r=⟨p,l⟩):=by
 obtain ⟨d,y,e⟩:=vP s;obtain ⟨t',w,c,_,a⟩:=lay_is i p t 0 (p.length+1) d e (by omega) f g (by omega);have a:=a [];simp only [List.nil_append] at a;refine ⟨t',anyN_of (p.length+1) λn v=>?_,c,?_,a⟩
 ·obtain ⟨u,m,o,_,b⟩:=lay_is i p t 0 n d e (by omega) f g (by omega);have b:=b [];simp only [List.nil_append] at b;rw [m,rows_ext o c λr=>by rw [b,a]]
 ·have:=sub_len (lt:=λr q=>kltB (vl r) (vl q)=true) (λx h=>by rw [klt_irr] at h;cases h) (zq [] t') (zq [] t++[⟨p,l⟩]) (qV c []) λr j=>by
   rcases (a r).1 j with h | h
   ·simp [h.1]
   ·simp [h.2]
  simpa using this
structure EFits (t:List GNode) (e:GEdit):Prop where
 had:e.had=true->GRow.mk e.path e.was ∈ zq [] t
 new:e.had=false->∀r ∈ zq [] t,vl r ≠ ekey e
end Go.Vv
namespace Go.Vv
open Go
theorem idxI_is {q:GItem->Bool} {del:GItem->Option Bool}:∀(L:List GItem) (n:Nat),(∀x ∈ L,del x=some (q x)) ->
  (zk (λ(f:Nat) (g:GItem) (_:Unit)=>(((del g).bind λi=>(if i=true then some (.ret (f:Int)) else some (.nxt ()))):Option (Out Int Unit))) L n ()=some (.inr ())/\∀x ∈ L,q x=false) \/
  ∃A x B,L=A++x::B/\q x=true/\(∀y ∈ A,q y=false)/\zk (λ(f:Nat) (g:GItem) (_:Unit)=>(((del g).bind λi=>(if i=true then some (.ret (f:Int)) else some (.nxt ()))):Option (Out Int Unit))) L n ()=some (.inl ((n+A.length:Nat):Int))
 | [],n,_=>.inl ⟨rfl,by simp⟩
 | x::r,n,h=>by
  have d:=h x (by simp);cases hq:q x with
  | true=>exact .inr ⟨[],x,r,rfl,hq,by simp,by simp [zk,d,hq]⟩
  | false =>
   rcases idxI_is r (n+1) (λy a=>h y (by simp [a])) with ⟨e,b⟩ | ⟨A,y,B,rfl,j,b,e⟩
   ·refine .inl ⟨by simp only [zk,d,hq,Option.bind_some];exact e,?_⟩;intro y a;rcases List.mem_cons.1 a with rfl | a
    ·exact hq
    ·exact b y a
   ·refine .inr ⟨x::A,y,B,rfl,j,?_,?_⟩
    ·intro z c;rcases List.mem_cons.1 c with rfl | c
     ·exact hq
     ·exact b z c
    ·simp only [zk,d,hq,Option.bind_some];rw [show n+(x::A).length=n+1+A.length by simp only [List.length_cons];omega];exact e
noncomputable def delI (del:GItem->Option Bool) (n:Nat):Int×Int×(List GItem)->Option (Out (List GItem) (Int×Int×(List GItem))):=λs1=>((zY ((s1.2.2).length=n) ((if (decide (s1.2.1 < ((n:Nat):Int)))=true then ((yi s1.2.2 s1.2.1).bind λy14=>((del y14).bind λv15=>(if (!v15)=true then ((yi s1.2.2 s1.1).bind λy17=>some (.nxt ((IntKind.wrap .i64 (s1.1+(1:Int))),(IntKind.wrap .i64 (s1.2.1+(1:Int))),(s1.2.2.set s1.1.toNat y14)))) else some (.nxt (s1.1,(IntKind.wrap .i64 (s1.2.1+(1:Int))),s1.2.2))))) else some (.brk (s1.1,s1.2.1,s1.2.2))))))
theorem delRI_eq (b:List GItem) (a:GItem->Option Bool):xe b a=((yg b a).bind λd=>(if (d==(-1:Int))=true then some b else (lp (yp (delI a b.length) (d,(IntKind.wrap .i64 (d+(1:Int))),b)) λ(c:Int×Int×(List GItem))=>(zY (0<=c.1/\c.1<=((b.length:Nat):Int)) (((slc (c.2.2.take c.1.toNat++List.replicate (b.length - c.1.toNat) (GItem.mk (0:Int) (GDot.mk (GActor.mk (0:Int) (0:Int)) (0:Int)) ([]:zn))) (0:Int) c.1).bind λe=>some e)))))):=rfl
theorem delI_run {q:GItem->Bool} {del:GItem->Option Bool} {L0:List GItem} (u:L0.length<=16777216) (h:∀x ∈ L0,del x=some (q x)) {a0 b0:Nat} (A:a0 < b0) (z:b0<=L0.length) (w:L0.take a0=(L0.take b0).filter λx=>!q x) :
  ∃m,yp (delI del L0.length) ((a0:Int),(b0:Int),L0)=some (.inr m)/\∃a:Nat,m.1=(a:Int)/\a < L0.length/\m.2.2.length=L0.length/\m.2.2.take a=L0.filter λx=>!q x:=by
 refine loopW_inv (f:=delI del L0.length) (λs=>∃a b:Nat,s.1=(a:Int)/\s.2.1=(b:Int)/\a < b/\b<=L0.length/\s.2.2.length=L0.length/\s.2.2.take a=(L0.take b).filter (λx=>!q x)/\s.2.2.drop b=L0.drop b)
  _ (λs=>L0.length - s.2.1.toNat) ?_ _ _ rfl ⟨a0,b0,rfl,rfl,A,z,rfl,w,rfl⟩
 rintro ⟨i,j,M⟩ ⟨a,b,v,r,B,t,d,n,k⟩
 simp only at v r d n k;subst v r;simp only [delI,zY,d,if_true];by_cases hb:b < L0.length
 ·right;have y:M[b]?=L0[b]?:=by
   have:=congrArg (λl=>l[0]?) k;simpa [List.getElem?_drop] using this
  have o:L0[b]?=some L0[b]:=List.getElem?_eq_getElem hb;have hd:=h L0[b] (List.getElem_mem hb);have e:yi M (b:Int)=some L0[b]:=by simp [yi,y]
  have c:yi M (a:Int)=some (M[a]'(by omega)):=by simp [yi]
  rw [if_pos (by simp;omega),e,Option.bind_some,hd,Option.bind_some];have g:L0.take (b+1)=L0.take b++[L0[b]]:=by rw [List.take_add_one,o];rfl
  cases hq:q L0[b] with
  | true =>
   refine ⟨((a:Int),((b+1:Nat):Int),M),by simp [wE (Nat.le_trans t u)],⟨a,b+1,rfl,rfl,by omega,by omega,d,?_,?_⟩,by simp;omega⟩
   ·rw [n,g,List.filter_append];simp [hq]
   ·have:=congrArg (λl=>l.drop 1) k;simpa [List.drop_drop] using this
  | false =>
   refine ⟨(((a+1:Nat):Int),((b+1:Nat):Int),M.set a L0[b]),by simp [c,wE (Nat.le_trans t u),wE (show a<=16777216 by omega)],⟨a+1,b+1,rfl,rfl,by omega,by omega,by simpa using d,?_,?_⟩,by simp;omega⟩
   ·rw [List.take_add_one,List.take_set_of_le (Nat.le_refl _),n,g,List.filter_append,List.getElem?_set_self (by omega)];simp [hq]
   ·have:=congrArg (λl=>l.drop 1) k;rw [List.drop_set_of_lt (by omega)];simpa [List.drop_drop] using this
 ·left;have p:b=L0.length:=by omega
  rw [if_neg (by simp;omega)];exact ⟨_,rfl,a,rfl,by omega,d,by rw [n,p,List.take_length]⟩
theorem deleteI_is {q:GItem->Bool} {del:GItem->Option Bool} {L0:List GItem} (j:L0.length<=16777216) (h:∀x ∈ L0,del x=some (q x)):xe L0 del=some (L0.filter λx=>!q x):=by
 rw [delRI_eq];unfold yg;rcases idxI_is L0 0 h with ⟨e,b⟩ | ⟨A,x,B,d,n,b,e⟩
 ·rw [e];simp only [lp,Option.bind_some,beq_self_eq_true,if_true];rw [List.filter_eq_self.2 (λx i=>by rw [b x i];rfl)]
 ·rw [e];have g:L0.length=A.length+1+B.length:=by rw [d];simp;omega
  simp only [lp,Option.bind_some,Nat.zero_add];rw [if_neg (by simp <;> omega),wE (by omega)];obtain ⟨f,k,a,c,p,o,m⟩:=delI_run j h (a0:=A.length) (b0:=A.length+1) (by omega) (by omega) (by
   rw [d,List.take_left,List.take_append,List.take_of_length_le (by omega),show A.length+1 - A.length=1 by omega,List.filter_append];simp only [List.take_succ_cons,List.take_zero,List.filter_cons,n,List.filter_nil];rw [List.filter_eq_self.2 (λy l=>by rw [b y l];rfl)];simp)
  rw [k];simp only [zY];rw [if_pos (by rw [c];omega),c];have hs:slc (f.2.2.take ((a:Int)).toNat++List.replicate (L0.length - ((a:Int)).toNat) (GItem.mk (0:Int) (GDot.mk (GActor.mk (0:Int) (0:Int)) (0:Int)) ([]:zn))) (0:Int) (a:Int)=some (f.2.2.take a):=by
   unfold slc;rw [if_pos (by simp;omega)];simp only [Int.toNat_natCast,Int.toNat_zero,List.drop_zero];rw [List.take_append_of_le_length (by simp;omega),List.take_take,Nat.min_self]
  rw [hs,Option.bind_some,m]
theorem bsI_loop {b:GItem->GItem->Option Int} {x:List GItem} {s:GItem} {c:Nat} (r:x.length<=1048576) (q:∀i n,x[i]?=some n->∃v,b n s=some v/\(i < c->v < 0)/\(c<=i->0<=v)) :
  ∀(k lo hi:Nat),hi - lo<=k->lo<=c->c<=hi->hi<=x.length->yp (ρ:=Int×Bool) (λ(a:Int×Int)=>((if (decide (a.1 < a.2))=true then ((yi x (IntKind.wrap .i64 ((Int.fdiv (IntKind.wrap .u64 ((IntKind.wrap .i64 (a.1+a.2)))) (2 ^ (min (1:Int).toNat (IntKind.bits .u64))))))).bind λm=>((b m s).bind λd=>(if (decide (d < (0:Int)))=true then some (.nxt ((IntKind.wrap .i64 ((IntKind.wrap .i64 ((Int.fdiv (IntKind.wrap .u64 ((IntKind.wrap .i64 (a.1+a.2)))) (2 ^ (min (1:Int).toNat (IntKind.bits .u64))))))+(1:Int))),a.2)) else some (.nxt (a.1,(IntKind.wrap .i64 ((Int.fdiv (IntKind.wrap .u64 ((IntKind.wrap .i64 (a.1+a.2)))) (2 ^ (min (1:Int).toNat (IntKind.bits .u64))))))))))) else some (.brk (a.1,a.2))):Option (Out _ (Int×Int)))) ((lo:Int),(hi:Int))=some (.inr ((c:Int),(c:Int))):=by
 intro k
 induction k with
 | zero =>
  intro lo hi p f g hh;obtain rfl:lo=hi:=by omega
  obtain rfl:lo=c:=by omega
  rw [yV];simp
 | succ k ih =>
  intro lo hi p f g hh;rw [yV];by_cases hlt:lo < hi
  ·have hd:decide ((lo:Int) < (hi:Int))=true:=decide_eq_true (by omega);simp only [hd,if_true,half_mid hlt (by omega)];have h:(lo+hi) / 2 < x.length:=by omega
   rw [idx_at h,Option.bind_some];obtain ⟨v,j,o,l⟩:=q ((lo+hi) / 2) _ (List.getElem?_eq_getElem h);rw [j,Option.bind_some];by_cases hcm:(lo+hi) / 2 < c
   ·rw [decide_eq_true (o hcm),if_pos rfl];simp only;have e:IntKind.wrap .i64 ((((lo+hi) / 2:Nat):Int)+1)=(((lo+hi) / 2+1:Nat):Int):=by rw [w64n (by omega)];omega
    rw [e];exact ih _ _ (by omega) (by omega) g hh
   ·rw [decide_eq_false (by have:=l (by omega);omega)];simp only [Bool.false_eq_true,if_false];exact ih _ _ (by omega) f (by omega) (by omega)
  ·obtain rfl:lo=hi:=by omega
   obtain rfl:lo=c:=by omega
   simp
theorem bsI_is {a:GItem->GItem->Option Int} {x:List GItem} {s:GItem} {c:Nat} (d:x.length<=1048576) (b:c<=x.length) (e:∀i n,x[i]?=some n->∃v,a n s=some v/\(i < c->v < 0)/\(c<=i->0<=v)) :
  zH x s a=(if c < x.length then a (x.getD c default) s else some 1).bind λv=>some ((c:Int),(decide (c < x.length)&&(v==0))):=by
 unfold zH;have:=bsI_loop d e x.length 0 x.length (by omega) (Nat.zero_le _) b (Nat.le_refl _);simp only [Int.natCast_zero] at this;rw [show ((0:Int),(x.length:Int))=(((0:Nat):Int),(x.length:Int)) from rfl] at *;rw [this];simp only [lp];by_cases h:c < x.length
 ·have hd:decide ((c:Int) < (x.length:Int))=true:=decide_eq_true (by omega);simp only [hd,h,if_true,Int.toNat_natCast,beq_self_eq_true,decide_true,Bool.true_and];rw [zp (by intro _;omega)]
 ·have hd:decide ((c:Int) < (x.length:Int))=false:=decide_eq_false (by omega);simp only [hd,h,if_false,decide_false,Bool.false_and,Option.bind_some];rw [zp (by intro hh;cases hh)];simp

def dd:List GDot->List GDot
 | []=>[]
 | [x]=>[x]
 | x::y::r=>if x=y then dd (y::r) else x::dd (y::r)
theorem dd_snoc:∀(A:List GDot) (x y:GDot),dd (A++[x,y])=if x=y then dd (A++[x]) else dd (A++[x])++[y]
 | [],x,y=>by by_cases h:x=y <;> simp [dd,h]
 | [a],x,y=>by
  by_cases h:x=y
  ·subst h;by_cases h2:a=x <;> simp [dd,h2]
  ·by_cases h2:a=x <;> simp [dd,h2,h]
 | a::b::A,x,y=>by
  have c:=dd_snoc (b::A) x y;simp only [List.cons_append] at c ⊢;simp only [dd];rw [c];by_cases h:a=b <;> by_cases h2:x=y <;> simp [h,h2]
theorem dd_mem:∀(L:List GDot) (d:GDot),d ∈ dd L ↔ d ∈ L
 | [],_=>by simp [dd]
 | [x],_=>by simp [dd]
 | x::y::r,d=>by
  simp only [dd];split
  ·rename_i h;subst h;rw [dd_mem (x::r) d];simp
  ·rw [List.mem_cons,dd_mem (y::r) d];simp
theorem dd_strict {lt:GDot->GDot->Prop} (d:∀a b,¬ lt b a->a=b \/ lt a b) (k:∀a b c,lt a b->lt b c->lt a c):∀(L:List GDot),L.Pairwise (λa b=>¬ lt b a)->(dd L).Pairwise lt
 | [],_=>by simp [dd]
 | [x],_=>by simp [dd]
 | x::y::r,h=>by
  have j:=(List.pairwise_cons.1 h).2;have i:=dd_strict d k (y::r) j;simp only [dd];split
  ·exact i
  ·rename_i g;refine List.pairwise_cons.2 ⟨λz f=>?_,i⟩;rw [dd_mem] at f;have e:lt x y:=(d x y ((List.pairwise_cons.1 h).1 y (by simp))).resolve_left g;rcases List.mem_cons.1 f with rfl | f
   ·exact e
   ·rcases d y z ((List.pairwise_cons.1 j).1 z f) with rfl | l
    ·exact e
    ·exact k _ _ _ e l
def nn (L:List GDot):Prop:=∀i a b,L[i]?=some a->L[i+1]?=some b->a ≠ b
theorem take_snoc2 {L:List GDot} {n:Nat} {a b:GDot} (d:L[n]?=some a) (c:L[n+1]?=some b):L.take (n+2)=L.take n++[a,b]:=by
 rw [List.take_add_one,List.take_add_one,d,c];simp
theorem dd_step {L:List GDot} {n:Nat} {a b:GDot} (c:L[n]?=some a) (d:L[n+1]?=some b):dd (L.take (n+2))=if a=b then dd (L.take (n+1)) else dd (L.take (n+1))++[b]:=by
 rw [take_snoc2 c d,dd_snoc,List.take_add_one,c];rfl
noncomputable def cmpIn (n:Nat) (s1:Int):Int×Int×(List GDot)->Option (Out (Out (List GDot) Int) (Int×Int×(List GDot))):=λ(s2:Int×Int×(List GDot))=>((zY ((s2.2.2).length=n) ((if (decide (s2.2.1 < ((n - s1.toNat:Nat):Int)))=true then ((yi (s2.2.2.drop s1.toNat) s2.2.1).bind λy51=>((yi (s2.2.2.drop s1.toNat) (IntKind.wrap .i64 (s2.2.1 - (1:Int)))).bind λy52=>(if (!(y51.actor.rep==y52.actor.rep&&(y51.actor.inc==y52.actor.inc&&(y51.seq==y52.seq&&true))))=true then ((yi (s2.2.2.drop s1.toNat) s2.2.1).bind λy54=>((yi s2.2.2 s2.1).bind λy55=>some (.nxt ((IntKind.wrap .i64 (s2.1+(1:Int))),(IntKind.wrap .i64 (s2.2.1+(1:Int))),(s2.2.2.set s2.1.toNat y54))))) else some (.nxt (s2.1,(IntKind.wrap .i64 (s2.2.1+(1:Int))),s2.2.2))))) else some (.brk (s2.1,s2.2.1,s2.2.2))))))
theorem wrap_p1 {i:Nat} (h0:0 < i) (a:i<=9223372036854775807):(IntKind.wrap .i64 ((i:Int) - 1))=((i - 1:Nat):Int):=wrap_pred h0 a
theorem cmpIn_run {L:List GDot} (H:L.length<=16777216) {k0:Nat} (y:0 < k0) (J:k0 < L.length) {a:GDot} (D:L[k0 - 1]?=some a) (B:L[k0]?=some a) (z:dd (L.take k0)=L.take k0) :
  ∃o,yp (cmpIn L.length (k0:Int)) ((k0:Int),1,L)=some (.inr o)/\∃m:Nat,o.1=(m:Int)/\m<=L.length/\o.2.2.length=L.length/\o.2.2.take m=dd L:=by
 refine loopW_inv (f:=cmpIn L.length (k0:Int)) (λs=>∃m b:Nat,s.1=(m:Int)/\s.2.1=(b:Int)/\1<=b/\k0+b<=L.length/\m+1<=k0+b/\s.2.2.length=L.length/\s.2.2.take m=dd (L.take (k0+b))/\s.2.2.drop (k0+b - 1)=L.drop (k0+b - 1))
  _ (λs=>L.length - s.2.1.toNat) ?_ _ _ rfl ⟨k0,1,rfl,rfl,Nat.le_refl _,by omega,by omega,rfl,?_,by simp⟩
 ·rintro ⟨i,j,M⟩ ⟨m,b,x,r,I,E,F,h,k,p⟩
  simp only at x r h k p;subst x r;simp only [cmpIn,zY,h,if_true,Int.toNat_natCast];by_cases hb:k0+b < L.length
  ·right;have g:∀t,k0+b - 1<=t->M[t]?=L[t]?:=λt G=>by
    have:=congrArg (λl=>l[t - (k0+b - 1)]?) p;simp only [List.getElem?_drop] at this
    rwa [show k0+b - 1+(t - (k0+b - 1))=t by omega] at this
   have u:L[k0+b]?=some L[k0+b]:=List.getElem?_eq_getElem hb;have hb1:k0+b - 1 < L.length:=by omega
   have w:L[k0+b - 1]?=some (L[k0+b - 1]'hb1):=List.getElem?_eq_getElem hb1;have v:yi (M.drop k0) (b:Int)=some L[k0+b]:=by simp only [yi,Int.toNat_natCast,List.getElem?_drop];rw [if_pos (by omega),g _ (by omega),u]
   have C:yi (M.drop k0) (IntKind.wrap .i64 ((b:Int) - 1))=some (L[k0+b - 1]'hb1):=by
    rw [wrap_p1 (by omega) (by omega)];simp only [yi,Int.toNat_natCast,List.getElem?_drop];rw [if_pos (by omega),show k0+(b - 1)=k0+b - 1 by omega,g _ (by omega),w]
   have A:yi M (m:Int)=some (M[m]'(by omega)):=by simp [yi]
   have c:=dd_step (L:=L) (n:=k0+b - 1) w (by rw [show k0+b - 1+1=k0+b by omega];exact u);rw [show k0+b - 1+2=k0+(b+1) by omega,show k0+b - 1+1=k0+b by omega] at c;have d:M.drop (k0+(b+1) - 1)=L.drop (k0+(b+1) - 1):=by
    have:=congrArg (λl=>l.drop 1) p;simp only [List.drop_drop] at this
    rwa [show k0+b - 1+1=k0+(b+1) - 1 by omega] at this
   rw [if_pos (by simp;omega),v,Option.bind_some,C,Option.bind_some];rw [dotEq];by_cases he:L[k0+b]=L[k0+b - 1]'hb1
   ·refine ⟨((m:Int),((b+1:Nat):Int),M),by simp [he,wE (show b<=16777216 by omega)],⟨m,b+1,rfl,rfl,by omega,by omega,by omega,h,?_,d⟩,by simp;omega⟩;rw [c,if_pos he.symm];exact k
   ·refine ⟨(((m+1:Nat):Int),((b+1:Nat):Int),M.set m L[k0+b]),?_,⟨m+1,b+1,rfl,rfl,by omega,by omega,by omega,by simpa using h,?_,?_⟩,by simp;omega⟩
    ·simp [he,v,A,wE (show b<=16777216 by omega),wE (show m<=16777216 by omega)]
    ·rw [c,if_neg (λe=>he e.symm),<- k,List.take_add_one,List.take_set_of_le (Nat.le_refl _),List.getElem?_set_self (by omega)];rfl
    ·rw [List.drop_set_of_lt (by omega)];exact d
  ·left;have q:k0+b=L.length:=by omega
   rw [if_neg (by simp;omega)];exact ⟨_,rfl,m,rfl,by omega,h,by rw [k,q,List.take_length]⟩
 ·have:=dd_step (L:=L) (n:=k0 - 1) D (by rw [show k0 - 1+1=k0 by omega];exact B);rw [show k0 - 1+2=k0+1 by omega,show k0 - 1+1=k0 by omega,if_pos rfl] at this;rw [this,z]
noncomputable def cmpOut (s0:List GDot):Int->Option (Out (List GDot) Int):=λ(s1:Int)=>((if (decide (s1 < ((s0).length:Int)))=true then ((yi s0 s1).bind λy35=>((yi s0 (IntKind.wrap .i64 (s1 - (1:Int)))).bind λy36=>(if (y35.actor.rep==y36.actor.rep&&(y35.actor.inc==y36.actor.inc&&(y35.seq==y36.seq&&true)))=true then (zY (0<=s1/\s1<=((s0.length:Nat):Int)) ((lp (yp (cmpIn s0.length s1) (s1,(1:Int),s0)) λ(s2:Int×Int×(List GDot))=>(zY (0<=s2.1/\s2.1<=((s0.length:Nat):Int)) (((slc (s2.2.2.take s2.1.toNat++List.replicate (s0.length - s2.1.toNat) (GDot.mk (GActor.mk (0:Int) (0:Int)) (0:Int))) (0:Int) s2.1).bind λm57=>some (.ret m57))))))) else some (.nxt (IntKind.wrap .i64 (s1+(1:Int))))))) else some (.brk s1)))
theorem compact_eq (a:List GDot):xV a=(if (decide (((a).length:Int) < (2:Int)))=true then some a else (lp (yp (cmpOut a) (1:Int)) λ(_:Int)=>some a)):=rfl
theorem cmpOut_run {L:List GDot} (p:L.length<=16777216):∀(n k:Nat),L.length - k=n->0 < k->k<=L.length->dd (L.take k)=L.take k->lp (yp (cmpOut L) (k:Int)) (λ(_:Int)=>some L)=some (dd L):=by
 intro n
 induction n with
 | zero =>
  intro k l h0 hk hd;have:k=L.length:=by omega
  subst this;rw [yV];simp only [cmpOut];rw [if_neg (by simp)];simp only [lp];rw [List.take_length] at hd;rw [hd]
 | succ n ih =>
  intro k l h0 hk hd;have b:k < L.length:=by omega
  have d:L[k]?=some L[k]:=List.getElem?_eq_getElem b;have hk1:k - 1 < L.length:=by omega
  have f:L[k - 1]?=some (L[k - 1]'hk1):=List.getElem?_eq_getElem hk1;rw [yV];have g:yi L (k:Int)=some L[k]:=by simp [yi]
  have i:yi L (IntKind.wrap .i64 ((k:Int) - 1))=some (L[k - 1]'hk1):=by
   rw [wrap_p1 h0 (by omega)];simp only [yi,Int.toNat_natCast];rw [if_pos (by omega),f]
  have c:=dd_step (L:=L) (n:=k - 1) f (by rw [show k - 1+1=k by omega];exact d);rw [show k - 1+2=k+1 by omega,show k - 1+1=k by omega] at c;by_cases he:L[k]=L[k - 1]'hk1
  ·obtain ⟨h,o,m,j,r,s,q⟩:=cmpIn_run p h0 b (a:=L[k]) (by rw [he];exact f) d hd;have hs:slc (h.2.2.take ((m:Int)).toNat++List.replicate (L.length - ((m:Int)).toNat) (GDot.mk (GActor.mk (0:Int) (0:Int)) (0:Int))) (0:Int) (m:Int)=some (h.2.2.take m):=by
    unfold slc;rw [if_pos (by simp;omega)];simp only [Int.toNat_natCast,Int.toNat_zero,List.drop_zero];rw [List.take_append_of_le_length (by simp;omega),List.take_take,Nat.min_self]
   have:cmpOut L (k:Int)=some (.ret (dd L)):=by
    simp only [cmpOut];rw [if_pos (by simp;omega),g,Option.bind_some,i,Option.bind_some,dotEq,if_pos (by simp [he])];rw [zp (by omega),o];simp only [lp];rw [zp (by rw [j];omega),j,hs,Option.bind_some,q]
   rw [this];rfl
  ·have:cmpOut L (k:Int)=some (.nxt ((k+1:Nat):Int)):=by
    simp only [cmpOut];rw [if_pos (by simp;omega),g,Option.bind_some,i,Option.bind_some,dotEq,if_neg (by simp [he]),wE (by omega)]
   rw [this];refine ih (k+1) (by omega) (by omega) (by omega) ?_;rw [c,if_neg (λe=>he e.symm),hd,List.take_add_one,d];rfl
theorem compact_is {L:List GDot} (a:L.length<=16777216):xV L=some (dd L):=by
 rw [compact_eq];by_cases h:L.length < 2
 ·rw [if_pos (by simp;omega)]
  match L,h with
  | [],_=>rfl
  | [x],_=>rfl
  | _::_::_,h=>simp at h;omega
 ·rw [if_neg (by simp;omega)];have:=cmpOut_run a (L.length - 1) 1 rfl (by omega) (by omega) (by
   match L,h with
   | x::y::r,_=>rfl
   | [],h=>simp at h
   | [x],h=>simp at h)
  exact this

theorem dlt_irr (a:GDot):dotLt a a=false:=by simp [dotLt]
theorem dlt_tr {a b c:GDot} (e:dotLt a b=true) (d:dotLt b c=true):dotLt a c=true:=by
 unfold dotLt at *;grind
theorem dlt_tot (a b:GDot):a=b \/ dotLt a b=true \/ dotLt b a=true:=by
 rcases a with ⟨⟨c,g⟩,a3⟩;rcases b with ⟨⟨e,f⟩,d⟩
 simp only [dotLt,GDot.mk.injEq,GActor.mk.injEq];grind
theorem ilt_tr {a b c:GItem} (e:aheadI a b=true) (d:aheadI b c=true):aheadI a c=true:=by
 unfold aheadI dotLt at *;grind
theorem ahead_pre {α:Type} {lt:α->α->Bool} (d:∀a b c,lt a b=true->lt b c=true->lt a c=true) (x:α):∀(L:List α),L.Pairwise (λa b=>lt a b=true)->∀(i:Nat) (y:α),L[i]?=some y->(lt y x=true ↔ i < (L.takeWhile λy=>lt y x).length)
 | [],_,i,y,h=>by simp at h
 | z::r,hs,i,y,h=>by
  obtain ⟨j,g⟩:=List.pairwise_cons.1 hs;cases i with
  | zero =>
   simp only [List.getElem?_cons_zero,Option.some.injEq] at h;subst h;cases hz:lt z x <;> simp [List.takeWhile_cons,hz]
  | succ i =>
   simp only [List.getElem?_cons_succ] at h;have f:=ahead_pre d x r g i y h;cases hz:lt z x with
   | true=>simp [List.takeWhile_cons,hz,f]
   | false =>
    simp only [List.takeWhile_cons,hz,Bool.false_eq_true,if_false,List.length_nil,Nat.not_lt_zero,iff_false];intro e;have:=d _ _ _ (j y (List.mem_of_getElem? h)) e;rw [hz] at this;cases this
theorem take_tw {α:Type} (p:α->Bool):∀L:List α,L.take (L.takeWhile p).length=L.takeWhile p
 | []=>rfl
 | x::r=>by cases h:p x <;> simp [List.takeWhile_cons,h,take_tw p r]
theorem drop_tw {α:Type} (p:α->Bool):∀L:List α,L.drop (L.takeWhile p).length=L.dropWhile p
 | []=>rfl
 | x::r=>by cases h:p x <;> simp [List.takeWhile_cons,List.dropWhile_cons,h,drop_tw p r]
theorem tw_le {α:Type} (p:α->Bool):∀L:List α,(L.takeWhile p).length<=L.length
 | []=>by simp
 | x::r=>by have:=tw_le p r;cases h:p x <;> simp [List.takeWhile_cons,h] <;> omega
theorem tw_add {α:Type} (p:α->Bool) (L:List α):(L.takeWhile p).length+(L.dropWhile p).length=L.length:=by
 rw [<- List.length_append,List.takeWhile_append_dropWhile]
theorem tw_all {α:Type} (p:α->Bool):∀(L:List α),∀y ∈ L.takeWhile p,p y=true
 | [],y,h=>by simp at h
 | x::r,y,h=>by
  cases hx:p x with
  | true =>
   rw [List.takeWhile_cons,if_pos hx] at h;rcases List.mem_cons.1 h with rfl | h
   ·exact hx
   ·exact tw_all p r y h
  | false=>rw [List.takeWhile_cons,if_neg (by simp [hx])] at h;simp at h
theorem pw_of_next {α:Type} {lt:α->α->Prop} (f:∀a b c,lt a b->lt b c->lt a c):∀(L:List α),(∀i a b,L[i]?=some a->L[i+1]?=some b->lt a b)->L.Pairwise lt
 | [],_=>.nil
 | [x],_=>by simp
 | x::y::r,h=>by
  have e:=pw_of_next f (y::r) λi a b j g=>h (i+1) a b (by simpa using j) (by simpa using g);have h0:=h 0 x y rfl rfl;refine List.pairwise_cons.2 ⟨λz d=>?_,e⟩;rcases List.mem_cons.1 d with rfl | d
  ·exact h0
  ·exact f _ _ _ h0 ((List.pairwise_cons.1 e).1 z d)
theorem rise_pw {L:List GItem} (h:riseB L=true):L.Pairwise λa b=>aheadI a b=true:=by
 refine pw_of_next (lt:=λa b=>aheadI a b=true) (λ_ _ _=>ilt_tr) L λi a b d c=>?_;have:=allI_iff.1 h (i+1) b c;simp only [Nat.succ_ne_zero,decide_false,Bool.false_or,prevI,Nat.add_sub_cancel,List.getD_eq_getElem?_getD,d,Option.getD_some] at this;exact this
theorem rising_pw {L:List GDot} (h:rising L=true):L.Pairwise λa b=>dotLt a b=true:=by
 rw [rising_allI] at h;refine pw_of_next (lt:=λa b=>dotLt a b=true) (λ_ _ _=>dlt_tr) L λi a b d c=>?_;have:=allI_iff.1 h (i+1) b c;simp only [xc,Nat.succ_ne_zero,decide_false,Bool.false_or,Nat.add_sub_cancel,List.getD_eq_getElem?_getD,d,Option.getD_some] at this;exact this
theorem strict_ext {α:Type} {lt:α->α->Prop} (d:∀a,¬ lt a a) (l:∀a b c,lt a b->lt b c->lt a c):∀(A B:List α),A.Pairwise lt->B.Pairwise lt->(∀x,x ∈ A ↔ x ∈ B)->A=B
 | [],[],_,_,_=>rfl
 | [],b::B,_,_,h=>by have:=(h b).2 (by simp);simp at this
 | a::A,[],_,_,h=>by have:=(h a).1 (by simp);simp at this
 | a::A,b::B,hA,hB,h=>by
  obtain ⟨k,o⟩:=List.pairwise_cons.1 hA;obtain ⟨m,n⟩:=List.pairwise_cons.1 hB;have i:a=b:=by
   rcases List.mem_cons.1 ((h a).1 (by simp)) with e | f
   ·exact e
   ·rcases List.mem_cons.1 ((h b).2 (by simp)) with e | g
    ·exact e.symm
    ·exact (d _ (l _ _ _ (k b g) (m a f))).elim
  subst i;rw [strict_ext d l A B o n λx=>?_];have j:=h x;simp only [List.mem_cons] at j;constructor
  ·intro f;rcases j.1 (.inr f) with rfl | g
   ·exact (d _ (k _ f)).elim
   ·exact g
  ·intro f;rcases j.2 (.inr f) with rfl | g
   ·exact (d _ (m _ f)).elim
   ·exact g
def layP (L:List GItem) (x:GItem):List GItem:=if (L.any λy=>decide (y.dot=x.dot))=true then L else L.takeWhile (λy=>aheadI y x)++([x]++L.dropWhile λy=>aheadI y x)
def burP (L:List GDot) (d:GDot):List GDot:=if (L.any λy=>decide (y=d))=true then L else L.takeWhile (λy=>dotLt y d)++([d]++L.dropWhile λy=>dotLt y d)
theorem firstI_pos {α:Type} (p:α->Bool) (L:List α):decide (qf p L >= 0)=L.any p:=firstI_any p L
theorem slcT {α:Type} (L:List α) (n:Nat) (h:n<=L.length):slc L (n:Int) (L.length:Int)=some (L.drop n):=by
 unfold slc;rw [if_pos (by omega)];simp
theorem tw_loop {α:Type} {L:List α} (p:α->Bool) {f:List α×Int->Option (Out (List α) (List α×Int))} (h:∀(A:List α) (i:Nat) (y:α),A.length=i->L[i]?=some y->f (A,(i:Int))=if p y=true then some (.nxt (A++[y],((i+1:Nat):Int))) else some (.brk (A,(i:Int))))
  (g:∀A:List α,f (A,(L.length:Int))=some (.brk (A,(L.length:Int)))):∀(n i:Nat),L.length - i=n->i<=(L.takeWhile p).length ->
  yp f (L.take i,(i:Int))=some (.inr (L.takeWhile p,((L.takeWhile p).length:Int))):=by
 intro n
 induction n with
 | zero =>
  intro i o hi;have s:=tw_le p L;have j:i=L.length:=by omega
  subst j;rw [yV,g];have q:(L.takeWhile p).length=L.length:=by omega
  have k:=take_tw p L;rw [q] at k ⊢;rw [k]
 | succ n ih =>
  intro i o hi;have b:i < L.length:=by omega
  have m:L[i]?=some L[i]:=List.getElem?_eq_getElem b;have d:L.takeWhile p=L.take i++(L.drop i).takeWhile p:=by
   have h:L.take i=(L.takeWhile p).take i:=by
    conv=>lhs;rw [<- List.takeWhile_append_dropWhile (p:=p) (l:=L)]
    rw [List.take_append_of_le_length hi]
   have g:∀y ∈ L.take i,p y=true:=by
    rw [h];intro y r;exact tw_all _ _ _ (List.mem_of_mem_take r)
   conv=>lhs;rw [<- List.take_append_drop i L]
   rw [List.takeWhile_append_of_pos g]
  have c:L.drop i=L[i]::L.drop (i+1):=(List.getElem_cons_drop b).symm;have a:(L.take i).length=i:=by simp;omega
  rw [yV,h _ _ _ a m];cases ha:p L[i] with
  | true =>
   simp only [if_true];have e:L.take i++[L[i]]=L.take (i+1):=by rw [List.take_add_one,m];rfl
   rw [e];refine ih (i+1) (by omega) ?_;rw [d,c,List.takeWhile_cons,if_pos ha];simp;omega
  | false =>
   simp only [Bool.false_eq_true,if_false];have e:L.takeWhile p=L.take i:=by rw [d,c,List.takeWhile_cons,if_neg (by simp [ha])];simp
   rw [e,a]
noncomputable def layF (L:List GItem) (x:GItem):(List GItem)×Int->Option (Out (List GItem) ((List GItem)×Int)):=(λ(s1:(List GItem)×Int)=>((zY (((decide (s1.2 < ((L).length:Int)))==true)=true->0<=s1.2/\s1.2 < ((L).length:Int)) ((zY (((decide (s1.2 < ((L).length:Int)))==true)=true->0<=s1.2/\s1.2 < ((L).length:Int)) (((if ((decide (s1.2 < ((L).length:Int)))==true)=true then wN (((L).getD s1.2.toNat default).time) (((L).getD s1.2.toNat default).dot) x.time x.dot else some default).bind λv21=>(if ((decide (s1.2 < ((L).length:Int)))&&v21)=true then ((yi L s1.2).bind λy23=>(zY ((s1.1).length+(([y23]:List GItem)).length<=yB) (some (.nxt ((s1.1++([y23]:List GItem)),(IntKind.wrap .i64 (s1.2+(1:Int)))))))) else some (.brk (s1.1,s1.2)))))))):Option (Out _ ((List GItem)×Int))))
theorem lay_loop {L:List GItem} (g:L.length<=16777216) (x:GItem):yp (layF L x) ([],0)=some (.inr (L.takeWhile (λy=>aheadI y x),((L.takeWhile λy=>aheadI y x).length:Int))):=by
 refine tw_loop (λy=>aheadI y x) (f:=layF L x) (λA i y h a=>?_) (λA=>?_) L.length 0 (by omega) (Nat.zero_le _)
 ·have e:i < L.length:=(List.getElem?_eq_some_iff.1 a).1;have hd:decide ((i:Int) < (L.length:Int))=true:=decide_eq_true (by omega);have d:L.getD i default=y:=by simp [List.getD_eq_getElem?_getD,a]
  have b:yi L (i:Int)=some y:=by simp [yi,a]
  simp only [layF,hd];rw [zp (by intro _;omega),zp (by intro _;omega)];simp only [beq_self_eq_true,if_true,Int.toNat_natCast,d,ref05Ahead_is,Option.bind_some,Bool.true_and];have c:(if y.time ≠ x.time then decide (y.time < x.time) else dotLt y.dot x.dot)=aheadI y x:=rfl;rw [c];cases ha:aheadI y x with
  | true=>simp only [if_true];rw [b,Option.bind_some,zp (by simp [yB];omega),wE (by omega)]
  | false=>rfl
 ·have hd:decide ((L.length:Int) < (L.length:Int))=false:=decide_eq_false (by omega);simp only [layF,hd];rw [zp (by simp),zp (by simp)];simp
theorem refLay_is {L:List GItem} (d:L.length<=16777215) (x:GItem):ref05Lay L x=some (layP L x):=by
 unfold ref05Lay;rw [ref05Item_is,Option.bind_some,firstI_pos];unfold layP;cases h:L.any λy=>decide (y.dot=x.dot) with
 | true=>simp only [if_true];rw [zp (by simp [yB];omega)];rfl
 | false =>
  simp only [Bool.false_eq_true,if_false];have a:=lay_loop (L:=L) (by omega) x;unfold layF at a;have b:=tw_le (λy=>aheadI y x) L;have c:=tw_add (λy=>aheadI y x) L;rw [a];simp only [lp];rw [zp (by simp [yB];omega),slcT _ _ b,Option.bind_some,drop_tw,zp (by simp [yB];omega)];simp
noncomputable def burF (L:List GDot) (x:GDot):(List GDot)×Int->Option (Out (List GDot) ((List GDot)×Int)):=(λ(s1:(List GDot)×Int)=>((zY (((decide (s1.2 < ((L).length:Int)))==true)=true->0<=s1.2/\s1.2 < ((L).length:Int)) (((if ((decide (s1.2 < ((L).length:Int)))==true)=true then vh ((L).getD s1.2.toNat default) x else some default).bind λv16=>(if ((decide (s1.2 < ((L).length:Int)))&&v16)=true then ((yi L s1.2).bind λy18=>(zY ((s1.1).length+(([y18]:List GDot)).length<=yB) (some (.nxt ((s1.1++([y18]:List GDot)),(IntKind.wrap .i64 (s1.2+(1:Int)))))))) else some (.brk (s1.1,s1.2)))))):Option (Out _ ((List GDot)×Int))))
theorem bury_loop {L:List GDot} (e:L.length<=16777216) (x:GDot):yp (burF L x) ([],0)=some (.inr (L.takeWhile (λy=>dotLt y x),((L.takeWhile λy=>dotLt y x).length:Int))):=by
 refine tw_loop (λy=>dotLt y x) (f:=burF L x) (λA i y g a=>?_) (λA=>?_) L.length 0 (by omega) (Nat.zero_le _)
 ·have d:i < L.length:=(List.getElem?_eq_some_iff.1 a).1;have hd:decide ((i:Int) < (L.length:Int))=true:=decide_eq_true (by omega);have c:L.getD i default=y:=by simp [List.getD_eq_getElem?_getD,a]
  have b:yi L (i:Int)=some y:=by simp [yi,a]
  simp only [burF,hd];rw [zp (by intro _;omega)];simp only [beq_self_eq_true,if_true,Int.toNat_natCast,c,ref03Less_is,Option.bind_some,Bool.true_and];cases ha:dotLt y x with
  | true=>simp only [if_true];rw [b,Option.bind_some,zp (by simp [yB];omega),wE (by omega)]
  | false=>rfl
 ·have hd:decide ((L.length:Int) < (L.length:Int))=false:=decide_eq_false (by omega);simp only [burF,hd];rw [zp (by simp)];simp
theorem refBury_is {L:List GDot} (d:L.length<=16777215) (x:GDot):ref05Bury L x=some (burP L x):=by
 unfold ref05Bury;rw [vf,Option.bind_some];unfold burP;cases h:L.any λy=>decide (y=x) with
 | true=>simp only [if_true]
 | false =>
  simp only [Bool.false_eq_true,if_false];have a:=bury_loop (L:=L) (by omega) x;unfold burF at a;have b:=tw_le (λy=>dotLt y x) L;have c:=tw_add (λy=>dotLt y x) L;rw [a];simp only [lp];rw [zp (by simp [yB];omega),slcT _ _ b,Option.bind_some,drop_tw,zp (by simp [yB];omega)];simp

theorem sortO_le {α:Type} {c:α->α->Option Int} {cf:α->α->Int} {lt:α->α->Prop} {L R:List α} (v:∀x ∈ L,∀y ∈ L,c x y=some (cf x y)) (o:∀x y,cf x y < 0 ↔ lt x y) (l:∀x,¬ lt x x) (p:∀x y z,lt x y->lt y z->lt x z)
  (k:∀x ∈ L,∀y ∈ L,x=y \/ lt x y \/ lt y x) (n:R.Perm L) (hs:R.Pairwise λa b=>¬ lt b a) (w:L.length<=yB):sortO c L=some R:=by
 unfold sortO;rw [if_pos (λx d y f=>by rw [v x d y f];rfl)];have hd:∀x ∈ L,∀y ∈ L,(c x y).getD 0 < 0 ↔ lt x y:=λx d y f=>by rw [v x d y f];exact o x y
 have r:∀x y,lt x y->¬ lt y x:=λx y i g=>l x (p _ _ _ i g);have u:R.Pairwise λa b=>¬ (c b a).getD 0 < 0:=by
  have:R.Pairwise λa b=>a ∈ L/\b ∈ L/\¬ lt b a:=by
   refine List.Pairwise.imp_of_mem ?_ hs;intro a b s q h;exact ⟨n.subset s,n.subset q,h⟩
  refine this.imp ?_
  rintro a b ⟨s,q,h⟩ g
  exact h ((hd b q a s).1 g)
 refine sortF_of ⟨λx d h=>l x ((hd x d x d).1 h),λx y z d f j i g=>(hd x d z j).2 (p _ _ _ ((hd x d y f).1 i) ((hd y f z j).1 g)),λx y z d f j i g m=>?_⟩ w ⟨n,u⟩ ?_
 ·have m:=(hd x d z j).1 m;rcases k x d y f with rfl | h | h
  ·exact g ((hd _ f z j).2 m)
  ·exact i ((hd x d y f).2 h)
  ·exact g ((hd y f z j).2 (p _ _ _ h m))
 ·rintro M ⟨t,A⟩
  refine sorted_one (t.trans n.symm) A u λx y d f i g=>?_;have d:=t.subset d;have f:=t.subset f;rcases k x d y f with e | h | h
  ·exact e
  ·exact (i ((hd x d y f).2 h)).elim
  ·exact (g ((hd y f x d).2 h)).elim
theorem dotCmp_iff (a b:GDot):dotCmp a b < 0 ↔ dotLt a b=true:=by rw [<- dotCmp_neg];simp
def srt (L:List GDot):List GDot:=L.mergeSort λa b=>!dotLt b a
theorem srt_pw (L:List GDot):(srt L).Pairwise λa b=>¬ dotLt b a=true:=by
 have:=List.pairwise_mergeSort (le:=λa b=>!dotLt b a) (λa b c f d=>by
  simp only [Bool.not_eq_true'] at *;cases h:dotLt c a with
  | false=>rfl
  | true =>
   rcases dlt_tot a b with rfl | e | e
   ·rw [d] at h;cases h
   ·rw [dlt_tr h e] at d;cases d
   ·rw [f] at e;cases e) (λa b=>by
  cases h:dotLt b a with
  | false=>rfl
  | true =>
   cases d:dotLt a b with
   | false=>rfl
   | true=>have:=dlt_tr h d;rw [dlt_irr] at this;cases this) L
 refine this.imp λ{a b} h=>?_;simpa using h
theorem srt_perm (L:List GDot):(srt L).Perm L:=List.mergeSort_perm ..
theorem sortDots_is {L:List GDot} (c:L.length<=yB):sortO (λx y=>wm x y) L=some (srt L) :=
 sortO_le (cf:=dotCmp) (lt:=λa b=>dotLt a b=true) (λx _ y _=>qQ x y) dotCmp_iff (λx=>by simp [dlt_irr]) (λ_ _ _=>dlt_tr) (λx _ y _=>dlt_tot x y) (srt_perm L) (srt_pw L) c
theorem bur_mem (L:List GDot) (d x:GDot):x ∈ burP L d ↔ x=d \/ x ∈ L:=by
 unfold burP;split
 ·rename_i h;rw [List.any_eq_true] at h;obtain ⟨y,a,e⟩:=h;have e:=of_decide_eq_true e;subst e;constructor
  ·exact .inr
  ·rintro (rfl | h)
   ·exact a
   ·exact h
 ·have h:x ∈ L ↔ x ∈ L.takeWhile (λy=>dotLt y d) \/ x ∈ L.dropWhile (λy=>dotLt y d):=by
   rw [<- List.mem_append,List.takeWhile_append_dropWhile]
  rw [h];simp only [List.mem_append,List.mem_singleton];constructor
  ·rintro (h | h | h)
   ·exact .inr (.inl h)
   ·exact .inl h
   ·exact .inr (.inr h)
  ·rintro (h | h | h)
   ·exact .inr (.inl h)
   ·exact .inl h
   ·exact .inr (.inr h)
theorem dw_not {α:Type} {lt:α->α->Bool} (f:∀a b c,lt a b=true->lt b c=true->lt a c=true) (x:α) {L:List α} (hs:L.Pairwise (λa b=>lt a b=true)):∀y ∈ L.dropWhile (λy=>lt y x),lt y x=false:=by
 intro y d;rw [<- drop_tw] at d;obtain ⟨j,e⟩:=List.mem_iff_getElem?.1 d;rw [List.getElem?_drop] at e;have:=ahead_pre f x L hs _ y e;cases h:lt y x with
 | false=>rfl
 | true=>have:=this.1 h;omega
theorem ins_pw {α:Type} {lt:α->α->Bool} (n:∀a b c,lt a b=true->lt b c=true->lt a c=true) {x:α} {L:List α} (hs:L.Pairwise (λa b=>lt a b=true)) (j:∀y ∈ L,lt y x=true \/ lt x y=true):(L.takeWhile (λy=>lt y x)++([x]++L.dropWhile λy=>lt y x)).Pairwise λa b=>lt a b=true:=by
 have e:=hs;rw [<- List.takeWhile_append_dropWhile (p:=λy=>lt y x) (l:=L)] at e;obtain ⟨i,m,k⟩:=List.pairwise_append.1 e;have hd:∀y ∈ L.dropWhile (λy=>lt y x),lt x y=true:=λy g=>by
  rcases j y (List.dropWhile_sublist _ |>.subset g) with h | h
  ·rw [dw_not n x hs y g] at h;cases h
  ·exact h
 refine List.pairwise_append.2 ⟨i,List.pairwise_append.2 ⟨by simp,m,λa f b d=>?_⟩,λa f b d=>?_⟩
 ·rw [List.mem_singleton] at f;subst f;exact hd b d
 ·rcases List.mem_append.1 d with d | d
  ·rw [List.mem_singleton] at d;subst d;exact tw_all (λy=>lt y b) _ _ f
  ·exact k a f b d
theorem bur_pw {L:List GDot} (d:GDot) (h:L.Pairwise λa b=>dotLt a b=true):(burP L d).Pairwise λa b=>dotLt a b=true:=by
 unfold burP;split
 ·exact h
 ·rename_i f;refine ins_pw (lt:=dotLt) (λ_ _ _=>dlt_tr) h λy e=>?_;rcases dlt_tot y d with rfl | c | c
  ·exfalso;apply f;rw [List.any_eq_true];exact ⟨y,e,by simp⟩
  ·exact .inl c
  ·exact .inr c
theorem bur_len (L:List GDot) (d:GDot):(burP L d).length<=L.length+1:=by
 unfold burP;split
 ·omega
 ·have:=tw_add (λy=>dotLt y d) L;simp;omega
def burs (L ds:List GDot):List GDot:=ds.foldl burP L
theorem burs_mem:∀(ds L:List GDot) (x:GDot),x ∈ burs L ds ↔ x ∈ ds \/ x ∈ L
 | [],L,x=>by simp [burs]
 | d::ds,L,x=>by
  have:=burs_mem ds (burP L d) x;simp only [burs,List.foldl_cons] at this ⊢;rw [this,bur_mem];simp only [List.mem_cons];constructor
  ·rintro (h | h | h)
   ·exact .inl (.inr h)
   ·exact .inl (.inl h)
   ·exact .inr h
  ·rintro ((h | h) | h)
   ·exact .inr (.inl h)
   ·exact .inl h
   ·exact .inr (.inr h)
theorem burs_pw:∀(ds:List GDot) {L:List GDot},L.Pairwise (λa b=>dotLt a b=true)->(burs L ds).Pairwise λa b=>dotLt a b=true
 | [],_,h=>h
 | d::ds,_,h=>burs_pw ds (bur_pw d h)
theorem burs_len:∀(ds L:List GDot),(burs L ds).length<=L.length+ds.length
 | [],L=>by simp [burs]
 | d::ds,L=>by
  have a:=burs_len ds (burP L d);have b:=bur_len L d;simp only [burs,List.foldl_cons,List.length_cons] at a ⊢;omega
theorem burs_eq {L ds:List GDot} (h:L.Pairwise λa b=>dotLt a b=true):dd (srt (L++ds))=burs L ds:=by
 refine strict_ext (lt:=λa b=>dotLt a b=true) (λa=>by simp [dlt_irr]) (λ_ _ _=>dlt_tr) _ _ (dd_strict (lt:=λa b=>dotLt a b=true) (λa b c=>?_) (λ_ _ _=>dlt_tr) _ (srt_pw _)) (burs_pw ds h) λx=>?_
 ·rcases dlt_tot a b with e | e | e
  ·exact .inl e
  ·exact .inr e
  ·exact (c e).elim
 ·rw [dd_mem,(srt_perm _).mem_iff,burs_mem,List.mem_append];exact Or.comm
theorem layC_is (a b:GItem):∃v,yx a b=some v/\(v < 0 ↔ aheadI a b=true):=by
 have h:=leafAhead_is a.time a.dot b.time b.dot;unfold qJ at h;unfold yx;cases hc:vi a.time a.dot b.time b.dot with
 | none=>rw [hc] at h;cases h
 | some v =>
  rw [hc] at h;simp only [Option.bind_some,Option.some.injEq] at h;refine ⟨v,rfl,?_⟩;have:aheadI a b=decide (v < 0):=h.symm;rw [this];simp
theorem searchI {L:List GItem} (j:L.length<=1048576) (hs:L.Pairwise λa b=>aheadI a b=true) (x:GItem):∃b,zH L x (λg k=>yx g k)=some (((L.takeWhile λy=>aheadI y x).length:Int),b):=by
 have l:=tw_le (λy=>aheadI y x) L;have m:∀i n,L[i]?=some n->∃v,yx n x=some v/\(i < (L.takeWhile λy=>aheadI y x).length->v < 0)/\((L.takeWhile λy=>aheadI y x).length<=i->0<=v):=λi n hi=>by
  obtain ⟨v,e,d⟩:=layC_is n x;have f:=ahead_pre (lt:=aheadI) (λ_ _ _=>ilt_tr) x L hs i n hi;refine ⟨v,e,λh=>d.2 (f.2 h),λh=>?_⟩;rcases Int.lt_or_le v 0 with c | c
  ·have:=f.1 (d.1 c);omega
  ·exact c
 rw [bsI_is j l m];by_cases h:(L.takeWhile λy=>aheadI y x).length < L.length
 ·rw [if_pos h];obtain ⟨v,e,_⟩:=layC_is (L.getD (L.takeWhile λy=>aheadI y x).length default) x;rw [e];exact ⟨_,rfl⟩
 ·rw [if_neg h];exact ⟨_,rfl⟩
theorem insO_is {L:List GItem} (a:L.length<=1048576) (x:GItem) {n:Nat} (b:n<=L.length):insO L (n:Int) [x]=some (L.take n++([x]++L.drop n)):=by
 unfold insO;rw [if_pos ⟨⟨by omega,by omega⟩,by simp,by simp [yB];omega⟩,Int.toNat_natCast]
theorem progLay_is {L:List GItem} (f:L.length<=1048576) (hs:L.Pairwise λa b=>aheadI a b=true) (x:GItem) :
  ((leafXhas L x.dot).bind λd=>(if d=true then some L else ((zH L x (λg i=>yx g i)).bind λc=>((insO L c.1 ([x]:List GItem)).bind λv39=>some v39))))=some (layP L x):=by
 rw [leafXhas_is,Option.bind_some];unfold layP;cases h:L.any λy=>decide (y.dot=x.dot) with
 | true=>rfl
 | false =>
  simp only [Bool.false_eq_true,if_false];obtain ⟨b,e⟩:=searchI f hs x;rw [e,Option.bind_some,insO_is f x (tw_le _ _),Option.bind_some,take_tw,drop_tw]
theorem containsDot_is (L:List GDot) (d:GDot):xr L d=some (L.any λy=>decide (y=d)):=by
 unfold xr vX;have:=first_loop (α:=GDot) (f:=λx=>some (decide (x=d))) (q:=λx=>decide (x=d)) L (λ_ _=>rfl);have e:∀(b:Nat) (a:GDot),(if (d.actor.rep==a.actor.rep&&(d.actor.inc==a.actor.inc&&(d.seq==a.seq&&true)))=true then some (.ret (b:Int)) else some (.nxt ()):Option (Out Int Unit))=((some (decide (a=d)):Option Bool).bind λv=>if v=true then some (.ret (b:Int)) else some (.nxt ())):=λb a=>by
  rw [dotEq,Option.bind_some];have:decide (d=a)=decide (a=d):=decide_eq_decide.2 eq_comm;rw [this]
 simp only [e];rw [this,Option.bind_some,firstI_pos]
theorem dropC_is (x:GItem) (e:GEvent):xL x e=some (e.op.dots.any λy=>decide (y=x.dot)):=by
 unfold xL;rw [containsDot_is];rfl

def yX (l:GLeaf) (e:GEvent):GLeaf :=
 if e.op.kind=1 then { l with n:=IntKind.wrap .i64 (l.n+e.op.n) }
 else if e.op.kind=2 then (if (decide (l.time=0) || (if l.time ≠ e.time then decide (l.time < e.time) else dotLt l.dot e.dot))=true then { l with time:=e.time,dot:=e.dot,text:=e.op.text } else l)
 else if e.op.kind=3 then (if (l.tombs.any λy=>decide (y=e.dot))=true then l else { l with items:=layP l.items ⟨0,e.dot,e.op.text⟩ })
 else if e.op.kind=4 then { l with items:=l.items.filter (λx=>!(e.op.dots.any λy=>decide (y=x.dot))),tombs:=burs l.tombs e.op.dots }
 else { l with items:=layP l.items ⟨e.time,e.dot,e.op.text⟩ }
def zeroLf:GLeaf:=GLeaf.mk (0:Int) (0:Int) (0:Int) (GDot.mk (GActor.mk (0:Int) (0:Int)) (0:Int)) ([]:zn) ([]:List GItem) ([]:List GDot)
def applyW (l:GLeaf) (e:GEvent):GLeaf×Int:=if (!leafB l || !wa e)=true then (zeroLf,2) else if wp e.op.kind ≠ l.typ then (zeroLf,15) else (yX l e,0)
theorem riseB_of {l:GLeaf} (h:leafB l=true):l.items.Pairwise λa b=>aheadI a b=true:=by
 unfold leafB at h;split at h
 ·simp only [Bool.and_eq_true,decide_eq_true_eq] at h;rw [h.1.2];exact .nil
 ·split at h
  ·simp only [Bool.and_eq_true,decide_eq_true_eq] at h;rw [h.1.1.2];exact .nil
  ·split at h
   ·simp only [Bool.and_eq_true] at h;exact rise_pw h.1.2.1.2
   ·split at h
    ·simp only [Bool.and_eq_true] at h;exact rise_pw h.2.1.2
    ·cases h
theorem tombs_of {l:GLeaf} (h:leafB l=true):l.tombs.Pairwise λa b=>dotLt a b=true:=by
 unfold leafB at h;split at h
 ·simp only [Bool.and_eq_true,decide_eq_true_eq] at h;rw [h.2];exact .nil
 ·split at h
  ·simp only [Bool.and_eq_true,decide_eq_true_eq] at h;rw [h.1.2];exact .nil
  ·split at h
   ·simp only [Bool.and_eq_true,tombsB] at h;exact rising_pw h.2.1.2
   ·split at h
    ·simp only [Bool.and_eq_true,decide_eq_true_eq] at h;rw [h.1.2];exact .nil
    ·cases h
theorem apart_of_leaf {l:GLeaf} (h:leafB l=true):∀x ∈ l.items,∀d ∈ l.tombs,d ≠ x.dot:=by
 intro x a d hd;unfold leafB at h;split at h
 ·simp only [Bool.and_eq_true,decide_eq_true_eq] at h;rw [h.2] at hd;simp at hd
 ·split at h
  ·simp only [Bool.and_eq_true,decide_eq_true_eq] at h;rw [h.1.2] at hd;simp at hd
  ·split at h
   ·simp only [Bool.and_eq_true,tombsB] at h;have:=List.all_eq_true.1 h.2.2 d hd
    rintro rfl
    simp only [Bool.not_eq_true',List.any_eq_false,decide_eq_true_eq] at this;exact this x a rfl
   ·split at h
    ·simp only [Bool.and_eq_true,decide_eq_true_eq] at h;rw [h.1.2] at hd;simp at hd
    ·cases h
theorem kind_of {e:GEvent} (h:wa e=true):1<=e.op.kind/\e.op.kind<=5:=by
 simp only [wa,opB,Bool.and_eq_true,decide_eq_true_eq] at h;exact ⟨h.2.1.1.1.1.1,h.2.1.1.1.1.2⟩
theorem dots_of {e:GEvent} (h:wa e=true):e.op.dots.length<=64:=by
 simp only [wa,opB,Bool.and_eq_true,decide_eq_true_eq] at h;exact h.2.1.2
theorem leafApply_is {l:GLeaf} (e:GEvent) (hi:l.items.length<=1048576) (f:l.tombs.length<=1048576):leafApply l e=some (applyW l e):=by
 unfold leafApply applyW;rw [leafMay_is (by unfold maxLen;omega) (by unfold maxLen;omega),Option.bind_some];cases hl:leafB l with
 | false=>simp [zeroLf]
 | true =>
  simp only [Bool.not_true,Bool.false_or,beq_self_eq_true,if_true,qP,Option.bind_some];cases he:wa e with
  | false=>simp [zeroLf]
  | true =>
   simp only [Bool.not_true,Bool.false_eq_true,if_false,opType_is,Option.bind_some];by_cases hk:wp e.op.kind=l.typ
   ·rw [if_neg (show ¬ (wp e.op.kind != l.typ)=true by simp [hk]),if_neg (show ¬ wp e.op.kind ≠ l.typ by simp [hk])];rw [qj (by unfold yB;omega),Option.bind_some,cloneDot_is (by unfold yB;omega),Option.bind_some];unfold yX;by_cases h1:e.op.kind=1
    ·simp only [h1,if_true,Option.bind_some]
    simp only [h1,if_false];by_cases h2:e.op.kind=2
    ·simp only [h2,if_true,leafAhead_is,Option.bind_some];have c:(l.time==(0:Int))=decide (l.time=0):=by rw [Bool.eq_iff_iff];simp
     rw [c];cases h0:decide (l.time=0) with
     | true=>simp
     | false =>
      simp only [beq_self_eq_true,if_true,Option.bind_some,Bool.false_or];generalize (if l.time ≠ e.time then decide (l.time < e.time) else dotLt l.dot e.dot)=b;cases b <;> rfl
    simp only [h2,if_false];by_cases h3:e.op.kind=3
    ·simp only [h3,if_true,containsDot_is,Option.bind_some];have:=progLay_is hi (riseB_of hl) ⟨0,e.dot,e.op.text⟩;simp only at this;rw [this];cases l.tombs.any (λy=>decide (y=e.dot)) <;> rfl
    simp only [h3,if_false];have hd:=dots_of he;by_cases h4:e.op.kind=4
    ·simp only [h4,if_true];rw [zp (by unfold yB;omega),sortDots_is (by simp [yB];omega),Option.bind_some,compact_is (by rw [(srt_perm _).length_eq];simp;omega),Option.bind_some,
      deleteI_is (q:=λx=>e.op.dots.any λy=>decide (y=x.dot)) (by omega) (λx _=>dropC_is x e),Option.bind_some,burs_eq (tombs_of hl)]
     rfl
    simp only [h4,if_false];have d:e.op.kind=5:=by have:=kind_of he;omega
    simp only [d,if_true];have:=progLay_is hi (riseB_of hl) ⟨e.time,e.dot,e.op.text⟩;simp only at this;rw [this];rfl
   ·have a:(wp e.op.kind != l.typ)=true:=by simp [hk]
    simp only [a,if_true,hk,ne_eq,not_false_eq_true,Bool.false_eq_true,if_false,zeroLf]
theorem refTombs_fold:∀(ds L:List GDot) (n:Nat),L.length+ds.length<=16777215->zk (λ(f:Nat) (c:GDot) (b:(List GDot))=>(((ref05Bury b c).bind λa=>some (.nxt a)):Option (Out (GLeaf×Int) (List GDot)))) ds n L=some (.inr (burs L ds))
 | [],L,n,_=>rfl
 | d::ds,L,n,h=>by
  simp only [List.length_cons] at h;have e:=bur_len L d;simp only [zk];rw [refBury_is (by omega),Option.bind_some];exact refTombs_fold ds (burP L d) (n+1) (by omega)
theorem refLeft_is (L:List GItem) (T:List GDot) (d:L.length<=16777215):ref05Left L T=some (L.filter λx=>!(T.any λy=>decide (y=x.dot))):=by
 unfold ref05Left;have:∀(L s:List GItem) (n:Nat),s.length+L.length<=16777215->zk (λ(e:Nat) (c:GItem) (a:(List GItem))=>(((vg T c.dot).bind λb=>(if (!b)=true then (zY ((a).length+(([c]:List GItem)).length<=yB) (some (.nxt (a++([c]:List GItem))))) else some (.nxt a))):Option (Out (List GItem) (List GItem)))) L n s=some (.inr (s++L.filter λx=>!(T.any λy=>decide (y=x.dot)))):=by
  intro L
  induction L with
  | nil=>intro s n _;simp [zk]
  | cons x r ih =>
   intro s n h;simp only [List.length_cons] at h;simp only [zk,vf,Option.bind_some];cases hx:T.any λy=>decide (y=x.dot) with
   | true =>
    simp only [Bool.not_true,Bool.false_eq_true,if_false];rw [List.filter_cons,if_neg (by simp [hx])];have:=ih s (n+1) (by omega);simp only [vf,Option.bind_some] at this;exact this
   | false =>
    simp only [Bool.not_false,if_true];rw [zp (by simp [yB];omega),List.filter_cons,if_pos (by simp [hx])];have:=ih (s++[x]) (n+1) (by simp;omega);simp only [vf,Option.bind_some,List.append_assoc,List.singleton_append] at this;exact this
 rw [this L [] 0 (by simpa using d)];rfl
theorem refApply_is {l:GLeaf} (e:GEvent) (hi:l.items.length<=1048576) (n:l.tombs.length<=1048576) (h0:0<=l.time):ref05Apply l e=some (applyW l e):=by
 unfold ref05Apply applyW;rw [ref05May_is (by unfold maxLen;omega) (by unfold maxLen;omega) h0,Option.bind_some];cases hl:leafB l with
 | false=>simp [zeroLf]
 | true =>
  simp only [Bool.not_true,Bool.false_or,beq_self_eq_true,if_true,ref04MayEvent_is,Option.bind_some];cases he:wa e with
  | false=>simp [zeroLf]
  | true =>
   simp only [Bool.not_true,Bool.false_eq_true,if_false,ref04Type_is,Option.bind_some];by_cases hk:wp e.op.kind=l.typ
   ·rw [if_neg (show ¬ (wp e.op.kind != l.typ)=true by simp [hk]),if_neg (show ¬ wp e.op.kind ≠ l.typ by simp [hk])];unfold yX;by_cases h1:e.op.kind=1
    ·simp only [h1,beq_self_eq_true,if_true]
    have i:(e.op.kind==(1:Int))=false:=by simp [h1]
    simp only [h1,i,Bool.false_eq_true,if_false];by_cases h2:e.op.kind=2
    ·simp only [h2,beq_self_eq_true,if_true,ref05Ahead_is,Option.bind_some];have f:(l.time==(0:Int))=decide (l.time=0):=by rw [Bool.eq_iff_iff];simp
     rw [f];cases h0:decide (l.time=0) with
     | true=>simp
     | false =>
      simp only [beq_self_eq_true,if_true,Option.bind_some,Bool.false_or];generalize (if l.time ≠ e.time then decide (l.time < e.time) else dotLt l.dot e.dot)=b;cases b <;> rfl
    have n2:(e.op.kind==(2:Int))=false:=by simp [h2]
    simp only [h2,n2,Bool.false_eq_true,if_false];by_cases a:e.op.kind=3
    ·simp only [a,beq_self_eq_true,if_true,vf,Option.bind_some];cases l.tombs.any (λy=>decide (y=e.dot)) with
     | true=>rfl
     | false=>simp only [Bool.not_false,if_true,Bool.false_eq_true,if_false];rw [refLay_is (by omega)];rfl
    have m:(e.op.kind==(3:Int))=false:=by simp [a]
    simp only [a,m,Bool.false_eq_true,if_false];have hd:=dots_of he;by_cases h4:e.op.kind=4
    ·simp only [h4,beq_self_eq_true,if_true];rw [refTombs_fold _ _ _ (by omega)];simp only [lp];rw [refLeft_is _ _ (by omega),Option.bind_some];congr 3;refine List.filter_congr λx g=>?_;congr 1;rw [Bool.eq_iff_iff,List.any_eq_true,List.any_eq_true];constructor
     ·rintro ⟨d,hd,h⟩
      have h:=of_decide_eq_true h;rcases (burs_mem _ _ _).1 hd with a | a
      ·exact ⟨d,a,by simp [h]⟩
      ·exact (apart_of_leaf hl x g d a h).elim
     ·rintro ⟨d,hd,h⟩
      exact ⟨d,(burs_mem _ _ _).2 (.inl hd),h⟩
    have k:(e.op.kind==(4:Int))=false:=by simp [h4]
    simp only [h4,k,Bool.false_eq_true,if_false];have j:e.op.kind=5:=by have:=kind_of he;omega
    simp only [j,beq_self_eq_true,if_true];rw [refLay_is (by omega)];rfl
   ·have c:(wp e.op.kind != l.typ)=true:=by simp [hk]
    simp only [c,if_true,hk,ne_eq,not_false_eq_true,Bool.false_eq_true,if_false,zeroLf]

end Go.Vv
