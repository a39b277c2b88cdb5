/- Plain laws, as far as they are leaned on. -/
import Derived.Test.YtgeajmfobeecbaaGreatD
import Derived.Test.YtgeajmfobeecbaaGreatVvMr
set_option linter.all false
namespace Go.Vv
open Go
variable {i n d:Nat} {b:UInt8} {σ:Type} {L:List GI} {f there:Bool} {q:GE->Bool} {l x:GE} {a:List UInt8} {ls L0 A B:List GE} {r:GH} {del:GE->Option Bool} {k:Int} {e:GC} {rs ra rb:List GH}
def alnum (b:UInt8):Bool:=(decide (97<=b.toNat)&&decide (b.toNat<=122)) || (decide (65<=b.toNat)&&decide (b.toNat<=90)) || (decide (48<=b.toNat)&&decide (b.toNat<=57))
def other (r:Int):Bool:=!((decide (97<=r)&&decide (r<=122)) || (decide (65<=r)&&decide (r<=90)) || (decide (48<=r)&&decide (r<=57)))
def runeIdx (q:Int->Bool) (s:List UInt8) (i:Nat):Int :=
 if h:i < s.length then (if q (dec s i).1 then i else if (dec s i).2=0 then -1 else runeIdx q s (i+(dec s i).2)) else -1
termination_by s.length - i
decreasing_by omega
theorem dec_width (s:List UInt8) (i:Nat) (h:i < s.length):1<=(dec s i).2:=by
 have hs:i < (⟨s.toArray⟩:ByteArray).size:=by simpa [ByteArray.size] using h
 by_cases ha:((⟨s.toArray⟩:ByteArray)[i]'hs).toNat < 128
 ·unfold dec;rw [decode_ascii _ i hs ha];exact uh _
 ·exact (decode_high _ i hs (by omega)).2
theorem dec_low {s:List UInt8} (c:s[i]?=some b) (h:b.toNat < 128):dec s i=(b.toNat,1):=by
 have g:i < s.length:=(uc.1 c).1;have hs:i < (⟨s.toArray⟩:ByteArray).size:=by simpa [ByteArray.size] using g
 have e:((⟨s.toArray⟩:ByteArray)[i]'hs)=b:=by
  have j:((⟨s.toArray⟩:ByteArray)[i]'hs)=s[i]:=rfl;rw [j];rw [ug g] at c;injection c
 unfold dec;rw [decode_ascii _ i hs (by rw [e];exact h),e]
theorem dec_hi {s:List UInt8} (c:s[i]?=some b) (h:128<=b.toNat):128<=(dec s i).1:=by
 have g:i < s.length:=(uc.1 c).1;have hs:i < (⟨s.toArray⟩:ByteArray).size:=by simpa [ByteArray.size] using g
 have e:((⟨s.toArray⟩:ByteArray)[i]'hs)=b:=by
  have j:((⟨s.toArray⟩:ByteArray)[i]'hs)=s[i]:=rfl;rw [j];rw [ug g] at c;injection c
 exact (decode_high _ i hs (by rw [e];exact h)).1
theorem other_alnum:other (b.toNat:Int)=!alnum b:=by
 unfold other alnum;congr 1;rw [uw];simp;omega
theorem rune_all {s:List UInt8} (h:s.all alnum=true):∀(n i:Nat),s.length - i=n->runeIdx other s i=-1
 | n,i,hn=>by
  rw [runeIdx.eq_def];by_cases hi:i < s.length
  ·rw [pu hi];have j:s[i]?=some s[i]:=ug hi;have g:alnum s[i]=true:=by rw [ux] at h;exact h _ (sg hi)
   have c:s[i].toNat < 128:=by
    unfold alnum at g;simp only [uY,ud,uj] at g;omega
   rw [dec_low j c];simp only [other_alnum,g,tx,ul,uK,pA];exact rune_all h (s.length - (i+1)) (i+1) rfl
  ·rw [dif_neg hi]
 termination_by n=>n
 decreasing_by omega
theorem rune_some {s:List UInt8} {k:Nat} {b:UInt8} (c:s[k]?=some b) (j:alnum b=false):∀(n i:Nat),k - i=n->i<=k->0<=runeIdx other s i
 | n,i,hn,hik=>by
  have o:k < s.length:=(uc.1 c).1;have hi:i < s.length:=by omega
  rw [runeIdx.eq_def,pu hi];by_cases ho:other ((dec s i).1:Nat)=true
  ·rw [uF ho];omega
  ·rw [th ho];have h:s[i]?=some s[i]:=ug hi;have g:s[i].toNat < 128:=by
    refine Decidable.byContradiction λhh=>ho ?_;have:=dec_hi h (by omega);unfold other;simp;omega
   rw [dec_low h g] at ho ⊢;rw [other_alnum] at ho;have m:i ≠ k:=by
    rintro rfl
    rw [h] at c;injection c with c;subst c;rw [j] at ho;exact ho rfl
   simp only [pA,uK];exact rune_some c j (k - (i+1)) (i+1) rfl (by omega)
 termination_by n=>n
 decreasing_by omega

def nameB (s:zd):Bool:=decide (1<=s.length)&&decide (s.length<=12)&&s.all alnum
def xL (p:List zd):Bool:=decide (1<=p.length)&&decide (p.length<=3)&&p.all nameB
theorem bnd1 (n:Nat):decide ((n:Int) >= 1)=decide (1<=n):=tT.2 (by omega)
theorem bnd12 (n:Nat):decide ((n:Int)<=12)=decide (n<=12):=tT.2 (by omega)
theorem bnd3 (n:Nat):decide ((n:Int)<=3)=decide (n<=3):=tT.2 (by omega)
theorem ref04IsName_is (s:zd):vS s=some (nameB s):=by
 unfold vS nameB;rw [loopL_all alnum false]
 ·split
  ·rename_i h;simp only [uY,uj] at h;congr 1;rw [eq_comm,sZ,sZ];left;rcases h with h | h
   ·exact .inl (uN (by omega))
   ·exact .inr (uN (by omega))
  ·rename_i h;simp only [uY,uj] at h;have g:1<=s.length:=by omega
   have c:s.length<=12:=by omega
   cases ha:s.all alnum <;> simp [g,c]
 ·intro i x _;unfold alnum;have e:(((decide ((x.toNat:Int) >= 97))&&(decide ((x.toNat:Int)<=122)) || (decide ((x.toNat:Int) >= 65))&&(decide ((x.toNat:Int)<=90))) || (decide ((x.toNat:Int) >= 48))&&(decide ((x.toNat:Int)<=57))) =
    (decide (97<=x.toNat)&&decide (x.toNat<=122) || decide (65<=x.toNat)&&decide (x.toNat<=90) || decide (48<=x.toNat)&&decide (x.toNat<=57)):=by
   rw [uw];simp;omega
  rw [e];generalize (decide (97<=x.toNat)&&decide (x.toNat<=122) || decide (65<=x.toNat)&&decide (x.toNat<=90) || decide (48<=x.toNat)&&decide (x.toNat<=57))=b;cases b <;> rfl
theorem rune_loop (q:Int->Bool) (s:zd) {f:Nat->Option (Out Int Nat)} (c:∀i,f i=if i < s.length then (if q (dec s i).1=true then some (.ret (i:Int)) else some (.nxt (i+(dec s i).2))) else some (.brk i)) :
  ∀(k i:Nat),s.length - i=k->lp (yX f i) (λ_=>some (-1:Int))=some (runeIdx q s i)
 | k,i,hk=>by
  rw [xi,runeIdx.eq_def,c];by_cases h:i < s.length
  ·have g:=dec_width s i h;rw [uF h,pu h];by_cases hq:q (dec s i).1=true
   ·simp [hq]
   ·have h0:¬ (dec s i).2=0:=by omega
    simp only [th hq,th h0];exact rune_loop q s c (s.length - (i+(dec s i).2)) _ rfl
  ·rw [th h,dif_neg h];rfl
 termination_by k=>k
 decreasing_by omega
theorem stringsContains_other (s:zd):xB s (λx=>qF x)=some (!s.all alnum):=by
 have e:(λx=>qF x)=λx=>some (other x):=by
  funext x;unfold qF other;congr 1;rw [uw];simp
 unfold xB ve wM;rw [e,rune_loop other s (λi=>by simp) _ 0 rfl];simp only [ua];congr 1;cases h:s.all alnum with
 | true=>rw [rune_all h _ 0 rfl];rfl
 | false =>
  rw [List.all_eq_false] at h;obtain ⟨b,g,j⟩:=h;obtain ⟨k,c,rfl⟩:=List.getElem_of_mem g;have:=rune_some (ug c) (by simpa using j) _ 0 rfl (tK _);simp [this]
theorem opIsName_is (s:zd):opIsName s=some (nameB s):=by
 unfold opIsName nameB;rw [stringsContains_other,bnd1,bnd12];cases h1:decide (1<=s.length) <;> cases h2:decide (s.length<=12) <;> simp
theorem contains_is {f:zd->Option Bool} {q:zd->Bool} (p:List zd) (c:∀x ∈ p,f x=some (q x)):yz p f=some (p.any q):=by
 unfold yz xN;rw [first_loop p c];simp only [ua,firstI_any]
theorem opMayPath_is (p:List zd):qE p=some (xL p):=by
 unfold qE xL;rw [contains_is (q:=λs=>!nameB s) p (λx _=>by unfold opMayPathC1;rw [opIsName_is];rfl),bnd1,bnd3];have e:p.any (λs=>!nameB s)=!p.all nameB:=by rw [uw];simp
 rw [e];cases h1:decide (1<=p.length) <;> cases h2:decide (p.length<=3) <;> simp
def actorB (a:GJ):Bool:=decide (a.rep < 16)&&decide (a.inc >= 1)&&decide (a.inc<=4)
def qb (d:GF):Bool:=actorB d.actor&&decide (d.seq >= 1)&&decide (d.seq<=1048576)
theorem dotMay_is (d:GF):dotMay d=some (qb d):=rfl
theorem ref03MayActor_is (a:GJ):vr a=some (actorB a):=by
 unfold vr actorB;have:decide (a.rep<=15)=decide (a.rep < 16):=tT.2 (by omega);rw [this]
theorem ref03May_is (d:GF):ref03May d=some (qb d):=by unfold ref03May;rw [ref03MayActor_is];rfl
def qk (a b:GF):Bool:=if a.actor.rep ≠ b.actor.rep then decide (a.actor.rep < b.actor.rep) else if a.actor.inc ≠ b.actor.inc then decide (a.actor.inc < b.actor.inc) else decide (a.seq < b.seq)
theorem ref03Less_is (a b:GF):ref03Less a b=some (qk a b):=by
 unfold ref03Less qk;by_cases h1:a.actor.rep=b.actor.rep <;> by_cases h2:a.actor.inc=b.actor.inc <;> simp [h1,h2]
def cmpI (a b:Int):Int:=if a < b then -1 else if b < a then 1 else 0
theorem cmpU8is (a b:Int):xA a b=some (cmpI a b):=by
 unfold xA w9 cmpI;simp only [sK,ua,ul,uK,uj,gt_iff_lt];split <;> (try split) <;> rfl
theorem cmpU32is (a b:Int):wm a b=some (cmpI a b):=by
 unfold wm wG cmpI;simp only [sK,ua,ul,uK,uj,gt_iff_lt];split <;> (try split) <;> rfl
theorem cmpU64is (a b:Int):xI a b=some (cmpI a b):=by
 unfold xI wF cmpI;simp only [sK,ua,ul,uK,uj,gt_iff_lt];split <;> (try split) <;> rfl
def or2 (a b:Int):Int:=if a ≠ 0 then a else b
theorem cmpOr2_is (a b:Int):cmpOrInt [a,b]=some (or2 a b):=by
 unfold cmpOrInt or2;by_cases h1:a=0 <;> by_cases h2:b=0 <;> simp [zg,h1,h2]
def actorCmp (a b:GJ):Int:=or2 (cmpI a.rep b.rep) (cmpI a.inc b.inc)
def dotCmp (a b:GF):Int:=or2 (actorCmp a.actor b.actor) (cmpI a.seq b.seq)
theorem dotXcompare_is (a b:GJ):dotXcompare a b=some (actorCmp a b):=by
 unfold dotXcompare;rw [cmpU8is,cmpU32is];simp only [ua];rw [cmpOr2_is];rfl
theorem dotCompare_is (a b:GF):qL a b=some (dotCmp a b):=by
 unfold qL;rw [dotXcompare_is,cmpU64is];simp only [ua];rw [cmpOr2_is];rfl
theorem dotCmp_lt (a b:GF):decide (dotCmp a b >= 0)=!qk a b:=by
 unfold dotCmp actorCmp qk cmpI or2
 grind

def rising:List GF->Bool
 | a::b::r=>qk a b&&rising (b::r)
 | _=>true
def wp (ds:List GF) (i:Nat) (x:GF):Bool:=decide (i=0) || qk (ds.getD (i - 1) default) x
theorem rising_loop (ds:List GF) {g:Nat->GF->Unit->Option (Out Bool Unit)}
  (s:∀i x,ds[i]?=some x->g i x ()=if (qb x&&wp ds i x)=true then some (.nxt ()) else some (.ret false)) :
  lp (zg g ds 0 ()) (λ_=>some true)=some (ds.all qb&&rising ds):=by
 have key:∀(L pre:List GF),ds=pre++L->lp (zg g L pre.length ()) (λ_=>some true)=some (L.all qb&&rising (match pre.getLast? with | some y=>y::L | none=>L)):=by
  intro L
  induction L with
  | nil=>intro pre h;cases hp:pre.getLast? <;> simp [zg,rising]
  | cons x t ih =>
   intro pre h;have u:ds[pre.length]?=some x:=by rw [h];simp
   have c:=ih (pre++[x]) (by rw [h];simp);simp only [um,ui,uH,uT,List.getLast?_append,pq,r6] at c;simp only [zg,s _ _ u];cases hp:pre.getLast? with
   | none =>
    have j:pre=[]:=pb.1 hp;subst j;simp only [uH,uT] at c ⊢;cases hd:qb x <;> simp [wp,hd,c]
   | some y =>
    have m:pre ≠ []:=by rintro rfl;simp at hp
    have h0:0 < pre.length:=sP.2 m;have o:ds.getD (pre.length - 1) default=y:=by
     rw [uu,h,uo (by omega)];rw [rk] at hp;rw [hp];rfl
    have p:wp ds pre.length x=qk y x:=by
     unfold wp;rw [o];have:decide (pre.length=0)=false:=uN (by omega);rw [this];rfl
    rw [p];cases hd:qb x <;> cases hlt:qk y x <;> simp [hd,hlt,c,rising]
 have:=key ds [] rfl;simpa using this
theorem same_loop {α:Type} [DecidableEq α] (M:List α) {eq:α->α->Bool} (g:∀a b,eq a b=decide (a=b)) {f:Nat->α->Unit->Option (Out Bool Unit)} :
  ∀(L:List α) (i:Nat),L.length+i=M.length->(∀j x,L[j]?=some x->f (i+j) x ()=(xe M ((i+j:Nat):Int)).bind λy=>if (!eq x y)=true then some (.ret false) else some (.nxt ())) ->
  zg f L i ()=if L=M.drop i then some (.inr ()) else some (.inl false)
 | [],i,hl,_=>by
  rw [tq (by simp at hl;omega)];rfl
 | x::t,i,hl,h=>by
  simp only [ui] at hl;have hi:i < M.length:=by omega
  have h0:=h 0 x rfl;simp only [tH] at h0;rw [xw hi] at h0;have o:=same_loop M g (f:=f) t (i+1) (by omega) (λj y m=>by have:=h (j+1) y m;rw [show i+1+j=i+(j+1) by omega];exact this);have e:M.drop i=M[i]::M.drop (i+1):=(sV hi).symm;simp only [zg,h0,ua,g,e];by_cases hx:x=M[i]
  ·simp only [hx,sS,tx,ul,uK,o,pz,r7]
  ·have c:¬ (x::t=M[i]::M.drop (i+1)):=λhh=>hx (List.cons.inj hh).1;simp only [uN hx,tF,uq,th c]
theorem dotEq (a b:GF):(a.actor.rep==b.actor.rep&&(a.actor.inc==b.actor.inc&&(a.seq==b.seq&&true)))=decide (a=b):=by
 rcases a with ⟨⟨h,g⟩,a3⟩;rcases b with ⟨⟨c,j⟩,m⟩
 rw [uw];simp [si]
theorem slicesEqualDot_is (L M:List GF):wR L M=some (decide (L=M)):=by
 unfold wR;by_cases hl:L.length=M.length
 ·have e:((L.length:Int) != (M.length:Int))=false:=by simp;omega
  rw [e,same_loop M dotEq L 0 (by omega) (λj x c=>by simp)];by_cases h:L=M <;> simp [h]
 ·have e:((L.length:Int) != (M.length:Int))=true:=by simp;omega
  rw [e,uN (λh=>hl (by rw [h]))];rfl
section
variable {α ρ:Type}
def qq (g:Nat->α->Bool) (L:List α):Bool:=L.zipIdx.all λp=>g p.2 p.1
theorem allI_iff {g:Nat->α->Bool} {L:List α}:qq g L=true ↔ ∀i x,L[i]?=some x->g i x=true:=by
 unfold qq;rw [ux];constructor
 ·intro h i x c;exact h (x,i) (sy.2 c)
 ·rintro h ⟨x,i⟩ c
  exact h i x (sy.1 c)
theorem loopL_allI (g:Nat->α->Bool) {r:ρ} {f:Nat->α->Unit->Option (Out ρ Unit)}:∀(L:List α) (k:Nat),(∀i x,L[i]?=some x->f (k+i) x ()=if g (k+i) x=true then some (.nxt ()) else some (.ret r)) ->
  zg f L k ()=if ((L.zipIdx k).all λp=>g p.2 p.1)=true then some (.inr ()) else some (.inl r)
 | [],_,_=>rfl
 | x::t,k,h=>by
  have h0:=h 0 x rfl;simp only [tH] at h0;have c:=loopL_allI g (f:=f) (r:=r) t (k+1) (λi y j=>by have:=h (i+1) y (by simpa using j);rw [show k+1+i=k+(i+1) by omega];exact this);simp only [zg,h0,rN,tc];by_cases hg:g k x=true
  ·simp only [hg,uq,c,u2]
  ·simp only [hg,ul,uK,s9]
theorem wx (g:Nat->α->Bool) {r:σ} {L:List α} {f:Nat->α->Unit->Option (Out σ Unit)} {rest:Unit->Option σ} (c:∀i x,L[i]?=some x->f i x ()=if g i x=true then some (.nxt ()) else some (.ret r)) :
  lp (zg f L 0 ()) rest=if qq g L=true then rest () else some r:=by
 rw [loopL_allI g L 0 (λi x h=>by simpa using c i x h)];unfold qq;split <;> rfl
theorem lp_all0 (g:α->Bool) {r:σ} {L:List α} {f:Nat->α->Unit->Option (Out σ Unit)} {rest:Unit->Option σ} (j:∀i x,L[i]?=some x->f i x ()=if g x=true then some (.nxt ()) else some (.ret r)) :
  lp (zg f L 0 ()) rest=if L.all g=true then rest () else some r:=by
 rw [wx (λ_=>g) j];have:qq (λ_=>g) L=L.all g:=by
  rw [uw,allI_iff,ux];exact ⟨λh x c=>by obtain ⟨i,hi⟩:=tb.1 c;exact h i x hi,λh i x c=>h x (uB c)⟩
 rw [this]
end
theorem vL {j:Nat} (c:j+1<=maxLen):IntKind.wrap .i64 (((j+1:Nat):Int) - 1)=(j:Int):=by
 simp only [maxLen] at c;rw [qn (by omega)];omega
theorem wrap_add1 {j:Nat} (c:j+1<=maxLen):IntKind.wrap .i64 ((j:Int)+1)=((j+1:Nat):Int):=by
 simp only [maxLen] at c;rw [qn (by omega)];omega
theorem qZ (j:Nat):decide (((j+1:Nat):Int) > 0)=true:=uR (by omega)
def timeB (n:Int):Bool:=decide (n >= 1)&&decide (n<=1099511627776)
def aheadI (a b:GI):Bool:=if a.time ≠ b.time then decide (a.time < b.time) else qk a.dot b.dot
theorem leafXisTime_is (n:Int):leafXisTime n=some (timeB n):=rfl
theorem leafXisText_is (s:zd):vX s=some (decide (s.length<=40)):=by unfold vX;rw [tT.2 (show ((s.length:Int)<=40) ↔ s.length<=40 by omega)]
theorem dotCmp_neg (a b:GF):decide (dotCmp a b < 0)=qk a b:=by
 have h:=dotCmp_lt a b;have:decide (dotCmp a b < 0)=!decide (dotCmp a b >= 0):=by rw [uw];simp
 rw [this,h,Bool.not_not]
theorem leafAhead_is (a:Int) (d:GF) (b:Int) (o:GF):leafAhead a d b o=some (if a ≠ b then decide (a < b) else qk d o):=by
 unfold leafAhead leafXcompare;rw [cmpU64is,dotCompare_is];simp only [ua,cmpOr2_is];congr 1;by_cases h:a=b
 ·subst h;have:cmpI a a=0:=by unfold cmpI;simp
  simp [or2,this,dotCmp_neg]
 ·have:cmpI a b ≠ 0:=by unfold cmpI;split <;> (try split) <;> omega
  simp only [or2,this,ne_eq,not_false_eq_true,uq,h];unfold cmpI;rw [uw];simp only [uj];split <;> (try split) <;> omega
theorem ref05Ahead_is (a:Int) (d:GF) (b:Int) (o:GF):ref05Ahead a d b o=some (if a ≠ b then decide (a < b) else qk d o):=by
 unfold ref05Ahead;by_cases h:a=b <;> simp [h,ref03Less_is]
def prevI {α:Type} [Inhabited α] (L:List α) (i:Nat):α:=L.getD (i - 1) default
def vw (timed:Bool) (x:GI):Bool:=qb x.dot&&decide (x.text.length<=40)&&(if timed then timeB x.time else decide (x.time=0))
def riseB (L:List GI):Bool:=qq (λi x=>decide (i=0) || aheadI (prevI L i) x) L
def onceB (L:List GI):Bool:=decide ((L.map (·.dot)).Nodup)
theorem eqb_iff (a b:GF):GF.eqb a b=decide (a=b):=by unfold GF.eqb;exact dotEq a b
def qi (m:List (GF×Int)):List GF:=m.map (·.1)
theorem mput_keys (m:List (GF×Int)) (k:GF) (v:Int):qi (mput GF.eqb m k v)=if k ∈ qi m then qi m else qi m++[k]:=by
 induction m with
 | nil=>simp [mput,qi]
 | cons e r ih =>
  simp only [mput,eqb_iff];by_cases h:k=e.1
  ·simp [h,qi]
  ·simp only [uN h,ul,uK,qi,uD,ut] at ih ⊢;rw [ih];by_cases h2:k ∈ r.map (·.1) <;> simp [h,h2]
theorem twice_fold:∀(L:List GI) (m:List (GF×Int)),(qi m).Nodup ->
  (L.foldl (λs x=>mput GF.eqb s x.dot (IntKind.wrap .i64 ((ze GF.eqb 0 s x.dot)+1))) m).length<=m.length+L.length /\
  ((L.foldl (λs x=>mput GF.eqb s x.dot (IntKind.wrap .i64 ((ze GF.eqb 0 s x.dot)+1))) m).length=m.length+L.length ↔ (qi m++L.map (·.dot)).Nodup)
 | [],m,h=>by simp [h]
 | x::t,m,h=>by
  simp only [sI];have c:=mput_keys m x.dot (IntKind.wrap .i64 ((ze GF.eqb 0 m x.dot)+1));generalize hm:mput GF.eqb m x.dot (IntKind.wrap .i64 ((ze GF.eqb 0 m x.dot)+1))=m' at c;have j:m'.length=(qi m').length:=by simp [qi]
  have y:m.length=(qi m).length:=by simp [qi]
  by_cases hx:x.dot ∈ qi m
  ·rw [uF hx] at c;have g:=twice_fold t m' (by rw [c];exact h);rw [c] at g j;refine ⟨by simp only [ui];omega,?_⟩;constructor
   ·intro v;simp only [ui] at v;omega
   ·intro u;rw [List.nodup_append] at u;exact absurd rfl (u.2.2 _ hx _ (by simp))
  ·rw [th hx] at c;have o:(qi m++[x.dot]).Nodup:=by
    rw [List.nodup_append];refine ⟨h,by simp,λa w b p=>?_⟩;simp at p;subst p;rintro rfl;exact hx w
   have g:=twice_fold t m' (by rw [c];exact o);rw [c] at g j;simp only [um,ui,uH] at j;refine ⟨by simp only [ui];omega,?_⟩;have e:qi m++[x.dot]++t.map (·.dot)=qi m++(x::t).map (·.dot):=by simp
   rw [<- e,<- g.2];simp only [ui];omega
theorem leafXtwice_is (L:List GI):leafXtwice L=some (!onceB L):=by
 unfold leafXtwice;rw [loopL_fold (λs x=>mput GF.eqb s x.dot (IntKind.wrap .i64 ((ze GF.eqb 0 s x.dot)+1))) L 0 [] (λ_ _ _ _=>rfl)];have h:=twice_fold L [] (by simp [qi]);simp only [uH,uT,qi,tS,uU] at h;simp only [yp,onceB];congr 1;generalize List.length (List.foldl _ _ _)=n at h ⊢;by_cases hn:(L.map (·.dot)).Nodup
 ·have:=h.2.2 hn;rw [uR hn,uN (by omega)];rfl
 ·have c:n ≠ L.length:=λe=>hn (h.2.1 e);rw [uN hn,uR (by omega)];rfl
theorem leafXitems_is (o:L.length<=maxLen) (c:Bool):qI L c=some (L.all (vw c)&&riseB L&&onceB L):=by
 unfold qI;rw [wx (r:=false) (λi x=>vw c x&&(decide (i=0) || aheadI (prevI L i) x))]
 ·rw [leafXtwice_is];have e:qq (λi x=>vw c x&&(decide (i=0) || aheadI (prevI L i) x)) L=(L.all (vw c)&&riseB L):=by
   rw [uw,ud,riseB,allI_iff,allI_iff,ux];constructor
   ·intro h;exact ⟨λx g=>by obtain ⟨i,hi⟩:=tb.1 g;have:=h i x hi;simp only [ud] at this;exact this.1,λi x g=>by have:=h i x g;simp only [ud] at this;exact this.2⟩
   ·rintro ⟨t,p⟩ i x g
    simp only [ud];exact ⟨t x (uB g),p i x g⟩
  rw [e];simp only [ua,Bool.not_not];cases L.all (vw c)&&riseB L <;> simp
 ·intro i x g;have hi:i < L.length:=(uc.1 g).1;simp only [dotMay_is,leafXisText_is,leafXisTime_is,ua,leafAhead_is];have u:vw c x=(qb x.dot&&decide (x.text.length<=40)&&(c==timeB x.time)&&(c || decide (x.time=0))):=by
   unfold vw;cases c
   ·by_cases h0:x.time=0
    ·simp [h0,show timeB 0=false from rfl]
    ·simp [h0]
   ·simp
  rw [u];cases hd:qb x.dot
  ·simp
  cases ht:decide (x.text.length<=40)
  ·simp
  by_cases htt:c=timeB x.time
  ·have v:(x.time != 0)=!decide (x.time=0):=by rw [uw];simp
   have m:(c==timeB x.time)=true:=by simpa using htt
   rw [v,m];cases hzz:(c || decide (x.time=0))
   ·have:(!c&&!decide (x.time=0))=true:=by rw [<- Bool.not_or,hzz];rfl
    simp [this]
   have:(!c&&!decide (x.time=0))=false:=by rw [<- Bool.not_or,hzz];rfl
   rw [this];rcases i with _ | j
   ·simp [yw,htt]
   ·rw [vL (by simp only [maxLen] at o ⊢;omega),qZ];have s:(j:Int) < (L.length:Int):=by omega
    simp [yw,s,prevI,aheadI,htt];by_cases hq:(L[j]?.getD default).time=x.time
    ·cases hdl:qk (L[j]?.getD default).dot x.dot <;> simp [hq,hdl]
    ·by_cases hlt:(L[j]?.getD default).time < x.time
     ·simp [hq,hlt,Int.not_le.2 hlt]
     ·simp [hq,hlt,Int.not_lt.1 hlt]
  ·have m:(c==timeB x.time)=false:=by simpa using htt
   rw [m];simp [htt]

theorem itemEq (a b:GI):(a.time==b.time&&(a.dot.actor.rep==b.dot.actor.rep&&(a.dot.actor.inc==b.dot.actor.inc&&(a.dot.seq==b.dot.seq&&(a.text==b.text&&true)))))=decide (a=b):=by
 rcases a with ⟨a0,⟨⟨h,g⟩,a3⟩,a4⟩;rcases b with ⟨b0,⟨⟨c,j⟩,o⟩,m⟩
 rw [uw];simp [si]
theorem slicesEqualItem_is (L M:List GI):wB L M=some (decide (L=M)):=by
 unfold wB;by_cases hl:L.length=M.length
 ·have e:((L.length:Int) != (M.length:Int))=false:=by simp;omega
  rw [e,same_loop M itemEq L 0 (by omega) (λj x c=>by simp)];by_cases h:L=M <;> simp [h]
 ·have e:((L.length:Int) != (M.length:Int))=true:=by simp;omega
  rw [e,uN (λh=>hl (by rw [h]))];rfl
theorem xG (a b:GE):y6 a b=some (decide (a=b)):=by
 unfold y6;simp only [slicesEqualItem_is,slicesEqualDot_is,dotEq];rcases a with ⟨a0,j,h,a3,a4,a5,t⟩;rcases b with ⟨b0,c,o,s,p,g,m⟩
 simp only [GE.mk.injEq];by_cases h0:a0=b0 <;> by_cases h1:j=c <;> by_cases h2:h=o <;> by_cases h3:a3=s <;> by_cases h4:a4=p <;> by_cases h5:a5=g <;> by_cases h6:t=m <;> simp [h0,h1,h2,h3,h4,h5,h6]
def dot0:GF:=⟨⟨0,0⟩,0⟩
def zeroB (l:GE):Bool:=decide (l.time=0)&&decide (l.dot=dot0)&&decide (l.text=[])
def tombsB (l:GE):Bool:=l.tombs.all qb&&rising l.tombs&&l.tombs.all (λd=>!l.items.any λx=>decide (x.dot=d))
def leafB (l:GE):Bool :=
 if l.typ=1 then zeroB l&&decide (l.items=[])&&decide (l.tombs=[])
 else if l.typ=2 then decide (l.n=0)&&decide (l.items=[])&&decide (l.tombs=[])&&(if l.time=0 then decide (l.dot=dot0)&&decide (l.text=[]) else timeB l.time&&qb l.dot&&decide (l.text.length<=40))
 else if l.typ=3 then decide (l.n=0)&&zeroB l&&(l.items.all (vw false)&&riseB l.items&&onceB l.items)&&tombsB l
 else if l.typ=4 then decide (l.n=0)&&zeroB l&&decide (l.tombs=[])&&(l.items.all (vw true)&&riseB l.items&&onceB l.items)
 else false
theorem containsItem_is {f:GI->Option Bool} {q:GI->Bool} (p:List GI) (c:∀x ∈ p,f x=some (q x)):yZ p f=some (p.any q):=by
 unfold yZ wh;rw [first_loop p c,ua,firstI_any]
theorem leafXhas_is (L:List GI) (d:GF):leafXhas L d=some (L.any λx=>decide (x.dot=d)):=by
 unfold leafXhas;rw [containsItem_is (q:=λx=>decide (x.dot=d)) L (λx _=>by unfold leafXhasC1;rw [dotEq]),ua]
theorem rising_allI (ds:List GF):rising ds=qq (λi x=>wp ds i x) ds:=by
 have h:=rising_loop ds (g:=λi x _=>if (qb x&&wp ds i x)=true then some (.nxt ()) else some (.ret false)) (λ_ _ _=>rfl);have key:∀(L pre:List GF),ds=pre++L->rising (match pre.getLast? with | some y=>y::L | none=>L)=(L.zipIdx pre.length).all λp=>wp ds p.2 p.1:=by
  intro L
  induction L with
  | nil=>intro pre _;cases pre.getLast? <;> simp [rising]
  | cons x t ih =>
   intro pre hd;have c:=ih (pre++[x]) (by rw [hd];simp);simp only [um,ui,uH,uT,List.getLast?_append,pq,r6] at c;simp only [rN,tc];cases hp:pre.getLast? with
   | none =>
    have j:pre=[]:=pb.1 hp;subst j;simp only [uH,uT] at c ⊢;rw [c];simp [wp]
   | some y =>
    have m:pre ≠ []:=by rintro rfl;simp at hp
    have h0:0 < pre.length:=sP.2 m;have o:ds.getD (pre.length - 1) default=y:=by
     rw [uu,hd,uo (by omega)];rw [rk] at hp;rw [hp];rfl
    have s:wp ds pre.length x=qk y x:=by
     unfold wp;rw [o,uN (by omega)];rfl
    rw [s,<- c];simp [rising]
 simpa [qq] using key ds [] rfl
theorem leafXtombs_is (m:l.tombs.length<=maxLen):leafXtombs l=some (tombsB l):=by
 unfold leafXtombs;rw [wx (r:=false) (λi x=>qb x&&wp l.tombs i x&&!(l.items.any λy=>decide (y.dot=x)))]
 ·have e:qq (λi x=>qb x&&wp l.tombs i x&&!(l.items.any λy=>decide (y.dot=x))) l.tombs=tombsB l:=by
   unfold tombsB;rw [uw,rising_allI,ud,ud,allI_iff,allI_iff,ux,ux];constructor
   ·intro h;refine ⟨⟨λx c=>?_,λi x c=>?_⟩,λx c=>?_⟩
    ·obtain ⟨i,hi⟩:=tb.1 c;have:=h i x hi;simp only [ud] at this;exact this.1.1
    ·have:=h i x c;simp only [ud] at this;exact this.1.2
    ·obtain ⟨i,hi⟩:=tb.1 c;have:=h i x hi;simp only [ud] at this;exact this.2
   ·rintro ⟨⟨s,o⟩,t⟩ i x c
    have g:=uB c;simp only [ud];exact ⟨⟨s x g,o i x c⟩,t x g⟩
  rw [e];cases tombsB l <;> rfl
 ·intro i x c;have hi:i < l.tombs.length:=(uc.1 c).1;simp only [dotMay_is,ua,dotCompare_is,leafXhas_is];cases hd:qb x
  ·simp [yw]
  rcases i with _ | j
  ·cases hh:(l.items.any λy=>decide (y.dot=x)) <;> simp [yw,wp]
  ·rw [vL (by simp only [maxLen] at m ⊢;omega),qZ];have u:(j:Int) < (l.tombs.length:Int):=by omega
   have p:wp l.tombs (j+1) x=qk (l.tombs.getD j default) x:=by unfold wp;simp
   have e:=dotCmp_lt (l.tombs.getD j default) x;rw [zn (by intro _;omega),p,uM];generalize l.tombs.getD j default=y at e ⊢;simp only [tx,BEq.rfl,u2,uq,ua,e,tN];cases hlt:qk y x
   ·simp
   ·cases hh:(l.items.any λy=>decide (y.dot=x)) <;> simp
theorem leafMay_is (hi:l.items.length<=maxLen) (m:l.tombs.length<=maxLen):leafMay l=some (leafB l):=by
 unfold leafMay leafB;simp only [xG,leafXisTime_is,dotMay_is,leafXisText_is,leafXitems_is hi,leafXtombs_is m,dotEq,ua];rcases l with ⟨t,n,g,d,h,c,j⟩
 simp only [GE.mk.injEq,zeroB,tX,dot0];by_cases h1:t=1
 ·simp only [h1,uq];congr 1;rw [uw];simp [si];intros;exact r9.symm
 by_cases h2:t=2
 ·subst h2;by_cases h0:g=0
  ·subst h0;by_cases hd:d=⟨⟨0,0⟩,0⟩
   ·by_cases hx:h=[]
    ·simp [hd,hx];rw [uw];simp [si]
    ·simp [hd,hx]
   ·have v:((0:Int)==0&&!decide (d=⟨⟨0,0⟩,0⟩))=true:=by simp [hd]
    simp [hd];intro p;rcases d with ⟨⟨u,o⟩,s⟩
    simp_all
  ·cases htt:timeB g <;> cases hdd:qb d <;> cases hxx:decide (h.length<=40) <;> simp_all [si];rw [uw];simp [si]
 by_cases h3:t=3
 ·subst h3;cases ha:(c.all (vw false)&&riseB c&&onceB c) <;> cases hb:tombsB ⟨3,n,g,d,h,c,j⟩ <;> simp [si];rw [uw];simp [si];intros;exact r9.symm
 by_cases h4:t=4
 ·subst h4;cases ha:(c.all (vw true)&&riseB c&&onceB c) <;> simp [si];rw [uw];simp [si];intros;exact r9.symm
 simp [h1,h2,h3,h4]

theorem ref05Item_is (L:List GI) (d:GF):ref05Item L d=some (qJ (λx=>decide (x.dot=d)) L):=by
 unfold ref05Item;rw [loopL_first (λx:GI=>decide (x.dot=d)) (λi _=>(i:Int)) _ _ (λi x _=>by rw [dotEq])];unfold qJ;cases h:L.findIdx? (λx=>decide (x.dot=d)) with
 | none=>simp
 | some j =>
  obtain ⟨c,_⟩:=sF.1 h;simp [ug c]
theorem ref05Tomb_is (L:List GF) (d:GF):ref05Tomb L d=some (L.any λx=>decide (x=d)):=by
 unfold ref05Tomb;rw [lp_all0 (r:=true) (λx:GF=>!decide (x=d)) (λi x _=>by rw [dotEq];cases decide (x=d) <;> rfl)];have e:L.any (λx=>decide (x=d))=!L.all (λx=>!decide (x=d)):=by rw [uw];simp
 rw [e];cases L.all (λx=>!decide (x=d)) <;> rfl
theorem first_nodup (L:List GI):(∀(i:Nat) (x:GI),L[i]?=some x->qJ (λy:GI=>decide (y.dot=x.dot)) L=(i:Int)) ↔ (L.map (·.dot)).Nodup:=by
 constructor
 ·intro h;rw [pa,tp];intro i j hi c p e;simp only [uA] at hi c;simp only [List.getElem_map] at e;have m:=h i _ (ug hi);have o:=h j _ (ug c);rw [e] at m;rw [m] at o;omega
 ·intro h i x s;obtain ⟨hi,rfl⟩:=uc.1 s;unfold qJ;have:L.findIdx? (λy=>decide (y.dot=L[i].dot))=some i:=by
   rw [sF];refine ⟨hi,by simp,λj c=>?_⟩;have g:j < L.length:=by omega
   simp only [uj];intro e;rw [pa,tp] at h;exact h j i (by simpa using g) (by simpa using hi) c (by simpa using e)
  rw [this]
def itemR (t:Int) (x:GI):Bool:=qb x.dot&&decide (x.text.length<=40)&&(decide (t ≠ 3) || decide (x.time=0))&&(decide (t ≠ 4) || timeB x.time)
def tailB (l:GE):Bool:=l.items.all (itemR l.typ)&&onceB l.items&&l.items.all (λx=>!(l.tombs.any λy=>decide (y=x.dot)))&&riseB l.items&&(l.tombs.all qb&&rising l.tombs)
theorem items_allI (l:GE):qq (λi x=>itemR l.typ x&&(decide (qJ (λy:GI=>decide (y.dot=x.dot)) l.items=(i:Int))&&(!(l.tombs.any λy=>decide (y=x.dot))&&(decide (i=0) || aheadI (prevI l.items i) x)))) l.items =
  (l.items.all (itemR l.typ)&&onceB l.items&&l.items.all (λx=>!(l.tombs.any λy=>decide (y=x.dot)))&&riseB l.items):=by
 rw [uw,allI_iff];simp only [ud,uj,onceB,riseB,allI_iff,ux,<- first_nodup];constructor
 ·intro h;refine ⟨⟨⟨λx c=>?_,λi x c=>(h i x c).2.1⟩,λx c=>?_⟩,λi x c=>(h i x c).2.2.2⟩
  ·obtain ⟨i,hi⟩:=tb.1 c;exact (h i x hi).1
  ·obtain ⟨i,hi⟩:=tb.1 c;exact (h i x hi).2.2.1
 ·rintro ⟨⟨⟨o,j⟩,p⟩,m⟩ i x c
  have g:=uB c;exact ⟨o x g,j i x c,p x g,m i x c⟩
theorem tombs_allI (ds:List GF):qq (λi x=>qb x&&wp ds i x) ds=(ds.all qb&&rising ds):=by
 rw [uw,allI_iff,rising_allI];simp only [ud,allI_iff,ux];constructor
 ·intro h;exact ⟨λx c=>by obtain ⟨i,hi⟩:=tb.1 c;exact (h i x hi).1,λi x c=>(h i x c).2⟩
 ·rintro ⟨j,g⟩ i x c
  exact ⟨j x (uB c),g i x c⟩
theorem ref05May_is (hi:l.items.length<=maxLen) (D:l.tombs.length<=maxLen) (h0:0<=l.time):ref05May l=some (leafB l):=by
 unfold ref05May;simp only [ref03May_is,ref05Item_is,ref05Tomb_is,ref05Ahead_is,ref03Less_is,ua,dotEq];generalize hT:lp (zg _ l.items 0 ()) _=T;have M:decide ((l.items.length:Int) > 0)=!decide (l.items=[]):=by cases l.items <;> simp
 have N:decide ((l.tombs.length:Int) > 0)=!decide (l.tombs=[]):=by cases l.tombs <;> simp
 have s:T=some (tailB l):=by
  rw [<- hT,wx (r:=false) (λi x=>itemR l.typ x&&(decide (qJ (λy:GI=>decide (y.dot=x.dot)) l.items=(i:Int))&&(!(l.tombs.any λy=>decide (y=x.dot))&&(decide (i=0) || aheadI (prevI l.items i) x))))]
  ·rw [wx (r:=false) (λi x=>qb x&&wp l.tombs i x)]
   ·rw [items_allI,tombs_allI];unfold tailB;cases (l.items.all (itemR l.typ)&&onceB l.items&&l.items.all (λx=>!(l.tombs.any λy=>decide (y=x.dot)))&&riseB l.items) <;> cases (l.tombs.all qb&&rising l.tombs) <;> simp
   ·intro i x g;have v:i < l.tombs.length:=(uc.1 g).1;have p:l.tombs.getD i default=x:=by rw [uu,g];rfl
    rcases i with _ | j
    ·cases hd:qb x <;> simp [yw,wp]
    ·rw [vL (by simp only [maxLen] at D ⊢;omega),qZ,uM,uM,p];have z:wp l.tombs (j+1) x=qk (l.tombs.getD j default) x:=by unfold wp;simp
     rw [zn (by intro _;omega),zn (by intro _;omega),z];generalize l.tombs.getD j default=y;cases hd:qb x <;> cases o:qk y x <;> simp
  ·intro i x g;have v:i < l.items.length:=(uc.1 g).1;have C:decide ((x.text.length:Int) > 40)=!decide (x.text.length<=40):=by rw [uw];simp;omega
   have I:(((l.typ==4)&&(decide (x.time < 1) || decide (x.time > 1099511627776))))=!(decide (l.typ ≠ 4) || timeB x.time):=by
    rw [uw];simp [timeB]
   have E:((l.typ==3)&&(x.time != 0))=!(decide (l.typ ≠ 3) || decide (x.time=0)):=by rw [uw];simp
   rw [C,I,E];have O:(((!qb x.dot || !decide (x.text.length<=40)) || !(decide (l.typ ≠ 3) || decide (x.time=0))) || !(decide (l.typ ≠ 4) || timeB x.time))=!itemR l.typ x:=by unfold itemR;simp only [Bool.not_and]
   rw [O];have J:(qJ (λy:GI=>decide (y.dot=x.dot)) l.items != (i:Int))=!decide (qJ (λy:GI=>decide (y.dot=x.dot)) l.items=(i:Int)):=by rw [uw];simp
   cases hr:itemR l.typ x
   ·simp
   simp only [tx,BEq.rfl,uq,ua,tN];rw [J];cases hf:decide (qJ (λy:GI=>decide (y.dot=x.dot)) l.items=(i:Int))
   ·simp
   cases htb:l.tombs.any λy=>decide (y=x.dot)
   ·rcases i with _ | j
    ·simp [yw]
    ·rw [vL (by simp only [maxLen] at hi ⊢;omega),qZ,uM];rw [zn (by intro _;omega),zn (by intro _;omega)];have z:(if (l.items.getD j default).time ≠ x.time then decide ((l.items.getD j default).time < x.time) else qk (l.items.getD j default).dot x.dot)=aheadI (prevI l.items (j+1)) x:=rfl;rw [z];cases aheadI (prevI l.items (j+1)) x <;> simp
   ·simp
 subst s;clear hT;rw [M,N];have G:(l.time != 0)=!decide (l.time=0):=by rw [uw];simp
 have F:(l.time==0)=decide (l.time=0):=by rw [uw];simp
 have z3:(l.text==([]:zd))=decide (l.text=[]):=by rw [uw];simp
 have z4:decide (l.time > 1099511627776)=!decide (l.time<=1099511627776):=by rw [uw];simp
 have z5:decide ((l.text.length:Int) > 40)=!decide (l.text.length<=40):=by rw [uw];simp;omega
 have u:zeroB l=(decide (l.time=0)&&decide (l.dot=dot0)&&decide (l.text=[])):=rfl;have H:(l.dot.actor.rep==0&&(l.dot.actor.inc==0&&(l.dot.seq==0&&true)))=decide (l.dot=dot0):=dotEq l.dot dot0;rw [G,F,z3,z4,z5,H];by_cases h1:l.typ=1
 ·have hi:decide (l.items=[])=true->tailB l=(l.tombs.all qb&&rising l.tombs):=by
   intro h;have:=u9 h;unfold tailB;rw [this];simp [onceB,riseB,qq]
  unfold leafB;simp only [h1,uq,u];cases hi2:decide (l.items=[])
  ·simp
  ·rw [hi hi2];cases ht2:decide (l.tombs=[])
   ·simp
   ·have:=u9 ht2;rw [this];cases decide (l.time=0) <;> cases decide (l.dot=dot0) <;> cases decide (l.text=[]) <;> simp [rising]
 by_cases h2:l.typ=2
 ·have hi:decide (l.items=[])=true->tailB l=(l.tombs.all qb&&rising l.tombs):=by
   intro h;have:=u9 h;unfold tailB;rw [this];simp [onceB,riseB,qq]
  unfold leafB;have m:timeB l.time=(!decide (l.time=0)&&decide (l.time<=1099511627776)):=by
   unfold timeB;rw [uw];simp;omega
  simp only [h2,uq,m];cases hn:decide (l.n=0)
  ·have:(l.n != 0)=true:=by simpa using hn
   simp [this]
  ·have c:l.n=0:=u9 hn;cases hi2:decide (l.items=[])
   ·simp [c]
   ·rw [hi hi2];cases ht2:decide (l.tombs=[])
    ·simp [c]
    ·have:=u9 ht2;rw [this];by_cases ht0:l.time=0
     ·cases hdd:decide (l.dot=dot0) <;> cases htx:decide (l.text=[]) <;> simp [c,ht0,rising]
     ·cases hm:decide (l.time<=1099511627776) <;> cases hdd:qb l.dot <;> cases htx:decide (l.text.length<=40) <;> simp [c,ht0,rising]
 by_cases h3:l.typ=3
 ·have w:(λx=>itemR 3 x)=vw false:=by
   funext x;unfold itemR vw;simp
  have t:tailB l=(l.items.all (vw false)&&riseB l.items&&onceB l.items&&tombsB l):=by
   unfold tailB tombsB;rw [h3,show itemR 3=vw false from w];have K:l.items.all (λx=>!(l.tombs.any λy=>decide (y=x.dot)))=l.tombs.all (λd=>!l.items.any λx=>decide (x.dot=d)):=by
    rw [uw];simp only [ux,tU,List.any_eq_false,uj];exact ⟨λh d hd x g e=>h x g d hd e.symm,λh x g d hd e=>h d hd x g e.symm⟩
   rw [K];cases l.items.all (vw false) <;> cases onceB l.items <;> cases riseB l.items <;> cases l.tombs.all qb <;> cases rising l.tombs <;> cases l.tombs.all (λd=>!l.items.any λx=>decide (x.dot=d)) <;> rfl
  unfold leafB;simp only [h3,t,u];cases hn:decide (l.n=0)
  ·have:(l.n != 0)=true:=by simpa using hn
   simp [this]
  ·have c:l.n=0:=u9 hn;cases decide (l.time=0) <;> cases decide (l.dot=dot0) <;> cases decide (l.text=[]) <;> simp [c]
 by_cases h4:l.typ=4
 ·have w:(λx=>itemR 4 x)=vw true:=by
   funext x;unfold itemR vw;simp
  have t:decide (l.tombs=[])=true->tailB l=(l.items.all (vw true)&&riseB l.items&&onceB l.items):=by
   intro h;have:=u9 h;unfold tailB;rw [h4,show itemR 4=vw true from w,this];cases l.items.all (vw true) <;> cases onceB l.items <;> cases riseB l.items <;> simp [rising]
  unfold leafB;simp only [h4,u];cases hn:decide (l.n=0)
  ·have:(l.n != 0)=true:=by simpa using hn
   simp [this]
  ·have c:l.n=0:=u9 hn;cases ht2:decide (l.tombs=[])
   ·simp [c]
   ·rw [t ht2];cases decide (l.time=0) <;> cases decide (l.dot=dot0) <;> cases decide (l.text=[]) <;> simp [c]
 have o:l.typ < 1 \/ 4 < l.typ:=by omega
 have:(decide (l.typ < 1) || decide (l.typ > 4))=true:=by simp;omega
 unfold leafB;rw [this,th h1,th h2,th h3,th h4];simp

mutual
def GA.dep:GA->Nat
 | ⟨_,_,sb⟩=>GA.deps sb+1
def GA.deps:List GA->Nat
 | []=>0
 | x::r=>max x.dep (GA.deps r)
end
theorem ql {x:GA}:∀{t:List GA},x ∈ t->x.dep<=GA.deps t
 | [],h=>by cases h
 | y::r,h=>by
  simp only [GA.deps];rcases ut.1 h with rfl | h
  ·omega
  ·have:=ql h;omega
theorem xM (x:GA):GA.deps x.subs+1=x.dep:=by cases x;simp [GA.dep]
def Small (t:List GA):Prop:=GA.wfs t/\GA.bks t<=16777216
theorem bk_pos (x:GA):1<=x.bk:=by cases x;simp only [GA.bk];omega
theorem len_bks:∀t:List GA,t.length<=GA.bks t
 | []=>by simp [GA.bks]
 | x::r=>by have:=len_bks r;have:=bk_pos x;simp only [GA.bks,ui];omega
theorem bk_mem {x:GA}:∀{t:List GA},x ∈ t->x.bk<=GA.bks t
 | [],h=>by cases h
 | y::r,h=>by
  simp only [GA.bks];rcases ut.1 h with rfl | h
  ·omega
  ·have:=bk_mem h;omega
theorem sum_len {α:Type} {f:α->Nat} (h:∀x,1<=f x):∀l:List α,l.length<=(l.map f).sum
 | []=>by simp
 | x::r=>by have:=sum_len h r;have:=h x;simp only [ui,uD,rO];omega
theorem sum_mem {α:Type} {f:α->Nat} {x:α}:∀{l:List α},x ∈ l->f x<=(l.map f).sum
 | [],h=>by cases h
 | y::r,h=>by
  simp only [uD,rO];rcases ut.1 h with rfl | h
  ·omega
  ·have:=sum_mem (f:=f) h;omega
theorem bk_node (x:GA):x.name.length+1+((x.leaves.map GE.bk).sum+1)+(GA.bks x.subs+1)<=x.bk:=by cases x;simp only [GA.bk];omega
theorem Small.subs {t:List GA} (h:Small t) {x:GA} (c:x ∈ t):Small x.subs:=by
 refine ⟨?_,by have:=bk_mem c;have:=bk_node x;have:=h.2;omega⟩;have:=(GA.wfs_iff t).1 h.1 x c;cases x;simp only [GA.wf] at this;exact this.2.2
theorem Small.len {t:List GA} (h:Small t):t.length<=16777216:=uE (len_bks t) h.2
structure LeafOk (l:GE):Prop where
 items:l.items.length<=16777216
 tombs:l.tombs.length<=16777216
 time:0<=l.time
theorem Small.leaf {t:List GA} (h:Small t) {x:GA} (g:x ∈ t) {l:GE} (c:l ∈ x.leaves):LeafOk l:=by
 have p:=bk_mem g;have m:=bk_node x;have v:=h.2;have o:l.bk<=_:=sum_mem (f:=GE.bk) c;have u:(l.items.map GI.bk).sum+1+((l.tombs.map GF.bk).sum+1)<=l.bk:=by unfold GE.bk;omega
 have j:=sum_len (f:=GI.bk) (λx=>by unfold GI.bk;omega) l.items;have s:=sum_len (f:=GF.bk) (λx=>by unfold GF.bk;omega) l.tombs;refine ⟨by omega,by omega,?_⟩;have:=(GA.wfs_iff t).1 h.1 x g;cases x;simp only [GA.wf] at this;have:=this.2.1.2 l c;unfold GE.wf at this;have:=this.2.2.1;unfold InK at this;simp [IntKind.min,IntKind.max,IntKind.signed,IntKind.bits] at this;omega
theorem Small.leaves {t:List GA} (h:Small t) {x:GA} (c:x ∈ t):x.leaves.length<=16777216:=by
 have m:=bk_mem c;have j:=bk_node x;have o:=h.2;have g:=sum_len (f:=GE.bk) (λx=>by unfold GE.bk;omega) x.leaves;omega
def upB (t:List GA):Bool:=qq (λi x=>decide (i=0) || Op.bytesLess (t.getD (i - 1) default).name x.name) t
def leavesB (ls:List GE):Bool:=qq (λi l=>leafB l&&(decide (i=0) || decide ((ls.getD (i - 1) default).typ < l.typ))) ls
mutual
def nodeB (d:Nat):GA->Bool
 | ⟨nm,ls,sb⟩=>nameB nm&&!(ls.isEmpty&&sb.isEmpty)&&((sb.isEmpty || decide (d+1 < 3))&&upB sb&&xQ (d+1) sb)&&leavesB ls
def xQ (d:Nat):List GA->Bool
 | []=>true
 | x::r=>nodeB d x&&xQ d r
end
def treeB (d:Nat) (t:List GA):Bool:=(t.isEmpty || decide (d < 3))&&upB t&&xQ d t
theorem xr (d:Nat):∀t,xQ d t=t.all (nodeB d)
 | []=>rfl
 | x::r=>by simp only [xQ,tc,xr d r]
theorem q9 (d:Nat) (x:GA):nodeB d x=(nameB x.name&&!(x.leaves.isEmpty&&x.subs.isEmpty)&&treeB (d+1) x.subs&&leavesB x.leaves):=by cases x;rfl
theorem up_nodes (d:Nat) (t:List GA):qq (λi x=>nodeB d x&&(decide (i=0) || Op.bytesLess (t.getD (i - 1) default).name x.name)) t=(upB t&&xQ d t):=by
 rw [uw,allI_iff,xr];simp only [ud,upB,allI_iff,ux];constructor
 ·intro h;exact ⟨λi x c=>(h i x c).2,λx c=>by obtain ⟨i,hi⟩:=tb.1 c;exact (h i x hi).1⟩
 ·rintro ⟨j,g⟩ i x c
  exact ⟨g x (uB c),j i x c⟩
theorem lenE {α:Type} (l:List α):((l.length:Int)==0)=l.isEmpty:=by cases l <;> simp;omega
theorem treeXmayN_is:∀(n:Nat) (t:List GA) (d:Nat),GA.deps t < n->d<=3->Small t->vM n t (d:Int)=some (treeB d t)
 | 0,_,_,h,_,_=>by omega
 | n+1,t,d,h,hd,hs=>by
  unfold vM;by_cases hc:(decide ((t.length:Int) > 0)&&((d:Int)==3))=true
  ·rw [uF hc];simp only [ud,uj,tX] at hc;have:t.isEmpty=false:=by cases t <;> simp at hc ⊢
   have c:decide (d < 3)=false:=uN (by omega);simp [treeB,this,c]
  ·rw [th hc];have v:(t.isEmpty || decide (d < 3))=true:=by
    simp only [ud,uj,tX] at hc;cases t with
    | nil=>rfl
    | cons x r=>simp at hc ⊢;omega
   have N:=hs.len;rw [wx (r:=false) (λi x=>nodeB d x&&(decide (i=0) || Op.bytesLess (t.getD (i - 1) default).name x.name)),up_nodes]
   ·unfold treeB;rw [v,u2];cases upB t&&xQ d t <;> rfl
   ·intro i x C;have hi:i < t.length:=(uc.1 C).1;have o:=uB C;have D:=ql o;have G:=xM x;have E:0 < t.length:=by omega
    have c:d < 3:=by
     simp only [ud,uj,tX] at hc;omega
    have J:IntKind.wrap .i64 ((d:Int)+1)=((d+1:Nat):Int):=by rw [qn (by omega)];omega
    have M:=treeXmayN_is n x.subs (d+1) (by omega) (by omega) (hs.subs o);have F:=hs.leaves o;have H:=(hs.subs o).len;have u:IntKind.wrap .i64 ((x.leaves.length:Int)+(x.subs.length:Int))=((x.leaves.length+x.subs.length:Nat):Int):=by rw [qn (by omega)];omega
    have I:((((x.leaves.length+x.subs.length:Nat):Int))==0)=(x.leaves.isEmpty&&x.subs.isEmpty):=by
     cases h1:x.leaves <;> cases h2:x.subs <;> simp <;> omega
    rw [opIsName_is,J,M,u,I,q9];have w:lp (zg (λ(s:Nat) (z:GE) (s2:Unit)=>(((leafMay z).bind λm=>(yw ((((!m)==false)&&((decide ((s:Int) > (0:Int)))==true))=true->0<=(IntKind.wrap .i64 ((s:Int) - (1:Int)))/\(IntKind.wrap .i64 ((s:Int) - (1:Int))) < ((x.leaves).length:Int)) ((if ((!m) || ((decide ((s:Int) > (0:Int)))&&(decide (((x.leaves).getD (IntKind.wrap .i64 ((s:Int) - (1:Int))).toNat default).typ >= z.typ))))=true then some (.ret (.ret false)) else some (.nxt ()))))):Option (Out (Out Bool Unit) Unit))) x.leaves 0 ()) (λ(s2:Unit)=>some (.nxt ()))=if leavesB x.leaves=true then some (.nxt ()) else some (.ret false):=by
     rw [wx (r:=.ret false) (λi l=>leafB l&&(decide (i=0) || decide ((x.leaves.getD (i - 1) default).typ < l.typ)))]
     ·rfl
     ·intro j l g;have K:j < x.leaves.length:=(uc.1 g).1;have p:=hs.leaf o (uB g);rw [leafMay_is (by have:=p.items;simp only [maxLen];omega) (by have:=p.tombs;simp only [maxLen];omega)];simp only [ua];rcases j with _ | j
      ·cases leafB l <;> simp [yw]
      ·rw [vL (by simp only [maxLen];omega),qZ,uM,zn (by intro _;omega)];have e:decide ((x.leaves.getD j default).typ >= l.typ)=!decide ((x.leaves.getD j default).typ < l.typ):=by rw [uw];simp
       rw [e,tY];generalize (x.leaves.getD j default)=y;cases leafB l <;> cases decide (y.typ < l.typ) <;> simp
    rw [w];simp only [ua];rcases i with _ | j
    ·cases nameB x.name <;> cases (x.leaves.isEmpty&&x.subs.isEmpty) <;> cases treeB (d+1) x.subs <;> cases leavesB x.leaves <;> simp [yw]
    ·rw [vL (by simp only [maxLen];omega),qZ,uM,zn (by intro _;omega),tY];generalize (t.getD j default)=y;cases nameB x.name <;> cases (x.leaves.isEmpty&&x.subs.isEmpty) <;> cases treeB (d+1) x.subs <;> cases leavesB x.leaves <;> cases Op.bytesLess y.name x.name <;> simp
theorem x6 {t:List GA} (h:Small t):vB t=some (treeB 0 t):=by
 unfold vB treeXmay;have:=qU (g:=λn=>vM n t 0) (r:=treeB 0 t) (GA.deps t+1) (λn c=>by have:=treeXmayN_is n t 0 (by omega) (by omega) h;simpa using this);rw [this];rfl
theorem ref07XmayN_is:∀(n:Nat) (t:List GA) (d:Nat),GA.deps t < n->d<=3->Small t->wV n t (d:Int)=some (treeB d t)
 | 0,_,_,h,_,_=>by omega
 | n+1,t,d,h,hd,hs=>by
  unfold wV;have H:=hs.len;rw [wx (r:=false) (λi x=>decide (d < 3)&&(nodeB d x&&(decide (i=0) || Op.bytesLess (t.getD (i - 1) default).name x.name)))]
  ·have e:qq (λi x=>decide (d < 3)&&(nodeB d x&&(decide (i=0) || Op.bytesLess (t.getD (i - 1) default).name x.name))) t=treeB d t:=by
    unfold treeB;rw [Bool.and_assoc,<- up_nodes];cases hd3:decide (d < 3)
    ·cases t with
     | nil=>rfl
     | cons x r=>simp [qq]
    ·simp
   rw [e];cases treeB d t <;> rfl
  ·intro i x v;have hi:i < t.length:=(uc.1 v).1;have o:=uB v;have w:=ql o;have C:=xM x;have p:decide ((d:Int) >= 3)=!decide (d < 3):=by rw [uw];simp;omega
   rw [p];by_cases hd3:d < 3
   ·have D:IntKind.wrap .i64 ((d:Int)+1)=((d+1:Nat):Int):=by rw [qn (by omega)];omega
    have G:=ref07XmayN_is n x.subs (d+1) (by omega) (by omega) (hs.subs o);have z:=hs.leaves o;rw [ref04IsName_is,D,G,q9,lenE,lenE];have u:lp (zg (λ(c:Nat) (E:GE) (s2:Unit)=>(((ref05May E).bind λv50=>(yw ((((!v50)==false)&&((decide ((c:Int) > (0:Int)))==true))=true->0<=(IntKind.wrap .i64 ((c:Int) - (1:Int)))/\(IntKind.wrap .i64 ((c:Int) - (1:Int))) < ((x.leaves).length:Int)) ((yw ((((!v50)==false)&&((decide ((c:Int) > (0:Int)))==true))=true->0<=(c:Int)/\(c:Int) < ((x.leaves).length:Int)) ((if ((!v50) || ((decide ((c:Int) > (0:Int)))&&(decide (((x.leaves).getD (IntKind.wrap .i64 ((c:Int) - (1:Int))).toNat default).typ >= ((x.leaves).getD (c:Int).toNat default).typ))))=true then some (.ret (.ret false)) else some (.nxt ()))))))):Option (Out (Out Bool Unit) Unit))) x.leaves 0 ()) (λ(s2:Unit)=>some (.nxt ()))=if leavesB x.leaves=true then some (.nxt ()) else some (.ret false):=by
     rw [wx (r:=.ret false) (λi l=>leafB l&&(decide (i=0) || decide ((x.leaves.getD (i - 1) default).typ < l.typ)))]
     ·rfl
     ·intro j l g;have F:j < x.leaves.length:=(uc.1 g).1;have s:x.leaves.getD j default=l:=by rw [uu,g];rfl
      have m:=hs.leaf o (uB g);rw [ref05May_is (by have:=m.items;simp only [maxLen];omega) (by have:=m.tombs;simp only [maxLen];omega) m.time];simp only [ua];rcases j with _ | j
      ·cases leafB l <;> simp [yw]
      ·rw [vL (by simp only [maxLen];omega),qZ,uM,uM,s,zn (by intro _;omega),zn (by intro _;omega)];have e:decide ((x.leaves.getD j default).typ >= l.typ)=!decide ((x.leaves.getD j default).typ < l.typ):=by rw [uw];simp
       rw [e,tY];generalize (x.leaves.getD j default)=y;cases leafB l <;> cases decide (y.typ < l.typ) <;> simp
    rw [u,uR hd3];simp only [ua,tx,tN,u2,BEq.rfl,uq];rcases i with _ | j
    ·cases nameB x.name <;> cases (x.leaves.isEmpty&&x.subs.isEmpty) <;> cases treeB (d+1) x.subs <;> cases leavesB x.leaves <;> simp [yw]
    ·rw [vL (by simp only [maxLen];omega),qZ,uM,zn (by intro _;omega),tY];generalize (t.getD j default)=y;cases nameB x.name <;> cases (x.leaves.isEmpty&&x.subs.isEmpty) <;> cases treeB (d+1) x.subs <;> cases leavesB x.leaves <;> cases Op.bytesLess y.name x.name <;> simp
   ·rw [uN hd3];simp [yw]
theorem wr {t:List GA} (h:Small t):vq t=some (treeB 0 t):=by
 unfold vq ref07Xmay;have:=qU (g:=λn=>wV n t 0) (r:=treeB 0 t) (GA.deps t+1) (λn c=>by have:=ref07XmayN_is n t 0 (by omega) (by omega) h;simpa using this);rw [this];rfl

theorem loopW_end {ρ:Type} {f:σ->Option (Out ρ σ)} (g:σ->Prop) (j:σ->Nat) (h:∀s,g s->(∃c,f s=some (.brk c)) \/ ∃c,f s=some (.nxt c)/\g c/\j c < j s):∀(k:Nat) (s:σ),j s=k->g s->∃c,yX f s=some (.inr c):=by
 intro k
 induction k using Nat.strongRecOn with
 | _ k ih =>
  intro s o hi;rw [xi];rcases h s hi with ⟨c,e⟩ | ⟨c,e,m,p⟩
  ·exact ⟨c,by rw [e]⟩
  ·rw [e];exact ih (j c) (by omega) c rfl m
theorem lpW_end {ρ:Type} {f:σ->Option (Out ρ σ)} {rest:σ->Option ρ} (c:σ->Prop) (j:σ->Nat) (o:∀s,∃v,rest s=some v) (m:σ) (hi:c m) (h:∀s,c s->(∃g,f s=some (.brk g)) \/ ∃g,f s=some (.nxt g)/\c g/\j g < j s):∃v,lp (yX f m) rest=some v:=by
 obtain ⟨g,e⟩:=loopW_end c j h _ m rfl hi;rw [e];exact o g
theorem idx_mem {α:Type} {L:List α} {i:Int} {x:α} (h:xe L i=some x):x ∈ L:=by
 unfold xe at h;split at h
 ·exact uB h
 ·cases h
theorem size_tot:∀(n:Nat) (t:List GA) (d:Int),GA.deps t < n->Small t->∃v,xh n t d=some v
 | 0,_,_,h,_=>by omega
 | n+1,t,d,h,hs=>by
  unfold xh;have G:=hs.len;refine lpW_end (λs=>0<=s.2/\s.2<=(t.length:Int)) (λs=>(t.length - s.2.toNat)) (λ_=>⟨_,rfl⟩) _ ⟨by simp,by simp⟩ (λs hi=>?_);rcases s with ⟨a,i⟩
  obtain ⟨k,rfl⟩:∃k:Nat,i=(k:Int):=⟨i.toNat,by have:=hi.1;simp at this;omega⟩
  by_cases hc:(decide ((k:Int) < (t.length:Int))&&decide (d < 10))=true
  ·right;simp only [ud,uj] at hc;have p:k < t.length:=by omega
   have w:t[k] ∈ t:=sg p;have z:=ql w;have D:=xM t[k];obtain ⟨v,E⟩:=size_tot n t[k].subs (IntKind.wrap .i64 (d+1)) (by omega) (hs.subs w);have C:=hs.leaves w;obtain ⟨s2,y⟩:=loopW_end (ρ:=Out Int (Int×Int)) (σ:=Int×Int) (f:=λs2:Int×Int=>(((xe t (k:Int)).bind λo=>(if decide (s2.2 < ((o.leaves).length:Int))=true then ((xe t (k:Int)).bind λj=>((xe j.leaves s2.2).bind λc=>(lp (zg (λ(F:Nat) (u:GI) (m:Int)=>(some (.nxt (IntKind.wrap .i64 ((IntKind.wrap .i64 (m+(1:Int)))+((u.text).length:Int)))):Option (Out _ Int))) c.items 0 (IntKind.wrap .i64 ((IntKind.wrap .i64 ((IntKind.wrap .i64 (s2.1+(1:Int)))+((c.text).length:Int)))+((c.tombs).length:Int)))) λ(m:Int)=>some (.nxt (m,(IntKind.wrap .i64 (s2.2+(1:Int)))))))) else some (.brk (s2.1,s2.2)))):Option (Out (Out Int (Int×Int)) (Int×Int))))
    (λs=>0<=s.2/\s.2<=(t[k].leaves.length:Int)) (λs=>(t[k].leaves.length - s.2.toNat)) (λs hi=>by
     rcases s with ⟨b,i⟩
     obtain ⟨q,rfl⟩:∃q:Nat,i=(q:Int):=⟨i.toNat,by have:=hi.1;simp at this;omega⟩
     simp only [xw p,ua];by_cases hq:q < t[k].leaves.length
     ·right;have g:decide ((q:Int) < (t[k].leaves.length:Int))=true:=by simpa using hq
      simp only [g,uq,xw hq,ua];rw [loopL_fold (λ(m:Int) (u:GI)=>IntKind.wrap .i64 ((IntKind.wrap .i64 (m+(1:Int)))+((u.text).length:Int))) _ 0 _ (λ_ _ _ _=>rfl),yp];refine ⟨_,rfl,?_,?_⟩
      ·simp only;rw [qn (by omega)];omega
      ·simp only;rw [qn (by omega)];omega
     ·left;have g:decide ((q:Int) < (t[k].leaves.length:Int))=false:=by simp;omega
      simp only [g];exact ⟨_,rfl⟩) _ ((IntKind.wrap .i64 ((IntKind.wrap .i64 ((IntKind.wrap .i64 (a+(1:Int)))+((t[k].name).length:Int)))+v)),(0:Int)) rfl ⟨by simp,by simp⟩
   refine ⟨(s2.1,IntKind.wrap .i64 ((k:Int)+1)),?_,?_,?_⟩
   ·simp only [hc,sS,te,uq,xw p,ua,E];simp only [xw p,ua] at y;rw [y];rfl
   ·simp only;rw [qn (by omega)];omega
   ·simp only;rw [qn (by omega)];omega
  ·left;refine ⟨(a,(k:Int)),?_⟩;simp only at hc ⊢;rw [th hc]
theorem size_fuel:∀(n m:Nat) (t:List GA) (d:Int),GA.deps t < n->GA.deps t < m->xh n t d=xh m t d
 | 0,_,_,_,h,_=>by omega
 | _+1,0,_,_,_,h=>by omega
 | n+1,m+1,t,d,h1,h2=>by
  unfold xh;congr 2;funext s;split
  ·cases hx:xe t s.2 with
   | none=>rfl
   | some y =>
    have c:=ql (idx_mem hx);have g:=xM y;simp only [ua];rw [size_fuel n m y.subs _ (by omega) (by omega)]
  ·rfl
theorem ref07Great_tot {t:List GA} (h:Small t):∃b,vE t=some b:=by
 unfold vE ref07Xsize;obtain ⟨v,c⟩:∃v,∀n,GA.deps t+1<=n->xh n t 0=some v:=by
  obtain ⟨v,c⟩:=size_tot (GA.deps t+1) t 0 (by omega) h;exact ⟨v,λn g=>by rw [size_fuel n (GA.deps t+1) t 0 (by omega) (by omega)];exact c⟩
 rw [qU (GA.deps t+1) c];exact ⟨_,rfl⟩

def endsB (p:List zd):Bool:=p.getLast?==some [42,42]
def xP (p:List zd):List zd:=if endsB p then p.dropLast else p
def agreeB:List zd->List zd->Bool
 | [],_=>true
 | x::t,y::r=>(x==[42] || x==y)&&agreeB t r
 | _::_,[]=>false
def patB (p:List zd):Bool:=(decide (0 < (xP p).length) || endsB p)&&decide ((xP p).length<=3)&&(xP p).all (λs=>s==[42] || nameB s)
def matchB (p path:List zd):Bool:=patB p&&xL path&&decide ((xP p).length<=path.length)&&(endsB p || decide (path.length<=(xP p).length))&&agreeB (xP p) path
theorem wrapLen (h0:0 < n) (h:n<=maxLen):IntKind.wrap .i64 ((n:Int) - 1)=((n - 1:Nat):Int):=by
 simp only [maxLen] at h;rw [qn (by omega)];omega
theorem last_getD {p:List zd} (h0:0 < p.length):(p.getD (p.length - 1) default==[42,42])=endsB p:=by
 unfold endsB;rw [rk,uu,ug (by omega)];rw [uw];simp
theorem slc_init {p:List zd} (h0:0 < p.length):slc p 0 ((p.length - 1:Nat):Int)=some p.dropLast:=by
 rw [vC (by omega)];simp [List.dropLast_eq_take]
theorem pathsXparts_is {p:List zd} (h:p.length<=maxLen):vT p=some (xP p,endsB p):=by
 unfold vT xP;by_cases h0:0 < p.length
 ·rw [wrapLen h0 h,zn (by intro _;omega)];have e:decide ((p.length:Int) > 0)=true:=by simpa using h0
  rw [e,uM,last_getD h0,slc_init h0];cases endsB p <;> rfl
 ·have:p=[]:=uO (by omega);subst this;rfl
theorem pathsMayPattern_is {p:List zd} (h:p.length<=maxLen):xT p=some (patB p):=by
 unfold xT patB;rw [pathsXparts_is h];simp only [ua];rw [contains_is (q:=λs=>!(s==[42] || nameB s)) _ (λx _=>by
  unfold wO;rw [opIsName_is];cases h1:(x==([42]:zd)) <;> simp)]
 have e:(xP p).any (λs=>!(s==[42] || nameB s))=!(xP p).all (λs=>s==[42] || nameB s):=by rw [uw];simp
 have c:decide (((xP p).length:Int) > 0)=decide (0 < (xP p).length):=tT.2 (by omega);rw [e,bnd3,c];cases ((decide (0 < (xP p).length) || endsB p)&&decide ((xP p).length<=3)) <;> simp
theorem agree_loop (path:List zd) {f:Nat->zd->Unit->Option (Out Bool Unit)} (c:∀i x,i < path.length->f i x ()=if (!(x==([42]:zd))&&!(x==path.getD i default))=true then some (.ret false) else some (.nxt ())) :
  ∀(L:List zd) (i:Nat),L.length+i<=path.length->zg f L i ()=if agreeB L (path.drop i)=true then some (.inr ()) else some (.inl false)
 | [],i,_=>by cases path.drop i <;> rfl
 | x::t,i,h=>by
  simp only [ui] at h;have hi:i < path.length:=by omega
  have g:=agree_loop path c t (i+1) (by omega);have e:path.drop i=path[i]::path.drop (i+1):=(sV hi).symm;have j:path.getD i default=path[i]:=by rw [uu,ug hi];rfl
  simp only [zg,c i x hi,e,agreeB,j];cases h1:(x==([42]:zd)) <;> cases h2:(x==path[i]) <;> simp [g]
theorem pathsMatch_is {p path:List zd} (h:p.length<=maxLen):pathsMatch p path=some (matchB p path):=by
 unfold pathsMatch matchB;rw [pathsXparts_is h,pathsMayPattern_is h];simp only [ua,opMayPath_is];cases hp:patB p
 ·simp
 ·cases hq:xL path
  ·simp
  ·by_cases hl:(xP p).length<=path.length
   ·have c:decide ((path.length:Int) < ((xP p).length:Int))=false:=uN (by omega);have g:decide ((path.length:Int) > ((xP p).length:Int))=!decide (path.length<=(xP p).length):=by
     rw [uw];simp
    rw [c,g,agree_loop path (λi x hi=>by rw [zn (by intro _;omega),uM]) _ 0 (by omega)];simp only [sq,uR hl];cases decide (path.length<=(xP p).length) <;> cases endsB p <;> cases agreeB (xP p) path <;> simp
   ·have c:decide ((path.length:Int) < ((xP p).length:Int))=true:=uR (by omega);rw [c,uN hl];simp

section
variable {S X:Type}
def foldF (y:S->X->Option (Bool×S)):List X->S->Option (Bool×S)
 | [],s=>some (true,s)
 | x::r,s=>(y s x).bind λv=>if v.1=true then foldF y r v.2 else some (false,v.2)
theorem foldF_app (y:S->X->Option (Bool×S)):∀(a b:List X) (s:S),foldF y (a++b) s=(foldF y a s).bind λv=>if v.1=true then foldF y b v.2 else some v
 | [],b,s=>by simp [foldF]
 | x::r,b,s=>by
  simp only [tJ,foldF];cases y s x with
  | none=>rfl
  | some v =>
   simp only [ua];cases hv:v.1
   ·simp
   ·simp only [uq];exact foldF_app y r b v.2
theorem foldF_stp (y:S->X->Option (Bool×S)):∀(xs:List X) (s:S),
  foldF (stp (λ(g:S) (h:X)=>(((y g h).bind λv=>(if (!v.1)=true then some (false,(v.2,some 0)) else some (true,(v.2,none)))):Option (Bool×(S×Option Nat))))) xs (s,none)=(foldF y xs s).map λv=>(v.1,(v.2,if v.1=true then none else some 0))
 | [],s=>rfl
 | x::r,s=>by
  simp only [foldF,stp];cases y s x with
  | none=>rfl
  | some v =>
   rcases v with ⟨b,c⟩
   cases b
   ·simp
   ·simp only [tx,ul,uK,ua,uq];exact foldF_stp y r c
theorem loop_tell {ρ α:Type} (y:S->X->Option (Bool×S)) (g:α->X) (r:S->ρ) {f:Nat->α->S->Option (Out ρ S)}:∀(L:List α) (i:Nat) (s:S),(∀i x s,x ∈ L->f i x s=(y s (g x)).bind λv=>if (!v.1)=true then some (.ret (r v.2)) else some (.nxt v.2)) ->
  zg f L i s=(foldF y (L.map g) s).map λv=>if v.1=true then .inr v.2 else .inl (r v.2)
 | [],_,_,_=>rfl
 | x::t,i,s,h=>by
  simp only [zg,h i x s (tA ..),uD,foldF];cases y s (g x) with
  | none=>rfl
  | some v =>
   rcases v with ⟨b,c⟩
   cases b
   ·rfl
   ·simp only [tx,ul,uK,ua,uq];exact loop_tell y g r t (i+1) c λi x s j=>h i x s (tr _ j)
theorem loop_tells {ρ α:Type} (y:S->X->Option (Bool×S)) (g:α->List X) (r:S->ρ) {f:Nat->α->S->Option (Out ρ S)}:∀(L:List α) (i:Nat) (s:S),(∀i x s,x ∈ L->f i x s=(foldF y (g x) s).map λv=>if v.1=true then .nxt v.2 else .ret (r v.2)) ->
  zg f L i s=(foldF y (L.flatMap g) s).map λv=>if v.1=true then .inr v.2 else .inl (r v.2)
 | [],_,_,_=>rfl
 | x::t,i,s,h=>by
  simp only [zg,h i x s (tA ..),tG,foldF_app];cases foldF y (g x) s with
  | none=>rfl
  | some v =>
   rcases v with ⟨b,c⟩
   cases b
   ·rfl
   ·simp only [u5,uq,ua];exact loop_tells y g r t (i+1) c λi x s j=>h i x s (tr _ j)
end
theorem clone_is {α:Type} {L:List α} (h:L.length<=yN):(nilq L λc=>(if c=true then some ([]:List α) else (yw ((([]:List α)).length+L.length<=yN) (some (([]:List α)++L)))))=some L:=by
 refine nilq_of ?_ λe=>by subst e;rfl
 rw [zn (by simpa using h)];simp
theorem qm {L:List zd} (h:L.length<=yN):yB L=some L:=clone_is h
theorem cloneItem_is (h:L.length<=yN):yP L=some L:=clone_is h
theorem cloneDot_is {L:List GF} (h:L.length<=yN):y4 L=some L:=clone_is h
theorem pathsXown_is (h:LeafOk l):pathsXown l=some l:=by
 unfold pathsXown;rw [cloneItem_is (by have:=h.items;unfold yN;omega),cloneDot_is (by have:=h.tombs;unfold yN;omega)];rfl
mutual
def qs (a:List zd):GA->List GH
 | ⟨nm,ls,sb⟩=>ls.map (λl=>GH.mk (a++[nm]) l)++zj (a++[nm]) sb
def zj (a:List zd):List GA->List GH
 | []=>[]
 | x::r=>qs a x++zj a r
end
mutual
def wD (is:List zd->Bool) (a:List zd):GA->GA
 | ⟨nm,ls,sb⟩=>⟨nm,if is (a++[nm])=true then ls else [],we is (a++[nm]) sb⟩
def we (is:List zd->Bool) (a:List zd):List GA->List GA
 | []=>[]
 | x::r=>if (wD is a x).leaves.isEmpty&&(wD is a x).subs.isEmpty then we is a r else wD is a x::we is a r
end
theorem xg (a:List zd) (x:GA):qs a x=x.leaves.map (λl=>GH.mk (a++[x.name]) l)++zj (a++[x.name]) x.subs:=by cases x;rfl
theorem yv (a:List zd):∀t,zj a t=t.flatMap (qs a)
 | []=>rfl
 | x::r=>by simp only [zj,tG,yv a r]
theorem keepN_eq (is:List zd->Bool) (a:List zd) (x:GA):wD is a x=⟨x.name,if is (a++[x.name])=true then x.leaves else [],we is (a++[x.name]) x.subs⟩:=by cases x;rfl
theorem keepL_filter (is:List zd->Bool) (a:List zd):∀t,we is a t=(t.map (wD is a)).filter λy=>!(y.leaves.isEmpty&&y.subs.isEmpty)
 | []=>rfl
 | x::r=>by
  simp only [we,uD,sB,keepL_filter is a r];cases ((wD is a x).leaves.isEmpty&&(wD is a x).subs.isEmpty) <;> simp
theorem rows_is {S:Type}:∀(n:Nat) (S:Type) (y:S->GH->Option (Bool×S)) (t:List GA) (a:List zd) (s:S),GA.deps t < n->Small t->a.length+GA.deps t<=40000000->wc n S y t a s=(foldF y (zj a t) s).map (·.2)
 | 0,_,_,_,_,_,h,_,_=>by omega
 | n+1,S,y,t,a,s,h,hs,ha=>by
  unfold wc;rw [loop_tells y (qs a) (λs=>s),<- yv]
  ·cases foldF y (zj a t) s with
   | none=>rfl
   | some v=>rcases v with ⟨b,c⟩;cases b <;> rfl
  ·intro i x u g;have m:=ql g;have p:=xM x;rw [qm (by unfold yN;omega),ua,zn (by simp [yN];omega)];rw [loop_tell y (λl=>GH.mk (a++[x.name]) l) (λs=>Out.ret s)]
   ·rw [xg,foldF_app];cases foldF y (x.leaves.map λl=>GH.mk (a++[x.name]) l) u with
    | none=>rfl
    | some v =>
     rcases v with ⟨b,c⟩
     cases b
     ·rfl
     ·simp only [u5,uq,yp,ua];unfold qD;simp only [ua];rw [rows_is (S:=Unit) n _ _ x.subs (a++[x.name]) (c,none) (by omega) (hs.subs g) (by simp;omega),foldF_stp];cases foldF y (zj (a++[x.name]) x.subs) c with
      | none=>rfl
      | some v=>rcases v with ⟨b,s2⟩;cases b <;> rfl
   ·intro j l s2 o;rw [qm (by simp [yN];omega),ua,pathsXown_is (hs.leaf g o),ua]

theorem loop_keep {α c ρ:Type} (p:α->Bool) (g:α->c) {f:Nat->α->List c->Option (Out ρ (List c))}:∀(L:List α) (i:Nat) (s:List c),s.length+L.length<=yN->(∀i x s,x ∈ L->s.length+1<=yN->f i x s=if p x=true then some (.nxt (s++[g x])) else some (.nxt s)) ->
  zg f L i s=some (.inr (s++(L.filter p).map g))
 | [],_,s,_,_=>by simp [zg]
 | x::t,i,s,hl,h=>by
  simp only [ui] at hl;simp only [zg,h i x s (tA ..) (by omega),sB];cases hp:p x
  ·simp only [ul,uK];exact loop_keep p g t (i+1) s (by omega) λi x s j=>h i x s (tr _ j)
  ·simp only [uq];rw [loop_keep p g t (i+1) (s++[g x]) (by simp;omega) λi x s j=>h i x s (tr _ j)];simp
theorem keep_len (is:List zd->Bool) (a:List zd) (t:List GA):(we is a t).length<=t.length:=by
 rw [keepL_filter];exact uE (tB _ _) (by simp)
theorem kept_is (is:List zd->Bool) (f:List zd->Option Bool) (D:∀p,f p=some (is p)):∀(n:Nat) (t:List GA) (a:List zd),GA.deps t < n->Small t->a.length+GA.deps t<=40000000->wZ n t a f=some (we is a t)
 | 0,_,_,h,_,_=>by omega
 | n+1,t,a,h,hs,ha=>by
  unfold wZ;have J:=hs.len;have key:∀(L:List GA) (i:Nat) (s:List GA),(∀x ∈ L,x ∈ t)->s.length+L.length<=16777216->∀{F:Nat->GA->List GA->Option (Out (List GA) (List GA))},(∀i x s,x ∈ t->s.length+1<=16777216->F i x s=some (.nxt (if ((wD is a x).leaves.isEmpty&&(wD is a x).subs.isEmpty)=true then s else s++[wD is a x]))) ->
    zg F L i s=some (.inr (s++we is a L)):=by
   intro L
   induction L with
   | nil=>intro i s _ _ F _;simp [zg,we]
   | cons x r ih =>
    intro i s C c F v;simp only [ui] at c;simp only [zg,v i x s (C x (by simp)) (by omega),we];cases he:((wD is a x).leaves.isEmpty&&(wD is a x).subs.isEmpty)
    ·simp only [ul,uK];rw [ih (i+1) _ (λy w=>C y (by simp [w])) (by simp;omega) v];simp
    ·simp only [uq];exact ih (i+1) s (λy w=>C y (by simp [w])) (by omega) v
  rw [key t 0 [] (λ_ h=>h) (by simpa using J)]
  ·simp
  ·intro i x s g c;have G:=ql g;have H:=xM x;have m:=hs.leaves g;have E:=(hs.subs g).len;rw [qm (by unfold yN;omega),ua,zn (by simp [yN];omega),kept_is is f D n x.subs (a++[x.name]) (by omega) (hs.subs g) (by simp;omega),ua];rw [loop_keep (λ_=>is (a++[x.name])) (λl=>l) x.leaves 0 [] (by simp [yN];omega)]
   ·simp only [yp,uU,List.map_id_fun',id];have o:(x.leaves.filter λ_=>is (a++[x.name]))=(if is (a++[x.name])=true then x.leaves else []):=by
     cases is (a++[x.name]) <;> simp
    rw [o,<- keepN_eq];have K:=keep_len is (a++[x.name]) x.subs;have I:decide ((IntKind.wrap .i64 (((if is (a++[x.name])=true then x.leaves else []).length:Int)+((we is (a++[x.name]) x.subs).length:Int))) > 0)=!((wD is a x).leaves.isEmpty&&(wD is a x).subs.isEmpty):=by
     rw [keepN_eq];have M:(if is (a++[x.name])=true then x.leaves else []).length<=16777216:=by cases is (a++[x.name]) <;> simp [m]
     rw [qn (by omega)];cases hA:(if is (a++[x.name])=true then x.leaves else []) <;> cases hB:we is (a++[x.name]) x.subs <;> simp <;> omega
    rw [I];cases ((wD is a x).leaves.isEmpty&&(wD is a x).subs.isEmpty)
    ·simp only [tF,uq,ul,uK];rw [zn (by simp [yN];omega)]
    ·simp
   ·intro j l s2 u z;rw [D,ua,pathsXown_is (hs.leaf g u),ua,zn (by simpa using z)]
theorem deps_bks:∀(n:Nat) (t:List GA),GA.deps t<=n->GA.deps t<=GA.bks t:=by
 intro n
 induction n with
 | zero=>intro t c;omega
 | succ n ih =>
  intro t
  induction t with
  | nil=>intro _;simp [GA.deps]
  | cons x r ihr =>
   intro c;simp only [GA.deps] at c ⊢;simp only [GA.bks];have j:=ihr (by omega);have g:=xM x;have m:=ih x.subs (by omega);have h:=bk_node x;omega
theorem Small.dep {t:List GA} (h:Small t):GA.deps t<=16777216:=uE (deps_bks _ t (uh _)) h.2
theorem keptAll_is (is:List zd->Bool) (f:List zd->Option Bool) (c:∀p,f p=some (is p)) {t:List GA} (h:Small t):pathsXkept t [] f=some (we is [] t):=by
 unfold pathsXkept;have g:=h.dep;rw [qU (GA.deps t+1) λn j=>kept_is is f c n t [] (by omega) h (by simp;omega)]
theorem rows_len:∀(n:Nat) (t:List GA) (a:List zd),GA.deps t<=n->(zj a t).length<=GA.bks t:=by
 intro n
 induction n with
 | zero =>
  intro t a h;cases t with
  | nil=>simp [zj]
  | cons x r=>simp only [GA.deps] at h;have:=xM x;omega
 | succ n ih =>
  intro t
  induction t with
  | nil=>intro a _;simp [zj]
  | cons x r ihr =>
   intro a c;simp only [GA.deps] at c;simp only [GA.bks,zj,um];have m:=ihr a (by omega);have g:=xM x;have p:=ih x.subs (a++[x.name]) (by omega);have j:=bk_node x;have o:=sum_len (f:=GE.bk) (λx=>by unfold GE.bk;omega) x.leaves;rw [xg];simp only [um,uA];omega
theorem fold_app {X:Type}:∀(xs s:List X),s.length+xs.length<=yN->foldF (stp (λ(g:List X) (c:X)=>((yw (g.length+([c]:List X).length<=yN) (some (true,((g++[c]),none)))):Option (Bool×(List X×Option Nat))))) xs (s,none)=some (true,(s++xs,none))
 | [],s,_=>by simp [foldF]
 | x::r,s,h=>by
  simp only [ui] at h;simp only [foldF,stp];rw [zn (by simp;omega)];simp only [ua,uq];rw [fold_app r (s++[x]) (by simp;omega)];simp
theorem pathsRows_is {t:List GA} (h:Small t):vU t=some (if treeB 0 t=true then zj [] t else []):=by
 unfold vU;rw [x6 h,ua];cases treeB 0 t
 ·rfl
 ·have hd:=h.dep;have c:=rows_len _ t [] (uh _);have g:=h.2;simp only [tx,ul,uK,uq,qD,ua,vf,wt,pathsXrowsC1];rw [qU (r:=(zj [] t,none)) (GA.deps t+1) λn j=>by
   rw [rows_is (S:=Unit) n _ _ t [] ([],none) (by omega) h (by simp;omega),fold_app _ _ (by simp [yN];omega)];rfl]
  rfl

theorem vG:∀{a b c:List UInt8},Op.bytesLess a b=true->Op.bytesLess b c=true->Op.bytesLess a c=true
 | _,[],_,h,_=>by cases ‹List UInt8› <;> simp [Op.bytesLess] at h
 | a,b::y,[],_,h=>by simp [Op.bytesLess] at h
 | [],b::y,c::z,_,_=>rfl
 | a::x,b::y,c::z,j,g=>by
  simp only [Op.bytesLess,uY,uj,ud,tX] at j g ⊢;rcases j with j | ⟨rfl,j⟩
  ·rcases g with g | ⟨rfl,g⟩
   ·left;exact UInt8.lt_trans j g
   ·left;exact j
  ·rcases g with g | ⟨rfl,g⟩
   ·left;exact g
   ·right;exact ⟨rfl,vG j g⟩
theorem upB_iff (t:List GA):upB t=true ↔ t.Pairwise (λx y=>Op.bytesLess x.name y.name=true):=by
 unfold upB;rw [allI_iff];constructor
 ·intro h;rw [tp];intro i j hi c g;obtain ⟨k,rfl⟩:∃k,j=i+1+k:=⟨j - i - 1,by omega⟩
  induction k with
  | zero =>
   have:=h (i+1) _ (ug c);simp only [tY,uY,uj] at this;rcases this with h0 | h0
   ·omega
   ·rw [uu,ug hi] at h0;exact h0
  | succ k ih =>
   have m:=ih (by omega) (by omega);have:=h (i+1+(k+1)) _ (ug c);simp only [uY,uj] at this;rcases this with h0 | h0
   ·omega
   ·rw [show i+1+(k+1) - 1=i+1+k by omega,uu,ug (by omega:i+1+k < t.length)] at h0;exact vG m h0
 ·intro h i x o;rcases i with _ | i
  ·rfl
  ·rw [tp] at h;obtain ⟨hi,rfl⟩:=uc.1 o;have:=h i (i+1) (by omega) hi (by omega);simp only [tY,uY];right;rw [uu,ug (by omega:i < t.length)];exact this
section
variable (is:List zd->Bool)
theorem keep_up (a:List zd) {t:List GA} (h:upB t=true):upB (we is a t)=true:=by
 rw [upB_iff] at h ⊢;rw [keepL_filter];refine List.Pairwise.filter _ ?_;rw [rJ];exact h.imp λ{x y} h=>by rw [keepN_eq,keepN_eq];exact h
theorem vp {M:List GA->Prop} (h0:M []) (c:∀x r,M x.subs->M r->M (x::r)):∀t,M t:=by
 have key:∀(n:Nat) (t:List GA),GA.deps t<=n->M t:=by
  intro n
  induction n with
  | zero =>
   intro t h;cases t with
   | nil=>exact h0
   | cons x r=>simp only [GA.deps] at h;have:=xM x;omega
  | succ n ih =>
   intro t
   induction t with
   | nil=>intro _;exact h0
   | cons x r ihr =>
    intro h;simp only [GA.deps] at h;have:=xM x;exact c x r (ih x.subs (by omega)) (ihr (by omega))
 exact λt=>key _ t (uh _)
theorem keep_may:∀(t:List GA) (d:Nat) (a:List zd),treeB d t=true->treeB d (we is a t)=true:=by
 intro t;have key:∀(t:List GA),(∀(d:Nat) (a:List zd),treeB d t=true->treeB d (we is a t)=true)/\(∀(d:Nat) (a:List zd),xQ d t=true->xQ d (we is a t)=true):=by
  refine vp ⟨λd a h=>h,λd a h=>h⟩ ?_;intro x r m j;have g:∀(d:Nat) (a:List zd),xQ d (x::r)=true->xQ d (we is a (x::r))=true:=by
   intro d a h;simp only [xQ,ud] at h;simp only [we];cases he:((wD is a x).leaves.isEmpty&&(wD is a x).subs.isEmpty)
   ·simp only [ul,uK,xQ,ud];refine ⟨?_,j.2 d a h.2⟩;have c:=h.1;rw [q9] at c ⊢;simp only [ud,tU] at c ⊢;rw [keepN_eq] at he ⊢;refine ⟨⟨⟨c.1.1.1,he⟩,m.1 (d+1) _ c.1.2⟩,?_⟩;show leavesB (if is (a++[x.name])=true then x.leaves else [])=true;split
    ·exact c.2
    ·rfl
   ·simp only [uq];exact j.2 d a h.2
  refine ⟨λd a h=>?_,g⟩;unfold treeB at h ⊢;simp only [ud] at h ⊢;refine ⟨⟨?_,keep_up is a h.1.2⟩,g d a h.2⟩;have:decide (d < 3)=true:=by simpa using h.1.1
  rw [this];simp
 exact (key t).1
theorem keep_rows:∀(t:List GA) (a:List zd),zj a (we is a t)=(zj a t).filter λr=>is r.path:=by
 refine vp (λa=>rfl) ?_;intro x r j c a;have g:qs a (wD is a x)=(qs a x).filter λr=>is r.path:=by
  rw [keepN_eq,xg,xg,tn,<- j];simp only;congr 1;cases h:is (a++[x.name])
  ·simp [h]
  ·simp only [uq];rw [tm.2];intro r c;obtain ⟨l,_,rfl⟩:=tI.1 c;exact h
 simp only [we,zj,tn,<- c,<- g];cases he:((wD is a x).leaves.isEmpty&&(wD is a x).subs.isEmpty)
 ·simp [zj]
 ·simp only [uq];simp only [ud,pr] at he;rw [xg,he.1,he.2];simp [zj]
theorem keep_small:∀(t:List GA) (a:List zd),(GA.wfs t->GA.wfs (we is a t))/\GA.bks (we is a t)<=GA.bks t:=by
 refine vp (λa=>⟨λh=>h,uh _⟩) ?_;intro x r j c a;have u:(wD is a x).bk<=x.bk:=by
  have:=(j (a++[x.name])).2;cases x with
  | mk nm ls sb =>
   simp only [wD,GA.bk] at this ⊢;have g:((if is (a++[nm])=true then ls else []).map GE.bk).sum<=(ls.map GE.bk).sum:=by split <;> simp
   omega
 have m:x.wf->(wD is a x).wf:=by
  have:=(j (a++[x.name])).1;cases x with
  | mk nm ls sb =>
   simp only [wD,GA.wf] at this ⊢
   rintro ⟨p,g,s⟩
   refine ⟨p,?_,this s⟩;split
   ·exact g
   ·exact ⟨by simp,λy o=>by cases o⟩
 simp only [we];split
 ·refine ⟨λh=>(c a).1 (by simp only [GA.wfs] at h;exact h.2),?_⟩;have:=(c a).2;simp only [GA.bks];omega
 ·refine ⟨λh=>?_,?_⟩
  ·simp only [GA.wfs] at h ⊢;exact ⟨m h.1,(c a).1 h.2⟩
  ·have:=(c a).2;simp only [GA.bks];omega
theorem Small.keep {t:List GA} (h:Small t) (a:List zd):Small (we is a t):=⟨(keep_small is t a).1 h.1,uE (keep_small is t a).2 h.2⟩
end
theorem ref05Same_refl (l:GE):yM l l=some true:=by
 unfold yM;simp only [dotEq,itemEq];rw [th (by simp),wx (r:=false) (λ_ _=>true),wx (r:=false) (λ_ _=>true)]
 ·simp [qq]
 ·intro i x c;have hi:=(uc.1 c).1;have g:l.tombs[i]=x:=(uc.1 c).2;rw [xw hi,g];simp
 ·intro i x c;have hi:=(uc.1 c).1;have g:l.items[i]=x:=(uc.1 c).2;rw [xw hi,g];simp
theorem ref07SameN_refl:∀(n:Nat) (t:List GA),GA.deps t < n->xK n t t=some true
 | 0,_,h=>by omega
 | n+1,t,h=>by
  unfold xK;rw [th (by simp),wx (r:=false) (λ_ _=>true)]
  ·simp [qq]
  ·intro i x c;have hi:=(uc.1 c).1;have p:t[i]=x:=(uc.1 c).2;have hd:t.getD i default=x:=by rw [uu,c];rfl
   have o:=ql (uB c);have u:=xM x;rw [xw hi,p];simp only [ua,uM,hd,ref07SameN_refl n x.subs (by omega)];rw [zn (by intro _;omega),zn (by intro _;omega),zn (by intro _;omega),zn (by intro _;omega)];rw [wx (r:=.ret false) (λ_ _=>true)]
   ·simp [qq]
   ·intro j l m;have s:=(uc.1 m).1;have g:x.leaves[j]=l:=(uc.1 m).2;rw [xw s,g];simp [ref05Same_refl]
theorem ref07Same_refl (t:List GA):ref07Same t t=some true:=by
 unfold ref07Same;exact qU (GA.deps t+1) λn c=>ref07SameN_refl n t (by omega)

theorem pathsSelect_is {t:List GA} (h:Small t) {p:List zd} (c:p.length<=maxLen):w5 t p=some (if (treeB 0 t&&patB p)=true then (we (matchB p) [] t,0) else ([],2)):=by
 unfold w5;rw [x6 h,pathsMayPattern_is c,keptAll_is (matchB p) _ (λq=>by unfold qS;rw [pathsMatch_is c];rfl) h];cases treeB 0 t <;> cases patB p <;> rfl
theorem small_of {t:List GA} (h:t.length<=maxLen/\∀y ∈ t,GA.wf y) (c:(t.map GA.bk).sum<=16777216):Small t:=⟨(GA.wfs_iff t).2 h.2,by rw [GA.bks_eq];exact c⟩
theorem half_mid {lo hi:Nat} (h:lo < hi) (o:hi<=4611686018427387904):IntKind.wrap .i64 (Int.fdiv (IntKind.wrap .u64 (IntKind.wrap .i64 ((lo:Int)+(hi:Int)))) (2 ^ (min (1:Int).toNat (IntKind.bits .u64))))=(((lo+hi) / 2:Nat):Int):=by
 have c:IntKind.wrap .i64 ((lo:Int)+(hi:Int))=((lo+hi:Nat):Int):=by rw [qn (by omega)];omega
 have m:IntKind.wrap .u64 (((lo+hi:Nat):Int))=((lo+hi:Nat):Int):=by rw [IntKind.wrap_u64];omega
 have g:(2:Int) ^ (min (1:Int).toNat (IntKind.bits .u64))=2:=by decide
 rw [c,m,g,Int.fdiv_eq_ediv_of_nonneg _ (by decide)];have j:((lo+hi:Nat):Int) / 2=(((lo+hi) / 2:Nat):Int):=by omega
 rw [j,qn (by omega)]
theorem bs_loop {h:GA->zd->Option Int} {x:List GA} {s:zd} {c:Nat} (D:x.length<=16777216) (w:∀i n,x[i]?=some n->∃v,h n s=some v/\(i < c->v < 0)/\(c<=i->0<=v)) :
  ∀(k lo hi:Nat),hi - lo<=k->lo<=c->c<=hi->hi<=x.length->yX (ρ:=Int×Bool) (λ(g:Int×Int)=>((if (decide (g.1 < g.2))=true then ((xe x (IntKind.wrap .i64 ((Int.fdiv (IntKind.wrap .u64 ((IntKind.wrap .i64 (g.1+g.2)))) (2 ^ (min (1:Int).toNat (IntKind.bits .u64))))))).bind λz=>((h z s).bind λj=>(if (decide (j < (0:Int)))=true then some (.nxt ((IntKind.wrap .i64 ((IntKind.wrap .i64 ((Int.fdiv (IntKind.wrap .u64 ((IntKind.wrap .i64 (g.1+g.2)))) (2 ^ (min (1:Int).toNat (IntKind.bits .u64))))))+(1:Int))),g.2)) else some (.nxt (g.1,(IntKind.wrap .i64 ((Int.fdiv (IntKind.wrap .u64 ((IntKind.wrap .i64 (g.1+g.2)))) (2 ^ (min (1:Int).toNat (IntKind.bits .u64))))))))))) else some (.brk (g.1,g.2))):Option (Out _ (Int×Int)))) ((lo:Int),(hi:Int))=some (.inr ((c:Int),(c:Int))):=by
 intro k
 induction k with
 | zero =>
  intro lo hi u m p hh;obtain rfl:lo=hi:=by omega
  obtain rfl:lo=c:=by omega
  rw [xi];simp
 | succ k ih =>
  intro lo hi u m p hh;rw [xi];by_cases hlt:lo < hi
  ·have hd:decide ((lo:Int) < (hi:Int))=true:=uR (by omega);simp only [hd,uq,half_mid hlt (by omega)];have o:(lo+hi) / 2 < x.length:=by omega
   rw [xw o,ua];obtain ⟨v,C,t,y⟩:=w ((lo+hi) / 2) _ (ug o);rw [C,ua];by_cases hcm:(lo+hi) / 2 < c
   ·rw [uR (t hcm),uF rfl];simp only;have e:IntKind.wrap .i64 ((((lo+hi) / 2:Nat):Int)+1)=(((lo+hi) / 2+1:Nat):Int):=by rw [qn (by omega)];omega
    rw [e];exact ih _ _ (by omega) (by omega) p hh
   ·rw [uN (by have:=y (by omega);omega)];simp only [ul,uK];exact ih _ _ (by omega) m (by omega) (by omega)
  ·obtain rfl:lo=hi:=by omega
   obtain rfl:lo=c:=by omega
   simp
theorem bs_is {g:GA->zd->Option Int} {x:List GA} {s:zd} {c:Nat} (o:x.length<=16777216) (m:c<=x.length) (j:∀i n,x[i]?=some n->∃v,g n s=some v/\(i < c->v < 0)/\(c<=i->0<=v)) :
  zt x s g=(if c < x.length then g (x.getD c default) s else some 1).bind λv=>some ((c:Int),(decide (c < x.length)&&(v==0))):=by
 unfold zt;have:=bs_loop o j x.length 0 x.length (by omega) (tK _) m (uh _);simp only [Int.natCast_zero] at this;rw [show ((0:Int),(x.length:Int))=(((0:Nat):Int),(x.length:Int)) from rfl] at *;rw [this];simp only [lp];by_cases h:c < x.length
 ·have hd:decide ((c:Int) < (x.length:Int))=true:=uR (by omega);simp only [hd,h,uq,uM,tE,sS,u2];rw [zn (by intro _;omega)]
 ·have hd:decide ((c:Int) < (x.length:Int))=false:=uN (by omega);simp only [hd,h,uK,decide_false,s9,ua];rw [zn (by intro hh;cases hh)];simp
theorem cmp_less {b:List UInt8}:Lib.compareBytes a b < 0 ↔ Op.bytesLess a b=true:=by
 induction a generalizing b with
 | nil=>cases b <;> simp [Lib.compareBytes,Op.bytesLess]
 | cons x a ih =>
  cases b with
  | nil=>simp [Lib.compareBytes,Op.bytesLess]
  | cons y b =>
   simp only [Lib.compareBytes,Op.bytesLess];by_cases h1:x < y
   ·simp [h1]
   ·by_cases h2:y < x
    ·have:¬ x=y:=by rintro rfl;exact h1 h2
     simp [h1,h2,this]
    ·have:x=y:=UInt8.le_antisymm (UInt8.not_lt.1 h2) (UInt8.not_lt.1 h1);simp [h1,h2,this,ih]
theorem cmp_self (a:List UInt8):Lib.compareBytes a a=0:=by
 induction a with
 | nil=>rfl
 | cons x a ih=>simp [Lib.compareBytes,ih]
theorem layC1_is (n:GA) (s:zd):xy n s=some (Lib.compareBytes n.name s):=rfl
theorem cloneLeaf_is {L:List GE} (h:L.length<=yN):wC L=some L:=clone_is h
theorem cloneNode_is {L:List GA} (h:L.length<=yN):xC L=some L:=clone_is h
theorem yn (h:n<=16777217):n<=yN:=uE h (by decide)
theorem own_is (h:LeafOk l):vz l=some l:=by
 unfold vz;rw [cloneItem_is (yn (sL h.items)),ua,cloneDot_is (yn (sL h.tombs)),ua]
def preR (a:List zd) (r:GH):GH:=⟨a++r.path,r.leaf⟩
theorem rows_pre:∀(t:List GA) (a b:List zd),zj (a++b) t=(zj b t).map (preR a):=by
 refine vp (λ_ _=>rfl) ?_;intro x r g c a b;rw [yv,yv,tG,tG,<- yv,<- yv,c,sJ];congr 1;rw [xg,xg,uz,g,sJ,rh];rfl
theorem rows_path:∀(t:List GA) (a:List zd) (r:GH),r ∈ zj a t->a.length < r.path.length/\r.path.length<=a.length+GA.deps t:=by
 refine vp (λ_ _ h=>by simp [zj] at h) ?_;intro x r j g a q c;rw [yv,tG,uv,<- yv] at c;have o:x.dep<=GA.deps (x::r):=ql (by simp);have m:=xM x;have p:GA.deps r<=GA.deps (x::r):=by
  simp only [GA.deps];omega
 rcases c with c | c
 ·rw [xg,uv,tI] at c;rcases c with ⟨l,_,rfl⟩ | c
  ·simp;omega
  ·have:=j _ _ c;simp only [um,ui,uH] at this;omega
 ·have:=g _ _ c;omega
theorem leaf_typ (h:leafB l=true):1<=l.typ/\l.typ<=4:=by
 unfold leafB at h;split at h
 ·omega
 split at h
 ·omega
 split at h
 ·omega
 split at h
 ·omega
 ·cases h
theorem leaves_up (h:leavesB ls=true):ls.Pairwise (λx y=>x.typ < y.typ)/\∀l ∈ ls,leafB l=true:=by
 unfold leavesB at h;rw [allI_iff] at h;have o:∀l ∈ ls,leafB l=true:=λl m=>by
  obtain ⟨i,hi⟩:=tb.1 m;have:=h i l hi;simp only [ud] at this;exact this.1
 refine ⟨?_,o⟩;have step:∀i,(hi:i+1 < ls.length)->ls[i].typ < ls[i+1].typ:=λi hi=>by
  have:=h (i+1) _ (ug hi);simp only [Nat.add_eq_zero_iff,pA,and_false,decide_false,tN,ud,uj,tY] at this;have e:ls.getD i default=ls[i]:=by simp [uu,ug (show i < ls.length by omega)]
  rw [e] at this;exact this.2
 rw [tp];intro i j hi g c;obtain ⟨k,rfl⟩:∃k,j=i+1+k:=⟨j - (i+1),by omega⟩
 clear c
 induction k with
 | zero=>exact step i g
 | succ k ih=>exact Int.lt_trans (ih (by omega)) (step (i+1+k) g)
theorem Small.tail {x:GA} {r:List GA} (h:Small (x::r)):Small r:=by
 refine ⟨(GA.wfs_iff r).2 λy c=>(GA.wfs_iff _).1 h.1 y (by simp [c]),?_⟩;have:=h.2;simp only [GA.bks] at this;omega
def pathLt (a b:List zd):Prop:=(∃y q,b=a++y::q) \/ ∃p x y a' b',a=p++x::a'/\b=p++y::b'/\Op.bytesLess x y=true
theorem qf:∀(a:List UInt8),Op.bytesLess a a=false
 | []=>rfl
 | x::a=>by simp [Op.bytesLess,qf a]
theorem less_ne {b:List UInt8} (h:Op.bytesLess a b=true):a ≠ b:=by
 rintro rfl;rw [qf] at h;cases h
theorem cmpS_self (x:zd):yA x x=some 0:=by
 unfold yA xz;simp [qf]
theorem cmpS_less {x y:zd} (h:Op.bytesLess x y=true):yA x y=some (-1):=by
 unfold yA xz;simp [h]
noncomputable def cmpF (s2:List zd):Nat->zd->Unit->Option (Out Int Unit):=λn x _=>if (decide ((n:Int) >= ((s2).length:Int)))=true then some (.ret (1:Int)) else ((xe s2 (n:Int)).bind λy12=>((yA x y12).bind λv13=>(if (v13 != (0:Int))=true then some (.ret v13) else some (.nxt ()))))
theorem cmpP_eq (a b:List zd):yJ a b=lp (zg (cmpF b) a 0 ()) λ_=>(if (decide (((a).length:Int) < ((b).length:Int)))=true then some (-1:Int) else some (0:Int)):=rfl
theorem cmp_pre {s2:List zd}:∀(p a:List zd) (q b:List zd),s2=q++(p++b)->zg (cmpF s2) (p++a) q.length ()=zg (cmpF s2) a (q.length+p.length) ()
 | [],a,q,b,_=>rfl
 | x::p,a,q,b,h=>by
  have g:q.length < s2.length:=by rw [h];simp
  have c:xe s2 (q.length:Int)=some x:=zF (by rw [h];simp);have e:cmpF s2 q.length x ()=some (.nxt ()):=by
   unfold cmpF;rw [uN (by omega)];simp only [ul,uK,c,ua,cmpS_self,sK]
  simp only [tJ,zg,e];have:=cmp_pre (s2:=s2) p a (q++[x]) b (by rw [h];simp);rw [um,se] at this;rw [this];congr 1;simp only [ui];omega
theorem cmpP_lt {a b:List zd} (h:pathLt a b):yJ a b=some (-1):=by
 rw [cmpP_eq];rcases h with ⟨y,q,rfl⟩ | ⟨p,x,y,a',c,rfl,rfl,h⟩
 ·have:=cmp_pre (s2:=a++y::q) a [] [] (y::q) rfl;rw [tu,uH] at this;rw [this];simp only [zg,yp];rw [uF (uR (by simp only [um,ui];omega))]
 ·have:=cmp_pre (s2:=p++y::c) p (x::a') [] (y::c) rfl;rw [uH] at this;rw [this];have g:xe (p++y::c) ((0+p.length:Nat):Int)=some y:=zF (by simp);have e:cmpF (p++y::c) (0+p.length) x ()=some (.ret (-1)):=by
   unfold cmpF;rw [uN (by simp only [um,ui];omega)];simp only [ul,uK,g,ua,cmpS_less h];rfl
  simp only [zg,e,lp_inl]
theorem cmpP_self (a:List zd):yJ a a=some 0:=by
 rw [cmpP_eq];have:=cmp_pre (s2:=a) a [] [] [] (by simp);rw [tu,uH] at this;rw [this];simp only [zg,yp];rw [th (by simp)]
def rowLt (r q:GH):Prop:=pathLt r.path q.path \/ (r.path=q.path/\r.leaf.typ < q.leaf.typ)
def w6:GE:=GE.mk (0:Int) (0:Int) (0:Int) (GF.mk (GJ.mk (0:Int) (0:Int)) (0:Int)) ([]:zd) ([]:List GI) ([]:List GF)
theorem qw {t:List GA} {a:List zd} (h:r ∈ zj a t):∃x ∈ t,∃w,r.path=a++x.name::w:=by
 rw [yv,List.mem_flatMap] at h;obtain ⟨x,c,h⟩:=h;refine ⟨x,c,?_⟩;rw [xg,uv,tI] at h;rcases h with ⟨l,_,rfl⟩ | h
 ·exact ⟨[],rfl⟩
 ·have:=rows_pre x.subs (a++[x.name]) [];rw [tu] at this;rw [this,tI] at h;obtain ⟨q,_,rfl⟩:=h;exact ⟨q.path,by simp [preR]⟩
theorem rows_lt:∀(t:List GA) (d:Nat) (a:List zd),upB t=true->xQ d t=true->(zj a t).Pairwise rowLt:=by
 refine vp (λ_ _ _ _=>List.Pairwise.nil) ?_;intro x r H G d a s C;rw [yv,tG,<- yv];rw [upB_iff,uC] at s;simp only [xQ,ud] at C;obtain ⟨g,p⟩:=C;rw [q9] at g;simp only [ud] at g;obtain ⟨⟨⟨_,_⟩,c⟩,u⟩:=g;simp only [treeB,ud] at c;obtain ⟨o,_⟩:=leaves_up u;rw [uZ];refine ⟨?_,G d a (upB_iff r |>.2 s.2) p,λq m J j=>?_⟩
 ·rw [xg,uZ];refine ⟨?_,H (d+1) _ c.1.2 c.2,λq m J j=>?_⟩
  ·rw [rJ];exact o.imp λh=>.inr ⟨rfl,h⟩
  ·rw [tI] at m;obtain ⟨l,_,rfl⟩:=m;obtain ⟨y,_,w,e⟩:=qw j;exact .inl (.inl ⟨y.name,w,e⟩)
 ·have D:∃w,q.path=a++x.name::w:=by
   have:q ∈ zj a [x]:=by rw [yv];simpa using m
   obtain ⟨z,v,w,e⟩:=qw this;simp only [up] at v;subst v;exact ⟨w,e⟩
  obtain ⟨w,I⟩:=D;obtain ⟨y,F,w',E⟩:=qw j;exact .inl (.inr ⟨a,x.name,y.name,w,w',I,E,s.1 y F⟩)
structure RowOk' (r:GH):Prop where
 path:xL r.path=true
 leaf:leafB r.leaf=true
 ok:LeafOk r.leaf
theorem rows_ok:∀(t:List GA) (d:Nat) (a:List zd),Small t->treeB d t=true->a.length=d->a.all nameB=true->∀r ∈ zj a t,RowOk' r:=by
 have key:∀(t:List GA),(∀(d:Nat) (a:List zd),Small t->xQ d t=true->d < 3->a.length=d->a.all nameB=true->∀r ∈ zj a t,RowOk' r):=by
  refine vp (λ_ _ _ _ _ _ _ _ h=>by simp [zj] at h) ?_;intro x r D m d a hs C hd s u q c;rw [yv,tG,uv,<- yv] at c;simp only [xQ,ud] at C;obtain ⟨j,w⟩:=C;rcases c with c | c
  ·rw [q9] at j;simp only [ud] at j;obtain ⟨⟨⟨y,_⟩,g⟩,z⟩:=j;have p:(a++[x.name]).all nameB=true:=by rw [sa,u];simpa using y
   rw [xg,uv,tI] at c;rcases c with ⟨l,o,rfl⟩ | c
   ·refine ⟨?_,(leaves_up z).2 l o,hs.leaf (by simp) o⟩;simp only [xL,p,tW,um,ui,uH,ud,uj];omega
   ·simp only [treeB,ud,uY,pr,uj] at g;rcases g.1.1 with h0 | h0
    ·rw [h0] at c;simp [zj] at c
    ·exact D (d+1) _ (hs.subs (by simp)) g.2 h0 (by simp [s]) p q c
  ·exact m d a hs.tail w hd s u q c
 intro t d a hs v s u r m;simp only [treeB,ud,uY,pr,uj] at v;rcases v.1.1 with h0 | h0
 ·rw [h0] at m;simp [zj] at m
 ·exact key t d a hs v.2 h0 s u r m
theorem side0 (k:Int):xH false w6 k=some true:=by
 unfold xH;simp only [tF,uq];have:=xG w6 w6;unfold w6 at this ⊢;rw [this];simp
theorem side1 (h:leafB l=true) (c:LeafOk l):xH true l l.typ=some true:=by
 unfold xH;have g:leafMay l=some true:=by
  rw [leafMay_is (uE c.items (by decide)) (uE c.tombs (by decide)),h]
 simp [g]
theorem small_nil:Small []:=⟨(GA.wfs_iff []).2 (by simp),by simp [GA.bks]⟩
theorem tree_nil (d:Nat):treeB d []=true:=by simp [treeB,xQ,upB,qq]
theorem leafNew_tot (k:Int):∃v,qg k=some v:=by unfold qg;split <;> exact ⟨_,rfl⟩
theorem pathB_ne {p:List zd} (h:xL p=true):p ≠ []:=by
 rintro rfl
 simp [xL] at h
theorem loopW_inv {ρ:Type} {f:σ->Option (Out ρ σ)} (j g:σ->Prop) (m:σ->Nat) (h:∀s,j s->(∃c,f s=some (.brk c)/\g c) \/ ∃c,f s=some (.nxt c)/\j c/\m c < m s):∀(k:Nat) (s:σ),m s=k->j s->∃c,yX f s=some (.inr c)/\g c:=by
 intro k
 induction k using Nat.strongRecOn with
 | _ k ih =>
  intro s t hi;rw [xi];rcases h s hi with ⟨c,e,o⟩ | ⟨c,e,p,u⟩
  ·exact ⟨c,by rw [e],o⟩
  ·rw [e];exact ih (m c) (by omega) c rfl p
theorem idxF_is {q:GE->Bool} {del:GE->Option Bool}:∀(L:List GE) (n:Nat),(∀x ∈ L,del x=some (q x)) ->
  (zg (λ(g:Nat) (o:GE) (_:Unit)=>(((del o).bind λs=>(if s=true then some (.ret (g:Int)) else some (.nxt ()))):Option (Out Int Unit))) L n ()=some (.inr ())/\∀x ∈ L,q x=false) \/
  ∃A x B,L=A++x::B/\q x=true/\(∀y ∈ A,q y=false)/\zg (λ(g:Nat) (o:GE) (_:Unit)=>(((del o).bind λs=>(if s=true then some (.ret (g:Int)) else some (.nxt ()))):Option (Out Int Unit))) L n ()=some (.inl ((n+A.length:Nat):Int))
 | [],n,_=>.inl ⟨rfl,by simp⟩
 | x::r,n,h=>by
  have p:=h x (by simp);cases hq:q x with
  | true=>exact .inr ⟨[],x,r,rfl,hq,by simp,by simp [zg,p,hq]⟩
  | false =>
   rcases idxF_is r (n+1) (λy c=>h y (by simp [c])) with ⟨e,m⟩ | ⟨A,y,B,rfl,t,m,e⟩
   ·refine .inl ⟨by simp only [zg,p,hq,ua];exact e,?_⟩;intro y c;rcases ut.1 c with rfl | c
    ·exact hq
    ·exact m y c
   ·refine .inr ⟨x::A,y,B,rfl,t,?_,?_⟩
    ·intro z j;rcases ut.1 j with rfl | j
     ·exact hq
     ·exact m z j
    ·simp only [zg,p,hq,ua];rw [show n+(x::A).length=n+1+A.length by simp only [ui];omega];exact e
theorem wrap_a1 {a:Nat} (h:a<=16777216):IntKind.wrap .i64 ((a:Int)+1)=((a+1:Nat):Int):=wrap_add1 (uE (pp h) (by decide))
noncomputable def delF (del:GE->Option Bool) (n:Nat):Int×Int×(List GE)->Option (Out (List GE) (Int×Int×(List GE))):=λs1=>((yw ((s1.2.2).length=n) ((if (decide (s1.2.1 < ((n:Nat):Int)))=true then ((xe s1.2.2 s1.2.1).bind λy14=>((del y14).bind λv15=>(if (!v15)=true then ((xe s1.2.2 s1.1).bind λy17=>some (.nxt ((IntKind.wrap .i64 (s1.1+(1:Int))),(IntKind.wrap .i64 (s1.2.1+(1:Int))),(s1.2.2.set s1.1.toNat y14)))) else some (.nxt (s1.1,(IntKind.wrap .i64 (s1.2.1+(1:Int))),s1.2.2))))) else some (.brk (s1.1,s1.2.1,s1.2.2))))))
theorem delR_eq (g:List GE) (c:GE->Option Bool):yL g c=((ya g c).bind λm=>(if (m==(-1:Int))=true then some g else (lp (yX (delF c g.length) (m,(IntKind.wrap .i64 (m+(1:Int))),g)) λ(h:Int×Int×(List GE))=>(yw (0<=h.1/\h.1<=((g.length:Nat):Int)) (((slc (h.2.2.take h.1.toNat++List.replicate (g.length - h.1.toNat) zp) (0:Int) h.1).bind λj=>some j)))))):=rfl
theorem delF_run (C:L0.length<=16777216) (h:∀x ∈ L0,del x=some (q x)) {a0 b0:Nat} (F:a0 < b0) (E:b0<=L0.length) (H:L0.take a0=(L0.take b0).filter λx=>!q x) :
  ∃p,yX (delF del L0.length) ((a0:Int),(b0:Int),L0)=some (.inr p)/\∃a:Nat,p.1=(a:Int)/\a < L0.length/\p.2.2.length=L0.length/\p.2.2.take a=L0.filter λx=>!q x:=by
 refine loopW_inv (f:=delF del L0.length) (λs=>∃a b:Nat,s.1=(a:Int)/\s.2.1=(b:Int)/\a < b/\b<=L0.length/\s.2.2.length=L0.length/\s.2.2.take a=(L0.take b).filter (λx=>!q x)/\s.2.2.drop b=L0.drop b)
  _ (λs=>L0.length - s.2.1.toNat) ?_ _ _ rfl ⟨a0,b0,rfl,rfl,F,E,rfl,H,rfl⟩
 rintro ⟨i,j,M⟩ ⟨a,b,y,D,I,z,o,u,t⟩
 simp only at y D o u t;subst y D;simp only [delF,yw,o,uq];by_cases hb:b < L0.length
 ·right;have G:M[b]?=L0[b]?:=by
   have:=congrArg (λl=>l[0]?) t;simpa [uP] using this
  have v:L0[b]?=some L0[b]:=ug hb;have hd:=h L0[b] (sg hb);have m:xe M (b:Int)=some L0[b]:=by simp [xe,G]
  have c:xe M (a:Int)=some (M[a]'(by omega)):=by simp [xe]
  rw [uF (by simp;omega),m,ua,hd,ua];have g:L0.take (b+1)=L0.take b++[L0[b]]:=by rw [pc,v];rfl
  cases hq:q L0[b] with
  | true =>
   refine ⟨((a:Int),((b+1:Nat):Int),M),by simp [wrap_a1 (uE z C)],⟨a,b+1,rfl,rfl,by omega,by omega,o,?_,?_⟩,by simp;omega⟩
   ·rw [u,g,tn];simp [hq]
   ·have:=congrArg (λl=>l.drop 1) t;simpa [tD] using this
  | false =>
   refine ⟨(((a+1:Nat):Int),((b+1:Nat):Int),M.set a L0[b]),by simp [c,wrap_a1 (uE z C),wrap_a1 (show a<=16777216 by omega)],⟨a+1,b+1,rfl,rfl,by omega,by omega,by simpa using o,?_,?_⟩,by simp;omega⟩
   ·rw [pc,List.take_set_of_le (uh _),u,g,tn,uL (by omega)];simp [hq]
   ·have:=congrArg (λl=>l.drop 1) t;rw [List.drop_set_of_lt (by omega)];simpa [tD] using this
 ·left;have w:b=L0.length:=by omega
  rw [th (by simp;omega)];exact ⟨_,rfl,a,rfl,by omega,o,by rw [u,w,tZ]⟩
theorem deleteR_is (t:L0.length<=16777216) (h:∀x ∈ L0,del x=some (q x)):yL L0 del=some (L0.filter λx=>!q x):=by
 rw [delR_eq];unfold ya;rcases idxF_is L0 0 h with ⟨e,c⟩ | ⟨A,x,B,m,s,c,e⟩
 ·rw [e];simp only [lp,ua,tE,uq];rw [tm.2 (λx v=>by rw [c x v];rfl)]
 ·rw [e];have o:L0.length=A.length+1+B.length:=by rw [m];simp;omega
  simp only [lp,ua,uT];rw [th (by simp <;> omega),wrap_a1 (by omega)];obtain ⟨g,w,a,j,C,z,p⟩:=delF_run t h (a0:=A.length) (b0:=A.length+1) (by omega) (by omega) (by
   rw [m,pB,tO,uQ (by omega),show A.length+1 - A.length=1 by omega,tn];simp only [rm,List.take_zero,sB,s,List.filter_nil];rw [tm.2 (λy u=>by rw [c y u];rfl)];simp)
  rw [w];simp only [yw];rw [uF (by rw [j];omega),j];have hs:slc (g.2.2.take ((a:Int)).toNat++List.replicate (L0.length - ((a:Int)).toNat) zp) (0:Int) (a:Int)=some (g.2.2.take a):=by
   unfold slc;rw [uF (by simp;omega)];simp only [uM,Int.toNat_zero,sq];rw [u7 (by simp;omega),pC,Nat.min_self]
  rw [hs,ua,p]

theorem less_tot:∀(a b:List UInt8),a=b \/ Op.bytesLess a b=true \/ Op.bytesLess b a=true
 | [],[]=>.inl rfl
 | [],_::_=>.inr (.inl rfl)
 | _::_,[]=>.inr (.inr rfl)
 | x::a,y::b=>by
  by_cases h:x=y
  ·subst h;rcases less_tot a b with rfl | h | h
   ·exact .inl rfl
   ·exact .inr (.inl (by simp [Op.bytesLess,h]))
   ·exact .inr (.inr (by simp [Op.bytesLess,h]))
  ·have c:x.toNat ≠ y.toNat:=λe=>h (UInt8.toNat_inj.1 e);rcases Nat.lt_or_gt_of_ne c with h | h
   ·exact .inr (.inl (by simp [Op.bytesLess,s5,h]))
   ·exact .inr (.inr (by simp [Op.bytesLess,s5,h]))
def vi:List zd->List zd->Bool
 | _,[]=>false
 | [],_::_=>true
 | x::a,y::b=>Op.bytesLess x y || (decide (x=y)&&vi a b)
theorem plt_irr:∀a,vi a a=false
 | []=>rfl
 | x::a=>by simp [vi,qf,plt_irr a]
theorem plt_trans:∀{a b c:List zd},vi a b=true->vi b c=true->vi a c=true
 | _,[],_,h,_=>by cases ‹List zd› <;> simp [vi] at h
 | _,_::_,[],_,h=>by simp [vi] at h
 | [],_::_,_::_,_,_=>rfl
 | x::a,y::b,z::c,j,g=>by
  simp only [vi,uY,ud,uj] at *;rcases j with j | ⟨rfl,j⟩
  ·rcases g with g | ⟨rfl,g⟩
   ·exact .inl (vG j g)
   ·exact .inl j
  ·rcases g with g | ⟨rfl,g⟩
   ·exact .inl g
   ·exact .inr ⟨rfl,plt_trans j g⟩
theorem plt_tot:∀(a b:List zd),a=b \/ vi a b=true \/ vi b a=true
 | [],[]=>.inl rfl
 | [],_::_=>.inr (.inl rfl)
 | _::_,[]=>.inr (.inr rfl)
 | x::a,y::b=>by
  rcases less_tot x y with rfl | h | h
  ·rcases plt_tot a b with rfl | h | h
   ·exact .inl rfl
   ·exact .inr (.inl (by simp [vi,h]))
   ·exact .inr (.inr (by simp [vi,h]))
  ·exact .inr (.inl (by simp [vi,h]))
  ·exact .inr (.inr (by simp [vi,h]))
theorem plt_path:∀{a b:List zd},vi a b=true->pathLt a b
 | _,[],h=>by cases ‹List zd› <;> simp [vi] at h
 | [],y::b,_=>.inl ⟨y,b,rfl⟩
 | x::a,y::b,h=>by
  simp only [vi,uY,ud,uj] at h;rcases h with h | ⟨rfl,h⟩
  ·exact .inr ⟨[],x,y,a,b,rfl,rfl,h⟩
  ·rcases plt_path h with ⟨z,q,rfl⟩ | ⟨p,u,v,a',c,rfl,rfl,g⟩
   ·exact .inl ⟨z,q,rfl⟩
   ·exact .inr ⟨x::p,u,v,a',c,rfl,rfl,g⟩
theorem path_plt {a b:List zd} (h:pathLt a b):vi a b=true:=by
 rcases h with ⟨y,q,rfl⟩ | ⟨p,x,y,a',c,rfl,rfl,h⟩
 ·induction a with
  | nil=>rfl
  | cons x a ih=>simp [vi,ih]
 ·induction p with
  | nil=>simp [vi,h]
  | cons x a ih=>simp [vi,ih]
theorem cmpS_gt {x y:zd} (h:Op.bytesLess y x=true):yA x y=some 1:=by
 have c:Op.bytesLess x y=false:=by
  cases e:Op.bytesLess x y
  ·rfl
  ·have:=vG h e;rw [qf] at this;cases this
 unfold yA xz;have g:¬ x=y:=λe=>less_ne h e.symm;simp [h,c,g]
theorem cmpP_gt {a b:List zd} (h:pathLt b a):yJ a b=some 1:=by
 rw [cmpP_eq];rcases h with ⟨y,q,rfl⟩ | ⟨p,x,y,a',c,rfl,rfl,h⟩
 ·have:=cmp_pre (s2:=b) b (y::q) [] [] (by simp);rw [uH] at this;rw [this];have e:cmpF b (0+b.length) y ()=some (.ret 1):=by
   unfold cmpF;rw [uF (uR (by omega))]
  simp only [zg,e,lp_inl]
 ·have:=cmp_pre (s2:=p++x::a') p (y::c) [] (x::a') rfl;rw [uH] at this;rw [this];have g:xe (p++x::a') ((0+p.length:Nat):Int)=some x:=zF (by simp);have e:cmpF (p++x::a') (0+p.length) y ()=some (.ret 1):=by
   unfold cmpF;rw [uN (by simp only [um,ui];omega)];simp only [ul,uK,g,ua,cmpS_gt h];rfl
  simp only [zg,e,lp_inl]
def Key:=List zd×Int
def xj (a b:Key):Bool:=vi a.1 b.1 || (decide (a.1=b.1)&&decide (a.2 < b.2))
theorem y8 (a:Key):xj a a=false:=by simp [xj,plt_irr]
theorem klt_trans {a b c:Key} (h:xj a b=true) (g:xj b c=true):xj a c=true:=by
 simp only [xj,uY,ud,uj] at *;rcases h with h | ⟨m,h⟩
 ·rcases g with g | ⟨j,g⟩
  ·exact .inl (plt_trans h g)
  ·rw [j] at h;exact .inl h
 ·rcases g with g | ⟨j,g⟩
  ·rw [<- m] at g;exact .inl g
  ·exact .inr ⟨m.trans j,by omega⟩
theorem klt_tot (a b:Key):a=b \/ xj a b=true \/ xj b a=true:=by
 obtain ⟨p,k⟩:=a;obtain ⟨q,j⟩:=b;rcases plt_tot p q with rfl | h | h
 ·rcases pf k j with h | rfl | h
  ·exact .inr (.inl (by simp [xj,h]))
  ·exact .inl rfl
  ·exact .inr (.inr (by simp [xj,h]))
 ·exact .inr (.inl (by simp [xj,h]))
 ·exact .inr (.inr (by simp [xj,h]))
def zM (e:GC):Key:=(e.path,e.typ)
def rkey (r:GH):Key:=(r.path,r.leaf.typ)
def ordI (a b:GC):Int:=if xj (zM a) (zM b)=true then -1 else if xj (zM b) (zM a)=true then 1 else 0
theorem klt_asym {a b:Key} (h:xj a b=true):xj b a=false:=by
 cases e:xj b a
 ·rfl
 ·have:=klt_trans h e;rw [y8] at this;cases this
theorem plt_asym {a b:List zd} (h:vi a b=true):vi b a=false:=by
 cases e:vi b a
 ·rfl
 ·have:=plt_trans h e;rw [plt_irr] at this;cases this
theorem order_is (a b:GC):wz a b=some (ordI a b):=by
 unfold wz ordI xj zM;rcases plt_tot a.path b.path with h | h | h
 ·simp only [h,cmpP_self,cmpU8is,ua,cmpOr2_is,plt_irr,tN,sS,u2,uj,or2,cmpI];simp
 ·have c:a.path ≠ b.path:=λe=>by rw [e,plt_irr] at h;cases h
  simp only [cmpP_lt (plt_path h),cmpU8is,ua,cmpOr2_is,h,or2];simp
 ·have c:a.path ≠ b.path:=λe=>by rw [e,plt_irr] at h;cases h
  simp only [cmpP_gt (plt_path h),cmpU8is,ua,cmpOr2_is,h,plt_asym h,or2];simp [c]
theorem ordI_lt {a b:GC}:ordI a b < 0 ↔ xj (zM a) (zM b)=true:=by
 unfold ordI;split
 ·rename_i h;simp [h]
 ·rename_i h;split
  ·simp [h]
  ·simp [h]
theorem sortO_lt {α:Type} {c:α->α->Option Int} {cf:α->α->Int} {lt:α->α->Prop} {L R:List α} (I:∀x ∈ L,∀y ∈ L,c x y=some (cf x y)) (C:∀x y,cf x y < 0 ↔ lt x y) (u:∀x,¬ lt x x) (E:∀x y z,lt x y->lt y z->lt x z)
  (t:∀x ∈ L,∀y ∈ L,x=y \/ lt x y \/ lt y x) (v:R.Perm L) (hs:R.Pairwise lt) (K:L.length<=yN):sortO c L=some R:=by
 unfold sortO;rw [uF (λx g y j=>by rw [I x g y j];rfl)];have hd:∀x ∈ L,∀y ∈ L,(c x y).getD 0 < 0 ↔ lt x y:=λx g y j=>by rw [I x g y j];exact C x y
 have o:∀x y,lt x y->¬ lt y x:=λx y p m=>u x (E _ _ _ p m);have H:R.Pairwise λa b=>¬ (c b a).getD 0 < 0:=by
  have:R.Pairwise λa b=>a ∈ L/\b ∈ L/\lt a b:=by
   refine rp ?_ hs;intro a b G D h;exact ⟨v.subset G,v.subset D,h⟩
  refine this.imp ?_
  rintro a b ⟨G,D,h⟩ m
  exact o _ _ h ((hd b D a G).1 m)
 refine sortF_of ⟨λx g h=>u x ((hd x g x g).1 h),λx y z g j s p m=>(hd x g z s).2 (E _ _ _ ((hd x g y j).1 p) ((hd y j z s).1 m)),λx y z g j s p m w=>?_⟩ K ⟨v,H⟩ ?_
 ·have w:=(hd x g z s).1 w;rcases t x g y j with rfl | h | h
  ·exact m ((hd _ j z s).2 w)
  ·exact p ((hd x g y j).2 h)
  ·exact m ((hd y j z s).2 (E _ _ _ h w))
 ·rintro M ⟨F,J⟩
  refine sorted_one (F.trans v.symm) J H λx y g j p m=>?_;have g:=F.subset g;have j:=F.subset j;rcases t x g y j with e | h | h
  ·exact e
  ·exact (p ((hd x g y j).2 h)).elim
  ·exact (m ((hd y j x g).2 h)).elim
theorem exists_sorted {α:Type} {lt:α->α->Prop} (o:∀x y z,lt x y->lt y z->lt x z):∀(L:List α),L.Pairwise (λx y=>lt x y \/ lt y x)->∃R:List α,R.Perm L/\R.Pairwise lt
 | [],_=>⟨[],.refl _,.nil⟩
 | x::L,h=>by
  obtain ⟨v,u⟩:=uC.1 h;obtain ⟨R,p,hs⟩:=exists_sorted o L u;have j:∀(R:List α),R.Pairwise lt->(∀y ∈ R,lt x y \/ lt y x)->∃Q:List α,Q.Perm (x::R)/\Q.Pairwise lt:=by
   intro R
   induction R with
   | nil=>exact λ_ _=>⟨[x],.refl _,by simp⟩
   | cons y R ih =>
    intro hs t;obtain ⟨s,s2⟩:=uC.1 hs;rcases t y (by simp) with h | h
    ·refine ⟨x::y::R,.refl _,uC.2 ⟨λz c=>?_,hs⟩⟩;rcases ut.1 c with rfl | c
     ·exact h
     ·exact o _ _ _ h (s z c)
    ·obtain ⟨Q,g,m⟩:=ih s2 λz c=>t z (by simp [c]);refine ⟨y::Q,((pF y).2 g).trans (.swap _ _ _),uC.2 ⟨λz c=>?_,m⟩⟩;rcases ut.1 (g.subset c) with rfl | c
     ·exact h
     ·exact s z c
  obtain ⟨Q,g,m⟩:=j R hs λy w=>v y (p.subset w);exact ⟨Q,g.trans ((pF x).2 p),m⟩

theorem cmp_pos:∀{a b:List UInt8},Op.bytesLess b a=true->0 < Lib.compareBytes a b
 | [],b,h=>by cases b <;> simp [Op.bytesLess] at h
 | _::_,[],_=>by simp [Lib.compareBytes]
 | x::a,y::b,h=>by
  simp only [Op.bytesLess,uY,ud,uj,tX] at h;rcases h with h | ⟨rfl,h⟩
  ·have g:y.toNat < x.toNat:=s5.1 h;have c:¬ x < y:=λe=>by have:=s5.1 e;omega
   simp [Lib.compareBytes,h,c]
  ·have:=cmp_pos h;simp [Lib.compareBytes,this]
def NLt (s:zd) (A:List GA):Prop:=∀y ∈ A,Op.bytesLess y.name s=true
def NGt (s:zd) (B:List GA):Prop:=∀y ∈ B,Op.bytesLess s y.name=true
theorem split_up {t:List GA} (s:zd) (h:upB t=true):(∃A B,t=A++B/\NLt s A/\NGt s B) \/ ∃A x B,t=A++x::B/\x.name=s/\NLt s A/\NGt s B:=by
 rw [upB_iff] at h
 induction t with
 | nil=>exact .inl ⟨[],[],rfl,λ_ h=>by simp at h,λ_ h=>by simp at h⟩
 | cons x t ih =>
  obtain ⟨m,o⟩:=uC.1 h;rcases less_tot x.name s with e | e | e
  ·exact .inr ⟨[],x,t,rfl,e,λ_ h=>by simp at h,λy c=>by rw [<- e];exact m y c⟩
  ·rcases ih o with ⟨A,B,rfl,g,j⟩ | ⟨A,z,B,rfl,p,g,j⟩
   ·refine .inl ⟨x::A,B,rfl,λy c=>?_,j⟩;rcases ut.1 c with rfl | c
    ·exact e
    ·exact g y c
   ·refine .inr ⟨x::A,z,B,rfl,p,λy c=>?_,j⟩;rcases ut.1 c with rfl | c
    ·exact e
    ·exact g y c
  ·refine .inl ⟨[],x::t,rfl,λ_ h=>by simp at h,λy c=>?_⟩;rcases ut.1 c with rfl | c
   ·exact e
   ·exact vG e (m y c)
theorem bs_none {A B:List GA} {s:zd} (u:(A++B).length<=16777216) (o:NLt s A) (h:NGt s B):zt (A++B) s (λj t=>xy j t)=some ((A.length:Int),false):=by
 rw [bs_is (c:=A.length) u (by simp) λi m hi=>⟨_,layC1_is m s,λg=>by
   rw [uo g] at hi;exact cmp_less.2 (o m (uB hi)),λg=>by
   rw [un g] at hi;exact Int.le_of_lt (cmp_pos (h m (uB hi)))⟩]
 cases B with
 | nil=>simp
 | cons y B =>
  have e:(A++y::B).getD A.length default=y:=by simp
  have:=cmp_pos (h y (by simp));rw [uF (by simp),e,layC1_is];have p:(Lib.compareBytes y.name s==0)=false:=by simp;omega
  simp [p]
theorem bs_some {A B:List GA} {x:GA} {s:zd} (u:(A++x::B).length<=16777216) (hs:x.name=s) (o:NLt s A) (t:NGt s B):zt (A++x::B) s (λh p=>xy h p)=some ((A.length:Int),true):=by
 subst hs;rw [bs_is (c:=A.length) u (by simp) λi m hi=>⟨_,layC1_is m x.name,λg=>by
   rw [uo g] at hi;exact cmp_less.2 (o m (uB hi)),λg=>by
   rw [un g] at hi;rcases ut.1 (uB hi) with rfl | j
   ·rw [cmp_self];exact sd _
   ·exact Int.le_of_lt (cmp_pos (t m j))⟩]
 have e:(A++x::B).getD A.length default=x:=by simp
 rw [uF (by simp),e,layC1_is,cmp_self];simp
noncomputable def layIn (n:Nat) (path1:List zd) (kind2:Int) (l3:GE) (there4:Bool) (s1:zd×(List GE)×(List GA)):Option (List GA ⊕ ((List GE)×(List GA))):=((if (decide (((path1).length:Int) > (1:Int)))=true then ((slc path1 (1:Int) ((path1).length:Int)).bind λm20=>((xn n s1.2.2 m20 kind2 l3 there4).bind λv21=>some (.inr (s1.2.1,v21)))) else ((wC s1.2.1).bind λv22=>((yL v22 (λx0=>diffXlayC2 x0 kind2)).bind λv23=>(if there4=true then ((vz l3).bind λv25=>(yw ((v23).length+(([v25]:List GE)).length<=yN) (((sortO (λx y=>qM x y) (v23++([v25]:List GE))).bind λv27=>some (.inr (v27,s1.2.2)))))) else some (.inr (v23,s1.2.2)))))):Option (_ ⊕ ((List GE)×(List GA))))
noncomputable def layRest (t0:List GA) (i:Int) (f:Bool) (nm:zd) (s2:(List GE)×(List GA)):Option (List GA):=((slc t0 (0:Int) i).bind λm28=>((xC m28).bind λv29=>(if (decide ((IntKind.wrap .i64 (((s2.1).length:Int)+((s2.2).length:Int))) > (0:Int)))=true then (yw ((v29).length+(([(GA.mk nm s2.1 s2.2)]:List GA)).length<=yN) ((if f=true then ((slc t0 (IntKind.wrap .i64 (i+(1:Int))) ((t0).length:Int)).bind λm35=>(yw (((v29++([(GA.mk nm s2.1 s2.2)]:List GA))).length+(m35).length<=yN) (some ((v29++([(GA.mk nm s2.1 s2.2)]:List GA))++m35)))) else ((slc t0 i ((t0).length:Int)).bind λm37=>(yw (((v29++([(GA.mk nm s2.1 s2.2)]:List GA))).length+(m37).length<=yN) (some ((v29++([(GA.mk nm s2.1 s2.2)]:List GA))++m37))))))) else (if f=true then ((slc t0 (IntKind.wrap .i64 (i+(1:Int))) ((t0).length:Int)).bind λm40=>(yw ((v29).length+(m40).length<=yN) (some (v29++m40)))) else ((slc t0 i ((t0).length:Int)).bind λm42=>(yw ((v29).length+(m42).length<=yN) (some (v29++m42))))))))
theorem layN_eq (n:Nat) (t0:List GA) (c:List zd) (h:Int) (p:GE) (g:Bool):xn (n+1) t0 c h p g=((xe c (0:Int)).bind λv=>((zt t0 v (λs u=>xy s u)).bind λj=>((xe c (0:Int)).bind λt=>(lp ((if j.2=true then ((xe t0 j.1).bind λm=>some (.inr (m.name,m.leaves,m.subs))) else some (.inr (t,([]:List GE),([]:List GA)))):Option (_ ⊕ (zd×(List GE)×(List GA)))) λ(o:zd×(List GE)×(List GA))=>(lp (layIn n c h p g o) λ(s2:(List GE)×(List GA))=>layRest t0 j.1 j.2 o.1 s2))))):=rfl
def qh (k:Int) (l:GE) (there:Bool) (ls:List GE):List GE:=if there=true then ls.filter (λx=>decide (x.typ < k))++[l]++ls.filter (λx=>decide (k < x.typ)) else ls.filter (λx=>!decide (x.typ=k))
theorem ups_inj (h:ls.Pairwise λx y=>x.typ < y.typ) {x y:GE} (p:x ∈ ls) (s:y ∈ ls) (e:x.typ=y.typ):x=y:=by
 induction ls with
 | nil=>simp at p
 | cons z r ih =>
  obtain ⟨o,t⟩:=uC.1 h;rcases ut.1 p with j | c <;> rcases ut.1 s with m | g
  ·rw [j,m]
  ·have:=o y g;rw [<- j] at this;omega
  ·have:=o x c;rw [<- m] at this;omega
  ·exact ih t c g
theorem layLs_up (j:there=true->l.typ=k) (h:ls.Pairwise λx y=>x.typ < y.typ):(qh k l there ls).Pairwise λx y=>x.typ < y.typ:=by
 unfold qh;split
 ·rename_i m;have j:=j m;rw [uZ,uZ];refine ⟨⟨h.filter _,by simp,λx c y g=>?_⟩,h.filter _,λx c y g=>?_⟩
  ·have c:=(uV.1 c).2;simp at c g;subst g;omega
  ·have g:=(uV.1 g).2;simp at g;rcases uv.1 c with c | c
   ·have c:=(uV.1 c).2;simp at c;omega
   ·simp at c;subst c;omega
 ·exact h.filter _
theorem sortLs_is (m:l.typ=k) (p:ls.length<=16777216) (h:ls.Pairwise λx y=>x.typ < y.typ):sortO (λx y=>qM x y) (ls.filter (λx=>!decide (x.typ=k))++[l])=some (qh k l true ls):=by
 have o:=tB (λx:GE=>!decide (x.typ=k)) ls;refine sortO_lt (α:=GE) (cf:=λx y=>cmpI x.typ y.typ) (lt:=λx y=>x.typ < y.typ) (λx _ y _=>by unfold qM;rw [cmpU8is];rfl) (λx y=>by unfold cmpI;split <;> (try split) <;> omega) (λx h=>by omega) (λx y z j s=>by omega) ?_ ?_ (layLs_up (λ_=>m) h) (yn (by simp;omega))
 ·intro x g y c;rcases pf x.typ y.typ with e | e | e
  ·exact .inr (.inl e)
  ·left;rcases uv.1 g with g | g <;> rcases uv.1 c with c | c
   ·exact ups_inj h (uV.1 g).1 (uV.1 c).1 e
   ·have g:=(uV.1 g).2;simp at g c;subst c;omega
   ·have c:=(uV.1 c).2;simp at g c;subst g;omega
   ·simp at g c;rw [g,c]
  ·exact .inr (.inr e)
 ·unfold qh;rw [uF rfl];have j:(ls.filter (λx=>decide (x.typ < k))++ls.filter (λx=>decide (k < x.typ))).Perm (ls.filter λx=>!decide (x.typ=k)):=by
   have:=rD (λx:GE=>decide (x.typ < k)) (ls.filter λx=>!decide (x.typ=k));rw [rz,rz] at this;refine List.Perm.trans (.of_eq ?_) this;congr 1 <;> refine rI λx _=>?_ <;> rw [uw] <;> simp <;> omega
  rw [uz];refine List.Perm.trans (List.Perm.append_left _ List.perm_append_comm) ?_;rw [<- uz];exact j.append_right _
theorem layIn_leaf {s:zd} {j:zd} {sb:List GA} (g:there=true->l.typ=k/\LeafOk l) (c:ls.length<=16777216) (h:ls.Pairwise λx y=>x.typ < y.typ) :
  layIn n [s] k l there (j,ls,sb)=some (.inr (qh k l there ls,sb)):=by
 unfold layIn;have m:decide (((([s]:List zd).length:Int)) > 1)=false:=rfl;have t:=tB (λx:GE=>!decide (x.typ=k)) ls;simp only [m,ul,uK];rw [cloneLeaf_is (yn (by omega)),ua,deleteR_is (q:=λx=>decide (x.typ=k)) c (λx _=>by unfold diffXlayC2;rfl),ua];cases there with
 | false=>simp [qh]
 | true =>
  obtain ⟨p,o⟩:=g rfl;simp only [uq];rw [own_is o,ua,zn (yn (by simp;omega)),sortLs_is p c h,ua]
theorem layIn_sub {s a:zd} {r:List zd} {g:zd} {sb c:List GA} (o:(s::a::r).length<=16777216) (h:xn n sb (a::r) k l there=some c):layIn n (s::a::r) k l there (g,ls,sb)=some (.inr (ls,c)):=by
 unfold layIn;have j:decide ((((s::a::r).length:Int)) > 1)=true:=uR (by simp only [ui];omega);simp only [j,uq];rw [vC ⟨by omega,by simp only [ui];omega,sd _⟩,ua];have m:((s::a::r).take (((s::a::r).length:Int)).toNat).drop (1:Int).toNat=a::r:=by rw [uM,tZ];rfl
 rw [m,h,ua]
def fitN (nm:zd) (ls:List GE) (sb:List GA):List GA:=if ls.length+sb.length=0 then [] else [⟨nm,ls,sb⟩]
theorem layRest_is {A B:List GA} {m:List GA} {o:zd} {sb:List GA} (j:m.length=if f=true then 1 else 0) (u:(A++m++B).length<=16777216) (w:ls.length<=16777216) (v:sb.length<=16777217) :
  layRest (A++m++B) (A.length:Int) f o (ls,sb)=some (A++fitN o ls sb++B):=by
 simp only [um] at u;unfold layRest;rw [vC ⟨sd _,by omega,by simp;omega⟩,ua];have t:((A++m++B).take ((A.length:Int)).toNat).drop (0:Int).toNat=A:=by simp
 rw [t,cloneNode_is (yn (by omega)),ua];have p:∀(c:List GA),c.length<=A.length+1->((if f=true then ((slc (A++m++B) (IntKind.wrap .i64 ((A.length:Int)+(1:Int))) ((A++m++B).length:Int)).bind λh=>(yw (c.length+(h).length<=yN) (some (c++h)))) else ((slc (A++m++B) (A.length:Int) ((A++m++B).length:Int)).bind λg=>(yw (c.length+(g).length<=yN) (some (c++g))))):Option (List GA))=some (c++B):=by
  intro c y;cases f with
  | true =>
   simp only [uq] at j ⊢;rw [qn (by omega),vC ⟨by omega,by simp;omega,sd _⟩,ua];have e:((A++m++B).take (((A++m++B).length:Int)).toNat).drop ((A.length:Int)+1).toNat=B:=by
    rw [uM,tZ,show ((A.length:Int)+1).toNat=(A++m).length by simp;omega,sQ]
   rw [e,zn (yn (by omega))]
  | false =>
   simp only [ul,uK] at j ⊢;obtain rfl:=uO j;rw [vC ⟨by omega,by simp;omega,sd _⟩,ua];have e:((A++[]++B).take (((A++[]++B).length:Int)).toNat).drop ((A.length:Int)).toNat=B:=by
    simp only [uM];rw [tZ,tu,sQ]
   rw [e,zn (yn (by omega))]
 unfold fitN;have s:IntKind.wrap .i64 ((ls.length:Int)+(sb.length:Int))=(ls.length:Int)+(sb.length:Int):=qn (by omega);simp only [s];by_cases h0:ls.length+sb.length=0
 ·rw [uF h0,th (by simp;omega),tu];exact p A (by omega)
 ·rw [th h0,uF (by simp;omega),zn (yn (by simp;omega))];exact p (A++[⟨o,ls,sb⟩]) (by simp)

theorem leaves_of (h:ls.Pairwise λx y=>x.typ < y.typ) (j:∀l ∈ ls,leafB l=true):leavesB ls=true:=by
 unfold leavesB;rw [allI_iff];intro i x c;have g:=j x (uB c);simp only [g,u2];rcases i with _ | i
 ·rfl
 ·obtain ⟨hi,rfl⟩:=uc.1 c;have:=tp.1 h i (i+1) (by omega) hi (by omega);simp only [tY,uY,uj];right;rw [uu,ug (by omega:i < ls.length)];exact this
theorem vO (a:List zd) (A B:List GA):zj a (A++B)=zj a A++zj a B:=by rw [yv,yv,yv,List.flatMap_append]
theorem rowsN_mem {a:List zd} {x:GA}:r ∈ qs a x ↔ (∃l ∈ x.leaves,r=⟨a++[x.name],l⟩) \/ r ∈ zj (a++[x.name]) x.subs:=by
 rw [xg,uv,tI];constructor
 ·rintro (⟨l,c,rfl⟩ | h)
  ·exact .inl ⟨l,c,rfl⟩
  ·exact .inr h
 ·rintro (⟨l,c,rfl⟩ | h)
  ·exact .inl ⟨l,c,rfl⟩
  ·exact .inr h
theorem qY {a:List zd} {x:GA}:zj a [x]=qs a x:=by simp [zj]
theorem fit_mem {a:List zd} {c:zd} {sb:List GA}:r ∈ zj a (fitN c ls sb) ↔ (∃l ∈ ls,r=⟨a++[c],l⟩) \/ r ∈ zj (a++[c]) sb:=by
 unfold fitN;split
 ·rename_i h;have j:ls=[]:=uO (by omega);have g:sb=[]:=uO (by omega);subst j g;simp [zj]
 ·rw [qY,rowsN_mem]
theorem len_rows (t:List GA) (a b:List zd):(zj a t).length=(zj b t).length:=by
 have g:=rows_pre t a [];have c:=rows_pre t b [];rw [tu] at g c;rw [g,c,uA,uA]
theorem q8:∀(t:List GA) (d:Nat),xQ d t=true->t.length<=(zj [] t).length:=by
 refine vp (λ_ _=>tK _) ?_;intro x r o m d g;simp only [xQ,ud] at g;have p:=m d g.2;have c:=g.1;rw [q9] at c;simp only [ud,treeB,tU,sZ] at c;have j:=o (d+1) c.1.2.2;rw [show x::r=[x]++r from rfl,vO,qY,xg];simp only [um,uA,ui,uH];rw [len_rows x.subs ([]++[x.name]) []];rcases c.1.1.2 with h | h
 ·cases hl:x.leaves with
  | nil=>rw [hl] at h;cases h
  | cons l ls=>simp only [ui];omega
 ·cases hl:x.subs with
  | nil=>rw [hl] at h;cases h
  | cons l ls=>rw [hl] at j;simp only [ui] at j;omega
theorem mem_rows_len {t:List GA} {x:GA} (c:x ∈ t):x.leaves.length+(zj [] x.subs).length<=(zj [] t).length:=by
 obtain ⟨A,B,rfl⟩:=List.append_of_mem c;rw [vO,show x::B=[x]++B from rfl,vO,qY,xg];simp only [um,uA];rw [len_rows x.subs ([]++[x.name]) []];omega
theorem ye {t:List GA} (h:treeB d t=true):upB t=true/\∀x ∈ t,nodeB d x=true:=by
 simp only [treeB,ud,xr,ux] at h;exact ⟨h.1.2,h.2⟩
theorem treeB_of {t:List GA} (hd:d < 3) (g:upB t=true) (c:∀x ∈ t,nodeB d x=true):treeB d t=true:=by
 simp only [treeB,ud,xr,ux,g,hd,sS,px,r7];exact c
theorem vW {x:GA} (h:nodeB d x=true):nameB x.name=true/\treeB (d+1) x.subs=true/\leavesB x.leaves=true:=by
 rw [q9] at h;simp only [ud] at h;exact ⟨h.1.1.1,h.1.2,h.2⟩
theorem find_node {t:List GA} (s:zd) (h:treeB d t=true) (y:(zj [] t).length<=16777215):∃A m B f ls sb,t=A++m++B/\NLt s A/\NGt s B/\m.length=(if f=true then 1 else 0)/\zt t s (λu z=>xy u z)=some ((A.length:Int),f) /\
  ((if f=true then ((xe t (A.length:Int)).bind λj=>some (.inr (j.name,j.leaves,j.subs))) else some (.inr (s,([]:List GE),([]:List GA)))):Option (List GA ⊕ (zd×(List GE)×(List GA))))=some (.inr (s,ls,sb))/\treeB (d+1) sb=true/\leavesB ls=true /\
  ls.length+(zj [] sb).length<=(zj [] t).length/\∀a r,r ∈ zj a m ↔ (∃l ∈ ls,r=⟨a++[s],l⟩) \/ r ∈ zj (a++[s]) sb:=by
 obtain ⟨w,p⟩:=ye h;have D:t.length<=16777215:=uE (q8 t d (by rw [xr];exact ux.2 p)) y;rcases split_up s w with ⟨A,B,rfl,g,c⟩ | ⟨A,x,B,rfl,o,g,c⟩
 ·refine ⟨A,[],B,false,[],[],by simp,g,c,rfl,bs_none (by omega) g c,rfl,tree_nil _,rfl,by simp [zj],λa r=>by simp [zj]⟩
 ·obtain ⟨E,C,v⟩:=vW (p x (by simp));refine ⟨A,[x],B,true,x.leaves,x.subs,by simp,g,c,rfl,bs_some (by omega) o g c,?_,C,v,mem_rows_len (by simp),λa r=>?_⟩
  ·rw [uF rfl,zF (x:=x) (by simp),ua,o]
  ·rw [qY,rowsN_mem,o]
theorem rows_off {s:zd} {A:List GA} (h:∀y ∈ A,y.name ≠ s) {a q:List zd} {r:GH} (g:r ∈ zj a A):r.path ≠ a++s::q:=by
 obtain ⟨x,m,w,e⟩:=qw g;rw [e];intro j;have:=rE j;injection this with c _;exact h x m c
theorem NLt.ne {s:zd} {A:List GA} (h:NLt s A):∀y ∈ A,y.name ≠ s:=λy c=>less_ne (h y c)
theorem NGt.ne {s:zd} {A:List GA} (h:NGt s A):∀y ∈ A,y.name ≠ s:=λy c=>(less_ne (h y c)).symm
theorem lay_fin {A m B:List GA} {s:zd} {sb:List GA} (hd:d < 3) (h:treeB d (A++m++B)=true) (t:NLt s A) (p:NGt s B) (hs:nameB s=true) (w:leavesB ls=true) (v:treeB (d+1) sb=true):treeB d (A++fitN s ls sb++B)=true:=by
 obtain ⟨u,n⟩:=ye h;rw [upB_iff,uZ,uZ] at u;have j:∀x ∈ A,∀y ∈ B,Op.bytesLess x.name y.name=true:=λx c y g=>vG (t x c) (p y g);have o:∀x ∈ fitN s ls sb,x=⟨s,ls,sb⟩/\¬ ls.length+sb.length=0:=λx c=>by
  unfold fitN at c;split at c
  ·simp at c
  ·rename_i h0;simp at c;exact ⟨c,h0⟩
 refine treeB_of hd ?_ ?_
 ·rw [upB_iff,uZ,uZ];refine ⟨⟨u.1.1,?_,λx c y g=>by rw [(o y g).1];exact t x c⟩,u.2.1,λx c y g=>?_⟩
  ·unfold fitN;split <;> simp
  ·rcases uv.1 c with c | c
   ·exact j x c y g
   ·rw [(o x c).1];exact p y g
 ·intro x c;rcases uv.1 c with c | c
  ·rcases uv.1 c with c | c
   ·exact n x (by simp [c])
   ·obtain ⟨rfl,h0⟩:=o x c;rw [q9];simp only [hs,w,v,tW,u2,tU,sZ];cases ls with
    | cons _ _=>exact .inl rfl
    | nil=>cases sb with
     | cons _ _=>exact .inr rfl
     | nil=>simp at h0
  ·exact n x (by simp [c])
theorem fit_len (s:zd) (ls:List GE) (sb:List GA):(fitN s ls sb).length<=1:=by unfold fitN;split <;> simp
theorem layLs_mem:x ∈ qh k l there ls ↔ (x ∈ ls/\x.typ ≠ k) \/ (there=true/\x=l):=by
 unfold qh;cases there with
 | false=>simp
 | true =>
  simp only [uq,uv,uV,up,uj,r7];constructor
  ·rintro ((⟨h,c⟩ | h) | ⟨h,c⟩)
   ·exact .inl ⟨h,by omega⟩
   ·exact .inr h
   ·exact .inl ⟨h,by omega⟩
  ·rintro (⟨h,c⟩ | h)
   ·rcases Int.lt_or_gt_of_ne c with g | g
    ·exact .inl (.inl ⟨h,g⟩)
    ·exact .inr ⟨h,g⟩
   ·exact .inl (.inr h)
theorem lay_is {k:Int} {l:GE} {there:Bool} (C:there=true->l.typ=k/\leafB l=true/\LeafOk l):∀(p:List zd) (t:List GA) (d n:Nat),p ≠ []->p.all nameB=true->d+p.length<=3->treeB d t=true->(zj [] t).length<=16777215->p.length < n ->
  ∃t',xn n t p k l there=some t'/\treeB d t'=true/\t'.length<=t.length+1/\∀a r,r ∈ zj a t' ↔ (r ∈ zj a t/\rkey r ≠ (a++p,k)) \/ (there=true/\r=⟨a++p,l⟩)
 | [],_,_,_,h,_,_,_,_,_=>absurd rfl h
 | _::_,_,_,0,_,_,_,_,_,h=>by omega
 | s::q,t,d,n+1,_,hp,hd,ht,hw,hn=>by
  simp only [tc,ud,ui] at hp hd hn;obtain ⟨A,m,B,f,ls,sb,rfl,G,F,Q,J,K,u,E,P,w⟩:=find_node s ht hw;have I:xe (s::q) (0:Int)=some s:=rfl;obtain ⟨D,O⟩:=leaves_up E;have V:(A++m++B).length<=16777215:=uE (q8 _ d (by rw [xr];exact ux.2 (ye ht).2)) hw;have U:=λj g=>fit_len s j g;have o:∀j g,(A++fitN s j g++B).length<=(A++m++B).length+1:=λj g=>by
   have:=fit_len s j g;simp only [um];omega
  rw [layN_eq,I,ua,J,ua,ua];simp only [];rw [K,yp];cases q with
  | nil =>
   rw [layIn_leaf (λh=>⟨(C h).1,(C h).2.2⟩) (by omega) D,yp,layRest_is Q (by omega) (by
    have:(qh k l there ls).length<=ls.length+1:=by
     unfold qh;split
     ·have z:=rD (λx:GE=>decide (x.typ < k)) ls;have y:=z.length_eq;have h3:(ls.filter λx=>decide (k < x.typ)).length<=(ls.filter λx=>!decide (x.typ < k)).length:=by
       have:(ls.filter λx=>decide (k < x.typ))=(ls.filter λx=>!decide (x.typ < k)).filter (λx=>decide (k < x.typ)):=by
        rw [rz];refine rI λx _=>?_;rw [uw];simp;omega
       rw [this];exact tB _ _
      simp only [um,ui,uH] at y ⊢;omega
     ·exact sL (tB _ _)
    omega) (by have:=q8 sb (d+1) (by rw [xr];exact ux.2 (ye u).2);omega)]
   refine ⟨_,rfl,lay_fin (by omega) ht G F hp.1 (leaves_of (layLs_up (λh=>(C h).1) D) λx v=>?_) u,o _ _,λa r=>?_⟩
   ·rcases layLs_mem.1 v with h | ⟨h,rfl⟩
    ·exact O x h.1
    ·exact (C h).2.1
   ·simp only [vO,uv,fit_mem,w];have H:r ∈ zj a A->rkey r ≠ (a++[s],k):=λh e=>rows_off G.ne h (congrArg Prod.fst e);have N:r ∈ zj a B->rkey r ≠ (a++[s],k):=λh e=>rows_off F.ne h (congrArg Prod.fst e);have M:r ∈ zj (a++[s]) sb->rkey r ≠ (a++[s],k):=λh e=>by
     have:=(rows_path sb _ r h).1;rw [show r.path=a++[s] from congrArg Prod.fst e] at this;omega
    constructor
    ·rintro ((h | ⟨x,v,rfl⟩ | h) | h)
     ·exact .inl ⟨.inl (.inl h),H h⟩
     ·rcases layLs_mem.1 v with ⟨z,y⟩ | ⟨z,rfl⟩
      ·exact .inl ⟨.inl (.inr (.inl ⟨x,z,rfl⟩)),λe=>y (congrArg Prod.snd e)⟩
      ·exact .inr ⟨z,rfl⟩
     ·exact .inl ⟨.inl (.inr (.inr h)),M h⟩
     ·exact .inl ⟨.inr h,N h⟩
    ·rintro (⟨(h | ⟨x,v,rfl⟩ | h) | h,y⟩ | ⟨z,rfl⟩)
     ·exact .inl (.inl h)
     ·exact .inl (.inr (.inl ⟨x,layLs_mem.2 (.inl ⟨v,λe=>y (by rw [<- e];rfl)⟩),rfl⟩))
     ·exact .inl (.inr (.inr h))
     ·exact .inr h
     ·exact .inl (.inr (.inl ⟨l,layLs_mem.2 (.inr ⟨z,rfl⟩),rfl⟩))
  | cons c q =>
   obtain ⟨g,Y,T,e3,Z⟩:=lay_is C (c::q) sb (d+1) n (by simp) hp.2 (by simp only [ui] at hd ⊢;omega) u (by omega) (by omega);have R:=q8 sb (d+1) (by rw [xr];exact ux.2 (ye u).2);rw [layIn_sub (by simp only [ui] at hd ⊢;omega) Y,yp,layRest_is Q (by omega) (by omega) (by omega)];refine ⟨_,rfl,lay_fin (by omega) ht G F hp.1 E T,o _ _,λa r=>?_⟩;simp only [vO,uv,fit_mem,w,Z];have ea:a++[s]++c::q=a++s::c::q:=by simp
   rw [ea];have H:r ∈ zj a A->rkey r ≠ (a++s::c::q,k):=λh e=>rows_off G.ne h (congrArg Prod.fst e);have N:r ∈ zj a B->rkey r ≠ (a++s::c::q,k):=λh e=>rows_off F.ne h (congrArg Prod.fst e);have M:∀x,r=⟨a++[s],x⟩->rkey r ≠ (a++s::c::q,k):=λx h e=>by
    rw [h] at e;have:=congrArg List.length (congrArg Prod.fst e);simp [rkey] at this
   constructor
   ·rintro ((h | ⟨x,v,h⟩ | (h | h)) | h)
    ·exact .inl ⟨.inl (.inl h),H h⟩
    ·exact .inl ⟨.inl (.inr (.inl ⟨x,v,h⟩)),M x h⟩
    ·exact .inl ⟨.inl (.inr (.inr h.1)),h.2⟩
    ·exact .inr h
    ·exact .inl ⟨.inr h,N h⟩
   ·rintro (⟨(h | ⟨x,v,h⟩ | h) | h,y⟩ | h)
    ·exact .inl (.inl h)
    ·exact .inl (.inr (.inl ⟨x,v,h⟩))
    ·exact .inl (.inr (.inr (.inl ⟨h,y⟩)))
    ·exact .inr h
    ·exact .inl (.inr (.inr (.inr h)))

theorem rowLt_iff {q:GH}:rowLt r q ↔ xj (rkey r) (rkey q)=true:=by
 unfold rowLt xj rkey;simp only [uY,ud,uj];constructor
 ·rintro (h | h)
  ·exact .inl (path_plt h)
  ·exact .inr h
 ·rintro (h | h)
  ·exact .inl (plt_path h)
  ·exact .inr h
theorem sorted_ext {α:Type} {lt:α->α->Prop} (c:∀x,¬ lt x x) (m:∀x y z,lt x y->lt y z->lt x z):∀{L M:List α},L.Pairwise lt->M.Pairwise lt->(∀x,x ∈ L ↔ x ∈ M)->L=M
 | [],[],_,_,_=>rfl
 | [],y::M,_,_,h=>by have:=(h y).2 (by simp);simp at this
 | x::L,[],_,_,h=>by have:=(h x).1 (by simp);simp at this
 | x::L,y::M,h1,h2,h=>by
  obtain ⟨p,s⟩:=uC.1 h1;obtain ⟨o,u⟩:=uC.1 h2;have e:x=y:=by
   rcases ut.1 ((h x).1 (by simp)) with e | v
   ·exact e
   ·rcases ut.1 ((h y).2 (by simp)) with e | t
    ·exact e.symm
    ·exact (c x (m _ _ _ (p y t) (o x v))).elim
  subst e;rw [sorted_ext c m s u λz=>?_];constructor
  ·intro j;rcases ut.1 ((h z).1 (by simp [j])) with e | g
   ·subst e;exact (c _ (p _ j)).elim
   ·exact g
  ·intro j;rcases ut.1 ((h z).2 (by simp [j])) with e | g
   ·subst e;exact (c _ (o _ j)).elim
   ·exact g
theorem filter_app_left {α:Type} {P:α->Bool} {A B:List α} (h:∀x ∈ A,P x=true) (g:∀x ∈ B,P x=false):(A++B).filter P=A/\(A++B).filter (λx=>!P x)=B:=by
 rw [tn,tn,tm.2 h,tz.2 (λx c=>by simp [g x c]),tz.2 (λx c=>by simp [h x c]),tm.2 (λx c=>by simp [g x c])];simp
theorem app_split {α:Type} {P:α->Bool} {A B C D:List α} (h:A++B=C++D) (m:∀x ∈ A,P x=true) (g:∀x ∈ B,P x=false) (o:∀x ∈ C,P x=true) (j:∀x ∈ D,P x=false):A=C/\B=D:=by
 obtain ⟨a,b⟩:=filter_app_left m g;obtain ⟨c,d⟩:=filter_app_left o j;exact ⟨by rw [<- a,<- c,h],by rw [<- b,<- d,h]⟩
theorem rowsN_head {a:List zd} {x:GA} (h:r ∈ qs a x):∃w,r.path=a++x.name::w:=by
 rw [<- qY] at h;obtain ⟨y,c,w,e⟩:=qw h;simp only [up] at c;subst c;exact ⟨w,e⟩
theorem rowsN_ne {x:GA} (h:nodeB d x=true) (a:List zd):∃r L,qs a x=r::L:=by
 have c:=q8 [x] d (by simp [xQ,h]);rw [len_rows [x] [] a,qY] at c;cases e:qs a x with
 | nil=>rw [e] at c;simp at c
 | cons r L=>exact ⟨r,L,rfl⟩
def hasN (n:Nat) (s:zd) (r:GH):Bool:=decide ((r.path.drop n).head?=some s)
theorem hasN_is (a w:List zd) (s c:zd) {r:GH} (h:r.path=a++c::w):hasN a.length s r=decide (c=s):=by
 unfold hasN;rw [h,sQ];simp
theorem rows_inj:∀(t:List GA) (d:Nat) (a:List zd) (t':List GA),treeB d t=true->treeB d t'=true->zj a t=zj a t'->t=t':=by
 have key:∀(t:List GA) (d:Nat) (a:List zd) (t':List GA),(∀x ∈ t,nodeB d x=true)->upB t=true->(∀x ∈ t',nodeB d x=true)->upB t'=true->zj a t=zj a t'->t=t':=by
  refine vp ?_ ?_
  ·intro d a t' _ _ h _ e;cases t' with
   | nil=>rfl
   | cons y r =>
    obtain ⟨q,L,m⟩:=rowsN_ne (h y (by simp)) a;rw [zj,zj,m] at e;simp at e
  ·intro x r U R d a t' C F G D e;cases t' with
   | nil =>
    obtain ⟨q,L,m⟩:=rowsN_ne (C x (by simp)) a;rw [zj,zj,m] at e;simp at e
   | cons y s =>
    rw [upB_iff,uC] at F D;have e:qs a x++zj a r=qs a y++zj a s:=e;have g:x.name=y.name:=by
     obtain ⟨q,L,m⟩:=rowsN_ne (C x (by simp)) a;obtain ⟨V,L',J⟩:=rowsN_ne (G y (by simp)) a;have K:=e;rw [m,J] at K;injection K with N _;subst N;obtain ⟨w,v⟩:=rowsN_head (a:=a) (x:=x) (r:=q) (by rw [m];simp);obtain ⟨w',p⟩:=rowsN_head (a:=a) (x:=y) (r:=q) (by rw [J];simp);rw [v] at p;have:=rE p;injection this
    obtain ⟨I,O⟩:=app_split (P:=hasN a.length x.name) e
     (λq c=>by obtain ⟨w,h⟩:=rowsN_head c;rw [hasN_is a w _ _ h];simp)
     (λq c=>by
      obtain ⟨z,j,w,h⟩:=qw c;rw [hasN_is a w _ _ h];exact uN (less_ne (F.1 z j)).symm)
     (λq c=>by obtain ⟨w,h⟩:=rowsN_head c;rw [hasN_is a w _ _ h,g];simp)
     (λq c=>by
      obtain ⟨z,j,w,h⟩:=qw c;rw [hasN_is a w _ _ h,g];exact uN (less_ne (D.1 z j)).symm)
    have T:=R d a s (λz j=>C z (by simp [j])) ((upB_iff r).2 F.2) (λz j=>G z (by simp [j])) ((upB_iff s).2 D.2) O;rw [xg,xg,<- g] at I;obtain ⟨Q,E⟩:=app_split (P:=λq=>decide (q.path.length=a.length+1)) I
     (λq c=>by obtain ⟨l,_,rfl⟩:=tI.1 c;simp)
     (λq c=>by have:=(rows_path _ _ q c).1;simp at this;exact uN (by omega))
     (λq c=>by obtain ⟨l,_,rfl⟩:=tI.1 c;simp)
     (λq c=>by have:=(rows_path _ _ q c).1;simp at this;exact uN (by omega))
    have o:x.leaves=y.leaves:=by
     have:=congrArg (List.map (·.leaf)) Q;simpa [rh,sx] using this
    obtain ⟨_,H,_⟩:=vW (C x (by simp));obtain ⟨_,M,_⟩:=vW (G y (by simp));have u:=U (d+1) (a++[x.name]) y.subs (ye H).2 (ye H).1 (ye M).2 (ye M).1 E;cases x;cases y;simp only at g o u;rw [g,o,u,T]
 intro t d a t' v p e;exact key t d a t' (ye v).2 (ye v).1 (ye p).2 (ye p).1 e
theorem yW {t:List GA} (h:treeB d t=true) (a:List zd):(zj a t).Pairwise λr q=>xj (rkey r) (rkey q)=true:=by
 have:=rows_lt t d a (ye h).1 (by rw [xr];exact ux.2 (ye h).2);exact this.imp λh=>rowLt_iff.1 h
theorem rows_ext {t t':List GA} (g:treeB 0 t=true) (c:treeB 0 t'=true) (h:∀r,r ∈ zj [] t ↔ r ∈ zj [] t'):t=t' :=
 rows_inj t 0 [] t' g c (sorted_ext (lt:=λr q=>xj (rkey r) (rkey q)=true) (λx h=>by rw [y8] at h;cases h) (λ_ _ _=>klt_trans) (yW g []) (yW c []) h)
theorem sorted_key {α:Type} {key:α->Key} {L:List α} (h:L.Pairwise λr q=>xj (key r) (key q)=true) {x y:α} (p:x ∈ L) (s:y ∈ L) (e:key x=key y):x=y:=by
 induction L with
 | nil=>simp at p
 | cons z r ih =>
  obtain ⟨o,t⟩:=uC.1 h;rcases ut.1 p with j | c <;> rcases ut.1 s with m | g
  ·rw [j,m]
  ·have:=o y g;rw [<- j,e,y8] at this;cases this
  ·have:=o x c;rw [<- m,e,y8] at this;cases this
  ·exact ih t c g

theorem first_is {α:Type} {q:α->Bool} {del:α->Option Bool}:∀(L:List α) (n:Nat),(∀x ∈ L,del x=some (q x)) ->
  (zg (λ(g:Nat) (o:α) (_:Unit)=>(((del o).bind λs=>(if s=true then some (.ret (g:Int)) else some (.nxt ()))):Option (Out Int Unit))) L n ()=some (.inr ())/\∀x ∈ L,q x=false) \/
  ∃A x B,L=A++x::B/\q x=true/\(∀y ∈ A,q y=false)/\zg (λ(g:Nat) (o:α) (_:Unit)=>(((del o).bind λs=>(if s=true then some (.ret (g:Int)) else some (.nxt ()))):Option (Out Int Unit))) L n ()=some (.inl ((n+A.length:Nat):Int))
 | [],n,_=>.inl ⟨rfl,by simp⟩
 | x::r,n,h=>by
  have p:=h x (by simp);cases hq:q x with
  | true=>exact .inr ⟨[],x,r,rfl,hq,by simp,by simp [zg,p,hq]⟩
  | false =>
   rcases first_is r (n+1) (λy c=>h y (by simp [c])) with ⟨e,m⟩ | ⟨A,y,B,rfl,t,m,e⟩
   ·refine .inl ⟨by simp only [zg,p,hq,ua];exact e,?_⟩;intro y c;rcases ut.1 c with rfl | c
    ·exact hq
    ·exact m y c
   ·refine .inr ⟨x::A,y,B,rfl,t,?_,?_⟩
    ·intro z j;rcases ut.1 j with rfl | j
     ·exact hq
     ·exact m z j
    ·simp only [zg,p,hq,ua];rw [show n+(x::A).length=n+1+A.length by simp only [ui];omega];exact e
def node0:GA:=GA.mk ([]:zd) ([]:List GE) ([]:List GA)
def nodeOf (t:List GA) (s:zd):Option GA:=t.find? λx=>x.name==s
theorem linear_is (t:List GA) (s:zd):vN t s=some (match nodeOf t s with | some x=>(x,true) | none=>(node0,false)):=by
 unfold vN xl;rcases first_is (q:=λx:GA=>x.name==s) (del:=λc=>qN c s) t 0 (λx _=>rfl) with ⟨e,h⟩ | ⟨A,x,B,rfl,m,j,e⟩
 ·rw [e];have:nodeOf t s=none:=sC.2 λx o=>by rw [h x o];simp
  rw [this];rfl
 ·rw [e];have:nodeOf (A++x::B) s=some x:=by
   unfold nodeOf;rw [List.find?_append,sC.2 (λy g=>by rw [j y g];simp),rT,m];rfl
  rw [this];simp only [lp,ua,uT];rw [th (by simp),zF (x:=x) (by simp)];rfl
def wK:List GA->List zd->Option GA
 | _,[]=>none
 | t,[s]=>nodeOf t s
 | t,s::c::q=>(nodeOf t s).bind λx=>wK x.subs (c::q)
noncomputable def tlF:Nat->zd->(List GA)×Bool×zd×(List GE)×(List GA)->Option (Out ((GE×Bool) ⊕ (Bool×zd×(List GE)×(List GA))) ((List GA)×Bool×zd×(List GE)×(List GA))):=(λ(_:Nat) (x2:zd) (s2:(List GA)×Bool×zd×(List GE)×(List GA))=>(((vN s2.1 x2).bind λv47=>(if (!v47.2)=true then some (.brk (s2.1,v47.2,v47.1.name,v47.1.leaves,v47.1.subs)) else some (.nxt (v47.1.subs,v47.2,v47.1.name,v47.1.leaves,v47.1.subs))))))
noncomputable def tlR (kind2:Int) (s1:Bool×zd×(List GE)×(List GA)):Option (GE×Bool):=((ya s1.2.2.1 (λx0=>treeLeafC1 x0 kind2)).bind λv49=>((if (((!s1.1) || (decide (v49 < (0:Int))))==false)=true then qg kind2 else some default).bind λv50=>(if (((!s1.1) || (decide (v49 < (0:Int)))) || (v50.typ==(0:Int)))=true then ((qg kind2).bind λv52=>some (v52,false)) else ((xe s1.2.2.1 v49).bind λy53=>((yP y53.items).bind λv54=>((y4 y53.tombs).bind λv55=>some ((GE.mk y53.typ y53.n y53.time y53.dot y53.text v54 v55),true)))))))
theorem tl_eq (t0:List GA) (c:List zd) (g:Int):treeLeaf t0 c g=(lp ((lp (zg tlF c 0 (t0,(decide (((c).length:Int) > (0:Int))),([]:zd),([]:List GE),([]:List GA))) λ(s2:(List GA)×Bool×zd×(List GE)×(List GA))=>some (.inr (s2.2.1,s2.2.2.1,s2.2.2.2.1,s2.2.2.2.2))):Option ((GE×Bool) ⊕ (Bool×zd×(List GE)×(List GA)))) (tlR g)):=rfl
theorem tl_walk:∀(p:List zd) (n:Nat) (t:List GA) (z:Bool×zd×(List GE)×(List GA)),p ≠ [] ->
  match wK t p with
  | some x=>zg tlF p n (t,z)=some (.inr (x.subs,true,x.name,x.leaves,x.subs))
  | none=>∃u,zg tlF p n (t,z)=some (.inr (u,false,([]:zd),([]:List GE),([]:List GA)))
 | [],_,_,_,h=>absurd rfl h
 | [s],n,t,z,_=>by
  simp only [wK,zg,tlF,linear_is,ua];cases nodeOf t s with
  | none=>exact ⟨t,rfl⟩
  | some x=>rfl
 | s::c::q,n,t,z,_=>by
  have g:=λu z=>tl_walk (c::q) (n+1) u z (by simp);simp only [wK];cases e:nodeOf t s with
  | none=>exact ⟨t,by rw [zg];simp only [tlF,linear_is,e,ua];rfl⟩
  | some x =>
   have j:tlF n s (t,z)=some (.nxt (x.subs,true,x.name,x.leaves,x.subs)):=by simp only [tlF,linear_is,e,ua];rfl
   have:=g x.subs (true,x.name,x.leaves,x.subs);rw [zg,j,ua];exact this
theorem nodeOf_split {t:List GA} (s:zd) (h:upB t=true):(nodeOf t s=none/\∀y ∈ t,y.name ≠ s) \/ ∃A x B,t=A++x::B/\nodeOf t s=some x/\x.name=s/\(∀y ∈ A,y.name ≠ s)/\∀y ∈ B,y.name ≠ s:=by
 rcases split_up s h with ⟨A,B,rfl,g,j⟩ | ⟨A,x,B,rfl,m,g,j⟩
 ·left;have:∀y ∈ A++B,y.name ≠ s:=λy c=>by
   rcases uv.1 c with c | c
   ·exact g.ne y c
   ·exact j.ne y c
  exact ⟨sC.2 λy c=>by simp [this y c],this⟩
 ·refine .inr ⟨A,x,B,rfl,?_,m,g.ne,j.ne⟩;unfold nodeOf;rw [List.find?_append,sC.2 (λy c=>by simp [g.ne y c]),rT];simp [m]
theorem row_at:∀(p:List zd) (t:List GA) (d:Nat) (a:List zd) (l:GE),p ≠ []->treeB d t=true->(GH.mk (a++p) l ∈ zj a t ↔ ∃x,wK t p=some x/\l ∈ x.leaves)
 | [],_,_,_,_,h,_=>absurd rfl h
 | s::q,t,d,a,l,_,h=>by
  obtain ⟨G,I⟩:=ye h;rcases nodeOf_split s G with ⟨e,D⟩ | ⟨A,x,B,rfl,e,H,J,C⟩
  ·have u:wK t (s::q)=none:=by cases q <;> simp [wK,e]
   rw [u];constructor
   ·intro g;exact (rows_off D g rfl).elim
   ·rintro ⟨x,h,_⟩;cases h
  ·rw [vO,show x::B=[x]++B from rfl,vO,qY,uv,uv,rowsN_mem,H];have o:¬ GH.mk (a++s::q) l ∈ zj a A:=λg=>rows_off J g rfl;have z:¬ GH.mk (a++s::q) l ∈ zj a B:=λg=>rows_off C g rfl;have j:=(vW (I x (by simp))).2.1;cases q with
   | nil =>
    have E:¬ GH.mk (a++[s]) l ∈ zj (a++[s]) x.subs:=λg=>by
     have:=(rows_path _ _ _ g).1;simp at this
    have u:wK (A++x::B) [s]=some x:=e;have m:wK (A++([x]++B)) [s]=some x:=e;rw [m];constructor
    ·rintro (h | (⟨y,v,h⟩ | h) | h)
     ·exact (o h).elim
     ·injection h with _ h;subst h;exact ⟨x,rfl,v⟩
     ·exact (E h).elim
     ·exact (z h).elim
    ·rintro ⟨y,h,F⟩
     injection h with h;subst h;exact .inr (.inl (.inl ⟨l,F,rfl⟩))
   | cons c q =>
    have w:=row_at (c::q) x.subs (d+1) (a++[s]) l (by simp) j;have K:a++[s]++c::q=a++s::c::q:=by simp
    rw [K] at w;have m:wK (A++([x]++B)) (s::c::q)=wK x.subs (c::q):=by
     show (nodeOf (A++x::B) s).bind _=_;rw [e];rfl
    rw [m,w];constructor
    ·rintro (h | (⟨y,v,h⟩ | h) | h)
     ·exact (o h).elim
     ·injection h with h _;have:=congrArg List.length h;simp at this
     ·exact h
     ·exact (z h).elim
    ·intro h;exact .inr (.inl (.inr h))
theorem row_mk {p:List zd} (h:rkey r=(p,k)):r=GH.mk ([]++p) r.leaf:=by
 have e:r.path=p:=congrArg Prod.fst h;cases r;simp only at e;rw [e];rfl
theorem leafNew_typ (h:1<=k/\k<=4):∃v,qg k=some v/\v.typ=k:=by
 unfold qg;rw [th (by simp;omega)];exact ⟨_,rfl,rfl⟩
theorem tlR_none (s:zd):∃v,tlR k (false,s,([]:List GE),([]:List GA))=some (v,false):=by
 obtain ⟨v,e⟩:=leafNew_tot k;refine ⟨v,?_⟩;unfold tlR ya;simp [zg,lp,e]
theorem treeLeaf_is {t:List GA} (h:treeB 0 t=true) (C:∀r ∈ zj [] t,LeafOk r.leaf) {p:List zd} (F:p ≠ []) {k:Int} (J:1<=k/\k<=4) :
  (∃l,GH.mk p l ∈ zj [] t/\l.typ=k/\treeLeaf t p k=some (l,true)) \/ ((∀r ∈ zj [] t,rkey r ≠ (p,k))/\∃v,treeLeaf t p k=some (v,false)):=by
 have j:=tl_walk p 0 t (decide ((p.length:Int) > 0),([]:zd),([]:List GE),([]:List GA)) F;have z:=λl=>row_at p t 0 [] l F h;rw [tl_eq];cases e:wK t p with
 | none =>
  rw [e] at j;obtain ⟨u,j⟩:=j;right;refine ⟨λr c s=>?_,?_⟩
  ·have:=row_mk s;rw [this] at c;obtain ⟨x,m,_⟩:=(z _).1 c;rw [e] at m;cases m
  ·rw [j];exact tlR_none []
 | some x =>
  rw [e] at j;simp only at j;rw [j];simp only [yp];obtain ⟨v0,H,O⟩:=leafNew_typ J;unfold tlR ya;rcases first_is (q:=λy:GE=>y.typ==k) (del:=λI=>treeLeafC1 I k) x.leaves 0 (λx _=>rfl) with ⟨D,m⟩ | ⟨A,y,B,o,m,P,D⟩
  ·right;refine ⟨λr c s=>?_,v0,?_⟩
   ·have:=row_mk s;rw [this] at c;obtain ⟨Q,w,K⟩:=(z _).1 c;rw [e] at w;injection w with w;subst w;have:=m _ K;simp only [beq_eq_false_iff_ne] at this;exact this (congrArg Prod.snd s)
   ·simp only [];rw [D];simp [lp,H]
  ·left;have N:y ∈ x.leaves:=by rw [o];simp
   have g:GH.mk ([]++p) y ∈ zj [] t:=(z y).2 ⟨x,e,N⟩;have E:y.typ=k:=by simpa using m
   have G:=C _ g;refine ⟨y,g,E,?_⟩;simp only [];rw [D];simp only [lp,ua,uT];have M:((!true) || (decide (((A.length:Nat):Int) < (0:Int))))=false:=by simp
   rw [M];simp only [tE,uq,H,ua,tN,O];rw [th (by simp;omega),o,zF (x:=y) (by simp),ua,cloneItem_is (yn (sL G.items)),ua,cloneDot_is (yn (sL G.tombs)),ua]

structure EOk (e:GC):Prop where
 path:xL e.path=true
 typ:1<=e.typ/\e.typ<=4
 any:e.had=true \/ e.has=true
 ne:e.had=true->e.has=true->e.was ≠ e.is
 was1:e.had=true->leafB e.was=true/\LeafOk e.was/\e.was.typ=e.typ
 was0:e.had=false->e.was=w6
 is1:e.has=true->leafB e.is=true/\LeafOk e.is/\e.is.typ=e.typ
 is0:e.has=false->e.is=w6
def qp (a b:GC):Prop:=xj (zM a) (zM b)=true
theorem side_is (c:there=true->leafB l=true/\LeafOk l/\l.typ=k) (h0:there=false->l=w6):xH there l k=some true:=by
 cases there with
 | false=>rw [h0 rfl];exact side0 k
 | true=>obtain ⟨a,b,rfl⟩:=c rfl;exact side1 a b
theorem diffMay_is {es:List GC} (u:es.length<=16777216) (s:∀e ∈ es,EOk e) (g:es.Pairwise qp):wP es=some true:=by
 unfold wP;rw [wx (r:=false) (λ_ _=>true) (λi x p=>?_)]
 ·have:qq (λ_ _=>true) es=true:=allI_iff.2 λ_ _ _=>rfl;rw [uF this]
 ·have hi:=(uc.1 p).1;have c:=s x (uB p);have K:decide (x.typ >= 1)=true:=uR c.typ.1;have F:decide (x.typ<=4)=true:=uR c.typ.2;have M:qE x.path=some true:=by rw [opMayPath_is,c.path]
  have I:∃v,(if ((decide ((i:Int) > (0:Int)))==true)=true then wz (es.getD (IntKind.wrap .i64 ((i:Int) - (1:Int))).toNat default) x else some default)=some v/\((decide ((i:Int) > 0))&&(decide (v >= 0)))=false:=by
   by_cases h0:0 < i
   ·have C:IntKind.wrap .i64 ((i:Int) - 1)=((i - 1:Nat):Int):=by rw [qn (by omega)];omega
    have G:es[i - 1]?=some es[i - 1]:=ug (by omega);have t:ordI es[i - 1] x < 0:=ordI_lt.2 (by
     have:=tp.1 g (i - 1) i (by omega) hi (by omega)
     rwa [(uc.1 p).2] at this)
    have D:es.getD (i - 1) default=es[i - 1]:=by
     rw [uu,G];rfl
    rw [uR (by omega:(i:Int) > 0),C,uM,D,order_is];exact ⟨_,rfl,by rw [uN (by omega)];rfl⟩
   ·rw [uN (by omega:¬ (i:Int) > 0)];exact ⟨default,rfl,rfl⟩
  obtain ⟨v,m,o⟩:=I;have w:((decide ((i:Int) > (0:Int)))==true)=true->0<=(IntKind.wrap .i64 ((i:Int) - (1:Int)))/\(IntKind.wrap .i64 ((i:Int) - (1:Int))) < ((es).length:Int):=by
   intro h;simp only [tX,uj] at h;rw [qn (by omega)];omega
  obtain ⟨z,H,j⟩:∃z,(if ((x.had&&x.has)==true)=true then y6 x.was x.is else some default)=some z/\((x.had&&x.has)&&z)=false:=by
   cases h1:x.had with
   | false=>exact ⟨default,rfl,rfl⟩
   | true =>
    cases t:x.has with
    | false=>exact ⟨default,rfl,rfl⟩
    | true=>exact ⟨false,by rw [uF (by rfl),xG,uN (c.ne h1 t)],rfl⟩
  have J:xH x.had x.was x.typ=some true:=side_is c.was1 c.was0;have s2:xH x.has x.is x.typ=some true:=side_is c.is1 c.is0;have N:((!x.had)&&(!x.has))=false:=by
   rcases c.any with h | h <;> simp [h]
  rw [H,ua,M,ua,K,F];have y:((((!true) || (!(true&&true))) || ((!x.had)&&(!x.has))) || ((x.had&&x.has)&&z))=false:=by rw [N,j];rfl
  rw [y,uF (by rfl),J,ua];have O:((false || (!true))==false)=true:=rfl;rw [uF O,s2,ua];have E:((false || (!true)) || (!true))=false:=rfl;rw [E,th (by decide),zn w,m,ua,o];simp
noncomputable def patF (t0:List GA):Nat->GC->List GA->Option (Out (List GA×Int) (List GA)):=(λ(n1:Nat) (x1:GC) (s1:(List GA))=>(((treeLeaf t0 x1.path x1.typ).bind λv14=>((if (((!(v14.2==x1.had))==false)&&(v14.2==true))=true then y6 v14.1 x1.was else some default).bind λv15=>(if ((!(v14.2==x1.had)) || (v14.2&&(!v15)))=true then some (.ret (([]:List GA),(16:Int))) else ((diffXlay s1 x1.path x1.typ x1.is x1.has).bind λv17=>some (.nxt v17))))):Option (Out _ (List GA))))
theorem patch_eq (t0:List GA) (c:List GC):vl t0 c=((vB t0).bind λg=>((if ((!g)==false)=true then wP c else some default).bind λh=>(if ((!g) || (!h))=true then some (([]:List GA),(2:Int)) else ((w5 t0 ([([42,42]:zd)]:List zd)).bind λv4=>(lp (zg (patF t0) c 0 v4.1) λ(j:(List GA))=>some (j,(0:Int))))))):=rfl
theorem sub_len {α:Type} {lt:α->α->Prop} (c:∀x,¬ lt x x):∀(L M:List α),L.Pairwise lt->(∀x ∈ L,x ∈ M)->L.length<=M.length
 | [],_,_,_=>tK _
 | x::L,M,h,hs=>by
  obtain ⟨p,o⟩:=uC.1 h;obtain ⟨A,B,rfl⟩:=List.append_of_mem (hs x (by simp));have:=sub_len c L (A++B) o λy m=>by
   have g:=hs y (by simp [m]);have j:y ≠ x:=λe=>c x (by have:=p y m;rwa [e] at this);simp only [uv,ut] at g ⊢;rcases g with h | h | h
   ·exact .inl h
   ·exact (j h).elim
   ·exact .inr h
  simp only [um,ui] at this ⊢;omega
theorem xb {p:List zd} (h:xL p=true):p ≠ []/\p.length<=3/\p.all nameB=true:=by
 refine ⟨pathB_ne h,?_⟩;simp only [xL,ud,uj] at h;exact ⟨h.1.2,h.2⟩
theorem lay_all {p:List zd} {t:List GA} (s:there=true->l.typ=k/\leafB l=true/\LeafOk l) (z:xL p=true) (o:treeB 0 t=true) (v:(zj [] t).length<=16777215) :
  ∃t',diffXlay t p k l there=some t'/\treeB 0 t'=true/\(zj [] t').length<=(zj [] t).length+1/\∀r,r ∈ zj [] t' ↔ (r ∈ zj [] t/\rkey r ≠ (p,k)) \/ (there=true/\r=⟨p,l⟩):=by
 obtain ⟨w,E,m⟩:=xb z;obtain ⟨t',G,j,_,c⟩:=lay_is s p t 0 (p.length+1) w m (by omega) o v (by omega);have c:=c [];simp only [uU] at c;refine ⟨t',qU (p.length+1) λn F=>?_,j,?_,c⟩
 ·obtain ⟨u,y,D,_,g⟩:=lay_is s p t 0 n w m (by omega) o v (by omega);have g:=g [];simp only [uU] at g;rw [y,rows_ext D j λr=>by rw [g,c]]
 ·have:=sub_len (lt:=λr q=>xj (rkey r) (rkey q)=true) (λx h=>by rw [y8] at h;cases h) (zj [] t') (zj [] t++[⟨p,l⟩]) (yW j []) λr C=>by
   rcases (c r).1 C with h | h
   ·simp [h.1]
   ·simp [h.2]
  simpa using this
structure EFits (t:List GA) (e:GC):Prop where
 had:e.had=true->GH.mk e.path e.was ∈ zj [] t
 new:e.had=false->∀r ∈ zj [] t,rkey r ≠ zM e
theorem patF_is {t s:List GA} (w:treeB 0 t=true) (o:∀r ∈ zj [] t,LeafOk r.leaf) (c:EOk e) (j:EFits t e) (hs:treeB 0 s=true) (E:(zj [] s).length<=16777215) (n:Nat) :
  ∃u,patF t n e s=some (.nxt u)/\treeB 0 u=true/\(zj [] u).length<=(zj [] s).length+1/\∀r,r ∈ zj [] u ↔ (r ∈ zj [] s/\rkey r ≠ zM e) \/ (e.has=true/\r=⟨e.path,e.is⟩):=by
 obtain ⟨u,y,z,D,C⟩:=lay_all (k:=e.typ) (l:=e.is) (there:=e.has) (λh=>⟨(c.is1 h).2.2,(c.is1 h).1,(c.is1 h).2.1⟩) c.path hs E;refine ⟨u,?_,z,D,C⟩;unfold patF;rcases treeLeaf_is w o (xb c.path).1 c.typ with ⟨l,g,p,m⟩ | ⟨g,v,m⟩
 ·have hh:e.had=true:=by
   cases h:e.had with
   | true=>rfl
   | false=>exact (j.new h _ g (by unfold rkey zM;rw [p])).elim
  have:(GH.mk e.path l)=GH.mk e.path e.was:=sorted_key (yW w []) g (j.had hh) (by unfold rkey;rw [p,(c.was1 hh).2.2]);injection this with _ F;rw [m,hh,F];simp only [ua,xG,y];simp
 ·have hh:e.had=false:=by
   cases h:e.had with
   | false=>rfl
   | true=>exact (g _ (j.had h) (by unfold rkey;rw [(c.was1 h).2.2])).elim
  rw [m,hh];simp only [ua,y];simp
theorem pat_loop {t:List GA} (p:treeB 0 t=true) (m:∀r ∈ zj [] t,LeafOk r.leaf):∀(es:List GC) (n:Nat) (s:List GA),(∀e ∈ es,EOk e/\EFits t e)->es.Pairwise qp->treeB 0 s=true->(zj [] s).length+es.length<=16777215 ->
  ∃u,zg (patF t) es n s=some (.inr u)/\treeB 0 u=true/\∀r,r ∈ zj [] u ↔ (r ∈ zj [] s/\∀e ∈ es,rkey r ≠ zM e) \/ ∃e ∈ es,e.has=true/\r=⟨e.path,e.is⟩
 | [],n,s,_,_,hs,_=>⟨s,rfl,hs,λr=>by simp⟩
 | e::es,n,s,h,hp,hs,hw=>by
  obtain ⟨G,z⟩:=uC.1 hp;simp only [ui] at hw;obtain ⟨v,F⟩:=h e (by simp);obtain ⟨E,K,M,a3,a4⟩:=patF_is p m v F hs (by omega) n;obtain ⟨u,w,I,C⟩:=pat_loop p m es (n+1) E (λx c=>h x (by simp [c])) z M (by omega);refine ⟨u,by rw [zg,K];exact w,I,λr=>?_⟩;rw [C,a4];have j:e.has=true->∀x ∈ es,rkey ⟨e.path,e.is⟩ ≠ zM x:=λhh x c D=>by
   have:=G x c;unfold qp at this;rw [<- D] at this;have J:rkey ⟨e.path,e.is⟩=zM e:=by unfold rkey zM;rw [(v.is1 hh).2.2]
   rw [J,y8] at this;cases this
  constructor
  ·rintro (⟨g | g,o⟩ | ⟨x,c,g⟩)
   ·refine .inl ⟨g.1,λx c=>?_⟩;rcases ut.1 c with rfl | c
    ·exact g.2
    ·exact o x c
   ·exact .inr ⟨e,by simp,g⟩
   ·exact .inr ⟨x,by simp [c],g⟩
  ·rintro (⟨g,o⟩ | ⟨x,c,g⟩)
   ·exact .inl ⟨.inl ⟨g,o e (by simp)⟩,λx c=>o x (by simp [c])⟩
   ·rcases ut.1 c with rfl | c
    ·exact .inl ⟨.inr g,λy H=>by rw [g.2];exact j g.1 y H⟩
    ·exact .inr ⟨x,c,g⟩
theorem select_all {t:List GA} (hs:Small t) (c:treeB 0 t=true):w5 t [[42,42]]=some (t,0):=by
 have g:patB [[42,42]]=true:=by decide
 rw [pathsSelect_is hs (by simp [maxLen]),c,g];have:we (matchB [[42,42]]) [] t=t:=by
  refine rows_ext (keep_may _ t 0 [] c) c λr=>?_;rw [keep_rows,uV];refine ⟨λh=>h.1,λh=>⟨h,?_⟩⟩;have j:=(rows_ok t 0 [] hs c rfl rfl r h).path;unfold matchB;rw [j,g];simp [xP,endsB,agreeB]
 simp [this]
theorem patch_is {t:List GA} (hs:Small t) (c:treeB 0 t=true) {es:List GC} (m:(zj [] t).length+es.length<=16777215) (h:∀e ∈ es,EOk e/\EFits t e) (j:es.Pairwise qp) :
  ∃u,vl t es=some (u,0)/\treeB 0 u=true/\∀r,r ∈ zj [] u ↔ (r ∈ zj [] t/\∀e ∈ es,rkey r ≠ zM e) \/ ∃e ∈ es,e.has=true/\r=⟨e.path,e.is⟩:=by
 have g:=λr v=>(rows_ok t 0 [] hs c rfl rfl r v).ok;obtain ⟨u,p,s,a3⟩:=pat_loop c g es 0 t h j c m;refine ⟨u,?_,s,a3⟩;rw [patch_eq,x6 hs,c,ua,uF (show ((!true)==false)=true from rfl),diffMay_is (by omega) (λe o=>(h e o).1) j,ua,th (by decide),select_all hs c,ua,p,yp]

def xu (p:List zd) (k:Int):zd:=p.flatMap (λs=>s++[0])++[UInt8.ofNat k.toNat]
theorem inter_flat:∀(p:List zd),p ≠ []->([0]:List UInt8).intercalate p++[0]=p.flatMap (λs=>s++[0])
 | [],h=>absurd rfl h
 | [s],_=>by simp [List.intercalate]
 | s::c::q,_=>by
  have g:=inter_flat (c::q) (by simp)
  simp only [List.intercalate,List.intersperse] at g ⊢;rw [tG,<- g];simp [uz]
theorem name_len {s:zd} (h:nameB s=true):s.length<=12/\∀b ∈ s,b ≠ 0:=by
 simp only [nameB,ud,uj,ux] at h;refine ⟨h.1.2,λb c e=>?_⟩;have:=h.2 b c;rw [e] at this;revert this;decide
theorem flatS_len:∀(p:List zd),p.all nameB=true->(p.flatMap (λs=>s++[0])).length<=13 * p.length
 | [],_=>by simp
 | s::p,h=>by
  simp only [tc,ud] at h;have:=flatS_len p h.2;have:=(name_len h.1).1;simp only [tG,um,ui,uH];omega
theorem key_is {p:List zd} (g:xL p=true) (m:1<=k/\k<=4):xZ p k=some (xu p k):=by
 obtain ⟨j,s,h⟩:=xb g;have c:=inter_flat p j;have o:=flatS_len p h;have t:(([0]:List UInt8).intercalate p).length<=40:=by
  have:=congrArg List.length c;simp only [um,ui,uH] at this;omega
 unfold xZ stringsJoin strJoin Lib.join;rw [uF ⟨by omega,by omega⟩,ua,zn (by simp [maxLen];omega),zn (by omega),zn (by simp [maxLen]),zn (by simp [maxLen];omega),c];rfl
theorem flat_inj:∀(p q:List zd),p.all nameB=true->q.all nameB=true->p.flatMap (λs=>s++[(0:UInt8)])=q.flatMap (λs=>s++[0])->p=q
 | [],[],_,_,_=>rfl
 | [],s::q,_,_,h=>by simp at h
 | s::p,[],_,_,h=>by simp at h
 | s::p,c::q,h1,h2,h=>by
  simp only [tc,ud] at h1 h2;simp only [tG,uz,List.singleton_append] at h;have j:=(name_len h1.1).2;have m:=(name_len h2.1).2;have g:∀(s:zd) (r:List UInt8),(∀b ∈ s,b ≠ 0)->(s++0::r).takeWhile (λb=>decide (b ≠ 0))=s:=λs r hs=>by
   rw [List.takeWhile_append_of_pos (λb o=>by simp [hs b o])];simp
  have e:s=c:=by rw [<- g s _ j,<- g c _ m,h]
  subst e;have h:=rE h;injection h with _ h;rw [flat_inj p q h1.2 h2.2 h]
theorem key_inj {p q:List zd} {j:Int} (g:xL p=true) (m:xL q=true) (s:1<=k/\k<=4) (t:1<=j/\j<=4) (h:xu p k=xu q j):p=q/\k=j:=by
 unfold xu at h;have o:=List.append_inj_left' h rfl;have c:=List.append_inj_right' h rfl;refine ⟨flat_inj p q (xb g).2.2 (xb m).2.2 o,?_⟩;injection c with c _;have:=congrArg UInt8.toNat c;simp at this;omega
section
variable {W:Type}
def mnd (m:List (zd×W)):Prop:=m.Pairwise λx y=>x.1 ≠ y.1
def sEq:zd->zd->Bool:=λa b=>a==b
theorem sEq_iff {a b:zd}:sEq a b=true ↔ a=b:=by unfold sEq;simp
theorem mem_put {k:zd} {v:W}:∀{m:List (zd×W)},mnd m->∀y,y ∈ yC sEq m k v ↔ (y ∈ m/\y.1 ≠ k) \/ y=(k,v)
 | [],_,y=>by simp [yC]
 | e::r,h,y=>by
  obtain ⟨o,j⟩:=uC.1 h;simp only [yC];by_cases hk:k=e.1
  ·subst hk;rw [uF (sEq_iff.2 rfl)];simp only [ut];constructor
   ·rintro (h | h)
    ·exact .inr h
    ·exact .inl ⟨.inr h,λp=>o y h p.symm⟩
   ·rintro (⟨h | h,c⟩ | h)
    ·exact (c (by rw [h])).elim
    ·exact .inr h
    ·exact .inl h
  ·have g:=mem_put (k:=k) (v:=v) j y;rw [th (λe=>hk (sEq_iff.1 e)),ut,g,ut];constructor
   ·rintro (h | h | h)
    ·exact .inl ⟨.inl h,by rw [h];exact λe=>hk e.symm⟩
    ·exact .inl ⟨.inr h.1,h.2⟩
    ·exact .inr h
   ·rintro (⟨h | h,c⟩ | h)
    ·exact .inl h
    ·exact .inr (.inl ⟨h,c⟩)
    ·exact .inr (.inr h)
theorem mnd_put {k:zd} {v:W}:∀{m:List (zd×W)},mnd m->mnd (yC sEq m k v)
 | [],_=>by simp [yC,mnd]
 | e::r,h=>by
  obtain ⟨j,c⟩:=uC.1 h;simp only [yC];by_cases hk:k=e.1
  ·subst hk;rw [uF (sEq_iff.2 rfl)];exact uC.2 ⟨j,c⟩
  ·rw [th (λe=>hk (sEq_iff.1 e))];refine uC.2 ⟨λy o=>?_,mnd_put c⟩;rcases (mem_put c y).1 o with ⟨g,_⟩ | g
   ·exact j y g
   ·rw [g];exact λe=>hk e.symm
theorem get_mem {d:W} {x:zd×W}:∀{m:List (zd×W)},mnd m->x ∈ m->ze sEq d m x.1=x.2
 | [],_,h=>by simp at h
 | e::r,h,c=>by
  obtain ⟨j,g⟩:=uC.1 h;simp only [ze];rcases ut.1 c with rfl | c
  ·rw [uF (sEq_iff.2 rfl)]
  ·rw [th (λo=>j x c (sEq_iff.1 o).symm)];exact get_mem g c
theorem get_not {d:W} {k:zd}:∀{m:List (zd×W)},(∀x ∈ m,x.1 ≠ k)->ze sEq d m k=d
 | [],_=>rfl
 | e::r,h=>by
  simp only [ze];rw [th (λc=>h e (by simp) (sEq_iff.1 c).symm)];exact get_not λx g=>h x (by simp [g])
end
structure Side (rs:List GH) (p:List zd) (k:Int) (there:Bool) (l:GE):Prop where
 on:there=true->GH.mk p l ∈ rs/\l.typ=k
 off:there=false->l=w6/\∀r ∈ rs,rkey r ≠ (p,k)
structure EdOf (ra rb:List GH) (e:GC):Prop where
 any:e.had=true \/ e.has=true
 a:Side ra e.path e.typ e.had e.was
 b:Side rb e.path e.typ e.has e.is
theorem Side.one (h:rs.Pairwise λr q=>xj (rkey r) (rkey q)=true) {p:List zd} {k:Int} {x y:Bool} {l m:GE} (g:Side rs p k x l) (s2:Side rs p k y m):x=y/\l=m:=by
 cases x with
 | true =>
  obtain ⟨o,s⟩:=g.on rfl;cases y with
  | true =>
   obtain ⟨c,j⟩:=s2.on rfl;have:=sorted_key h o c (by unfold rkey;rw [s,j]);injection this with _ e;exact ⟨rfl,e⟩
  | false=>exact ((s2.off rfl).2 _ o (by unfold rkey;rw [s])).elim
 | false =>
  cases y with
  | true =>
   obtain ⟨c,j⟩:=s2.on rfl;exact ((g.off rfl).2 _ c (by unfold rkey;rw [j])).elim
  | false=>exact ⟨rfl,(g.off rfl).1.trans (s2.off rfl).1.symm⟩
theorem EdOf.one {ra rb:List GH} (u:ra.Pairwise λr q=>xj (rkey r) (rkey q)=true) (v:rb.Pairwise λr q=>xj (rkey r) (rkey q)=true) {e f:GC} (s:EdOf ra rb e) (m:EdOf ra rb f) (h:zM e=zM f):e=f:=by
 have c:e.path=f.path:=congrArg Prod.fst h;have g:e.typ=f.typ:=congrArg Prod.snd h;obtain ⟨o,p⟩:=s.a.one u (by rw [c,g];exact m.a);obtain ⟨j,t⟩:=s.b.one v (by rw [c,g];exact m.b);cases e;cases f;simp only at c g o p j t;subst c g o p j t;rfl
theorem Side.more {p:List zd} (h:Side rs p k there l) {r:GH} (j:rkey r ≠ (p,k)):Side (rs++[r]) p k there l :=
 ⟨λg=>⟨by simp [(h.on g).1],(h.on g).2⟩,λg=>⟨(h.off g).1,λq c=>by
  rcases uv.1 c with c | c
  ·exact (h.off g).2 q c
  ·simp only [up] at c;rw [c];exact j⟩⟩
def RKey (r:GH):Prop:=xL r.path=true/\1<=r.leaf.typ/\r.leaf.typ<=4
structure MInv (ra rb:List GH) (m:List (zd×GC)):Prop where
 nd:mnd m
 ed:∀x ∈ m,EdOf ra rb x.2/\x.1=xu x.2.path x.2.typ/\xL x.2.path=true/\1<=x.2.typ/\x.2.typ<=4
 ca:∀r ∈ ra,∃x ∈ m,zM x.2=rkey r
 cb:∀r ∈ rb,∃x ∈ m,zM x.2=rkey r
theorem MInv.nil:MInv [] [] []:=⟨List.Pairwise.nil,by simp,by simp,by simp⟩
theorem MInv.key {m:List (zd×GC)} (h:MInv ra rb m) {r:GH} (j:RKey r) {x:zd×GC} (t:x ∈ m):x.1=xu r.path r.leaf.typ ↔ zM x.2=rkey r:=by
 obtain ⟨_,o,p,s⟩:=h.ed x t;constructor
 ·intro e;rw [o] at e;obtain ⟨c,g⟩:=key_inj p j.1 s j.2 e;unfold zM rkey;rw [c,g]
 ·intro e;have c:x.2.path=r.path:=congrArg Prod.fst e;have g:x.2.typ=r.leaf.typ:=congrArg Prod.snd e;rw [o,c,g]
def edA (r:GH):GC:=GC.mk r.path r.leaf.typ true false r.leaf w6
theorem MInv.stepA {m:List (zd×GC)} (h:MInv ra [] m) {r:GH} (j:RKey r) (z:∀q ∈ ra,rkey q ≠ rkey r):MInv (ra++[r]) [] (yC sEq m (xu r.path r.leaf.typ) (edA r)):=by
 have s:=mem_put (k:=xu r.path r.leaf.typ) (v:=edA r) h.nd;have g:(xu r.path r.leaf.typ,edA r) ∈ yC sEq m (xu r.path r.leaf.typ) (edA r):=(s _).2 (.inr rfl);refine ⟨mnd_put h.nd,λx o=>?_,λq c=>?_,by simp⟩
 ·rcases (s x).1 o with ⟨u,w⟩ | rfl
  ·obtain ⟨t,p⟩:=h.ed x u;have y:rkey r ≠ (x.2.path,x.2.typ):=λe=>w ((h.key j u).2 e.symm);exact ⟨⟨t.any,t.a.more y,t.b⟩,p⟩
  ·refine ⟨⟨.inl rfl,⟨λ_=>⟨by simp [edA],rfl⟩,λh=>(by cases h)⟩,⟨λh=>(by cases h),λ_=>⟨rfl,by simp⟩⟩⟩,rfl,j.1,j.2⟩
 ·rcases uv.1 c with c | c
  ·obtain ⟨x,o,e⟩:=h.ca q c;exact ⟨x,(s x).2 (.inl ⟨o,λp=>z q c (by rw [<- e];exact (h.key j o).1 p)⟩),e⟩
  ·simp only [up] at c;subst c;exact ⟨_,g,rfl⟩
def ed0:GC:=GC.mk ([]:List zd) (0:Int) false false w6 w6
def edB (g:GC) (r:GH):GC:=GC.mk r.path r.leaf.typ g.had true g.was r.leaf
theorem MInv.stepB {m:List (zd×GC)} (h:MInv ra rb m) {r:GH} (t:RKey r) (G:∀q ∈ rb,rkey q ≠ rkey r):MInv ra (rb++[r]) (yC sEq m (xu r.path r.leaf.typ) (edB (ze sEq ed0 m (xu r.path r.leaf.typ)) r)):=by
 have w:∃g,ze sEq ed0 m (xu r.path r.leaf.typ)=g/\Side ra r.path r.leaf.typ g.had g.was:=by
  by_cases c:∃x ∈ m,x.1=xu r.path r.leaf.typ
  ·obtain ⟨x,c,e⟩:=c;refine ⟨x.2,by rw [<- e];exact get_mem h.nd c,?_⟩;have s:=(h.key t c).1 e;have E:x.2.path=r.path:=congrArg Prod.fst s;have F:x.2.typ=r.leaf.typ:=congrArg Prod.snd s;rw [<- E,<- F];exact (h.ed x c).1.a
  ·refine ⟨ed0,get_not λx p e=>c ⟨x,p,e⟩,⟨λh=>(by cases h),λ_=>⟨rfl,λq o e=>?_⟩⟩⟩;obtain ⟨x,p,s⟩:=h.ca q o;exact c ⟨x,p,(h.key t p).2 (by rw [s,e];rfl)⟩
 obtain ⟨g,w,hs⟩:=w;rw [w];have y:=mem_put (k:=xu r.path r.leaf.typ) (v:=edB g r) h.nd;have j:(xu r.path r.leaf.typ,edB g r) ∈ yC sEq m (xu r.path r.leaf.typ) (edB g r):=(y _).2 (.inr rfl);have keep:∀(q:GH) (x:zd×GC),x ∈ m->zM x.2=rkey q->∃x ∈ yC sEq m (xu r.path r.leaf.typ) (edB g r),zM x.2=rkey q:=λq x c e=>by
  by_cases u:x.1=xu r.path r.leaf.typ
  ·exact ⟨_,j,by rw [<- e,(h.key t c).1 u];rfl⟩
  ·exact ⟨x,(y x).2 (.inl ⟨c,u⟩),e⟩
 refine ⟨mnd_put h.nd,λx c=>?_,λq o=>?_,λq o=>?_⟩
 ·rcases (y x).1 c with ⟨C,D⟩ | rfl
  ·obtain ⟨z,s⟩:=h.ed x C;have u:rkey r ≠ (x.2.path,x.2.typ):=λe=>D ((h.key t C).2 e.symm);exact ⟨⟨z.any,z.a,z.b.more u⟩,s⟩
  ·exact ⟨⟨.inr rfl,hs,⟨λ_=>⟨by simp [edB],rfl⟩,λh=>(by cases h)⟩⟩,rfl,t.1,t.2⟩
 ·obtain ⟨x,c,e⟩:=h.ca q o;exact keep q x c e
 ·rcases uv.1 o with o | o
  ·obtain ⟨x,c,e⟩:=h.cb q o;exact keep q x c e
  ·simp only [up] at o;subst o;exact ⟨_,j,rfl⟩

theorem put_len {W:Type} {k:zd} {v:W}:∀(m:List (zd×W)),(yC sEq m k v).length<=m.length+1
 | []=>by simp [yC]
 | e::r=>by
  have:=put_len (k:=k) (v:=v) r;simp only [yC];split <;> simp only [ui] <;> omega
def kSorted (rs:List GH):Prop:=rs.Pairwise λr q=>xj (rkey r) (rkey q)=true
theorem kSorted.ne {c:List GH} (h:kSorted (c++r::rs)):∀q ∈ c,rkey q ≠ rkey r:=λq g e=>by
 have:=(uZ.1 h).2.2 q g r (by simp);rw [e,y8] at this;cases this
theorem loopA {f:Nat->GH->List (zd×GC)->Option (Out (List GC×Int) (List (zd×GC)))} (j:∀i x s,RKey x->f i x s=some (.nxt (yC sEq s (xu x.path x.leaf.typ) (edA x)))):∀(rs c:List GH) (n:Nat) (m:List (zd×GC)),kSorted (c++rs)->(∀r ∈ rs,RKey r)->MInv c [] m ->
  ∃g,zg f rs n m=some (.inr g)/\MInv (c++rs) [] g/\g.length<=m.length+rs.length
 | [],c,n,m,_,_,h=>⟨m,rfl,by simpa using h,uh _⟩
 | r::rs,c,n,m,hs,hr,h=>by
  have t:=h.stepA (hr r (by simp)) hs.ne;obtain ⟨g,p,u,w⟩:=loopA j rs (c++[r]) (n+1) _ (by simpa using hs) (λq o=>hr q (by simp [o])) t;refine ⟨g,by rw [zg,j _ _ _ (hr r (by simp))];exact p,by simpa using u,?_⟩;have:=put_len (k:=xu r.path r.leaf.typ) (v:=edA r) m;simp only [ui];omega
theorem loopB {ra:List GH} {f:Nat->GH->List (zd×GC)->Option (Out (List GC×Int) (List (zd×GC)))} (j:∀i x s,RKey x->f i x s=some (.nxt (yC sEq s (xu x.path x.leaf.typ) (edB (ze sEq ed0 s (xu x.path x.leaf.typ)) x)))):∀(rs c:List GH) (n:Nat) (m:List (zd×GC)),kSorted (c++rs)->(∀r ∈ rs,RKey r)->MInv ra c m ->
  ∃g,zg f rs n m=some (.inr g)/\MInv ra (c++rs) g/\g.length<=m.length+rs.length
 | [],c,n,m,_,_,h=>⟨m,rfl,by simpa using h,uh _⟩
 | r::rs,c,n,m,hs,hr,h=>by
  have t:=h.stepB (hr r (by simp)) hs.ne;obtain ⟨g,p,u,w⟩:=loopB j rs (c++[r]) (n+1) _ (by simpa using hs) (λq o=>hr q (by simp [o])) t;refine ⟨g,by rw [zg,j _ _ _ (hr r (by simp))];exact p,by simpa using u,?_⟩;have:=put_len (k:=xu r.path r.leaf.typ) (v:=edB (ze sEq ed0 m (xu r.path r.leaf.typ)) r) m;simp only [ui];omega
def wQ (e:GC):Bool:=!((e.had==e.has)&&decide (e.was=e.is))
structure CopyOk (e:GC):Prop where
 path:e.path.length<=16777216
 was:LeafOk e.was
 is:LeafOk e.is
theorem copied_is (h:CopyOk e):x4 e=some e:=by
 unfold x4;rw [qm (yn (sL h.path)),ua,own_is h.was,ua,own_is h.is];rfl
noncomputable def sortedF:Nat->(zd×GC)->List GC->Option (Out (List GC) (List GC)):=(λ(_:Nat) (x1:(zd×GC)) (s1:(List GC))=>(((if ((x1.2.had==x1.2.has)==true)=true then y6 x1.2.was x1.2.is else some default).bind λv7=>(if (!((x1.2.had==x1.2.has)&&v7))=true then ((x4 x1.2).bind λv9=>(yw ((s1).length+(([v9]:List GC)).length<=yN) (some (.nxt (s1++([v9]:List GC)))))) else some (.nxt s1)))))
theorem sorted_eq (m:List (zd×GC)):xk m=(allP m λg=>lp (zg sortedF g 0 ([]:List GC)) λ(h:(List GC))=>((sortO (λx y=>wz x y) h).bind λc=>some c)):=rfl
theorem sortedF_is {x:zd×GC} (h:CopyOk x.2) {s:List GC} (hs:s.length<=16777216) (n:Nat):sortedF n x s=some (.nxt (if wQ x.2=true then s++[x.2] else s)):=by
 unfold sortedF wQ;rw [xG,copied_is h];cases e:(x.2.had==x.2.has) with
 | false =>
  simp only [s9,tF,uq];have:((false==true)=true)=False:=by simp
  simp only [this,uK,ua];rw [zn (yn (by simp;omega))]
 | true =>
  simp only [tE,uq,ua,u2];cases e2:decide (x.2.was=x.2.is) with
  | false =>
   simp only [tF,uq];rw [zn (yn (by simp;omega))]
  | true=>simp
theorem sorted_loop:∀(p:List (zd×GC)) (n:Nat) (s:List GC),(∀x ∈ p,CopyOk x.2)->s.length+p.length<=16777216->zg sortedF p n s=some (.inr (s++(p.map (·.2)).filter wQ))
 | [],n,s,_,_=>by simp [zg]
 | x::p,n,s,h,hl=>by
  simp only [ui] at hl;rw [zg,sortedF_is (h x (by simp)) (by omega)];simp only [];rw [uD,sB];split
  ·rw [sorted_loop p (n+1) (s++[x.2]) (λy c=>h y (by simp [c])) (by simp;omega),uz];rfl
  ·rw [sorted_loop p (n+1) s (λy c=>h y (by simp [c])) (by omega)]
theorem leaf0_ok:LeafOk w6:=⟨by simp [w6],by simp [w6],by simp [w6]⟩
theorem sorted_is {m:List (zd×GC)} (D:m.length<=16777216) (E:∀x ∈ m,CopyOk x.2) (C:m.Pairwise λx y=>zM x.2 ≠ zM y.2):∃R,xk m=some R/\R.Pairwise qp/\R.length<=m.length/\∀e,e ∈ R ↔ (∃x ∈ m,x.2=e)/\wQ e=true:=by
 have w:∀x y z,qp x y->qp y z->qp x z:=λ_ _ _=>klt_trans;have u:((m.map (·.2)).filter wQ).Pairwise λx y=>qp x y \/ qp y x:=by
  refine List.Pairwise.filter _ (rJ.2 (C.imp λh=>?_));rcases klt_tot _ _ with e | e | e
  ·exact (h e).elim
  ·exact .inl e
  ·exact .inr e
 obtain ⟨R,o,hs⟩:=exists_sorted w _ u;have t:∀e,e ∈ R ↔ (∃x ∈ m,x.2=e)/\wQ e=true:=λe=>by
  rw [o.mem_iff,uV,tI]
 refine ⟨R,?_,hs,?_,t⟩
 ·rw [sorted_eq];refine allP_of λp g=>?_;rw [sorted_loop p 0 [] (λx j=>E x (g.mem_iff.1 j)) (by rw [g.length_eq];simpa using D),yp,uU];have c:((p.map (·.2)).filter wQ).Perm ((m.map (·.2)).filter wQ):=(g.map _).filter _;have v:((p.map (·.2)).filter wQ).length<=m.length:=by
   rw [c.length_eq];exact uE (tB _ _) (by simp)
  rw [sortO_lt (α:=GC) (cf:=ordI) (lt:=qp) (R:=R) (λx _ y _=>order_is x y) (λx y=>ordI_lt) (λx h=>by unfold qp at h;rw [y8] at h;cases h) w (λx j y s=>?_) (o.trans c.symm) hs (yn (by omega))]
  ·rfl
  ·have j:=c.mem_iff.1 j;have s:=c.mem_iff.1 s;rcases klt_tot (zM x) (zM y) with e | e | e
   ·left;have j:=o.mem_iff.2 j;have s:=o.mem_iff.2 s;exact sorted_key (key:=zM) hs j s e
   ·exact .inr (.inl e)
   ·exact .inr (.inr e)
 ·rw [o.length_eq];exact uE (tB _ _) (by simp)
noncomputable def dA:Nat->GH->List (zd×GC)->Option (Out (List GC×Int) (List (zd×GC))):=(λ(n1:Nat) (x1:GH) (s1:List (zd×GC))=>(((xZ x1.path x1.leaf.typ).bind λv11=>some (.nxt (yC (λa b=>a==b) s1 v11 (GC.mk x1.path x1.leaf.typ true false x1.leaf zp))))))
noncomputable def dB:Nat->GH->List (zd×GC)->Option (Out (List GC×Int) (List (zd×GC))):=(λ(n2:Nat) (x2:GH) (s2:List (zd×GC))=>(((xZ x2.path x2.leaf.typ).bind λv20=>((xZ x2.path x2.leaf.typ).bind λv21=>some (.nxt (yC (λa b=>a==b) s2 v21 (GC.mk x2.path x2.leaf.typ ((ze (λa b=>a==b) (GC.mk ([]:List zd) (0:Int) false false zp zp) s2 v20).had) true ((ze (λa b=>a==b) (GC.mk ([]:List zd) (0:Int) false false zp zp) s2 v20).was) x2.leaf)))))))
theorem diff_eq (a0 c:List GA):wE a0 c=((vB a0).bind λh=>((if ((!h)==false)=true then vB c else some default).bind λj=>(if ((!h) || (!j))=true then some (([]:List GC),(2:Int)) else ((vU a0).bind λv4=>(lp (zg dA v4 0 ([]:List (zd×GC))) λ(m:List (zd×GC))=>((vU c).bind λg=>(lp (zg dB g 0 m) λ(s2:List (zd×GC))=>((xk s2).bind λv22=>some (v22,(0:Int)))))))))):=rfl
theorem rows_key {t:List GA} (hs:Small t) (g:treeB 0 t=true):∀r ∈ zj [] t,RKey r:=λr c=>by
 have:=rows_ok t 0 [] hs g rfl rfl r c;exact ⟨this.path,leaf_typ this.leaf⟩
theorem dA_is (i:Nat) (x:GH) (s:List (zd×GC)) (h:RKey x):dA i x s=some (.nxt (yC sEq s (xu x.path x.leaf.typ) (edA x))):=by
 unfold dA;rw [key_is h.1 h.2];rfl
theorem dB_is (i:Nat) (x:GH) (s:List (zd×GC)) (h:RKey x):dB i x s=some (.nxt (yC sEq s (xu x.path x.leaf.typ) (edB (ze sEq ed0 s (xu x.path x.leaf.typ)) x))):=by
 unfold dB;rw [key_is h.1 h.2];rfl
theorem side_ok {t:List GA} (hs:Small t) (c:treeB 0 t=true) {p:List zd} {k:Int} {there:Bool} {l:GE} (h:Side (zj [] t) p k there l):LeafOk l:=by
 cases there with
 | true=>exact (rows_ok t 0 [] hs c rfl rfl _ (h.on rfl).1).ok
 | false=>rw [(h.off rfl).1];exact leaf0_ok
theorem vD {t:List GA} (hs:Small t):(zj [] t).length<=GA.bks t:=rows_len _ t [] (uh _)
theorem diff_is {a b:List GA} (t:Small a) (o:Small b) (p:treeB 0 a=true) (s:treeB 0 b=true) (U:GA.bks a+GA.bks b<=16777216) :
  ∃R,wE a b=some (R,0)/\R.Pairwise qp/\R.length<=(zj [] a).length+(zj [] b).length/\∀e,e ∈ R ↔ EdOf (zj [] a) (zj [] b) e/\wQ e=true:=by
 have E:=yW p [];have sb:=yW s [];obtain ⟨K,N,F,a3⟩:=loopA dA_is (zj [] a) [] 0 [] E (rows_key t p) MInv.nil;obtain ⟨v,G,g,T⟩:=loopB dB_is (zj [] b) [] 0 K sb (rows_key o s) F;simp only [uU,uH,uT] at F a3 g;have V:=vD t;have Y:=vD o;have w:v.Pairwise λx y=>zM x.2 ≠ zM y.2:=by
  refine rp ?_ g.nd;intro x y c J h e;apply h;rw [(g.ed x c).2.1,(g.ed y J).2.1];have u:x.2.path=y.2.path:=congrArg Prod.fst e;have j:x.2.typ=y.2.typ:=congrArg Prod.snd e;rw [u,j]
 obtain ⟨R,H,M,Q,I⟩:=sorted_is (m:=v) (by omega) (λx c=>by
  obtain ⟨u,_,O,_⟩:=g.ed x c;exact ⟨by have:=(xb O).2.1;omega,side_ok t p u.a,side_ok o s u.b⟩) w
 refine ⟨R,?_,M,by omega,λe=>?_⟩
 ·rw [diff_eq,x6 t,p,ua,uF (show ((!true)==false)=true from rfl),x6 o,s,ua,th (by decide),pathsRows_is t,p,uF rfl,ua,N,yp,pathsRows_is o,s,uF rfl,ua,G,yp,H];rfl
 ·rw [I];constructor
  ·rintro ⟨⟨x,c,rfl⟩,h⟩
   exact ⟨(g.ed x c).1,h⟩
  ·rintro ⟨h,P⟩
   refine ⟨?_,P⟩;have:∃x ∈ v,zM x.2=zM e:=by
    rcases h.any with z | z
    ·obtain ⟨C,D⟩:=h.a.on z;obtain ⟨x,c,j⟩:=g.ca _ C;exact ⟨x,c,by rw [j];unfold rkey zM;rw [D]⟩
    ·obtain ⟨C,D⟩:=h.b.on z;obtain ⟨x,c,j⟩:=g.cb _ C;exact ⟨x,c,by rw [j];unfold rkey zM;rw [D]⟩
   obtain ⟨x,c,j⟩:=this;exact ⟨x,c,(g.ed x c).1.one E sb h j⟩

theorem loop_ex {α ρ:Type} {f:Nat->α->Unit->Option (Out ρ Unit)} {r:ρ} {P:Nat->α->Prop}:∀(L:List α) (k:Nat),(∀i x,L[i]?=some x->∃v:Bool,f (k+i) x ()=(if v=true then some (.nxt ()) else some (.ret r))/\(v=true->P (k+i) x)) ->
  (zg f L k ()=some (.inr ())/\∀i x,L[i]?=some x->P (k+i) x) \/ zg f L k ()=some (.inl r)
 | [],k,_=>.inl ⟨rfl,by simp⟩
 | x::L,k,h=>by
  obtain ⟨v,e,g⟩:=h 0 x rfl;cases v with
  | false =>
   right;rw [tH] at e;rw [zg,e];rfl
  | true =>
   rw [tH] at e;rw [zg,e];rcases loop_ex L (k+1) (λi y c=>by
    have:=h (i+1) y (by simpa using c)
    rwa [show k+(i+1)=k+1+i by omega] at this) with ⟨h1,h2⟩ | h1
   ·refine .inl ⟨h1,λi y c=>?_⟩;rcases i with _ | i
    ·simp at c;subst c;exact g rfl
    ·have:=h2 i y (by simpa using c)
     rwa [show k+1+i=k+(i+1) by omega] at this
   ·exact .inr h1
theorem same_list {α:Type} {a b:List α} (c:a.length=b.length) (h:∀(i:Nat) (x:α),a[i]?=some x->b[i]?=some x):a=b:=by
 refine uW λi=>?_;by_cases hi:i < a.length
 ·have:=ug hi;rw [this,h i _ this]
 ·rw [tw (by omega),tw (by omega)]
theorem same5_is (a b:GE):∃v,yM a b=some v/\(v=true->a=b):=by
 unfold yM;simp only [dotEq,itemEq];split
 ·exact ⟨false,rfl,λh=>by cases h⟩
 ·rename_i D;simp only [uY,bne_iff_ne,ne_eq,tU,beq_eq_false_iff_ne,rC,not_or,Classical.not_not] at D;obtain ⟨⟨⟨⟨⟨⟨t,u⟩,w⟩,C⟩,y⟩,G⟩,F⟩:=D;have m:a.items.length=b.items.length:=by omega
  have j:a.tombs.length=b.tombs.length:=by omega
  rcases loop_ex (r:=false) (P:=λi x=>b.items[i]?=some x) (f:=(λ(o:Nat) (p:GI) (E:Unit)=>(((xe b.items (o:Int)).bind λc=>(if (!decide (p=c))=true then some (.ret false) else some (.nxt ()))):Option (Out Bool Unit)))) a.items 0 (λi x g=>by
   have hi:=(uc.1 g).1;refine ⟨decide (x=b.items[i]'(by omega)),?_,λh=>?_⟩
   ·rw [uT,xw (by omega:i < b.items.length),ua];cases decide (x=b.items[i]) <;> rfl
   ·rw [uT,ug (by omega),u9 h]) with ⟨e1,h1⟩ | e1
  ·rw [e1,yp];rcases loop_ex (r:=false) (P:=λi x=>b.tombs[i]?=some x) (f:=(λ(o:Nat) (p:GF) (E:Unit)=>(((xe b.tombs (o:Int)).bind λc=>(if (!decide (p=c))=true then some (.ret false) else some (.nxt ()))):Option (Out Bool Unit)))) a.tombs 0 (λi x g=>by
    have hi:=(uc.1 g).1;refine ⟨decide (x=b.tombs[i]'(by omega)),?_,λh=>?_⟩
    ·rw [uT,xw (by omega:i < b.tombs.length),ua];cases decide (x=b.tombs[i]) <;> rfl
    ·rw [uT,ug (by omega),u9 h]) with ⟨e2,h2⟩ | e2
   ·rw [e2,yp];refine ⟨true,rfl,λ_=>?_⟩;have z:=same_list m λi x g=>by have:=h1 i x g;rwa [uT] at this
    have s:=same_list j λi x g=>by have:=h2 i x g;rwa [uT] at this
    cases a;cases b;simp only at t u w C y z s;subst t u w C y z s;rfl
   ·rw [e2];exact ⟨false,rfl,λh=>by cases h⟩
  ·rw [e1];exact ⟨false,rfl,λh=>by cases h⟩
noncomputable def s7F (n:Nat) (t u:List GA):Nat->GA->Unit->Option (Out Bool Unit):=(λ(n1:Nat) (x1:GA) (s1:Unit)=>(((xe u (n1:Int)).bind λy41=>(yw (((!(x1.name==y41.name))==false)=true->0<=(n1:Int)/\(n1:Int) < ((t).length:Int)) ((yw (((!(x1.name==y41.name))==false)=true->0<=(n1:Int)/\(n1:Int) < ((u).length:Int)) ((yw ((((!(x1.name==y41.name)) || (((((t).getD (n1:Int).toNat default).leaves).length:Int) != ((((u).getD (n1:Int).toNat default).leaves).length:Int)))==false)=true->0<=(n1:Int)/\(n1:Int) < ((t).length:Int)) ((yw ((((!(x1.name==y41.name)) || (((((t).getD (n1:Int).toNat default).leaves).length:Int) != ((((u).getD (n1:Int).toNat default).leaves).length:Int)))==false)=true->0<=(n1:Int)/\(n1:Int) < ((u).length:Int)) (((if (((!(x1.name==y41.name)) || (((((t).getD (n1:Int).toNat default).leaves).length:Int) != ((((u).getD (n1:Int).toNat default).leaves).length:Int)))==false)=true then xK n (((t).getD (n1:Int).toNat default).subs) (((u).getD (n1:Int).toNat default).subs) else some default).bind λv48=>(if (((!(x1.name==y41.name)) || (((((t).getD (n1:Int).toNat default).leaves).length:Int) != ((((u).getD (n1:Int).toNat default).leaves).length:Int))) || (!v48))=true then some (.ret false) else (lp (zg (λ(n2:Nat) (x2:GE) (s2:Unit)=>(((xe u (n1:Int)).bind λy60=>((xe y60.leaves (n2:Int)).bind λy61=>((yM x2 y61).bind λv62=>(if (!v62)=true then some (.ret (.ret false)) else some (.nxt ()))))):Option (Out (Out Bool Unit) Unit))) x1.leaves 0 ()) λ(s2:Unit)=>some (.nxt ()))))))))))))):Option (Out Bool Unit)))
theorem s7_eq (n:Nat) (t u:List GA):xK (n+1) t u=(if (((t).length:Int) != ((u).length:Int))=true then some false else lp (zg (s7F n t u) t 0 ()) λ_=>some true):=rfl
theorem s7F_is {t u:List GA} (N:∀(t u:List GA),GA.deps t < n->∃v,xK n t u=some v/\(v=true->t=u)) (h:GA.deps t < n+1) (Q:t.length=u.length) (i:Nat) (x:GA) (s:t[i]?=some x) :
  ∃v:Bool,s7F n t u (0+i) x ()=(if v=true then some (.nxt ()) else some (.ret false))/\(v=true->u[0+i]?=some x):=by
 unfold s7F;have hi:=(uc.1 s).1;have g:u[i]?=some (u[i]'(by omega)):=ug (by omega);generalize u[i]'(by omega)=y at g;have p:xe u (i:Int)=some y:=zF g;have hd:t.getD i default=x:=by rw [uu,s];rfl
 have m:u.getD i default=y:=by rw [uu,g];rfl
 have G:=ql (uB s);have H:=xM x;obtain ⟨v,ev,O⟩:=N x.subs y.subs (by omega);simp only [uT];rw [p];simp only [ua,uM,hd,m];rw [zn (by intro _;omega),zn (by intro _;omega),zn (by intro _;omega),zn (by intro _;omega)];by_cases hn:x.name=y.name
 ·by_cases hll:x.leaves.length=y.leaves.length
  ·have c:((!(x.name==y.name)) || ((x.leaves.length:Int) != (y.leaves.length:Int)))=false:=by simp [hn,hll]
   rw [c,uF (by rfl),ev,ua];cases v with
   | false=>exact ⟨false,by simp,λh=>by cases h⟩
   | true =>
    simp only [tx,ph,ul,uK];rcases loop_ex (r:=Out.ret false) (P:=λj l=>y.leaves[j]?=some l) (f:=(λ(I:Nat) (M:GE) (s2:Unit)=>((((xe y.leaves (I:Int)).bind λz=>((yM M z).bind λC=>(if (!C)=true then some (.ret (.ret false)) else some (.nxt ()))))):Option (Out (Out Bool Unit) Unit)))) x.leaves 0 (λj l o=>by
     have F:=(uc.1 o).1;obtain ⟨w,J,K⟩:=same5_is l (y.leaves[j]'(by omega));refine ⟨w,?_,λh=>?_⟩
     ·rw [uT,xw (by omega:j < y.leaves.length),ua,J,ua];cases w <;> rfl
     ·rw [uT,ug (by omega),K h]) with ⟨e1,h1⟩ | e1
    ·rw [e1,yp];refine ⟨true,rfl,λ_=>?_⟩;have E:=same_list hll λj l F=>by have:=h1 j l F;rwa [uT] at this
     have D:=O rfl;rw [g];cases x;cases y;simp only at hn E D;rw [hn,E,D]
    ·rw [e1];exact ⟨false,rfl,λh=>by cases h⟩
  ·have c:((!(x.name==y.name)) || ((x.leaves.length:Int) != (y.leaves.length:Int)))=true:=by
    simp [hn];omega
   rw [c];exact ⟨false,rfl,λh=>by cases h⟩
 ·have c:((!(x.name==y.name)) || ((x.leaves.length:Int) != (y.leaves.length:Int)))=true:=by simp [hn]
  rw [c];exact ⟨false,rfl,λh=>by cases h⟩
theorem same7N_is:∀(n:Nat) (t u:List GA),GA.deps t < n->∃v,xK n t u=some v/\(v=true->t=u)
 | 0,_,_,h=>by omega
 | n+1,t,u,h=>by
  rw [s7_eq];split
  ·exact ⟨false,rfl,λh=>by cases h⟩
  ·rename_i c;have c:t.length=u.length:=by simp at c;omega
   rcases loop_ex (r:=false) (P:=λ(i:Nat) (x:GA)=>u[i]?=some x) t 0 (s7F_is (same7N_is n) h c) with ⟨g,j⟩ | g
   ·rw [g,yp];exact ⟨true,rfl,λ_=>same_list c λi x m=>by have:=j i x m;rwa [uT] at this⟩
   ·rw [g];exact ⟨false,rfl,λh=>by cases h⟩
theorem same7_ne {t u:List GA} (h:t ≠ u):ref07Same t u=some false:=qU (GA.deps t+1) λn g=>by
 obtain ⟨v,e,c⟩:=same7N_is n t u (by omega);cases v with
 | true=>exact (h (c rfl)).elim
 | false=>exact e

theorem same7_is (t u:List GA):∃v,ref07Same t u=some v/\(v=true ↔ t=u):=by
 by_cases h:t=u
 ·subst h;exact ⟨true,ref07Same_refl t,by simp⟩
 ·exact ⟨false,same7_ne h,by simp [h]⟩
theorem Side.ok {t:List GA} (hs:Small t) (m:treeB 0 t=true) {p:List zd} {k:Int} {there:Bool} {l:GE} (h:Side (zj [] t) p k there l):there=true->leafB l=true/\LeafOk l/\l.typ=k:=λj=>by
 obtain ⟨c,g⟩:=h.on j;have:=rows_ok t 0 [] hs m rfl rfl _ c;exact ⟨this.leaf,this.ok,g⟩
theorem Side.rkey {t:List GA} (hs:Small t) (j:treeB 0 t=true) {p:List zd} {k:Int} {l:GE} (h:Side (zj [] t) p k true l):xL p=true/\1<=k/\k<=4:=by
 obtain ⟨c,g⟩:=h.on rfl;have:=rows_key hs j _ c;unfold RKey at this;rw [g] at this;exact this
theorem chg_ne (h:wQ e=true) (c:e.had=true) (g:e.has=true):e.was ≠ e.is:=λj=>by
 unfold wQ at h;rw [c,g,j] at h;simp at h
theorem EdOf.eok {a b:List GA} (m:Small a) (p:Small b) (o:treeB 0 a=true) (g:treeB 0 b=true) {e:GC} (h:EdOf (zj [] a) (zj [] b) e) (s:wQ e=true):EOk e:=by
 have j:xL e.path=true/\1<=e.typ/\e.typ<=4:=by
  rcases h.any with c | c
  ·have:=h.a;rw [c] at this;exact this.rkey m o
  ·have:=h.b;rw [c] at this;exact this.rkey p g
 exact ⟨j.1,j.2,h.any,chg_ne s,h.a.ok m o,λh0=>(h.a.off h0).1,h.b.ok p g,λh0=>(h.b.off h0).1⟩
theorem EdOf.fits {a b:List GA} (h:EdOf (zj [] a) (zj [] b) e):EFits a e:=⟨λc=>(h.a.on c).1,λc=>(h.a.off c).2⟩
def qV (e:GC):GC:=GC.mk e.path e.typ e.has e.had e.is e.was
theorem EdOf.turn (h:EdOf ra rb e):EdOf rb ra (qV e):=⟨h.any.symm,h.b,h.a⟩
theorem chg_turn (e:GC):wQ (qV e)=wQ e:=by
 unfold wQ qV;simp only [];rw [Bool.beq_comm,tT.2 (eq_comm (a:=e.is) (b:=e.was))]
theorem EdOf.copy {a b:List GA} (g:Small a) (m:Small b) (j:treeB 0 a=true) (c:treeB 0 b=true) {e:GC} (h:EdOf (zj [] a) (zj [] b) e) (o:wQ e=true):CopyOk e :=
 ⟨by have:=(xb (h.eok g m j c o).path).2.1;omega,side_ok g j h.a,side_ok m c h.b⟩
theorem turn_loop {f:Nat->GC->List GC->Option (Out (List GC) (List GC))} (c:∀i x s,CopyOk x->s.length<=16777216->f i x s=some (.nxt (s++[qV x]))):∀(L:List GC) (n:Nat) (s:List GC),(∀x ∈ L,CopyOk x)->s.length+L.length<=16777216->zg f L n s=some (.inr (s++L.map qV))
 | [],n,s,_,_=>by simp [zg]
 | x::L,n,s,h,hl=>by
  simp only [ui] at hl;rw [zg,c n x s (h x (by simp)) (by omega)];simp only [];rw [turn_loop c L (n+1) (s++[qV x]) (λy g=>h y (by simp [g])) (by simp;omega)];simp
theorem turn_is {L:List GC} (c:L.length<=16777216) (h:∀x ∈ L,CopyOk x):diffTurn L=some (L.map qV):=by
 unfold diffTurn;rw [turn_loop (λi x s g hs=>by rw [copied_is g,ua,zn (yn (by simp;omega))];rfl) L 0 [] h (by simpa using c)];simp
theorem patched_row {a b:List GA} (F:treeB 0 a=true) (G:treeB 0 b=true) {R:List GC} (j:∀e,e ∈ R ↔ EdOf (zj [] a) (zj [] b) e/\wQ e=true) (r:GH) :
  ((r ∈ zj [] a/\∀e ∈ R,rkey r ≠ zM e) \/ ∃e ∈ R,e.has=true/\r=⟨e.path,e.is⟩) ↔ r ∈ zj [] b:=by
 have K:=yW F [];have sb:=yW G [];constructor
 ·rintro (⟨s,C⟩ | ⟨e,M,s,rfl⟩)
  ·apply Classical.byContradiction;intro J;by_cases hx:∃q ∈ zj [] b,rkey q=rkey r
   ·obtain ⟨q,c,e⟩:=hx;have g:q.path=r.path:=congrArg Prod.fst e;have v:q.leaf.typ=r.leaf.typ:=congrArg Prod.snd e;have t:r.leaf ≠ q.leaf:=λo=>J (by
     have:r=q:=by cases r;cases q;simp only at g o;rw [g,o]
     rw [this];exact c)
    refine C (GC.mk r.path r.leaf.typ true true r.leaf q.leaf) ((j _).2 ⟨⟨.inl rfl,⟨λ_=>⟨s,rfl⟩,λh=>(by cases h)⟩,⟨λ_=>⟨?_,v⟩,λh=>(by cases h)⟩⟩,?_⟩) rfl
    ·show GH.mk r.path q.leaf ∈ _;rw [<- g];exact c
    ·unfold wQ;simp [t]
   ·refine C (GC.mk r.path r.leaf.typ true false r.leaf w6) ((j _).2 ⟨⟨.inl rfl,⟨λ_=>⟨s,rfl⟩,λh=>(by cases h)⟩,⟨λh=>(by cases h),λ_=>⟨rfl,λq c e=>hx ⟨q,c,e⟩⟩⟩⟩,rfl⟩) rfl
  ·exact ((j e).1 M).1.b.on s |>.1
 ·intro h;by_cases hx:∃q ∈ zj [] a,rkey q=rkey r
  ·obtain ⟨q,c,e⟩:=hx;have g:q.path=r.path:=congrArg Prod.fst e;have v:q.leaf.typ=r.leaf.typ:=congrArg Prod.snd e;by_cases hl:q.leaf=r.leaf
   ·left;have u:q=r:=by cases r;cases q;simp only at g hl;rw [g,hl]
    subst u;refine ⟨c,λf H o=>?_⟩;obtain ⟨p,w⟩:=(j f).1 H;have D:q.path=f.path:=congrArg Prod.fst o;have z:q.leaf.typ=f.typ:=congrArg Prod.snd o;obtain ⟨N,I⟩:=p.a.one K (y:=true) (m:=q.leaf) ⟨λ_=>⟨by rw [<- D];exact c,z⟩,λh=>(by cases h)⟩;obtain ⟨E,O⟩:=p.b.one sb (y:=true) (m:=q.leaf) ⟨λ_=>⟨by rw [<- D];exact h,z⟩,λh=>(by cases h)⟩;exact chg_ne w N E (I.trans O.symm)
   ·right;refine ⟨GC.mk r.path r.leaf.typ true true q.leaf r.leaf,(j _).2 ⟨⟨.inl rfl,⟨λ_=>⟨?_,v⟩,λh=>(by cases h)⟩,⟨λ_=>⟨h,rfl⟩,λh=>(by cases h)⟩⟩,?_⟩,rfl,rfl⟩
    ·show GH.mk r.path q.leaf ∈ _;rw [<- g];exact c
    ·unfold wQ;simp [hl]
  ·right;exact ⟨GC.mk r.path r.leaf.typ false true w6 r.leaf,(j _).2 ⟨⟨.inr rfl,⟨λh=>(by cases h),λ_=>⟨rfl,λq c e=>hx ⟨q,c,e⟩⟩⟩,⟨λ_=>⟨h,rfl⟩,λh=>(by cases h)⟩⟩,rfl⟩,rfl,rfl⟩
theorem patched {a b u:List GA} (h:treeB 0 a=true) (c:treeB 0 b=true) (j:treeB 0 u=true) {R:List GC} (g:∀e,e ∈ R ↔ EdOf (zj [] a) (zj [] b) e/\wQ e=true)
  (m:∀r,r ∈ zj [] u ↔ (r ∈ zj [] a/\∀e ∈ R,rkey r ≠ zM e) \/ ∃e ∈ R,e.has=true/\r=⟨e.path,e.is⟩):u=b:=rows_ext j c λr=>by rw [m,patched_row h c g]
theorem leaf_bk (l:GE):4<=GE.bk l:=by unfold GE.bk;omega
theorem leaves_bk:∀ls:List GE,4 * ls.length<=(ls.map GE.bk).sum
 | []=>by simp
 | l::ls=>by
  have:=leaves_bk ls;have:=leaf_bk l;simp only [ui,uD,rO];omega
theorem rows4:∀(t:List GA),4 * (zj [] t).length<=GA.bks t:=by
 refine vp (by simp [zj]) ?_;intro x r j g;have h:=leaves_bk x.leaves;have c:=bk_node x;rw [show x::r=[x]++r from rfl,vO,qY,xg];simp only [um,uA];rw [len_rows x.subs ([]++[x.name]) []];show _<=x.bk+GA.bks r;omega
theorem back_is {a b:List GA} (z:Small a) (s:Small b) (m:treeB 0 a=true) (p:treeB 0 b=true) (M:GA.bks a+GA.bks b<=16777216) :
  ∃R,wE a b=some (R,0)/\vl a R=some (b,0)/\diffTurn R=some (R.map qV)/\vl b (R.map qV)=some (a,0)/\wP R=some true/\(R=[] ↔ a=b)/\R.Pairwise qp/\∀e,e ∈ R ↔ EdOf (zj [] a) (zj [] b) e/\wQ e=true:=by
 obtain ⟨R,G,C,Q,o⟩:=diff_is z s m p M;have T:=rows4 a;have U:=rows4 b;have y:∀e ∈ R,EOk e/\EFits a e:=λe j=>by
  obtain ⟨c,g⟩:=(o e).1 j;exact ⟨c.eok z s m p g,c.fits⟩
 obtain ⟨u,J,I,E⟩:=patch_is z m (es:=R) (by omega) y C;obtain rfl:=patched m p I o E;have v:∀e,e ∈ R.map qV ↔ EdOf (zj [] u) (zj [] a) e/\wQ e=true:=λe=>by
  rw [tI];constructor
  ·rintro ⟨f,K,rfl⟩
   obtain ⟨c,g⟩:=(o f).1 K;exact ⟨c.turn,by rw [chg_turn];exact g⟩
  ·rintro ⟨c,g⟩
   exact ⟨qV e,(o _).2 ⟨c.turn,by rw [chg_turn];exact g⟩,rfl⟩
 have D:(R.map qV).Pairwise qp:=rJ.2 (C.imp λh=>h);have t:∀e ∈ R.map qV,EOk e/\EFits u e:=λe j=>by
  obtain ⟨c,g⟩:=(v e).1 j;exact ⟨c.eok s z p m g,c.fits⟩
 obtain ⟨w,F,P,H⟩:=patch_is s p (es:=R.map qV) (by rw [uA];omega) t D;obtain rfl:=patched p m P v H;refine ⟨R,G,J,turn_is (by omega) (λe j=>((o e).1 j).1.copy z s m p ((o e).1 j).2),F,diffMay_is (by omega) (λe j=>(y e j).1) C,⟨λh=>?_,λh=>?_⟩,C,o⟩
 ·subst h;exact rows_ext m p λr=>by rw [E];simp
 ·subst h;refine List.eq_nil_iff_forall_not_mem.2 λe j=>?_;obtain ⟨c,g⟩:=(o e).1 j;obtain ⟨O,N⟩:=c.a.one (yW m []) c.b;unfold wQ at g;rw [O,N] at g;simp at g

def leaf5:GE:=GE.mk (1:Int) (5:Int) (0:Int) (GF.mk (GJ.mk (0:Int) (0:Int)) (0:Int)) ([]:zd) ([]:List GI) ([]:List GF)
def tree5:List GA:=[(GA.mk ([97]:zd) [leaf5] ([]:List GA))]
theorem small5:Small tree5:=⟨by simp [tree5,leaf5,GA.wfs,GA.wf,GE.wf,GF.wf,GJ.wf,maxLen,InK];decide,by simp [tree5,leaf5,GA.bks,GA.bk,GE.bk,GF.bk,GJ.bk]⟩
theorem may5:treeB 0 tree5=true:=by
 simp [treeB,tree5,xQ,nodeB,upB,leavesB,qq,leaf5];decide
theorem known31:vY=some true:=by
 have G:GA.bks tree5<=100:=by simp [tree5,leaf5,GA.bks,GA.bk,GE.bk,GF.bk,GJ.bk]
 have h0:GA.bks []=0:=by simp [GA.bks]
 obtain ⟨R,o,_,_,_,_,C,z,p⟩:=back_is small_nil small5 (tree_nil 0) may5 (by omega);obtain ⟨Q,t,_,_,_,_,F,_⟩:=back_is small5 small5 may5 may5 (by omega);obtain rfl:=F.2 rfl;have g:zj [] tree5=[⟨[[97]],leaf5⟩]:=by simp [tree5,zj,qs]
 rw [g] at p;have E:R=[GC.mk [[97]] 1 false true w6 leaf5]:=by
  have c:∀e ∈ R,e=GC.mk [[97]] 1 false true w6 leaf5:=λe D=>by
   obtain ⟨h,_⟩:=(p e).1 D;have j:e.had=false:=by
    cases hh:e.had with
    | false=>rfl
    | true=>have:=(h.a.on hh).1;simp [zj] at this
   have m:e.has=true:=by
    rcases h.any with h | h
    ·rw [j] at h;cases h
    ·exact h
   obtain ⟨w,s⟩:=h.b.on m;have v:=(h.a.off j).1;simp only [up] at w;injection w with y u;cases e;simp only at j m s v y u;subst j m v y u;rw [<- s];rfl
  cases R with
  | nil=>have:=C.1 rfl;unfold tree5 at this;cases this
  | cons e R =>
   cases R with
   | nil=>rw [c e (by simp)]
   | cons f R =>
    have:=(uC.1 z).1 f (by simp);rw [c e (by simp),c f (by simp)] at this;unfold qp at this;rw [y8] at this;cases this
 subst E;unfold vY;unfold tree5 leaf5 at o t;rw [o,t];rfl
theorem diff_no {a b:List GA} (c:Small a) (g:Small b) (h:(treeB 0 a&&treeB 0 b)=false):wE a b=some ([],2):=by
 rw [diff_eq,x6 c,ua];cases e:treeB 0 a with
 | false=>simp
 | true =>
  rw [e] at h;simp only [u2] at h;simp [x6 g,h]
theorem mhas_iff {k:zd} {W:Type}:∀{m:List (zd×W)},ww sEq m k=true ↔ ∃x ∈ m,x.1=k
 | []=>by simp [ww]
 | e::r=>by
  simp only [ww,uY,sEq_iff,mhas_iff (m:=r),ut];constructor
  ·rintro (h | ⟨x,c,h⟩)
   ·exact ⟨e,.inl rfl,h.symm⟩
   ·exact ⟨x,.inr c,h⟩
  ·rintro ⟨x,c | c,h⟩
   ·subst c;exact .inl h.symm
   ·exact .inr ⟨x,c,h⟩
theorem ekey_eq {p:List zd} (h:zM e=(p,k)):e.path=p/\e.typ=k:=⟨congrArg Prod.fst h,congrArg Prod.snd h⟩
structure KOk (x:zd×GC):Prop where
 key:x.1=xu x.2.path x.2.typ
 path:xL x.2.path=true
 typ:1<=x.2.typ/\x.2.typ<=4
theorem KOk.iff {x:zd×GC} (h:KOk x) {e:GC} (g:xL e.path=true) (j:1<=e.typ/\e.typ<=4):x.1=xu e.path e.typ ↔ zM x.2=zM e:=by
 constructor
 ·intro c;rw [h.key] at c;obtain ⟨a,b⟩:=key_inj h.path g h.typ j c;unfold zM;rw [a,b]
 ·intro c;obtain ⟨a,b⟩:=ekey_eq c;rw [h.key,a,b]
structure CInv (ra:List GH) (R P:List GC) (m:List (zd×GC)):Prop where
 nd:mnd m
 ok:∀x ∈ m,KOk x
 ed:∀x ∈ m,Side ra x.2.path x.2.typ x.2.had x.2.was/\((∃e ∈ P,zM e=zM x.2/\e.has=x.2.has/\e.is=x.2.is) \/ ((∀e ∈ P,zM e ≠ zM x.2)/\x.2 ∈ R))
 cr:∀e ∈ R,∃x ∈ m,zM x.2=zM e
 cp:∀e ∈ P,∃x ∈ m,zM x.2=zM e
theorem CInv.put {R P:List GC} {m:List (zd×GC)} (h:CInv ra R P m) {e g:GC} (F:xL e.path=true) (C:1<=e.typ/\e.typ<=4) (J:∀f ∈ P,zM f ≠ zM e) (p:g.path=e.path) (s:g.typ=e.typ) (E:g.has=e.has) (D:g.is=e.is) (hs:Side ra e.path e.typ g.had g.was) :
  CInv ra R (P++[e]) (yC sEq m (xu e.path e.typ) g):=by
 have y:=mem_put (k:=xu e.path e.typ) (v:=g) h.nd;have u:zM g=zM e:=by unfold zM;rw [p,s]
 have j:(xu e.path e.typ,g) ∈ yC sEq m (xu e.path e.typ) g:=(y _).2 (.inr rfl);have keep:∀(f:GC) (x:zd×GC),x ∈ m->zM x.2=zM f->∃x ∈ yC sEq m (xu e.path e.typ) g,zM x.2=zM f:=λf x o t=>by
  by_cases hk:x.1=xu e.path e.typ
  ·exact ⟨_,j,by rw [<- t,((h.ok x o).iff F C).1 hk];exact u⟩
  ·exact ⟨x,(y x).2 (.inl ⟨o,hk⟩),t⟩
 refine ⟨mnd_put h.nd,λx o=>?_,λx o=>?_,λf c=>?_,λf c=>?_⟩
 ·rcases (y x).1 o with ⟨w,_⟩ | rfl
  ·exact h.ok x w
  ·exact ⟨by rw [p,s],by rw [p];exact F,by rw [s];exact C⟩
 ·rcases (y x).1 o with ⟨w,G⟩ | rfl
  ·obtain ⟨H,s2⟩:=h.ed x w;have z:zM e ≠ zM x.2:=λt=>G (((h.ok x w).iff F C).2 t.symm);refine ⟨H,?_⟩;rcases s2 with ⟨f,c,s2⟩ | ⟨s2,I⟩
   ·exact .inl ⟨f,by simp [c],s2⟩
   ·refine .inr ⟨λf c=>?_,I⟩;rcases uv.1 c with c | c
    ·exact s2 f c
    ·simp only [up] at c;subst c;exact z
  ·exact ⟨by rw [p,s];exact hs,.inl ⟨e,by simp,u.symm,E.symm,D.symm⟩⟩
 ·obtain ⟨x,o,t⟩:=h.cr f c;exact keep f x o t
 ·rcases uv.1 c with c | c
  ·obtain ⟨x,o,t⟩:=h.cp f c;exact keep f x o t
  ·simp only [up] at c;subst c;exact ⟨_,j,u⟩
noncomputable def cA:Nat->GC->List (zd×GC)->Option (Out (List GC×Int) (List (zd×GC))):=(λ(_:Nat) (x1:GC) (s1:List (zd×GC))=>(((xZ x1.path x1.typ).bind λv10=>some (.nxt (yC (λa b=>a==b) s1 v10 x1)))))
noncomputable def cG (s2:List (zd×GC)) (v20:zd):GC:=(ze (λa b=>a==b) (GC.mk ([]:List zd) (0:Int) false false zp zp) s2 v20)
noncomputable def cB:Nat->GC->List (zd×GC)->Option (Out (List GC×Int) (List (zd×GC))):=(λ(_:Nat) (x2:GC) (s2:List (zd×GC))=>(((xZ x2.path x2.typ).bind λv20=>(if (ww (λa b=>a==b) s2 v20)=true then ((if ((!((cG s2 v20).has==x2.had))==false)=true then y6 ((cG s2 v20).is) x2.was else some default).bind λv22=>(if ((!((cG s2 v20).has==x2.had)) || (!v22))=true then some (.ret (([]:List GC),(16:Int))) else some (.nxt (yC (λa b=>a==b) s2 v20 (GC.mk x2.path x2.typ ((cG s2 v20).had) x2.has ((cG s2 v20).was) x2.is))))) else some (.nxt (yC (λa b=>a==b) s2 v20 x2))))))
theorem chain_eq (c g:List GC):diffChain c g=((wP c).bind λh=>((if ((!h)==false)=true then wP g else some default).bind λj=>(if ((!h) || (!j))=true then some (([]:List GC),(2:Int)) else (lp (zg cA c 0 ([]:List (zd×GC))) λ(m:List (zd×GC))=>(lp (zg cB g 0 m) λ(s2:List (zd×GC))=>((xk s2).bind λv24=>some (v24,(0:Int)))))))):=rfl
theorem cA_loop:∀(R:List GC) (n:Nat) (c:List GC) (m:List (zd×GC)),(∀e ∈ R,xL e.path=true/\1<=e.typ/\e.typ<=4)->(c++R).Pairwise qp->mnd m->(∀x ∈ m,KOk x/\x.2 ∈ c)->(∀e ∈ c,∃x ∈ m,x.2=e) ->
  ∃j,zg cA R n m=some (.inr j)/\mnd j/\(∀x ∈ j,KOk x/\x.2 ∈ c++R)/\(∀e ∈ c++R,∃x ∈ j,x.2=e)/\j.length<=m.length+R.length
 | [],n,c,m,_,_,h1,h2,h3=>⟨m,rfl,h1,by simpa using h2,by simpa using h3,uh _⟩
 | e::R,n,c,m,ho,hp,h1,h2,h3=>by
  obtain ⟨t,s⟩:=ho e (by simp);have u:=mem_put (k:=xu e.path e.typ) (v:=e) h1;have p:∀x ∈ m,x.1 ≠ xu e.path e.typ:=λx o w=>by
   have y:=((h2 x o).1.iff t s).1 w;have:=(uZ.1 hp).2.2 _ (h2 x o).2 e (by simp);unfold qp at this;rw [y,y8] at this;cases this
  obtain ⟨j,z,C,a3,a4,a5⟩:=cA_loop R (n+1) (c++[e]) (yC sEq m (xu e.path e.typ) e) (λf g=>ho f (by simp [g])) (by simpa using hp) (mnd_put h1) (λx o=>by
   rcases (u x).1 o with ⟨h,_⟩ | rfl
   ·exact ⟨(h2 x h).1,by simp [(h2 x h).2]⟩
   ·exact ⟨⟨rfl,t,s⟩,by simp⟩) (λf g=>by
   rcases uv.1 g with g | g
   ·obtain ⟨x,o,w⟩:=h3 f g;exact ⟨x,(u x).2 (.inl ⟨o,p x o⟩),w⟩
   ·simp only [up] at g;subst g;exact ⟨_,(u _).2 (.inr rfl),rfl⟩)
  refine ⟨j,?_,C,by simpa using a3,by simpa using a4,?_⟩
  ·rw [zg];have:cA n e m=some (.nxt (yC sEq m (xu e.path e.typ) e)):=by unfold cA;rw [key_is t s];rfl
   rw [this];exact z
  ·have:=put_len (k:=xu e.path e.typ) (v:=e) m;simp only [ui];omega
theorem patF_any {t s:List GA} (o:treeB 0 t=true) (g:∀r ∈ zj [] t,LeafOk r.leaf) (m:EOk e) (n:Nat):EFits t e \/ patF t n e s=some (.ret ([],16)):=by
 unfold patF;rcases treeLeaf_is o g (xb m.path).1 m.typ with ⟨l,j,p,c⟩ | ⟨j,v,c⟩
 ·cases hh:e.had with
  | false =>
   right;rw [c];simp
  | true =>
   by_cases hl:l=e.was
   ·left;exact ⟨λ_=>by rw [<- hl];exact j,λh=>(by rw [hh] at h;cases h)⟩
   ·right;rw [c];simp [xG,hl]
 ·cases hh:e.had with
  | false =>
   left;exact ⟨λh=>(by rw [hh] at h;cases h),λ_=>j⟩
  | true =>
   right;rw [c];simp
theorem pat_any {t:List GA} (j:treeB 0 t=true) (c:∀r ∈ zj [] t,LeafOk r.leaf):∀(es:List GC) (n:Nat) (s:List GA),(∀e ∈ es,EOk e)->treeB 0 s=true->(zj [] s).length+es.length<=16777215 ->
  (∀e ∈ es,EFits t e) \/ zg (patF t) es n s=some (.inl ([],16))
 | [],_,_,_,_,_=>.inl (by simp)
 | e::es,n,s,h,hs,hw=>by
  simp only [ui] at hw;have p:=h e (by simp);rcases patF_any (s:=s) j c p n with o | v
  ·obtain ⟨u,w,y,a3,_⟩:=patF_is j c p o hs (by omega) n;rcases pat_any j c es (n+1) u (λx g=>h x (by simp [g])) y (by omega) with m | m
   ·left;intro x g;rcases ut.1 g with rfl | g
    ·exact o
    ·exact m x g
   ·right;rw [zg,w];exact m
  ·right;rw [zg,v]
theorem split_typ (k:Int) (h:ls.Pairwise λx y=>x.typ < y.typ):(∃A B,ls=A++B/\(∀y ∈ A,y.typ < k)/\∀y ∈ B,k < y.typ) \/ ∃A x B,ls=A++x::B/\x.typ=k/\(∀y ∈ A,y.typ < k)/\∀y ∈ B,k < y.typ:=by
 induction ls with
 | nil=>exact .inl ⟨[],[],rfl,λ_ h=>by simp at h,λ_ h=>by simp at h⟩
 | cons x t ih =>
  obtain ⟨j,g⟩:=uC.1 h;rcases pf x.typ k with e | e | e
  ·grind
  ·exact .inr ⟨[],x,t,rfl,e,λ_ h=>by simp at h,λy c=>by simp_all⟩
  ·refine .inl ⟨[],x::t,rfl,λ_ h=>by simp at h,λy c=>?_⟩
   grind
theorem layLs_none (g:∀y ∈ A,y.typ < l.typ) (h:∀y ∈ B,l.typ < y.typ):qh l.typ l true (A++B)=A++l::B:=by
 unfold qh;rw [uF rfl,tn,tn];rw [tm.2 (λy c=>uR (g y c)),tz.2 (λy c=>by grind),
  tz.2 (λy c=>by grind),tm.2 (λy c=>uR (h y c))]
 simp
theorem layLs_some (j:x.typ=l.typ) (g:∀y ∈ A,y.typ < l.typ) (h:∀y ∈ B,l.typ < y.typ):qh l.typ l true (A++x::B)=A++l::B:=by
 unfold qh;rw [uF rfl,tn,tn,sB,sB];rw [th (by simp;omega),th (by simp;omega)];rw [tm.2 (λy c=>uR (g y c)),tz.2 (λy c=>by grind),
  tz.2 (λy c=>by grind),tm.2 (λy c=>uR (h y c))]
 simp
theorem layLs_len:(qh k l there ls).length<=ls.length+1:=by
 unfold qh;split
 ·have c:=rD (λx:GE=>decide (x.typ < k)) ls;have g:=c.length_eq;have h:(ls.filter λx=>decide (k < x.typ)).length<=(ls.filter λx=>!decide (x.typ < k)).length:=by
   have:(ls.filter λx=>decide (k < x.typ))=(ls.filter λx=>!decide (x.typ < k)).filter (λx=>decide (k < x.typ)):=by
    rw [rz];refine rI λx _=>?_;rw [uw];simp;omega
   grind
  grind
 ·grind
theorem lay_leaf {s:zd} {A m B:List GA} {sb:List GA} (u:LeafOk l) (t:m.length=if f=true then 1 else 0) (j:zt (A++m++B) s (λp v=>xy p v)=some ((A.length:Int),f))
  (c:((if f=true then ((xe (A++m++B) (A.length:Int)).bind λh=>some (.inr (h.name,h.leaves,h.subs))) else some (.inr (s,([]:List GE),([]:List GA)))):Option (List GA ⊕ (zd×(List GE)×(List GA))))=some (.inr (s,ls,sb)))
  (C:(A++m++B).length<=16777216) (z:ls.length<=16777215) (w:sb.length<=16777217) (g:ls.Pairwise λx y=>x.typ < y.typ) :
  xn (n+1) (A++m++B) [s] l.typ l true=some (A++fitN s (qh l.typ l true ls) sb++B):=by
 have o:xe [s] (0:Int)=some s:=rfl;have:=layLs_len (k:=l.typ) (l:=l) (there:=true) (ls:=ls);rw [layN_eq,o,ua,j,ua,ua];simp only [];rw [c,yp,layIn_leaf (λ_=>⟨rfl,u⟩) (by omega) g,yp,layRest_is t (by omega) (by omega) (by omega)]
theorem lay_sub {s a:zd} {r:List zd} {A m B:List GA} {sb c:List GA} (u:m.length=if f=true then 1 else 0) (p:zt (A++m++B) s (λt w=>xy t w)=some ((A.length:Int),f))
  (g:((if f=true then ((xe (A++m++B) (A.length:Int)).bind λj=>some (.inr (j.name,j.leaves,j.subs))) else some (.inr (s,([]:List GE),([]:List GA)))):Option (List GA ⊕ (zd×(List GE)×(List GA))))=some (.inr (s,ls,sb)))
  (C:(A++m++B).length<=16777216) (z:ls.length<=16777215) (y:c.length<=16777217) (v:(s::a::r).length<=16777216) (h:xn n sb (a::r) k l there=some c) :
  xn (n+1) (A++m++B) (s::a::r) k l there=some (A++fitN s ls c++B):=by
 have o:xe (s::a::r) (0:Int)=some s:=rfl;rw [layN_eq,o,ua,p,ua,ua];simp only [];rw [g,yp,layIn_sub v h,yp,layRest_is u (by omega) (by omega) (by omega)]
theorem fit_one {c:zd} {sb:List GA} (h:ls ≠ [] \/ sb ≠ []):fitN c ls sb=[⟨c,ls,sb⟩]:=by
 unfold fitN;rw [th];rcases h with h | h
 ·simp_all
 ·simp_all
theorem layLs_ne:qh l.typ l true ls ≠ []:=List.ne_nil_of_mem (layLs_mem.2 (.inr ⟨rfl,rfl⟩))
noncomputable def l7A (t0:List GA) (path1:List zd):(List GA)×Int->Option (Out (List GA) ((List GA)×Int)):=(λ(s1:(List GA)×Int)=>((yw (((decide (s1.2 < ((t0).length:Int)))==true)=true->0<=s1.2/\s1.2 < ((t0).length:Int)) ((yw (((decide (s1.2 < ((t0).length:Int)))==true)=true->0<=(0:Int)/\(0:Int) < ((path1).length:Int)) ((if ((decide (s1.2 < ((t0).length:Int)))&&(Op.bytesLess (((t0).getD s1.2.toNat default).name) ((path1).getD (0:Int).toNat default)))=true then ((xe t0 s1.2).bind λy22=>(yw ((s1.1).length+(([y22]:List GA)).length<=yN) (some (.nxt ((s1.1++([y22]:List GA)),(IntKind.wrap .i64 (s1.2+(1:Int)))))))) else some (.brk (s1.1,s1.2))))))):Option (Out _ ((List GA)×Int))))
noncomputable def l7B (ls:List GE) (l2:GE):(List GE)×Int->Option (Out (List GA) ((List GE)×Int)):=(λ(sd62:(List GE)×Int)=>((yw (((decide (sd62.2 < ((ls).length:Int)))==true)=true->0<=sd62.2/\sd62.2 < ((ls).length:Int)) ((if ((decide (sd62.2 < ((ls).length:Int)))&&(decide (((ls).getD sd62.2.toNat default).typ < l2.typ)))=true then ((xe ls sd62.2).bind λy66=>(yw ((sd62.1).length+(([y66]:List GE)).length<=yN) (some (.nxt ((sd62.1++([y66]:List GE)),(IntKind.wrap .i64 (sd62.2+(1:Int)))))))) else some (.brk (sd62.1,sd62.2))))):Option (Out _ ((List GE)×Int))))
theorem l7A_is {t:List GA} {s:zd} {q:List zd} (p:t.length<=16777216) (a b:List GA) (e:t=a++b) (o:∀y ∈ a,Op.bytesLess y.name s=true) (u:∀y r,b=y::r->Op.bytesLess y.name s=false) :
  ∀(k i:Nat),a.length - i<=k->i<=a.length->yX (l7A t (s::q)) (a.take i,(i:Int))=some (.inr (a,(a.length:Int))):=by
 have v:t.length=a.length+b.length:=by rw [e];simp
 intro k
 induction k with
 | zero =>
  intro i c hi;obtain rfl:i=a.length:=by omega
  rw [xi];have:l7A t (s::q) (a.take a.length,(a.length:Int))=some (.brk (a,(a.length:Int))):=by
   unfold l7A;simp only [tZ];rw [zn (by simp_all),zn (by intro h;simp)];cases hbb:b with
   | nil =>
    simp_all
   | cons y r =>
    simp_all
  rw [this]
 | succ k ih =>
  intro i c hi;rcases t6 i a.length with h | h
  ·rw [xi];have j:t[i]?=some a[i]:=by grind
   have hd:t.getD i default=a[i]:=by simp_all
   have:l7A t (s::q) (a.take i,(i:Int))=some (.nxt (a.take (i+1),((i+1:Nat):Int))):=by
    unfold l7A;simp only;rw [zn (by omega),zn (by intro h;simp)];have g:(s::q).getD (0:Int).toNat default=s:=rfl;have m:IntKind.wrap .i64 ((i:Int)+1)=((i+1:Nat):Int):=by rw [qn (by omega)];omega
    rw [uM,hd,g,o _ (sg h),uR (by omega),te,uF rfl,zF j,ua,zn (yn (by simp;omega)),m]
    simp_all
   grind
  ·grind

theorem l7B_at (p:ls.length<=16777216) (a b:List GE) (e:ls=a++b) (j:∀y ∈ a,y.typ < l.typ) (s:∀y r,b=y::r->¬ y.typ < l.typ) :
  ∀(k i:Nat),a.length - i<=k->i<=a.length->yX (l7B ls l) (a.take i,(i:Int))=some (.inr (a,(a.length:Int))):=by
 have o:ls.length=a.length+b.length:=by rw [e];simp
 intro k
 induction k with
 | zero =>
  intro i c hi;obtain rfl:i=a.length:=by omega
  rw [xi];have:l7B ls l (a.take a.length,(a.length:Int))=some (.brk (a,(a.length:Int))):=by
   unfold l7B;simp only [tZ];rw [zn (by simp_all)];cases hbb:b with
   | nil =>
    simp_all
   | cons y r =>
    grind
  rw [this]
 | succ k ih =>
  intro i c hi;rcases t6 i a.length with h | h
  ·rw [xi];have m:ls[i]?=some a[i]:=by grind
   have hd:ls.getD i default=a[i]:=by simp_all
   have:l7B ls l (a.take i,(i:Int))=some (.nxt (a.take (i+1),((i+1:Nat):Int))):=by
    unfold l7B;simp only;have g:IntKind.wrap .i64 ((i:Int)+1)=((i+1:Nat):Int):=by rw [qn (by omega)];omega
    rw [zn (by omega),uM,hd,uR (j _ (sg h)),uR (by omega),te,uF rfl,zF m,ua,zn (yn (by simp;omega)),g]
    simp_all
   grind
  ·grind

noncomputable def l7R (n:Nat) (t0:List GA) (path1:List zd) (l2:GE) (A:List GA) (sd30:Int×zd×(List GE)×(List GA)):Option (List GA):=(if (decide (((path1).length:Int) > (1:Int)))=true then ((slc path1 (1:Int) ((path1).length:Int)).bind λm38=>((xS n sd30.2.2.2 m38 l2).bind λv39=>(yw ((A).length+(([(GA.mk sd30.2.1 sd30.2.2.1 v39)]:List GA)).length<=yN) (((slc t0 sd30.1 ((t0).length:Int)).bind λm41=>(yw (((A++([(GA.mk sd30.2.1 sd30.2.2.1 v39)]:List GA))).length+(m41).length<=yN) (some ((A++([(GA.mk sd30.2.1 sd30.2.2.1 v39)]:List GA))++m41)))))))) else (lp (yX (l7B sd30.2.2.1 l2) (([]:List GE),(0:Int))) λ(sd62:(List GE)×Int)=>(yw (((decide (sd62.2 < ((sd30.2.2.1).length:Int)))==true)=true->0<=sd62.2/\sd62.2 < ((sd30.2.2.1).length:Int)) ((if ((decide (sd62.2 < ((sd30.2.2.1).length:Int)))&&(((sd30.2.2.1).getD sd62.2.toNat default).typ==l2.typ))=true then (yw ((sd62.1).length+(([l2]:List GE)).length<=yN) (((slc sd30.2.2.1 (IntKind.wrap .i64 (sd62.2+(1:Int))) ((sd30.2.2.1).length:Int)).bind λm72=>(yw (((sd62.1++([l2]:List GE))).length+(m72).length<=yN) ((yw ((A).length+(([(GA.mk sd30.2.1 ((sd62.1++([l2]:List GE))++m72) sd30.2.2.2)]:List GA)).length<=yN) (((slc t0 sd30.1 ((t0).length:Int)).bind λm75=>(yw (((A++([(GA.mk sd30.2.1 ((sd62.1++([l2]:List GE))++m72) sd30.2.2.2)]:List GA))).length+(m75).length<=yN) (some ((A++([(GA.mk sd30.2.1 ((sd62.1++([l2]:List GE))++m72) sd30.2.2.2)]:List GA))++m75))))))))))) else (yw ((sd62.1).length+(([l2]:List GE)).length<=yN) (((slc sd30.2.2.1 sd62.2 ((sd30.2.2.1).length:Int)).bind λm78=>(yw (((sd62.1++([l2]:List GE))).length+(m78).length<=yN) ((yw ((A).length+(([(GA.mk sd30.2.1 ((sd62.1++([l2]:List GE))++m78) sd30.2.2.2)]:List GA)).length<=yN) (((slc t0 sd30.1 ((t0).length:Int)).bind λm81=>(yw (((A++([(GA.mk sd30.2.1 ((sd62.1++([l2]:List GE))++m78) sd30.2.2.2)]:List GA))).length+(m81).length<=yN) (some ((A++([(GA.mk sd30.2.1 ((sd62.1++([l2]:List GE))++m78) sd30.2.2.2)]:List GA))++m81))))))))))))))))
theorem lay7_eq2 (n:Nat) (t0:List GA) (c:List zd) (o:GE):xS (n+1) t0 c o=(lp (yX (l7A t0 c) (([]:List GA),(0:Int))) λ(g:(List GA)×Int)=>((xe c (0:Int)).bind λm=>(lp ((yw (((decide (g.2 < ((t0).length:Int)))==true)=true->0<=g.2/\g.2 < ((t0).length:Int)) ((yw (((decide (g.2 < ((t0).length:Int)))==true)=true->0<=(0:Int)/\(0:Int) < ((c).length:Int)) ((if ((decide (g.2 < ((t0).length:Int)))&&(((t0).getD g.2.toNat default).name==((c).getD (0:Int).toNat default)))=true then ((xe t0 g.2).bind λh=>some (.inr ((IntKind.wrap .i64 (g.2+(1:Int))),h.name,h.leaves,h.subs))) else some (.inr (g.2,m,([]:List GE),([]:List GA)))))))):Option (_ ⊕ (Int×zd×(List GE)×(List GA)))) λj=>l7R n t0 c o g.1 j))):=rfl

theorem x7 {α:Type} (L:List α) (i:Nat):((L.take ((L.length:Int)).toNat).drop ((i:Int)).toNat)=L.drop i:=by simp
theorem l7R_sub {t A:List GA} {s a:zd} {r:List zd} {c:zd} {sb u:List GA} (hi:i<=t.length) (p:t.length<=16777215) (v:A.length<=8388608) (m:t.length<=8388607) (o:(s::a::r).length<=16777216) (h:xS n sb (a::r) l=some u) :
  l7R n t (s::a::r) l A ((i:Int),c,ls,sb)=some (A++[⟨c,ls,u⟩]++t.drop i):=by
 unfold l7R;have g:decide ((((s::a::r).length:Int)) > 1)=true:=uR (by grind);simp only [g,uq];rw [vC ⟨by omega,by grind,sd _⟩,ua];have j:((s::a::r).take (((s::a::r).length:Int)).toNat).drop (1:Int).toNat=a::r:=by rw [uM,tZ];rfl
 rw [j,h,ua,zn (yn (by simp;omega)),vC ⟨by omega,by omega,sd _⟩,ua,x7,zn (yn (by simp;omega))]
theorem l7R_leaf {t A:List GA} {s:zd} {p:zd} {sb:List GA} (hi:i<=t.length) (G:A.length<=8388608) (w:t.length<=8388607) (j:ls.length<=8388607) (m:ls.Pairwise λx y=>x.typ < y.typ) :
  l7R n t [s] l A ((i:Int),p,ls,sb)=some (A++[⟨p,qh l.typ l true ls,sb⟩]++t.drop i):=by
 unfold l7R;have u:decide (((([s]:List zd).length:Int)) > 1)=false:=rfl;simp only [u,ul,uK];rcases split_typ l.typ m with ⟨C,D,e,g,hd⟩ | ⟨C,z,D,e,v,g,hd⟩
 ·have o:=l7B_at (ls:=ls) (l:=l) (by omega) C D e g (λy r h=>by grind) C.length 0 (by omega) (by omega);rw [show (([]:List GE),(0:Int))=(C.take 0,((0:Nat):Int)) from rfl,o,yp,e,layLs_none g hd];rw [e] at j;simp only [um] at j;simp only [];rw [zn (by simp_all)];have c:((decide (((C.length:Nat):Int) < ((C++D).length:Int)))&&(((C++D).getD ((C.length:Nat):Int).toNat default).typ==l.typ))=false:=by
   grind
  rw [c];simp only [ul,uK];rw [zn (yn (by simp;omega)),vC ⟨by omega,by grind,sd _⟩,ua,x7,sQ,zn (yn (by simp;omega)),zn (yn (by simp;omega)),vC ⟨by omega,by omega,sd _⟩,ua,x7,zn (yn (by simp;omega))];simp
 ·have o:=l7B_at (ls:=ls) (l:=l) (by omega) C (z::D) e g (λy r h=>by simp_all) C.length 0 (by omega) (by omega);rw [show (([]:List GE),(0:Int))=(C.take 0,((0:Nat):Int)) from rfl,o,yp,e,layLs_some v g hd];rw [e] at j;simp only [um,ui] at j;simp only [];rw [zn (by simp_all)];have c:((decide (((C.length:Nat):Int) < ((C++z::D).length:Int)))&&(((C++z::D).getD ((C.length:Nat):Int).toNat default).typ==l.typ))=true:=by
   grind
  rw [c];simp only [uq];have E:IntKind.wrap .i64 ((C.length:Int)+1)=((C.length+1:Nat):Int):=by rw [qn (by omega)];omega
  have F:(C++z::D).drop (C.length+1)=D:=by
   simp_all
  rw [zn (yn (by simp;omega)),E,vC ⟨by omega,by grind,sd _⟩,ua,x7,F,zn (yn (by simp;omega)),zn (yn (by simp;omega)),vC ⟨by omega,by omega,sd _⟩,ua,x7,zn (yn (by simp;omega))];simp
theorem lay7_none {s:zd} {q:List zd} {A B:List GA} (h:(A++B).length<=16777215) (m:NLt s A) (g:NGt s B):xS (n+1) (A++B) (s::q) l=l7R n (A++B) (s::q) l A ((A.length:Int),s,[],[]):=by
 have o:=l7A_is (t:=A++B) (s:=s) (q:=q) (by omega) A B rfl m (λy r hh=>by
  have:=g y (by rw [hh];simp);rcases hx:Op.bytesLess y.name s with _ | _
  ·rfl
  ·have:=vG this hx;rw [qf] at this;cases this) A.length 0 (by omega) (by omega)
 rw [lay7_eq2,show (([]:List GA),(0:Int))=(A.take 0,((0:Nat):Int)) from rfl,o,yp];have j:xe (s::q) (0:Int)=some s:=rfl;simp only [j,ua];rw [zn (by simp_all),zn (by intro h;simp)];have c:((decide (((A.length:Nat):Int) < ((A++B).length:Int)))&&(((A++B).getD ((A.length:Nat):Int).toNat default).name==((s::q).getD (0:Int).toNat default)))=false:=by
  cases B with
  | nil=>simp
  | cons y B =>
   have:=less_ne (g y (by simp))
   grind
 rw [c];rfl
theorem lay7_some {s:zd} {q:List zd} {A B:List GA} {x:GA} (g:x.name=s) (h:(A++x::B).length<=16777215) (m:NLt s A) (v:NGt s B):xS (n+1) (A++x::B) (s::q) l=l7R n (A++x::B) (s::q) l A (((A.length+1:Nat):Int),s,x.leaves,x.subs):=by
 have u:=l7A_is (t:=A++x::B) (s:=s) (q:=q) (by omega) A (x::B) rfl m (λy r hh=>by
  injection hh with p _;rw [<- p,g,qf]) A.length 0 (by omega) (by omega)
 rw [lay7_eq2,show (([]:List GA),(0:Int))=(A.take 0,((0:Nat):Int)) from rfl,u,yp];have j:xe (s::q) (0:Int)=some s:=rfl;simp only [j,ua];rw [zn (by simp_all),zn (by intro h;simp)];have c:((decide (((A.length:Nat):Int) < ((A++x::B).length:Int)))&&(((A++x::B).getD ((A.length:Nat):Int).toNat default).name==((s::q).getD (0:Int).toNat default)))=true:=by
  grind
 rw [c];simp only [um,ui] at h;have o:IntKind.wrap .i64 ((A.length:Int)+1)=((A.length+1:Nat):Int):=by rw [qn (by omega)];omega
 simp only [uq];rw [zF (x:=x) (by simp),ua,yp,o,g]

theorem lay7_lay {l:GE} (U:leafB l=true) (G:LeafOk l):∀(p:List zd) (t:List GA) (d n:Nat),p ≠ []->p.all nameB=true->d+p.length<=3->treeB d t=true->(zj [] t).length<=8388606->p.length < n ->
  xS n t p l=xn n t p l.typ l true
 | [],_,_,_,h,_,_,_,_,_=>absurd rfl h
 | _::_,_,_,0,_,_,_,_,_,h=>by omega
 | s::q,t,d,n+1,_,hp,hd,ht,hw,hn=>by
  simp only [tc,ud,ui] at hp hd hn;obtain ⟨h1,T⟩:=ye ht;have C:t.length<=8388606:=uE (q8 _ d (by rw [xr];exact ux.2 T)) hw;have below:∀(sb:List GA) (c:zd) (o:List zd),q=c::o->treeB (d+1) sb=true->(zj [] sb).length<=8388606->∃g,xS n sb q l=some g/\xn n sb q l.typ l true=some g/\g ≠ []/\g.length<=16777215:=by
   intro sb c o u v M;subst u;obtain ⟨g,Z,e2,e3,e4⟩:=lay_is (k:=l.typ) (l:=l) (there:=true) (λ_=>⟨rfl,U,G⟩) (c::o) sb (d+1) n (by simp) hp.2 (by omega) v (by omega) (by omega);have N:=q8 sb (d+1) (by rw [xr];exact ux.2 (ye v).2);refine ⟨g,?_,Z,?_,by omega⟩
   ·rw [<- Z];exact lay7_lay U G (c::o) sb (d+1) n (by simp) hp.2 (by omega) v M (by omega)
   ·intro e;have:=(e4 [] ⟨[]++(c::o),l⟩).2 (.inr ⟨rfl,rfl⟩);rw [e] at this;simp [zj] at this
  rcases split_up s h1 with ⟨A,B,e,F,m⟩ | ⟨A,x,B,e,Q,F,m⟩
  ·have O:(A++B).length<=8388606:=by rw [<- e];exact C
   have P:A.length<=8388606:=by grind
   have J:=bs_none (by omega) F m;have j:zt (A++[]++B) s (λH R=>xy H R)=some ((A.length:Int),false):=by simp_all
   have w:A++B=A++[]++B:=by simp
   rw [e,lay7_none (by omega) F m];cases u:q with
   | nil =>
    rw [l7R_leaf (by simp) (by omega) (by omega) (by simp) (by simp),w,lay_leaf (ls:=[]) (sb:=[]) G (by simp) j rfl (by grind) (by simp) (by simp) (by simp),fit_one (.inl layLs_ne)];simp
   | cons c o =>
    obtain ⟨g,y,D,K,b4⟩:=below [] c o u (tree_nil _) (by simp [zj]);rw [u] at y D;rw [l7R_sub (by simp) (by omega) (by omega) (by omega) (by grind) y,w,lay_sub (ls:=[]) (sb:=[]) (f:=false) (by simp) j rfl (by grind) (by simp) (by omega) (by grind) D,fit_one (.inr K)];simp
  ·have O:(A++x::B).length<=8388606:=by rw [<- e];exact C
   have P:A.length+1<=8388606:=by grind
   have J:=bs_some (by omega) Q F m;have j:zt (A++[x]++B) s (λH R=>xy H R)=some ((A.length:Int),true):=by simp_all
   have w:A++x::B=A++[x]++B:=by simp
   have E:x ∈ t:=by rw [e];simp
   obtain ⟨n1,Y,V⟩:=vW (T x E);have hml:=mem_rows_len E;have N:=q8 x.subs (d+1) (by rw [xr];exact ux.2 (ye Y).2);have z:((if true=true then ((xe (A++[x]++B) (A.length:Int)).bind λI=>some (.inr (I.name,I.leaves,I.subs))) else some (.inr (s,([]:List GE),([]:List GA)))):Option (List GA ⊕ (zd×(List GE)×(List GA))))=some (.inr (s,x.leaves,x.subs)):=by
    rw [uF rfl,zF (x:=x) (by simp),ua,Q]
   have ed:(A++x::B).drop (A.length+1)=B:=by rw [<- tD,sQ];rfl
   rw [e,lay7_some Q (by omega) F m];cases u:q with
   | nil =>
    rw [l7R_leaf (by simp) (by omega) (by omega) (by omega) (leaves_up V).1,ed,w,lay_leaf (ls:=x.leaves) (sb:=x.subs) G (by simp) j z (by grind) (by omega) (by omega) (leaves_up V).1,fit_one (.inl layLs_ne)]
   | cons c o =>
    obtain ⟨g,y,D,K,b4⟩:=below x.subs c o u Y (by omega);rw [u] at y D;rw [l7R_sub (by simp) (by omega) (by omega) (by omega) (by grind) y,ed,w,lay_sub (ls:=x.leaves) (sb:=x.subs) (f:=true) (by simp) j z (by grind) (by omega) (by omega) (by grind) D,fit_one (.inr K)]

def newLf (k:Int):GE:=GE.mk k (0:Int) (0:Int) (GF.mk (GJ.mk (0:Int) (0:Int)) (0:Int)) ([]:zd) ([]:List GI) ([]:List GF)
theorem refNew_is (h:1<=k/\k<=4):ref05New k=some (newLf k):=by
 unfold ref05New;rw [uF (by simp;omega)];rfl
theorem node7_is (t:List GA) (s:zd):qC t s=some (match nodeOf t s with | some x=>(x,true) | none=>(node0,false)):=by
 unfold qC;have key:∀(L:List GA) (i:Nat),zg (ρ:=GA×Bool) (λ(g:Nat) (c:GA) (j:Unit)=>((if (c.name==s)=true then some (.ret (c,true)) else some (.nxt ())):Option (Out _ Unit))) L i ()=some (match nodeOf L s with | some x=>.inl (x,true) | none=>.inr ()):=by
  intro L
  induction L with
  | nil=>intro i;rfl
  | cons y r ih =>
   intro i;rw [zg];unfold nodeOf;rw [rT];cases h:(y.name==s)
   ·simp only [ul,uK];exact ih (i+1)
   ·rfl
 rw [key];cases nodeOf t s <;> rfl
noncomputable def l7F (v1:GE):Nat->zd->(List GA)×zd×(List GE)×(List GA)->Option (Out (GE×Bool) ((List GA)×zd×(List GE)×(List GA))):=(λ(n1:Nat) (x1:zd) (s1:(List GA)×zd×(List GE)×(List GA))=>(((qC s1.1 x1).bind λv32=>(if (!v32.2)=true then some (.ret (v1,false)) else some (.nxt (v32.1.subs,v32.1.name,v32.1.leaves,v32.1.subs))))))
noncomputable def l7S (ls:List GE) (kind2:Int):Int->Option (Out (GE×Bool) Int):=(λ(s2:Int)=>((if (((decide (s2 < ((ls).length:Int)))&&(decide (kind2 >= (1:Int))))&&(decide (kind2<=(4:Int))))=true then ((xe ls s2).bind λy63=>(if (y63.typ==kind2)=true then ((xe ls s2).bind λy65=>some (.ret (y65,true))) else some (.nxt (IntKind.wrap .i64 (s2+(1:Int)))))) else some (.brk s2))))
theorem leaf7_eq (t0:List GA) (g:List zd) (c:Int):wj t0 g c=((ref05New c).bind λh=>(lp (zg (l7F h) g 0 (t0,([]:zd),([]:List GE),([]:List GA))) λ(j:(List GA)×zd×(List GE)×(List GA))=>(lp (yX (l7S j.2.2.1 c) (0:Int)) λ(s2:Int)=>some (h,false)))):=rfl
theorem l7_walk (v:GE):∀(p:List zd) (n:Nat) (t:List GA) (z:zd×(List GE)×(List GA)),p ≠ [] ->
  zg (l7F v) p n (t,z)=some (match wK t p with | some x=>.inr (x.subs,x.name,x.leaves,x.subs) | none=>.inl (v,false))
 | [],_,_,_,h=>absurd rfl h
 | [s],n,t,z,_=>by
  simp only [wK,zg,l7F,node7_is,ua]
  grind
 | s::c::q,n,t,z,_=>by
  have j:=λu z=>l7_walk v (c::q) (n+1) u z (by simp);simp only [wK];cases e:nodeOf t s with
  | none=>rw [zg];simp only [l7F,node7_is,e,ua];rfl
  | some x =>
   have g:l7F v n s (t,z)=some (.nxt (x.subs,x.name,x.leaves,x.subs)):=by simp only [l7F,node7_is,e,ua];rfl
   rw [zg,g,ua]
   simp_all
theorem l7_scan (j:1<=k/\k<=4) (o:ls.length<=16777216):∀(m i:Nat),ls.length - i=m->i<=ls.length->yX (l7S ls k) (i:Int)=some (match (ls.drop i).find? (λy=>y.typ==k) with | some y=>.inl (y,true) | none=>.inr (ls.length:Int)):=by
 intro m
 induction m with
 | zero =>
  intro i h hi;obtain rfl:i=ls.length:=by omega
  rw [xi];unfold l7S;simp
 | succ m ih =>
  intro i h hi;have c:i < ls.length:=by omega
  rw [xi];have hd:ls.drop i=ls[i]::ls.drop (i+1):=rl c;have g:((decide ((i:Int) < (ls.length:Int))&&decide (k >= 1))&&decide (k<=4))=true:=by simp;omega
  rw [hd,rT];cases e:(ls[i].typ==k)
  ·have:l7S ls k (i:Int)=some (.nxt ((i+1:Nat):Int)):=by
    unfold l7S;rw [uF g,xw c,ua,e];simp only [ul,uK];rw [qn (by omega)];rfl
   grind
  ·have:l7S ls k (i:Int)=some (.ret (ls[i],true)):=by
    unfold l7S;rw [uF g,xw c,ua,e];simp
   rw [this]
theorem leaves_len:∀{p:List zd} {t:List GA} {d:Nat} {x:GA},treeB d t=true->p ≠ []->wK t p=some x->x.leaves.length<=(zj [] t).length
 | [],_,_,_,_,h,_=>absurd rfl h
 | [s],t,d,x,h,_,e=>by
  have j:x ∈ t:=sG (show nodeOf t s=some x from e);have:=mem_rows_len j;omega
 | s::c::q,t,d,x,h,_,e=>by
  simp only [wK] at e;cases hn:nodeOf t s with
  | none=>rw [hn] at e;cases e
  | some y =>
   rw [hn,ua] at e;have g:y ∈ t:=sG (show nodeOf t s=some y from hn);have o:=leaves_len (vW ((ye h).2 y g)).2.1 (by simp) e;have m:=mem_rows_len g;omega
theorem leaf7_is {t:List GA} (h:treeB 0 t=true) (s:(zj [] t).length<=16777215) {p:List zd} (j:p ≠ []) {k:Int} (m:1<=k/\k<=4) :
  (∃l,GH.mk p l ∈ zj [] t/\l.typ=k/\wj t p k=some (l,true)) \/ ((∀r ∈ zj [] t,rkey r ≠ (p,k))/\wj t p k=some (newLf k,false)):=by
 have c:=λl=>row_at p t 0 [] l j h;simp only [uU] at c;have g:(∀l,¬ (GH.mk p l ∈ zj [] t/\l.typ=k))->∀r ∈ zj [] t,rkey r ≠ (p,k):=λv r u e=>by
  have:=row_mk e;simp only [uU] at this;exact v r.leaf ⟨by rw [<- this];exact u,congrArg Prod.snd e⟩
 rw [leaf7_eq,refNew_is m,ua,l7_walk _ p 0 t _ j];cases e:wK t p with
 | none =>
  right;refine ⟨g λl hh=>?_,rfl⟩;obtain ⟨x,w,_⟩:=(c l).1 hh.1
  simp_all
 | some x =>
  simp only [lp];have o:x.leaves.length<=16777215:=by
   exact uE (leaves_len h j e) s
  have hs:=l7_scan m (by omega:x.leaves.length<=16777216) x.leaves.length 0 (by omega) (tK _);simp only [sq,Int.natCast_zero] at hs
  grind

theorem pathAll {p:List zd} {f:zd->Option Bool} (c:∀x,f x=some (nameB x)):(lp (zg (λ(_:Nat) (g:zd) (_:Unit)=>(((f g).bind λv9=>(if (!v9)=true then some (.ret false) else some (.nxt ()))):Option (Out _ Unit))) p 0 ()) λ(_:Unit)=>some ((decide (((p).length:Int) >= (1:Int)))&&(decide (((p).length:Int)<=(3:Int)))))=some (xL p):=by
 rw [loopL_all nameB false _ _ (λi x _=>by rw [c];cases nameB x <;> rfl),bnd1,bnd3];unfold xL;cases h:p.all nameB <;> simp
theorem ref04MayPath_is (p:List zd):ref04MayPath p=some (xL p):=pathAll ref04IsName_is
abbrev LyR:=List GA->List zd->GE->List GA->Prop
structure LyOk (Ly:LyR):Prop where
 qg:∀{t:List GA} {s:zd} {l:GE},t.length+1<=16777216->(∀y ∈ t,Op.bytesLess y.name s=true)->LeafOk l->Ly t [s] l (t++[⟨s,[l],[]⟩])
 leafOld:∀{t:List GA} {s:zd} {l:GE} {ls:List GE},t.length+1<=16777216->(∀y ∈ t,Op.bytesLess y.name s=true)->LeafOk l->ls.length<=11->(ls++[l]).Pairwise (λx y=>x.typ < y.typ)->Ly (t++[⟨s,ls,[]⟩]) [s] l (t++[⟨s,ls++[l],[]⟩])
 subOld:∀{t:List GA} {s a:zd} {q:List zd} {l:GE} {ls:List GE} {sb u:List GA},t.length+1<=16777216->(∀y ∈ t,Op.bytesLess y.name s=true)->ls.length<=16777216->0 < u.length->u.length<=16777216->(a::q).length+1<=16777216->Ly sb (a::q) l u->Ly (t++[⟨s,ls,sb⟩]) (s::a::q) l (t++[⟨s,ls,u⟩])
 subNew:∀{t:List GA} {s a:zd} {q:List zd} {l:GE} {u:List GA},t.length+1<=16777216->(∀y ∈ t,Op.bytesLess y.name s=true)->0 < u.length->u.length<=16777216->(a::q).length+1<=16777216->Ly [] (a::q) l u->Ly t (s::a::q) l (t++[⟨s,[],u⟩])
def LaysG (Ly:LyR):List GA->List GH->List GA->Prop
 | t,[],t'=>t'=t
 | t,r::rs,t'=>∃t1,Ly t r.path r.leaf t1/\(0 < t1.length/\t1.length<=16777216)/\LaysG Ly t1 rs t'
section
variable {Ly:LyR}
theorem LaysG.app:∀{a b:List GH} {t g c:List GA},LaysG Ly t a g->LaysG Ly g b c->LaysG Ly t (a++b) c
 | [],_,_,_,_,h,k=>by cases h;exact k
 | _::_,_,_,_,_,⟨u,h1,h0,h2⟩,k=>⟨u,h1,h0,h2.app k⟩
theorem LaysG.below (ok:LyOk Ly) {t:List GA} {s:zd} {ls:List GE} (j:t.length+1<=16777216) (o:∀y ∈ t,Op.bytesLess y.name s=true) (m:ls.length<=16777216) :
  ∀{rs:List GH} {sb c:List GA},LaysG Ly sb rs c->(∀r ∈ rs,0 < r.path.length/\r.path.length+1<=16777216)->LaysG Ly (t++[⟨s,ls,sb⟩]) (rs.map (preR [s])) (t++[⟨s,ls,c⟩])
 | [],_,_,h,_=>by cases h;rfl
 | r::rs,sb,c,⟨u,hu,⟨u0,u1⟩,h⟩,hp=>by
  obtain ⟨h0,g⟩:=hp r (by simp);obtain ⟨a,q,e⟩:∃a q,r.path=a::q:=by
   cases hq:r.path with
   | nil=>rw [hq] at h0;simp at h0
   | cons a q=>exact ⟨a,q,rfl⟩
  refine ⟨t++[⟨s,ls,u⟩],?_,by simp;omega,LaysG.below ok j o m h (λx p=>hp x (by simp [p]))⟩;simp only [preR,e,List.singleton_append];rw [e] at hu g;exact ok.subOld j o m u0 u1 g hu
theorem LaysG.leaves (ok:LyOk Ly) {t:List GA} {s:zd} (h:t.length+1<=16777216) (j:∀y ∈ t,Op.bytesLess y.name s=true) :
  ∀{ls c:List GE},(∀l ∈ ls,LeafOk l)->(c++ls).length<=12->(c++ls).Pairwise (λx y=>x.typ < y.typ)->LaysG Ly (t++[⟨s,c,[]⟩]) (ls.map λl=>⟨[s],l⟩) (t++[⟨s,c++ls,[]⟩])
 | [],c,_,_,_=>by rw [tu];rfl
 | l::ls,c,hl,hs,hp=>by
  have e:c++l::ls=(c++[l])++ls:=by simp
  rw [e] at hs hp ⊢;have g:=hs;simp only [um,ui,uH] at g;refine ⟨t++[⟨s,c++[l],[]⟩],?_,by simp;omega,LaysG.leaves ok h j (λx m=>hl x (by simp [m])) hs hp⟩;refine ok.leafOld h j (hl l (by simp)) (by omega) ?_;rw [uZ] at hp;exact hp.1
end
noncomputable def r7F (n:Nat) (ahead1:List zd):Nat->GA->List GK->Option (Out (List GK) (List GK)):=(λ(n1:Nat) (x1:GA) (s1:(List GK))=>((yw ((([]:List zd)).length+(ahead1).length<=yN) ((yw (((([]:List zd)++ahead1)).length+(([x1.name]:List zd)).length<=yN) ((lp (zg (λ(n2:Nat) (x2:GE) (s2:(List GK))=>((yw ((s2).length+(([(GK.mk ((([]:List zd)++ahead1)++([x1.name]:List zd)) x2)]:List GK)).length<=yN) (some (.nxt (s2++([(GK.mk ((([]:List zd)++ahead1)++([x1.name]:List zd)) x2)]:List GK))))):Option (Out _ (List GK)))) x1.leaves 0 s1) λ(s2:(List GK))=>((wv n x1.subs ((([]:List zd)++ahead1)++([x1.name]:List zd))).bind λv44=>(yw ((s2).length+(v44).length<=yN) (some (.nxt (s2++v44)))))))))):Option (Out _ (List GK))))
theorem rows7_eq (n:Nat) (t0:List GA) (c:List zd):wv (n+1) t0 c=(lp (zg (r7F n c) t0 0 ([]:List GK)) λ(g:(List GK))=>some g):=rfl
def vR (r:GH):GK:=⟨r.path,r.leaf⟩

noncomputable def roF:Nat->GK->List GH->Option (Out (List GH) (List GH)):=(λ(n1:Nat) (x1:GK) (s1:(List GH))=>((yw ((s1).length+(([(GH.mk x1.path x1.l)]:List GH)).length<=yN) (some (.nxt (s1++([(GH.mk x1.path x1.l)]:List GH))))):Option (Out _ (List GH))))
theorem roT_eq (t0:List GA):vQ t0=((vq t0).bind λc=>(if (!c)=true then some ([]:List GH) else ((ref07Rows t0 ([]:List zd)).bind λv3=>(lp (zg roF v3 0 ([]:List GH)) λ(g:(List GH))=>some g)))):=rfl
theorem filt_all {α:Type} (L:List α):L.filter (λ_=>true)=L:=tm.2 λ_ _=>rfl
theorem r7F_is {a:List zd} {x:GA} {s:List GK} (j:a.length<=16777216) (h:wv n x.subs (a++[x.name])=some ((zj (a++[x.name]) x.subs).map vR)) (hs:s.length+(qs a x).length<=16777216) (i:Nat):r7F n a i x s=some (.nxt (s++(qs a x).map vR)):=by
 rw [xg] at hs ⊢;simp only [um,uA] at hs;unfold r7F;simp only [uU];rw [zn (yn (by simp;omega)),zn (yn (by simp;omega))];rw [loop_keep (λ_:GE=>true) (λl=>(⟨a++[x.name],l⟩:GK)) x.leaves 0 s (yn (by omega)) (λi y g _ c=>by rw [zn (by simpa using c),uF rfl]),yp];rw [filt_all];rw [h,ua,zn (yn (by simp;omega))];simp [vR,sx]
theorem rows7_is:∀(n:Nat) (t:List GA) (a:List zd),GA.deps t < n->Small t->a.length+GA.deps t<=16777216->wv n t a=some ((zj a t).map vR)
 | 0,_,_,h,_,_=>by omega
 | n+1,t,a,h,hs,ha=>by
  rw [rows7_eq];have key:∀(u:List GA) (i:Nat) (s:List GK),(∀x ∈ u,x ∈ t)->s.length+(zj a u).length<=16777216->zg (r7F n a) u i s=some (.inr (s++(zj a u).map vR)):=by
   intro u
   induction u with
   | nil=>intro i s _ _;simp [zg,zj]
   | cons x r ih =>
    intro i s j c;have e:zj a (x::r)=qs a x++zj a r:=by rw [yv,tG,<- yv]
    rw [e] at c ⊢;simp only [um] at c;have g:=j x (by simp);have w:x.dep<=GA.deps t:=ql g;have v:=xM x;have p:=rows7_is n x.subs (a++[x.name]) (by omega) (hs.subs g) (by simp;omega);have m:=r7F_is (s:=s) (by omega) p (by omega) i;simp only [zg,m];rw [ih (i+1) (s++(qs a x).map vR) (λy o=>j y (by simp [o])) (by simp;omega)];simp
  rw [key t 0 [] (λx h=>h) (by simpa using uE (rows_len _ t a (uh _)) hs.2),yp,uU]
theorem refRows_is {t:List GA} (h:Small t):vQ t=some (if treeB 0 t=true then zj [] t else []):=by
 rw [roT_eq,wr h,ua];cases treeB 0 t with
 | false=>rfl
 | true =>
  have g:ref07Rows t []=some ((zj [] t).map vR):=qU (GA.deps t+1) λn o=>rows7_is n t [] (by omega) h (by simpa using h.dep);have m:(zj [] t).length<=16777216:=uE (rows_len _ t [] (uh _)) h.2;rw [th (by decide),g,ua,loop_keep (λ_:GK=>true) (λx=>(⟨x.path,x.l⟩:GH)) _ 0 [] (yn (by simp;omega)) (λi y j _ c=>by unfold roF;rw [zn (by simpa using c),uF rfl]),yp];have e:(((zj [] t).map vR).filter λ_=>true).map (λx=>(⟨x.path,x.l⟩:GH))=zj [] t:=by
   rw [filt_all,rh];exact List.map_id' _
  rw [e];rfl

end Go.Vv
