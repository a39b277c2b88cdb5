/- Plain laws, as far as they are leaned on. -/
import Derived.Test.YtgaelgcadcmfnaaGreatDoorD
import Derived.Test.YtgaelgcadcmfnaaGreatDoorVvMr
set_option linter.all false
namespace Go.Vv
open Go
variable {b:UInt8} {σ:Type} {L:List GF} {q:GE->Bool} {l:GE} {n d:Nat} {a:List UInt8} {ls L0:List GE} {r:GH} {del:GE->Option Bool} {k:Int} {there:Bool}
def alnum (b:UInt8):Bool:=(decide (97<=b.toNat)&&decide (b.toNat<=122)) || (decide (65<=b.toNat)&&decide (b.toNat<=90)) || (decide (48<=b.toNat)&&decide (b.toNat<=57))
def other (r:Int):Bool:=!((decide (97<=r)&&decide (r<=122)) || (decide (65<=r)&&decide (r<=90)) || (decide (48<=r)&&decide (r<=57)))
def runeIdx (q:Int->Bool) (s:List UInt8) (i:Nat):Int :=
 if h:i < s.length then (if q (dec s i).1 then i else if (dec s i).2=0 then -1 else runeIdx q s (i+(dec s i).2)) else -1
termination_by s.length - i
decreasing_by omega
theorem dec_width (s:List UInt8) (i:Nat) (h:i < s.length):1<=(dec s i).2:=by
 have hs:i < (⟨s.toArray⟩:ByteArray).size:=by simpa [ByteArray.size] using h
 by_cases ha:((⟨s.toArray⟩:ByteArray)[i]'hs).toNat < 128
 ·unfold dec;rw [decode_ascii _ i hs ha];exact uh _
 ·exact (decode_high _ i hs (by omega)).2
theorem dec_low {s:List UInt8} {i:Nat} (c:s[i]?=some b) (h:b.toNat < 128):dec s i=(b.toNat,1):=by
 have f:i < s.length:=(uc.1 c).1;have hs:i < (⟨s.toArray⟩:ByteArray).size:=by simpa [ByteArray.size] using f
 have e:((⟨s.toArray⟩:ByteArray)[i]'hs)=b:=by
  have g:((⟨s.toArray⟩:ByteArray)[i]'hs)=s[i]:=rfl;rw [g];rw [uj f] at c;injection c
 unfold dec;rw [decode_ascii _ i hs (by rw [e];exact h),e]
theorem dec_hi {s:List UInt8} {i:Nat} (c:s[i]?=some b) (h:128<=b.toNat):128<=(dec s i).1:=by
 have f:i < s.length:=(uc.1 c).1;have hs:i < (⟨s.toArray⟩:ByteArray).size:=by simpa [ByteArray.size] using f
 have e:((⟨s.toArray⟩:ByteArray)[i]'hs)=b:=by
  have g:((⟨s.toArray⟩:ByteArray)[i]'hs)=s[i]:=rfl;rw [g];rw [uj f] at c;injection c
 exact (decode_high _ i hs (by rw [e];exact h)).1
theorem other_alnum:other (b.toNat:Int)=!alnum b:=by
 unfold other alnum;congr 1;rw [uz];simp;omega
theorem rune_all {s:List UInt8} (h:s.all alnum=true):∀(n i:Nat),s.length - i=n->runeIdx other s i=-1
 | n,i,hn=>by
  rw [runeIdx.eq_def];by_cases hi:i < s.length
  ·rw [rS hi];have f:s[i]?=some s[i]:=uj hi;have e:alnum s[i]=true:=by rw [uu] at h;exact h _ (rJ hi)
   have c:s[i].toNat < 128:=by
    unfold alnum at e;simp only [uY,uf,ui] at e;omega
   rw [dec_low f c];simp only [other_alnum,e,tv,uo,uH,rO];exact rune_all h (s.length - (i+1)) (i+1) rfl
  ·rw [dif_neg hi]
 termination_by n=>n
 decreasing_by omega
theorem rune_some {s:List UInt8} {k:Nat} {b:UInt8} (c:s[k]?=some b) (g:alnum b=false):∀(n i:Nat),k - i=n->i<=k->0<=runeIdx other s i
 | n,i,hn,hik=>by
  have j:k < s.length:=(uc.1 c).1;have hi:i < s.length:=by omega
  rw [runeIdx.eq_def,rS hi];by_cases ho:other ((dec s i).1:Nat)=true
  ·rw [uq ho];omega
  ·rw [uD ho];have f:s[i]?=some s[i]:=uj hi;have e:s[i].toNat < 128:=by
    refine Decidable.byContradiction λhh=>ho ?_;have:=dec_hi f (by omega);unfold other;simp;omega
   rw [dec_low f e] at ho ⊢;rw [other_alnum] at ho;have h:i ≠ k:=by
    rintro rfl
    rw [f] at c;injection c with c;subst c;rw [g] at ho;exact ho rfl
   simp only [rO,uH];exact rune_some c g (k - (i+1)) (i+1) rfl (by omega)
 termination_by n=>n
 decreasing_by omega

def nameB (s:zc):Bool:=decide (1<=s.length)&&decide (s.length<=12)&&s.all alnum
def xu (p:List zc):Bool:=decide (1<=p.length)&&decide (p.length<=3)&&p.all nameB
theorem bnd1 (n:Nat):decide ((n:Int) >= 1)=decide (1<=n):=su.2 (by omega)
theorem bnd12 (n:Nat):decide ((n:Int)<=12)=decide (n<=12):=su.2 (by omega)
theorem bnd3 (n:Nat):decide ((n:Int)<=3)=decide (n<=3):=su.2 (by omega)
theorem ref04IsName_is (s:zc):vH s=some (nameB s):=by
 unfold vH nameB;rw [loopL_all alnum false]
 ·split
  ·rename_i h;simp only [uY,ui] at h;congr 1;rw [eq_comm,sS,sS];left;rcases h with h | h
   ·exact .inl (uS (by omega))
   ·exact .inr (uS (by omega))
  ·rename_i h;simp only [uY,ui] at h;have f:1<=s.length:=by omega
   have c:s.length<=12:=by omega
   cases ha:s.all alnum <;> simp [f,c]
 ·intro i x _;unfold alnum;have e:(((decide ((x.toNat:Int) >= 97))&&(decide ((x.toNat:Int)<=122)) || (decide ((x.toNat:Int) >= 65))&&(decide ((x.toNat:Int)<=90))) || (decide ((x.toNat:Int) >= 48))&&(decide ((x.toNat:Int)<=57))) =
    (decide (97<=x.toNat)&&decide (x.toNat<=122) || decide (65<=x.toNat)&&decide (x.toNat<=90) || decide (48<=x.toNat)&&decide (x.toNat<=57)):=by
   rw [uz];simp;omega
  rw [e];generalize (decide (97<=x.toNat)&&decide (x.toNat<=122) || decide (65<=x.toNat)&&decide (x.toNat<=90) || decide (48<=x.toNat)&&decide (x.toNat<=57))=b;cases b <;> rfl
theorem rune_loop (q:Int->Bool) (s:zc) {f:Nat->Option (Out Int Nat)} (c:∀i,f i=if i < s.length then (if q (dec s i).1=true then some (.ret (i:Int)) else some (.nxt (i+(dec s i).2))) else some (.brk i)) :
  ∀(k i:Nat),s.length - i=k->lp (yA f i) (λ_=>some (-1:Int))=some (runeIdx q s i)
 | k,i,hk=>by
  rw [wK,runeIdx.eq_def,c];by_cases h:i < s.length
  ·have e:=dec_width s i h;rw [uq h,rS h];by_cases hq:q (dec s i).1=true
   ·simp [hq]
   ·have h0:¬ (dec s i).2=0:=by omega
    simp only [uD hq,uD h0];exact rune_loop q s c (s.length - (i+(dec s i).2)) _ rfl
  ·rw [uD h,dif_neg h];rfl
 termination_by k=>k
 decreasing_by omega
theorem stringsContains_other (s:zc):xq s (λx=>qp x)=some (!s.all alnum):=by
 have e:(λx=>qp x)=λx=>some (other x):=by
  funext x;unfold qp other;congr 1;rw [uz];simp
 unfold xq wT wC;rw [e,rune_loop other s (λi=>by simp) _ 0 rfl];simp only [ua];congr 1;cases h:s.all alnum with
 | true=>rw [rune_all h _ 0 rfl];rfl
 | false =>
  rw [List.all_eq_false] at h;obtain ⟨b,f,g⟩:=h;obtain ⟨k,c,rfl⟩:=List.getElem_of_mem f;have:=rune_some (uj c) (by simpa using g) _ 0 rfl (tQ _);simp [this]
theorem opIsName_is (s:zc):opIsName s=some (nameB s):=by
 unfold opIsName nameB;rw [stringsContains_other,bnd1,bnd12];cases h1:decide (1<=s.length) <;> cases h2:decide (s.length<=12) <;> simp
theorem contains_is {f:zc->Option Bool} {q:zc->Bool} (p:List zc) (c:∀x ∈ p,f x=some (q x)):yl p f=some (p.any q):=by
 unfold yl xJ;rw [first_loop p c];simp only [ua,firstI_any]
theorem opMayPath_is (p:List zc):vJ p=some (xu p):=by
 unfold vJ xu;rw [contains_is (q:=λs=>!nameB s) p (λx _=>by unfold opMayPathC1;rw [opIsName_is];rfl),bnd1,bnd3];have e:p.any (λs=>!nameB s)=!p.all nameB:=by rw [uz];simp
 rw [e];cases h1:decide (1<=p.length) <;> cases h2:decide (p.length<=3) <;> simp
def actorB (a:GI):Bool:=decide (a.rep < 16)&&decide (a.inc >= 1)&&decide (a.inc<=4)
def xS (d:GC):Bool:=actorB d.actor&&decide (d.seq >= 1)&&decide (d.seq<=1048576)
theorem dotMay_is (d:GC):dotMay d=some (xS d):=rfl
theorem ref03MayActor_is (a:GI):vh a=some (actorB a):=by
 unfold vh actorB;have:decide (a.rep<=15)=decide (a.rep < 16):=su.2 (by omega);rw [this]
theorem ref03May_is (d:GC):ref03May d=some (xS d):=by unfold ref03May;rw [ref03MayActor_is];rfl
def vY (a b:GC):Bool:=if a.actor.rep ≠ b.actor.rep then decide (a.actor.rep < b.actor.rep) else if a.actor.inc ≠ b.actor.inc then decide (a.actor.inc < b.actor.inc) else decide (a.seq < b.seq)
theorem ref03Less_is (a b:GC):ref03Less a b=some (vY a b):=by
 unfold ref03Less vY;by_cases h1:a.actor.rep=b.actor.rep <;> by_cases h2:a.actor.inc=b.actor.inc <;> simp [h1,h2]
def cmpI (a b:Int):Int:=if a < b then -1 else if b < a then 1 else 0
theorem cmpU8is (a b:Int):yT a b=some (cmpI a b):=by
 unfold yT wQ cmpI;simp only [rG,ua,uo,uH,ui,gt_iff_lt];split <;> (try split) <;> rfl
theorem cmpU32is (a b:Int):x8 a b=some (cmpI a b):=by
 unfold x8 wy cmpI;simp only [rG,ua,uo,uH,ui,gt_iff_lt];split <;> (try split) <;> rfl
theorem cmpU64is (a b:Int):xD a b=some (cmpI a b):=by
 unfold xD wx cmpI;simp only [rG,ua,uo,uH,ui,gt_iff_lt];split <;> (try split) <;> rfl
def or2 (a b:Int):Int:=if a ≠ 0 then a else b
theorem cmpOr2_is (a b:Int):vZ [a,b]=some (or2 a b):=by
 unfold vZ or2;by_cases h1:a=0 <;> by_cases h2:b=0 <;> simp [zo,h1,h2]
def actorCmp (a b:GI):Int:=or2 (cmpI a.rep b.rep) (cmpI a.inc b.inc)
def dotCmp (a b:GC):Int:=or2 (actorCmp a.actor b.actor) (cmpI a.seq b.seq)
theorem dotXcompare_is (a b:GI):q9 a b=some (actorCmp a b):=by
 unfold q9;rw [cmpU8is,cmpU32is];simp only [ua];rw [cmpOr2_is];rfl
theorem dotCompare_is (a b:GC):qz a b=some (dotCmp a b):=by
 unfold qz;rw [dotXcompare_is,cmpU64is];simp only [ua];rw [cmpOr2_is];rfl
theorem dotCmp_lt (a b:GC):decide (dotCmp a b >= 0)=!vY a b:=by
 unfold dotCmp actorCmp vY cmpI or2
 grind

def rising:List GC->Bool
 | a::b::r=>vY a b&&rising (b::r)
 | _=>true
def x9 (ds:List GC) (i:Nat) (x:GC):Bool:=decide (i=0) || vY (ds.getD (i - 1) default) x
theorem rising_loop (ds:List GC) {g:Nat->GC->Unit->Option (Out Bool Unit)}
  (o:∀i x,ds[i]?=some x->g i x ()=if (xS x&&x9 ds i x)=true then some (.nxt ()) else some (.ret false)) :
  lp (zo g ds 0 ()) (λ_=>some true)=some (ds.all xS&&rising ds):=by
 have key:∀(L pre:List GC),ds=pre++L->lp (zo g L pre.length ()) (λ_=>some true)=some (L.all xS&&rising (match pre.getLast? with | some y=>y::L | none=>L)):=by
  intro L
  induction L with
  | nil=>intro pre h;cases hp:pre.getLast? <;> simp [zo,rising]
  | cons x t ih =>
   intro pre h;have hx:ds[pre.length]?=some x:=by rw [h];simp
   have c:=ih (pre++[x]) (by rw [h];simp);simp only [ue,ud,ug,uT,List.getLast?_append,pm,rF] at c;simp only [zo,o _ _ hx];cases hp:pre.getLast? with
   | none =>
    have e:pre=[]:=r9.1 hp;subst e;simp only [ug,uT] at c ⊢;cases hd:xS x <;> simp [x9,hd,c]
   | some y =>
    have f:pre ≠ []:=by rintro rfl;simp at hp
    have h0:0 < pre.length:=sI.2 f;have j:ds.getD (pre.length - 1) default=y:=by
     rw [uF,h,up (by omega)];rw [rd] at hp;rw [hp];rfl
    have m:x9 ds pre.length x=vY y x:=by
     unfold x9;rw [j];have:decide (pre.length=0)=false:=uS (by omega);rw [this];rfl
    rw [m];cases hd:xS x <;> cases hlt:vY y x <;> simp [hd,hlt,c,rising]
 have:=key ds [] rfl;simpa using this
theorem same_loop {α:Type} [DecidableEq α] (M:List α) {eq:α->α->Bool} (g:∀a b,eq a b=decide (a=b)) {f:Nat->α->Unit->Option (Out Bool Unit)} :
  ∀(L:List α) (i:Nat),L.length+i=M.length->(∀j x,L[j]?=some x->f (i+j) x ()=(xQ M ((i+j:Nat):Int)).bind λy=>if (!eq x y)=true then some (.ret false) else some (.nxt ())) ->
  zo f L i ()=if L=M.drop i then some (.inr ()) else some (.inl false)
 | [],i,hl,_=>by
  rw [tr (by simp at hl;omega)];rfl
 | x::t,i,hl,h=>by
  simp only [ud] at hl;have hi:i < M.length:=by omega
  have h0:=h 0 x rfl;simp only [tC] at h0;rw [qv hi] at h0;have o:=same_loop M g (f:=f) t (i+1) (by omega) (λj y m=>by have:=h (j+1) y m;rw [show i+1+j=i+(j+1) by omega];exact this);have e:M.drop i=M[i]::M.drop (i+1):=(sN hi).symm;simp only [zo,h0,ua,g,e];by_cases hx:x=M[i]
  ·simp only [hx,rL,tv,uo,uH,o,rh,px]
  ·have c:¬ (x::t=M[i]::M.drop (i+1)):=λhh=>hx (List.cons.inj hh).1;simp only [uS hx,tU,ur,uD c]
theorem dotEq (a b:GC):(a.actor.rep==b.actor.rep&&(a.actor.inc==b.actor.inc&&(a.seq==b.seq&&true)))=decide (a=b):=by
 rcases a with ⟨⟨e,a2⟩,a3⟩;rcases b with ⟨⟨c,f⟩,g⟩
 rw [uz];simp [t8]
theorem slicesEqualDot_is (L M:List GC):wF L M=some (decide (L=M)):=by
 unfold wF;by_cases hl:L.length=M.length
 ·have e:((L.length:Int) != (M.length:Int))=false:=by simp;omega
  rw [e,same_loop M dotEq L 0 (by omega) (λj x c=>by simp)];by_cases h:L=M <;> simp [h]
 ·have e:((L.length:Int) != (M.length:Int))=true:=by simp;omega
  rw [e,uS (λh=>hl (by rw [h]))];rfl
section
variable {α ρ:Type}
def allI (g:Nat->α->Bool) (L:List α):Bool:=L.zipIdx.all λp=>g p.2 p.1
theorem allI_iff {g:Nat->α->Bool} {L:List α}:allI g L=true ↔ ∀i x,L[i]?=some x->g i x=true:=by
 unfold allI;rw [uu];constructor
 ·intro h i x hx;exact h (x,i) (rP.2 hx)
 ·rintro h ⟨x,i⟩ hx
  exact h i x (rP.1 hx)
theorem loopL_allI (g:Nat->α->Bool) {r:ρ} {f:Nat->α->Unit->Option (Out ρ Unit)}:∀(L:List α) (k:Nat),(∀i x,L[i]?=some x->f (k+i) x ()=if g (k+i) x=true then some (.nxt ()) else some (.ret r)) ->
  zo f L k ()=if ((L.zipIdx k).all λp=>g p.2 p.1)=true then some (.inr ()) else some (.inl r)
 | [],_,_=>rfl
 | x::t,k,h=>by
  have h0:=h 0 x rfl;simp only [tC] at h0;have c:=loopL_allI g (f:=f) (r:=r) t (k+1) (λi y e=>by have:=h (i+1) y (by simpa using e);rw [show k+1+i=k+(i+1) by omega];exact this);simp only [zo,h0,pi,uX];by_cases hg:g k x=true
  ·simp only [hg,ur,c,u9]
  ·simp only [hg,uo,uH,rE]
theorem vT (g:Nat->α->Bool) {r:σ} {L:List α} {f:Nat->α->Unit->Option (Out σ Unit)} {rest:Unit->Option σ} (c:∀i x,L[i]?=some x->f i x ()=if g i x=true then some (.nxt ()) else some (.ret r)) :
  lp (zo f L 0 ()) rest=if allI g L=true then rest () else some r:=by
 rw [loopL_allI g L 0 (λi x hx=>by simpa using c i x hx)];unfold allI;split <;> rfl
theorem lp_all0 (g:α->Bool) {r:σ} {L:List α} {f:Nat->α->Unit->Option (Out σ Unit)} {rest:Unit->Option σ} (c:∀i x,L[i]?=some x->f i x ()=if g x=true then some (.nxt ()) else some (.ret r)) :
  lp (zo f L 0 ()) rest=if L.all g=true then rest () else some r:=by
 rw [vT (λ_=>g) c];have:allI (λ_=>g) L=L.all g:=by
  rw [uz,allI_iff,uu];exact ⟨λh x hx=>by obtain ⟨i,hi⟩:=tj.1 hx;exact h i x hi,λh i x hx=>h x (uC hx)⟩
 rw [this]
end
theorem vC {j:Nat} (c:j+1<=maxLen):IntKind.wrap .i64 (((j+1:Nat):Int) - 1)=(j:Int):=by
 simp only [maxLen] at c;rw [wz (by omega)];omega
theorem wrap_add1 {j:Nat} (c:j+1<=maxLen):IntKind.wrap .i64 ((j:Int)+1)=((j+1:Nat):Int):=by
 simp only [maxLen] at c;rw [wz (by omega)];omega
theorem qP (j:Nat):decide (((j+1:Nat):Int) > 0)=true:=tp (by omega)
def qM (n:Int):Bool:=decide (n >= 1)&&decide (n<=1099511627776)
def aheadI (a b:GF):Bool:=if a.time ≠ b.time then decide (a.time < b.time) else vY a.dot b.dot
theorem leafXisTime_is (n:Int):qU n=some (qM n):=rfl
theorem leafXisText_is (s:zc):vK s=some (decide (s.length<=40)):=by unfold vK;rw [su.2 (show ((s.length:Int)<=40) ↔ s.length<=40 by omega)]
theorem dotCmp_neg (a b:GC):decide (dotCmp a b < 0)=vY a b:=by
 have h:=dotCmp_lt a b;have:decide (dotCmp a b < 0)=!decide (dotCmp a b >= 0):=by rw [uz];simp
 rw [this,h,Bool.not_not]
theorem leafAhead_is (a:Int) (d:GC) (b:Int) (o:GC):leafAhead a d b o=some (if a ≠ b then decide (a < b) else vY d o):=by
 unfold leafAhead leafXcompare;rw [cmpU64is,dotCompare_is];simp only [ua,cmpOr2_is];congr 1;by_cases h:a=b
 ·subst h;have:cmpI a a=0:=by unfold cmpI;simp
  simp [or2,this,dotCmp_neg]
 ·have:cmpI a b ≠ 0:=by unfold cmpI;split <;> (try split) <;> omega
  simp only [or2,this,ne_eq,not_false_eq_true,ur,h];unfold cmpI;rw [uz];simp only [ui];split <;> (try split) <;> omega
theorem ref05Ahead_is (a:Int) (d:GC) (b:Int) (o:GC):ref05Ahead a d b o=some (if a ≠ b then decide (a < b) else vY d o):=by
 unfold ref05Ahead;by_cases h:a=b <;> simp [h,ref03Less_is]
def prevI {α:Type} [Inhabited α] (L:List α) (i:Nat):α:=L.getD (i - 1) default
def wM (timed:Bool) (x:GF):Bool:=xS x.dot&&decide (x.text.length<=40)&&(if timed then qM x.time else decide (x.time=0))
def riseB (L:List GF):Bool:=allI (λi x=>decide (i=0) || aheadI (prevI L i) x) L
def onceB (L:List GF):Bool:=decide ((L.map (·.dot)).Nodup)
theorem eqb_iff (a b:GC):GC.eqb a b=decide (a=b):=by unfold GC.eqb;exact dotEq a b
def vV (m:List (GC×Int)):List GC:=m.map (·.1)
theorem mput_keys (m:List (GC×Int)) (k:GC) (v:Int):vV (mput GC.eqb m k v)=if k ∈ vV m then vV m else vV m++[k]:=by
 induction m with
 | nil=>simp [mput,vV]
 | cons e r ih =>
  simp only [mput,eqb_iff];by_cases h:k=e.1
  ·simp [h,vV]
  ·simp only [uS h,uo,uH,vV,ut,uw] at ih ⊢;rw [ih];by_cases h2:k ∈ r.map (·.1) <;> simp [h,h2]
theorem twice_fold:∀(L:List GF) (m:List (GC×Int)),(vV m).Nodup ->
  (L.foldl (λs x=>mput GC.eqb s x.dot (IntKind.wrap .i64 ((xT GC.eqb 0 s x.dot)+1))) m).length<=m.length+L.length /\
  ((L.foldl (λs x=>mput GC.eqb s x.dot (IntKind.wrap .i64 ((xT GC.eqb 0 s x.dot)+1))) m).length=m.length+L.length ↔ (vV m++L.map (·.dot)).Nodup)
 | [],m,h=>by simp [h]
 | x::t,m,h=>by
  simp only [tW];have c:=mput_keys m x.dot (IntKind.wrap .i64 ((xT GC.eqb 0 m x.dot)+1));generalize hm:mput GC.eqb m x.dot (IntKind.wrap .i64 ((xT GC.eqb 0 m x.dot)+1))=m' at c;have g:m'.length=(vV m').length:=by simp [vV]
  have v:m.length=(vV m).length:=by simp [vV]
  by_cases hx:x.dot ∈ vV m
  ·rw [uq hx] at c;have f:=twice_fold t m' (by rw [c];exact h);rw [c] at f g;refine ⟨by simp only [ud];omega,?_⟩;constructor
   ·intro p;simp only [ud] at p;omega
   ·intro o;rw [List.nodup_append] at o;exact absurd rfl (o.2.2 _ hx _ (by simp))
  ·rw [uD hx] at c;have i:(vV m++[x.dot]).Nodup:=by
    rw [List.nodup_append];refine ⟨h,by simp,λa u b j=>?_⟩;simp at j;subst j;rintro rfl;exact hx u
   have f:=twice_fold t m' (by rw [c];exact i);rw [c] at f g;simp only [ue,ud,ug] at g;refine ⟨by simp only [ud];omega,?_⟩;have e:vV m++[x.dot]++t.map (·.dot)=vV m++(x::t).map (·.dot):=by simp
   rw [<- e,<- f.2];simp only [ud];omega
theorem leafXtwice_is (L:List GF):leafXtwice L=some (!onceB L):=by
 unfold leafXtwice;rw [loopL_fold (λs x=>mput GC.eqb s x.dot (IntKind.wrap .i64 ((xT GC.eqb 0 s x.dot)+1))) L 0 [] (λ_ _ _ _=>rfl)];have h:=twice_fold L [] (by simp [vV]);simp only [ug,uT,vV,tG,uR] at h;simp only [wA,onceB];congr 1;generalize List.length (List.foldl _ _ _)=n at h ⊢;by_cases hn:(L.map (·.dot)).Nodup
 ·have:=h.2.2 hn;rw [tp hn,uS (by omega)];rfl
 ·have c:n ≠ L.length:=λe=>hn (h.2.1 e);rw [uS hn,tp (by omega)];rfl
theorem leafXitems_is (g:L.length<=maxLen) (c:Bool):qu L c=some (L.all (wM c)&&riseB L&&onceB L):=by
 unfold qu;rw [vT (r:=false) (λi x=>wM c x&&(decide (i=0) || aheadI (prevI L i) x))]
 ·rw [leafXtwice_is];have e:allI (λi x=>wM c x&&(decide (i=0) || aheadI (prevI L i) x)) L=(L.all (wM c)&&riseB L):=by
   rw [uz,uf,riseB,allI_iff,allI_iff,uu];constructor
   ·intro h;exact ⟨λx hx=>by obtain ⟨i,hi⟩:=tj.1 hx;have:=h i x hi;simp only [uf] at this;exact this.1,λi x hx=>by have:=h i x hx;simp only [uf] at this;exact this.2⟩
   ·rintro ⟨p,m⟩ i x hx
    simp only [uf];exact ⟨p x (uC hx),m i x hx⟩
  rw [e];simp only [ua,Bool.not_not];cases L.all (wM c)&&riseB L <;> simp
 ·intro i x hx;have hi:i < L.length:=(uc.1 hx).1;simp only [dotMay_is,leafXisText_is,leafXisTime_is,ua,leafAhead_is];have s:wM c x=(xS x.dot&&decide (x.text.length<=40)&&(c==qM x.time)&&(c || decide (x.time=0))):=by
   unfold wM;cases c
   ·by_cases h0:x.time=0
    ·simp [h0,show qM 0=false from rfl]
    ·simp [h0]
   ·simp
  rw [s];cases hd:xS x.dot
  ·simp
  cases ht:decide (x.text.length<=40)
  ·simp
  by_cases htt:c=qM x.time
  ·have t:(x.time != 0)=!decide (x.time=0):=by rw [uz];simp
   have f:(c==qM x.time)=true:=by simpa using htt
   rw [t,f];cases hzz:(c || decide (x.time=0))
   ·have:(!c&&!decide (x.time=0))=true:=by rw [<- Bool.not_or,hzz];rfl
    simp [this]
   have:(!c&&!decide (x.time=0))=false:=by rw [<- Bool.not_or,hzz];rfl
   rw [this];rcases i with _ | j
   ·simp [zU,htt]
   ·rw [vC (by simp only [maxLen] at g ⊢;omega),qP];have o:(j:Int) < (L.length:Int):=by omega
    simp [zU,o,prevI,aheadI,htt];by_cases hq:(L[j]?.getD default).time=x.time
    ·cases hdl:vY (L[j]?.getD default).dot x.dot <;> simp [hq,hdl]
    ·by_cases hlt:(L[j]?.getD default).time < x.time
     ·simp [hq,hlt,Int.not_le.2 hlt]
     ·simp [hq,hlt,Int.not_lt.1 hlt]
  ·have f:(c==qM x.time)=false:=by simpa using htt
   rw [f];simp [htt]

theorem itemEq (a b:GF):(a.time==b.time&&(a.dot.actor.rep==b.dot.actor.rep&&(a.dot.actor.inc==b.dot.actor.inc&&(a.dot.seq==b.dot.seq&&(a.text==b.text&&true)))))=decide (a=b):=by
 rcases a with ⟨a0,⟨⟨e,a2⟩,a3⟩,a4⟩;rcases b with ⟨b0,⟨⟨c,f⟩,h⟩,g⟩
 rw [uz];simp [t8]
theorem slicesEqualItem_is (L M:List GF):wq L M=some (decide (L=M)):=by
 unfold wq;by_cases hl:L.length=M.length
 ·have e:((L.length:Int) != (M.length:Int))=false:=by simp;omega
  rw [e,same_loop M itemEq L 0 (by omega) (λj x c=>by simp)];by_cases h:L=M <;> simp [h]
 ·have e:((L.length:Int) != (M.length:Int))=true:=by simp;omega
  rw [e,uS (λh=>hl (by rw [h]))];rfl
theorem leafSame_is (a b:GE):x5 a b=some (decide (a=b)):=by
 unfold x5;simp only [slicesEqualItem_is,slicesEqualDot_is,dotEq];rcases a with ⟨a0,f,a2,a3,a4,a5,m⟩;rcases b with ⟨b0,c,h,j,i,e,g⟩
 simp only [GE.mk.injEq];by_cases h0:a0=b0 <;> by_cases h1:f=c <;> by_cases h2:a2=h <;> by_cases h3:a3=j <;> by_cases h4:a4=i <;> by_cases h5:a5=e <;> by_cases h6:m=g <;> simp [h0,h1,h2,h3,h4,h5,h6]
def dot0:GC:=⟨⟨0,0⟩,0⟩
def zeroB (l:GE):Bool:=decide (l.time=0)&&decide (l.dot=dot0)&&decide (l.text=[])
def tombsB (l:GE):Bool:=l.tombs.all xS&&rising l.tombs&&l.tombs.all (λd=>!l.items.any λx=>decide (x.dot=d))
def leafB (l:GE):Bool :=
 if l.typ=1 then zeroB l&&decide (l.items=[])&&decide (l.tombs=[])
 else if l.typ=2 then decide (l.n=0)&&decide (l.items=[])&&decide (l.tombs=[])&&(if l.time=0 then decide (l.dot=dot0)&&decide (l.text=[]) else qM l.time&&xS l.dot&&decide (l.text.length<=40))
 else if l.typ=3 then decide (l.n=0)&&zeroB l&&(l.items.all (wM false)&&riseB l.items&&onceB l.items)&&tombsB l
 else if l.typ=4 then decide (l.n=0)&&zeroB l&&decide (l.tombs=[])&&(l.items.all (wM true)&&riseB l.items&&onceB l.items)
 else false
theorem containsItem_is {f:GF->Option Bool} {q:GF->Bool} (p:List GF) (c:∀x ∈ p,f x=some (q x)):yO p f=some (p.any q):=by
 unfold yO xW;rw [first_loop p c,ua,firstI_any]
theorem leafXhas_is (L:List GF) (d:GC):leafXhas L d=some (L.any λx=>decide (x.dot=d)):=by
 unfold leafXhas;rw [containsItem_is (q:=λx=>decide (x.dot=d)) L (λx _=>by unfold leafXhasC1;rw [dotEq]),ua]
theorem rising_allI (ds:List GC):rising ds=allI (λi x=>x9 ds i x) ds:=by
 have h:=rising_loop ds (g:=λi x _=>if (xS x&&x9 ds i x)=true then some (.nxt ()) else some (.ret false)) (λ_ _ _=>rfl);have key:∀(L pre:List GC),ds=pre++L->rising (match pre.getLast? with | some y=>y::L | none=>L)=(L.zipIdx pre.length).all λp=>x9 ds p.2 p.1:=by
  intro L
  induction L with
  | nil=>intro pre _;cases pre.getLast? <;> simp [rising]
  | cons x t ih =>
   intro pre hd;have c:=ih (pre++[x]) (by rw [hd];simp);simp only [ue,ud,ug,uT,List.getLast?_append,pm,rF] at c;simp only [pi,uX];cases hp:pre.getLast? with
   | none =>
    have e:pre=[]:=r9.1 hp;subst e;simp only [ug,uT] at c ⊢;rw [c];simp [x9]
   | some y =>
    have f:pre ≠ []:=by rintro rfl;simp at hp
    have h0:0 < pre.length:=sI.2 f;have j:ds.getD (pre.length - 1) default=y:=by
     rw [uF,hd,up (by omega)];rw [rd] at hp;rw [hp];rfl
    have m:x9 ds pre.length x=vY y x:=by
     unfold x9;rw [j,uS (by omega)];rfl
    rw [m,<- c];simp [rising]
 simpa [allI] using key ds [] rfl
theorem leafXtombs_is (f:l.tombs.length<=maxLen):leafXtombs l=some (tombsB l):=by
 unfold leafXtombs;rw [vT (r:=false) (λi x=>xS x&&x9 l.tombs i x&&!(l.items.any λy=>decide (y.dot=x)))]
 ·have e:allI (λi x=>xS x&&x9 l.tombs i x&&!(l.items.any λy=>decide (y.dot=x))) l.tombs=tombsB l:=by
   unfold tombsB;rw [uz,rising_allI,uf,uf,allI_iff,allI_iff,uu,uu];constructor
   ·intro h;refine ⟨⟨λx hx=>?_,λi x hx=>?_⟩,λx hx=>?_⟩
    ·obtain ⟨i,hi⟩:=tj.1 hx;have:=h i x hi;simp only [uf] at this;exact this.1.1
    ·have:=h i x hx;simp only [uf] at this;exact this.1.2
    ·obtain ⟨i,hi⟩:=tj.1 hx;have:=h i x hi;simp only [uf] at this;exact this.2
   ·rintro ⟨⟨o,g⟩,p⟩ i x hx
    have c:=uC hx;simp only [uf];exact ⟨⟨o x c,g i x hx⟩,p x c⟩
  rw [e];cases tombsB l <;> rfl
 ·intro i x hx;have hi:i < l.tombs.length:=(uc.1 hx).1;simp only [dotMay_is,ua,dotCompare_is,leafXhas_is];cases hd:xS x
  ·simp [zU]
  rcases i with _ | j
  ·cases hh:(l.items.any λy=>decide (y.dot=x)) <;> simp [zU,x9]
  ·rw [vC (by simp only [maxLen] at f ⊢;omega),qP];have s:(j:Int) < (l.tombs.length:Int):=by omega
   have m:x9 l.tombs (j+1) x=vY (l.tombs.getD j default) x:=by unfold x9;simp
   have e:=dotCmp_lt (l.tombs.getD j default) x;rw [zj (by intro _;omega),m,uN];generalize l.tombs.getD j default=y at e ⊢;simp only [tv,BEq.rfl,u9,ur,ua,e,tI];cases hlt:vY y x
   ·simp
   ·cases hh:(l.items.any λy=>decide (y.dot=x)) <;> simp
theorem leafMay_is (hi:l.items.length<=maxLen) (h:l.tombs.length<=maxLen):leafMay l=some (leafB l):=by
 unfold leafMay leafB;simp only [leafSame_is,leafXisTime_is,dotMay_is,leafXisText_is,leafXitems_is hi,leafXtombs_is h,dotEq,ua];rcases l with ⟨t,n,e,d,f,c,g⟩
 simp only [GE.mk.injEq,zeroB,sM,dot0];by_cases h1:t=1
 ·simp only [h1,ur];congr 1;rw [uz];simp [t8];intros;exact rY.symm
 by_cases h2:t=2
 ·subst h2;by_cases h0:e=0
  ·subst h0;by_cases hd:d=⟨⟨0,0⟩,0⟩
   ·by_cases hx:f=[]
    ·simp [hd,hx];rw [uz];simp [t8]
    ·simp [hd,hx]
   ·have p:((0:Int)==0&&!decide (d=⟨⟨0,0⟩,0⟩))=true:=by simp [hd]
    simp [hd];intro j;rcases d with ⟨⟨o,i⟩,m⟩
    simp_all
  ·cases htt:qM e <;> cases hdd:xS d <;> cases hxx:decide (f.length<=40) <;> simp_all [t8];rw [uz];simp [t8]
 by_cases h3:t=3
 ·subst h3;cases ha:(c.all (wM false)&&riseB c&&onceB c) <;> cases hb:tombsB ⟨3,n,e,d,f,c,g⟩ <;> simp [t8];rw [uz];simp [t8];intros;exact rY.symm
 by_cases h4:t=4
 ·subst h4;cases ha:(c.all (wM true)&&riseB c&&onceB c) <;> simp [t8];rw [uz];simp [t8];intros;exact rY.symm
 simp [h1,h2,h3,h4]

theorem ref05Item_is (L:List GF) (d:GC):ref05Item L d=some (qw (λx=>decide (x.dot=d)) L):=by
 unfold ref05Item;rw [loopL_first (λx:GF=>decide (x.dot=d)) (λi _=>(i:Int)) _ _ (λi x _=>by rw [dotEq])];unfold qw;cases h:L.findIdx? (λx=>decide (x.dot=d)) with
 | none=>simp
 | some j =>
  obtain ⟨c,_⟩:=sE.1 h;simp [uj c]
theorem ref05Tomb_is (L:List GC) (d:GC):ref05Tomb L d=some (L.any λx=>decide (x=d)):=by
 unfold ref05Tomb;rw [lp_all0 (r:=true) (λx:GC=>!decide (x=d)) (λi x _=>by rw [dotEq];cases decide (x=d) <;> rfl)];have e:L.any (λx=>decide (x=d))=!L.all (λx=>!decide (x=d)):=by rw [uz];simp
 rw [e];cases L.all (λx=>!decide (x=d)) <;> rfl
theorem first_nodup (L:List GF):(∀(i:Nat) (x:GF),L[i]?=some x->qw (λy:GF=>decide (y.dot=x.dot)) L=(i:Int)) ↔ (L.map (·.dot)).Nodup:=by
 constructor
 ·intro h;rw [rZ,tA];intro i j hi c o e;simp only [ux] at hi c;simp only [List.getElem_map] at e;have g:=h i _ (uj hi);have m:=h j _ (uj c);rw [e] at g;rw [g] at m;omega
 ·intro h i x hx;obtain ⟨hi,rfl⟩:=uc.1 hx;unfold qw;have:L.findIdx? (λy=>decide (y.dot=L[i].dot))=some i:=by
   rw [sE];refine ⟨hi,by simp,λj c=>?_⟩;have f:j < L.length:=by omega
   simp only [ui];intro e;rw [rZ,tA] at h;exact h j i (by simpa using f) (by simpa using hi) c (by simpa using e)
  rw [this]
def itemR (t:Int) (x:GF):Bool:=xS x.dot&&decide (x.text.length<=40)&&(decide (t ≠ 3) || decide (x.time=0))&&(decide (t ≠ 4) || qM x.time)
def tailB (l:GE):Bool:=l.items.all (itemR l.typ)&&onceB l.items&&l.items.all (λx=>!(l.tombs.any λy=>decide (y=x.dot)))&&riseB l.items&&(l.tombs.all xS&&rising l.tombs)
theorem items_allI (l:GE):allI (λi x=>itemR l.typ x&&(decide (qw (λy:GF=>decide (y.dot=x.dot)) l.items=(i:Int))&&(!(l.tombs.any λy=>decide (y=x.dot))&&(decide (i=0) || aheadI (prevI l.items i) x)))) l.items =
  (l.items.all (itemR l.typ)&&onceB l.items&&l.items.all (λx=>!(l.tombs.any λy=>decide (y=x.dot)))&&riseB l.items):=by
 rw [uz,allI_iff];simp only [uf,ui,onceB,riseB,allI_iff,uu,<- first_nodup];constructor
 ·intro h;refine ⟨⟨⟨λx hx=>?_,λi x hx=>(h i x hx).2.1⟩,λx hx=>?_⟩,λi x hx=>(h i x hx).2.2.2⟩
  ·obtain ⟨i,hi⟩:=tj.1 hx;exact (h i x hi).1
  ·obtain ⟨i,hi⟩:=tj.1 hx;exact (h i x hi).2.2.1
 ·rintro ⟨⟨⟨g,e⟩,j⟩,f⟩ i x hx
  have c:=uC hx;exact ⟨g x c,e i x hx,j x c,f i x hx⟩
theorem tombs_allI (ds:List GC):allI (λi x=>xS x&&x9 ds i x) ds=(ds.all xS&&rising ds):=by
 rw [uz,allI_iff,rising_allI];simp only [uf,allI_iff,uu];constructor
 ·intro h;exact ⟨λx hx=>by obtain ⟨i,hi⟩:=tj.1 hx;exact (h i x hi).1,λi x hx=>(h i x hx).2⟩
 ·rintro ⟨e,c⟩ i x hx
  exact ⟨e x (uC hx),c i x hx⟩
theorem ref05May_is (hi:l.items.length<=maxLen) (z:l.tombs.length<=maxLen) (h0:0<=l.time):ref05May l=some (leafB l):=by
 unfold ref05May;simp only [ref03May_is,ref05Item_is,ref05Tomb_is,ref05Ahead_is,ref03Less_is,ua,dotEq];generalize hT:lp (zo _ l.items 0 ()) _=T;have G:decide ((l.items.length:Int) > 0)=!decide (l.items=[]):=by cases l.items <;> simp
 have a2:decide ((l.tombs.length:Int) > 0)=!decide (l.tombs=[]):=by cases l.tombs <;> simp
 have o:T=some (tailB l):=by
  rw [<- hT,vT (r:=false) (λi x=>itemR l.typ x&&(decide (qw (λy:GF=>decide (y.dot=x.dot)) l.items=(i:Int))&&(!(l.tombs.any λy=>decide (y=x.dot))&&(decide (i=0) || aheadI (prevI l.items i) x))))]
  ·rw [vT (r:=false) (λi x=>xS x&&x9 l.tombs i x)]
   ·rw [items_allI,tombs_allI];unfold tailB;cases (l.items.all (itemR l.typ)&&onceB l.items&&l.items.all (λx=>!(l.tombs.any λy=>decide (y=x.dot)))&&riseB l.items) <;> cases (l.tombs.all xS&&rising l.tombs) <;> simp
   ·intro i x hx;have t:i < l.tombs.length:=(uc.1 hx).1;have m:l.tombs.getD i default=x:=by rw [uF,hx];rfl
    rcases i with _ | j
    ·cases hd:xS x <;> simp [zU,x9]
    ·rw [vC (by simp only [maxLen] at z ⊢;omega),qP,uN,uN,m];have v:x9 l.tombs (j+1) x=vY (l.tombs.getD j default) x:=by unfold x9;simp
     rw [zj (by intro _;omega),zj (by intro _;omega),v];generalize l.tombs.getD j default=y;cases hd:xS x <;> cases g:vY y x <;> simp
  ·intro i x hx;have t:i < l.items.length:=(uc.1 hx).1;have w:decide ((x.text.length:Int) > 40)=!decide (x.text.length<=40):=by rw [uz];simp;omega
   have D:(((l.typ==4)&&(decide (x.time < 1) || decide (x.time > 1099511627776))))=!(decide (l.typ ≠ 4) || qM x.time):=by
    rw [uz];simp [qM]
   have A:((l.typ==3)&&(x.time != 0))=!(decide (l.typ ≠ 3) || decide (x.time=0)):=by rw [uz];simp
   rw [w,D,A];have H:(((!xS x.dot || !decide (x.text.length<=40)) || !(decide (l.typ ≠ 3) || decide (x.time=0))) || !(decide (l.typ ≠ 4) || qM x.time))=!itemR l.typ x:=by unfold itemR;simp only [Bool.not_and]
   rw [H];have E:(qw (λy:GF=>decide (y.dot=x.dot)) l.items != (i:Int))=!decide (qw (λy:GF=>decide (y.dot=x.dot)) l.items=(i:Int)):=by rw [uz];simp
   cases hr:itemR l.typ x
   ·simp
   simp only [tv,BEq.rfl,ur,ua,tI];rw [E];cases hf:decide (qw (λy:GF=>decide (y.dot=x.dot)) l.items=(i:Int))
   ·simp
   cases htb:l.tombs.any λy=>decide (y=x.dot)
   ·rcases i with _ | j
    ·simp [zU]
    ·rw [vC (by simp only [maxLen] at hi ⊢;omega),qP,uN];rw [zj (by intro _;omega),zj (by intro _;omega)];have v:(if (l.items.getD j default).time ≠ x.time then decide ((l.items.getD j default).time < x.time) else vY (l.items.getD j default).dot x.dot)=aheadI (prevI l.items (j+1)) x:=rfl;rw [v];cases aheadI (prevI l.items (j+1)) x <;> simp
   ·simp
 subst o;clear hT;rw [G,a2];have B:(l.time != 0)=!decide (l.time=0):=by rw [uz];simp
 have z2:(l.time==0)=decide (l.time=0):=by rw [uz];simp
 have z3:(l.text==([]:zc))=decide (l.text=[]):=by rw [uz];simp
 have z4:decide (l.time > 1099511627776)=!decide (l.time<=1099511627776):=by rw [uz];simp
 have z5:decide ((l.text.length:Int) > 40)=!decide (l.text.length<=40):=by rw [uz];simp;omega
 have s:zeroB l=(decide (l.time=0)&&decide (l.dot=dot0)&&decide (l.text=[])):=rfl;have C:(l.dot.actor.rep==0&&(l.dot.actor.inc==0&&(l.dot.seq==0&&true)))=decide (l.dot=dot0):=dotEq l.dot dot0;rw [B,z2,z3,z4,z5,C];by_cases h1:l.typ=1
 ·have hi:decide (l.items=[])=true->tailB l=(l.tombs.all xS&&rising l.tombs):=by
   intro h;have:=u5 h;unfold tailB;rw [this];simp [onceB,riseB,allI]
  unfold leafB;simp only [h1,ur,s];cases hi2:decide (l.items=[])
  ·simp
  ·rw [hi hi2];cases ht2:decide (l.tombs=[])
   ·simp
   ·have:=u5 ht2;rw [this];cases decide (l.time=0) <;> cases decide (l.dot=dot0) <;> cases decide (l.text=[]) <;> simp [rising]
 by_cases h2:l.typ=2
 ·have hi:decide (l.items=[])=true->tailB l=(l.tombs.all xS&&rising l.tombs):=by
   intro h;have:=u5 h;unfold tailB;rw [this];simp [onceB,riseB,allI]
  unfold leafB;have f:qM l.time=(!decide (l.time=0)&&decide (l.time<=1099511627776)):=by
   unfold qM;rw [uz];simp;omega
  simp only [h2,ur,f];cases hn:decide (l.n=0)
  ·have:(l.n != 0)=true:=by simpa using hn
   simp [this]
  ·have c:l.n=0:=u5 hn;cases hi2:decide (l.items=[])
   ·simp [c]
   ·rw [hi hi2];cases ht2:decide (l.tombs=[])
    ·simp [c]
    ·have:=u5 ht2;rw [this];by_cases ht0:l.time=0
     ·cases hdd:decide (l.dot=dot0) <;> cases htx:decide (l.text=[]) <;> simp [c,ht0,rising]
     ·cases hm:decide (l.time<=1099511627776) <;> cases hdd:xS l.dot <;> cases htx:decide (l.text.length<=40) <;> simp [c,ht0,rising]
 by_cases h3:l.typ=3
 ·have u:(λx=>itemR 3 x)=wM false:=by
   funext x;unfold itemR wM;simp
  have p:tailB l=(l.items.all (wM false)&&riseB l.items&&onceB l.items&&tombsB l):=by
   unfold tailB tombsB;rw [h3,show itemR 3=wM false from u];have F:l.items.all (λx=>!(l.tombs.any λy=>decide (y=x.dot)))=l.tombs.all (λd=>!l.items.any λx=>decide (x.dot=d)):=by
    rw [uz];simp only [uu,sg,List.any_eq_false,ui];exact ⟨λh d hd x hx e=>h x hx d hd e.symm,λh x hx d hd e=>h d hd x hx e.symm⟩
   rw [F];cases l.items.all (wM false) <;> cases onceB l.items <;> cases riseB l.items <;> cases l.tombs.all xS <;> cases rising l.tombs <;> cases l.tombs.all (λd=>!l.items.any λx=>decide (x.dot=d)) <;> rfl
  unfold leafB;simp only [h3,p,s];cases hn:decide (l.n=0)
  ·have:(l.n != 0)=true:=by simpa using hn
   simp [this]
  ·have c:l.n=0:=u5 hn;cases decide (l.time=0) <;> cases decide (l.dot=dot0) <;> cases decide (l.text=[]) <;> simp [c]
 by_cases h4:l.typ=4
 ·have u:(λx=>itemR 4 x)=wM true:=by
   funext x;unfold itemR wM;simp
  have p:decide (l.tombs=[])=true->tailB l=(l.items.all (wM true)&&riseB l.items&&onceB l.items):=by
   intro h;have:=u5 h;unfold tailB;rw [h4,show itemR 4=wM true from u,this];cases l.items.all (wM true) <;> cases onceB l.items <;> cases riseB l.items <;> simp [rising]
  unfold leafB;simp only [h4,s];cases hn:decide (l.n=0)
  ·have:(l.n != 0)=true:=by simpa using hn
   simp [this]
  ·have c:l.n=0:=u5 hn;cases ht2:decide (l.tombs=[])
   ·simp [c]
   ·rw [p ht2];cases decide (l.time=0) <;> cases decide (l.dot=dot0) <;> cases decide (l.text=[]) <;> simp [c]
 have g:l.typ < 1 \/ 4 < l.typ:=by omega
 have:(decide (l.typ < 1) || decide (l.typ > 4))=true:=by simp;omega
 unfold leafB;rw [this,uD h1,uD h2,uD h3,uD h4];simp

mutual
def GA.dep:GA->Nat
 | ⟨_,_,sb⟩=>GA.deps sb+1
def GA.deps:List GA->Nat
 | []=>0
 | x::r=>max x.dep (GA.deps r)
end
theorem vp {x:GA}:∀{t:List GA},x ∈ t->x.dep<=GA.deps t
 | [],h=>by cases h
 | y::r,h=>by
  simp only [GA.deps];rcases uw.1 h with rfl | h
  ·omega
  ·have:=vp h;omega
theorem xd (x:GA):GA.deps x.subs+1=x.dep:=by cases x;simp [GA.dep]
def Small (t:List GA):Prop:=GA.wfs t/\GA.bks t<=16777216
theorem bk_pos (x:GA):1<=x.bk:=by cases x;simp only [GA.bk];omega
theorem len_bks:∀t:List GA,t.length<=GA.bks t
 | []=>by simp [GA.bks]
 | x::r=>by have:=len_bks r;have:=bk_pos x;simp only [GA.bks,ud];omega
theorem bk_mem {x:GA}:∀{t:List GA},x ∈ t->x.bk<=GA.bks t
 | [],h=>by cases h
 | y::r,h=>by
  simp only [GA.bks];rcases uw.1 h with rfl | h
  ·omega
  ·have:=bk_mem h;omega
theorem sum_len {α:Type} {f:α->Nat} (h:∀x,1<=f x):∀l:List α,l.length<=(l.map f).sum
 | []=>by simp
 | x::r=>by have:=sum_len h r;have:=h x;simp only [ud,ut,tg];omega
theorem sum_mem {α:Type} {f:α->Nat} {x:α}:∀{l:List α},x ∈ l->f x<=(l.map f).sum
 | [],h=>by cases h
 | y::r,h=>by
  simp only [ut,tg];rcases uw.1 h with rfl | h
  ·omega
  ·have:=sum_mem (f:=f) h;omega
theorem bk_node (x:GA):x.name.length+1+((x.leaves.map GE.bk).sum+1)+(GA.bks x.subs+1)<=x.bk:=by cases x;simp only [GA.bk];omega
theorem Small.subs {t:List GA} (h:Small t) {x:GA} (hx:x ∈ t):Small x.subs:=by
 refine ⟨?_,by have:=bk_mem hx;have:=bk_node x;have:=h.2;omega⟩;have:=(GA.wfs_iff t).1 h.1 x hx;cases x;simp only [GA.wf] at this;exact this.2.2
theorem Small.len {t:List GA} (h:Small t):t.length<=16777216:=uA (len_bks t) h.2
structure LeafOk (l:GE):Prop where
 items:l.items.length<=16777216
 tombs:l.tombs.length<=16777216
 time:0<=l.time
theorem Small.leaf {t:List GA} (h:Small t) {x:GA} (hx:x ∈ t) {l:GE} (c:l ∈ x.leaves):LeafOk l:=by
 have j:=bk_mem hx;have g:=bk_node x;have p:=h.2;have i:l.bk<=_:=sum_mem (f:=GE.bk) c;have o:(l.items.map GF.bk).sum+1+((l.tombs.map GC.bk).sum+1)<=l.bk:=by unfold GE.bk;omega
 have e:=sum_len (f:=GF.bk) (λx=>by unfold GF.bk;omega) l.items;have m:=sum_len (f:=GC.bk) (λx=>by unfold GC.bk;omega) l.tombs;refine ⟨by omega,by omega,?_⟩;have:=(GA.wfs_iff t).1 h.1 x hx;cases x;simp only [GA.wf] at this;have:=this.2.1.2 l c;unfold GE.wf at this;have:=this.2.2.1;unfold InK at this;simp [IntKind.min,IntKind.max,IntKind.signed,IntKind.bits] at this;omega
theorem Small.leaves {t:List GA} (h:Small t) {x:GA} (hx:x ∈ t):x.leaves.length<=16777216:=by
 have g:=bk_mem hx;have e:=bk_node x;have i:=h.2;have c:=sum_len (f:=GE.bk) (λx=>by unfold GE.bk;omega) x.leaves;omega
def upB (t:List GA):Bool:=allI (λi x=>decide (i=0) || Op.bytesLess (t.getD (i - 1) default).name x.name) t
def leavesB (ls:List GE):Bool:=allI (λi l=>leafB l&&(decide (i=0) || decide ((ls.getD (i - 1) default).typ < l.typ))) ls
mutual
def nodeB (d:Nat):GA->Bool
 | ⟨nm,ls,sb⟩=>nameB nm&&!(ls.isEmpty&&sb.isEmpty)&&((sb.isEmpty || decide (d+1 < 3))&&upB sb&&xz (d+1) sb)&&leavesB ls
def xz (d:Nat):List GA->Bool
 | []=>true
 | x::r=>nodeB d x&&xz d r
end
def treeB (d:Nat) (t:List GA):Bool:=(t.isEmpty || decide (d < 3))&&upB t&&xz d t
theorem yG (d:Nat):∀t,xz d t=t.all (nodeB d)
 | []=>rfl
 | x::r=>by simp only [xz,uX,yG d r]
theorem qS (d:Nat) (x:GA):nodeB d x=(nameB x.name&&!(x.leaves.isEmpty&&x.subs.isEmpty)&&treeB (d+1) x.subs&&leavesB x.leaves):=by cases x;rfl
theorem up_nodes (d:Nat) (t:List GA):allI (λi x=>nodeB d x&&(decide (i=0) || Op.bytesLess (t.getD (i - 1) default).name x.name)) t=(upB t&&xz d t):=by
 rw [uz,allI_iff,yG];simp only [uf,upB,allI_iff,uu];constructor
 ·intro h;exact ⟨λi x hx=>(h i x hx).2,λx hx=>by obtain ⟨i,hi⟩:=tj.1 hx;exact (h i x hi).1⟩
 ·rintro ⟨e,c⟩ i x hx
  exact ⟨c x (uC hx),e i x hx⟩
theorem lenE {α:Type} (l:List α):((l.length:Int)==0)=l.isEmpty:=by cases l <;> simp;omega
theorem treeXmayN_is:∀(n:Nat) (t:List GA) (d:Nat),GA.deps t < n->d<=3->Small t->vD n t (d:Int)=some (treeB d t)
 | 0,_,_,h,_,_=>by omega
 | n+1,t,d,h,hd,hs=>by
  unfold vD;by_cases hc:(decide ((t.length:Int) > 0)&&((d:Int)==3))=true
  ·rw [uq hc];simp only [uf,ui,sM] at hc;have:t.isEmpty=false:=by cases t <;> simp at hc ⊢
   have c:decide (d < 3)=false:=uS (by omega);simp [treeB,this,c]
  ·rw [uD hc];have u:(t.isEmpty || decide (d < 3))=true:=by
    simp only [uf,ui,sM] at hc;cases t with
    | nil=>rfl
    | cons x r=>simp at hc ⊢;omega
   have I:=hs.len;rw [vT (r:=false) (λi x=>nodeB d x&&(decide (i=0) || Op.bytesLess (t.getD (i - 1) default).name x.name)),up_nodes]
   ·unfold treeB;rw [u,u9];cases upB t&&xz d t <;> rfl
   ·intro i x hx;have hi:i < t.length:=(uc.1 hx).1;have m:=uC hx;have z:=vp m;have C:=xd x;have A:0 < t.length:=by omega
    have c:d < 3:=by
     simp only [uf,ui,sM] at hc;omega
    have F:IntKind.wrap .i64 ((d:Int)+1)=((d+1:Nat):Int):=by rw [wz (by omega)];omega
    have H:=treeXmayN_is n x.subs (d+1) (by omega) (by omega) (hs.subs m);have B:=hs.leaves m;have D:=(hs.subs m).len;have s:IntKind.wrap .i64 ((x.leaves.length:Int)+(x.subs.length:Int))=((x.leaves.length+x.subs.length:Nat):Int):=by rw [wz (by omega)];omega
    have E:((((x.leaves.length+x.subs.length:Nat):Int))==0)=(x.leaves.isEmpty&&x.subs.isEmpty):=by
     cases h1:x.leaves <;> cases h2:x.subs <;> simp <;> omega
    rw [opIsName_is,F,H,s,E,qS];have v:lp (zo (λ(p:Nat) (w:GE) (s2:Unit)=>(((leafMay w).bind λg=>(zU ((((!g)==false)&&((decide ((p:Int) > (0:Int)))==true))=true->0<=(IntKind.wrap .i64 ((p:Int) - (1:Int)))/\(IntKind.wrap .i64 ((p:Int) - (1:Int))) < ((x.leaves).length:Int)) ((if ((!g) || ((decide ((p:Int) > (0:Int)))&&(decide (((x.leaves).getD (IntKind.wrap .i64 ((p:Int) - (1:Int))).toNat default).typ >= w.typ))))=true then some (.ret (.ret false)) else some (.nxt ()))))):Option (Out (Out Bool Unit) Unit))) x.leaves 0 ()) (λ(s2:Unit)=>some (.nxt ()))=if leavesB x.leaves=true then some (.nxt ()) else some (.ret false):=by
     rw [vT (r:=.ret false) (λi l=>leafB l&&(decide (i=0) || decide ((x.leaves.getD (i - 1) default).typ < l.typ)))]
     ·rfl
     ·intro j l f;have G:j < x.leaves.length:=(uc.1 f).1;have o:=hs.leaf m (uC f);rw [leafMay_is (by have:=o.items;simp only [maxLen];omega) (by have:=o.tombs;simp only [maxLen];omega)];simp only [ua];rcases j with _ | j
      ·cases leafB l <;> simp [zU]
      ·rw [vC (by simp only [maxLen];omega),qP,uN,zj (by intro _;omega)];have e:decide ((x.leaves.getD j default).typ >= l.typ)=!decide ((x.leaves.getD j default).typ < l.typ):=by rw [uz];simp
       rw [e,tX];generalize (x.leaves.getD j default)=y;cases leafB l <;> cases decide (y.typ < l.typ) <;> simp
    rw [v];simp only [ua];rcases i with _ | j
    ·cases nameB x.name <;> cases (x.leaves.isEmpty&&x.subs.isEmpty) <;> cases treeB (d+1) x.subs <;> cases leavesB x.leaves <;> simp [zU]
    ·rw [vC (by simp only [maxLen];omega),qP,uN,zj (by intro _;omega),tX];generalize (t.getD j default)=y;cases nameB x.name <;> cases (x.leaves.isEmpty&&x.subs.isEmpty) <;> cases treeB (d+1) x.subs <;> cases leavesB x.leaves <;> cases Op.bytesLess y.name x.name <;> simp
theorem treeMay_is {t:List GA} (h:Small t):treeMay t=some (treeB 0 t):=by
 unfold treeMay treeXmay;have:=qa (g:=λn=>vD n t 0) (r:=treeB 0 t) (GA.deps t+1) (λn c=>by have:=treeXmayN_is n t 0 (by omega) (by omega) h;simpa using this);rw [this];rfl
theorem ref07XmayN_is:∀(n:Nat) (t:List GA) (d:Nat),GA.deps t < n->d<=3->Small t->wG n t (d:Int)=some (treeB d t)
 | 0,_,_,h,_,_=>by omega
 | n+1,t,d,h,hd,hs=>by
  unfold wG;have D:=hs.len;rw [vT (r:=false) (λi x=>decide (d < 3)&&(nodeB d x&&(decide (i=0) || Op.bytesLess (t.getD (i - 1) default).name x.name)))]
  ·have e:allI (λi x=>decide (d < 3)&&(nodeB d x&&(decide (i=0) || Op.bytesLess (t.getD (i - 1) default).name x.name))) t=treeB d t:=by
    unfold treeB;rw [Bool.and_assoc,<- up_nodes];cases hd3:decide (d < 3)
    ·cases t with
     | nil=>rfl
     | cons x r=>simp [allI]
    ·simp
   rw [e];cases treeB d t <;> rfl
  ·intro i x hx;have hi:i < t.length:=(uc.1 hx).1;have m:=uC hx;have u:=vp m;have w:=xd x;have o:decide ((d:Int) >= 3)=!decide (d < 3):=by rw [uz];simp;omega
   rw [o];by_cases hd3:d < 3
   ·have z:IntKind.wrap .i64 ((d:Int)+1)=((d+1:Nat):Int):=by rw [wz (by omega)];omega
    have C:=ref07XmayN_is n x.subs (d+1) (by omega) (by omega) (hs.subs m);have v:=hs.leaves m;rw [ref04IsName_is,z,C,qS,lenE,lenE];have s:lp (zo (λ(c:Nat) (A:GE) (s2:Unit)=>(((ref05May A).bind λv50=>(zU ((((!v50)==false)&&((decide ((c:Int) > (0:Int)))==true))=true->0<=(IntKind.wrap .i64 ((c:Int) - (1:Int)))/\(IntKind.wrap .i64 ((c:Int) - (1:Int))) < ((x.leaves).length:Int)) ((zU ((((!v50)==false)&&((decide ((c:Int) > (0:Int)))==true))=true->0<=(c:Int)/\(c:Int) < ((x.leaves).length:Int)) ((if ((!v50) || ((decide ((c:Int) > (0:Int)))&&(decide (((x.leaves).getD (IntKind.wrap .i64 ((c:Int) - (1:Int))).toNat default).typ >= ((x.leaves).getD (c:Int).toNat default).typ))))=true then some (.ret (.ret false)) else some (.nxt ()))))))):Option (Out (Out Bool Unit) Unit))) x.leaves 0 ()) (λ(s2:Unit)=>some (.nxt ()))=if leavesB x.leaves=true then some (.nxt ()) else some (.ret false):=by
     rw [vT (r:=.ret false) (λi l=>leafB l&&(decide (i=0) || decide ((x.leaves.getD (i - 1) default).typ < l.typ)))]
     ·rfl
     ·intro j l f;have B:j < x.leaves.length:=(uc.1 f).1;have p:x.leaves.getD j default=l:=by rw [uF,f];rfl
      have g:=hs.leaf m (uC f);rw [ref05May_is (by have:=g.items;simp only [maxLen];omega) (by have:=g.tombs;simp only [maxLen];omega) g.time];simp only [ua];rcases j with _ | j
      ·cases leafB l <;> simp [zU]
      ·rw [vC (by simp only [maxLen];omega),qP,uN,uN,p,zj (by intro _;omega),zj (by intro _;omega)];have e:decide ((x.leaves.getD j default).typ >= l.typ)=!decide ((x.leaves.getD j default).typ < l.typ):=by rw [uz];simp
       rw [e,tX];generalize (x.leaves.getD j default)=y;cases leafB l <;> cases decide (y.typ < l.typ) <;> simp
    rw [s,tp hd3];simp only [ua,tv,tI,u9,BEq.rfl,ur];rcases i with _ | j
    ·cases nameB x.name <;> cases (x.leaves.isEmpty&&x.subs.isEmpty) <;> cases treeB (d+1) x.subs <;> cases leavesB x.leaves <;> simp [zU]
    ·rw [vC (by simp only [maxLen];omega),qP,uN,zj (by intro _;omega),tX];generalize (t.getD j default)=y;cases nameB x.name <;> cases (x.leaves.isEmpty&&x.subs.isEmpty) <;> cases treeB (d+1) x.subs <;> cases leavesB x.leaves <;> cases Op.bytesLess y.name x.name <;> simp
   ·rw [uS hd3];simp [zU]
theorem ref07May_is {t:List GA} (h:Small t):ref07May t=some (treeB 0 t):=by
 unfold ref07May ref07Xmay;have:=qa (g:=λn=>wG n t 0) (r:=treeB 0 t) (GA.deps t+1) (λn c=>by have:=ref07XmayN_is n t 0 (by omega) (by omega) h;simpa using this);rw [this];rfl

theorem loopW_end {ρ:Type} {f:σ->Option (Out ρ σ)} (g:σ->Prop) (i:σ->Nat) (h:∀s,g s->(∃c,f s=some (.brk c)) \/ ∃c,f s=some (.nxt c)/\g c/\i c < i s):∀(k:Nat) (s:σ),i s=k->g s->∃c,yA f s=some (.inr c):=by
 intro k
 induction k using Nat.strongRecOn with
 | _ k ih =>
  intro s m hi;rw [wK];rcases h s hi with ⟨c,e⟩ | ⟨c,e,j,o⟩
  ·exact ⟨c,by rw [e]⟩
  ·rw [e];exact ih (i c) (by omega) c rfl j
theorem lpW_end {ρ:Type} {f:σ->Option (Out ρ σ)} {rest:σ->Option ρ} (c:σ->Prop) (i:σ->Nat) (m:∀s,∃v,rest s=some v) (j:σ) (hi:c j) (h:∀s,c s->(∃g,f s=some (.brk g)) \/ ∃g,f s=some (.nxt g)/\c g/\i g < i s):∃v,lp (yA f j) rest=some v:=by
 obtain ⟨g,e⟩:=loopW_end c i h _ j rfl hi;rw [e];exact m g
theorem idx_mem {α:Type} {L:List α} {i:Int} {x:α} (h:xQ L i=some x):x ∈ L:=by
 unfold xQ at h;split at h
 ·exact uC h
 ·cases h
theorem size_tot:∀(n:Nat) (t:List GA) (d:Int),GA.deps t < n->Small t->∃v,yJ n t d=some v
 | 0,_,_,h,_=>by omega
 | n+1,t,d,h,hs=>by
  unfold yJ;have C:=hs.len;refine lpW_end (λs=>0<=s.2/\s.2<=(t.length:Int)) (λs=>(t.length - s.2.toNat)) (λ_=>⟨_,rfl⟩) _ ⟨by simp,by simp⟩ (λs hi=>?_);rcases s with ⟨a,i⟩
  obtain ⟨k,rfl⟩:∃k:Nat,i=(k:Int):=⟨i.toNat,by have:=hi.1;simp at this;omega⟩
  by_cases hc:(decide ((k:Int) < (t.length:Int))&&decide (d < 10))=true
  ·right;simp only [uf,ui] at hc;have o:k < t.length:=by omega
   have u:t[k] ∈ t:=rJ o;have x:=vp u;have z:=xd t[k];obtain ⟨v,A⟩:=size_tot n t[k].subs (IntKind.wrap .i64 (d+1)) (by omega) (hs.subs u);have y:=hs.leaves u;obtain ⟨s2,w⟩:=loopW_end (ρ:=Out Int (Int×Int)) (σ:=Int×Int) (f:=λs2:Int×Int=>(((xQ t (k:Int)).bind λm=>(if decide (s2.2 < ((m.leaves).length:Int))=true then ((xQ t (k:Int)).bind λg=>((xQ g.leaves s2.2).bind λc=>(lp (zo (λ(B:Nat) (p:GF) (j:Int)=>(some (.nxt (IntKind.wrap .i64 ((IntKind.wrap .i64 (j+(1:Int)))+((p.text).length:Int)))):Option (Out _ Int))) c.items 0 (IntKind.wrap .i64 ((IntKind.wrap .i64 ((IntKind.wrap .i64 (s2.1+(1:Int)))+((c.text).length:Int)))+((c.tombs).length:Int)))) λ(j:Int)=>some (.nxt (j,(IntKind.wrap .i64 (s2.2+(1:Int)))))))) else some (.brk (s2.1,s2.2)))):Option (Out (Out Int (Int×Int)) (Int×Int))))
    (λs=>0<=s.2/\s.2<=(t[k].leaves.length:Int)) (λs=>(t[k].leaves.length - s.2.toNat)) (λs hi=>by
     rcases s with ⟨b,i⟩
     obtain ⟨q,rfl⟩:∃q:Nat,i=(q:Int):=⟨i.toNat,by have:=hi.1;simp at this;omega⟩
     simp only [qv o,ua];by_cases hq:q < t[k].leaves.length
     ·right;have e:decide ((q:Int) < (t[k].leaves.length:Int))=true:=by simpa using hq
      simp only [e,ur,qv hq,ua];rw [loopL_fold (λ(j:Int) (p:GF)=>IntKind.wrap .i64 ((IntKind.wrap .i64 (j+(1:Int)))+((p.text).length:Int))) _ 0 _ (λ_ _ _ _=>rfl),wA];refine ⟨_,rfl,?_,?_⟩
      ·simp only;rw [wz (by omega)];omega
      ·simp only;rw [wz (by omega)];omega
     ·left;have e:decide ((q:Int) < (t[k].leaves.length:Int))=false:=by simp;omega
      simp only [e];exact ⟨_,rfl⟩) _ ((IntKind.wrap .i64 ((IntKind.wrap .i64 ((IntKind.wrap .i64 (a+(1:Int)))+((t[k].name).length:Int)))+v)),(0:Int)) rfl ⟨by simp,by simp⟩
   refine ⟨(s2.1,IntKind.wrap .i64 ((k:Int)+1)),?_,?_,?_⟩
   ·simp only [hc,rL,uW,ur,qv o,ua,A];simp only [qv o,ua] at w;rw [w];rfl
   ·simp only;rw [wz (by omega)];omega
   ·simp only;rw [wz (by omega)];omega
  ·left;refine ⟨(a,(k:Int)),?_⟩;simp only at hc ⊢;rw [uD hc]
theorem size_fuel:∀(n m:Nat) (t:List GA) (d:Int),GA.deps t < n->GA.deps t < m->yJ n t d=yJ m t d
 | 0,_,_,_,h,_=>by omega
 | _+1,0,_,_,_,h=>by omega
 | n+1,m+1,t,d,h1,h2=>by
  unfold yJ;congr 2;funext s;split
  ·cases hx:xQ t s.2 with
   | none=>rfl
   | some y =>
    have c:=vp (idx_mem hx);have e:=xd y;simp only [ua];rw [size_fuel n m y.subs _ (by omega) (by omega)]
  ·rfl
theorem ref07Great_tot {t:List GA} (h:Small t):∃b,vu t=some b:=by
 unfold vu ref07Xsize;obtain ⟨v,c⟩:∃v,∀n,GA.deps t+1<=n->yJ n t 0=some v:=by
  obtain ⟨v,c⟩:=size_tot (GA.deps t+1) t 0 (by omega) h;exact ⟨v,λn e=>by rw [size_fuel n (GA.deps t+1) t 0 (by omega) (by omega)];exact c⟩
 rw [qa (GA.deps t+1) c];exact ⟨_,rfl⟩

def endsB (p:List zc):Bool:=p.getLast?==some [42,42]
def xK (p:List zc):List zc:=if endsB p then p.dropLast else p
def agreeB:List zc->List zc->Bool
 | [],_=>true
 | x::t,y::r=>(x==[42] || x==y)&&agreeB t r
 | _::_,[]=>false
def patB (p:List zc):Bool:=(decide (0 < (xK p).length) || endsB p)&&decide ((xK p).length<=3)&&(xK p).all (λs=>s==[42] || nameB s)
def matchB (p path:List zc):Bool:=patB p&&xu path&&decide ((xK p).length<=path.length)&&(endsB p || decide (path.length<=(xK p).length))&&agreeB (xK p) path
theorem wrapLen (h0:0 < n) (h:n<=maxLen):IntKind.wrap .i64 ((n:Int) - 1)=((n - 1:Nat):Int):=by
 simp only [maxLen] at h;rw [wz (by omega)];omega
theorem last_getD {p:List zc} (h0:0 < p.length):(p.getD (p.length - 1) default==[42,42])=endsB p:=by
 unfold endsB;rw [rd,uF,uj (by omega)];rw [uz];simp
theorem slc_init {p:List zc} (h0:0 < p.length):slc p 0 ((p.length - 1:Nat):Int)=some p.dropLast:=by
 rw [slc_at (by omega)];simp [List.dropLast_eq_take]
theorem pathsXparts_is {p:List zc} (h:p.length<=maxLen):vI p=some (xK p,endsB p):=by
 unfold vI xK;by_cases h0:0 < p.length
 ·rw [wrapLen h0 h,zj (by intro _;omega)];have e:decide ((p.length:Int) > 0)=true:=by simpa using h0
  rw [e,uN,last_getD h0,slc_init h0];cases endsB p <;> rfl
 ·have:p=[]:=uO (by omega);subst this;rfl
theorem pathsMayPattern_is {p:List zc} (h:p.length<=maxLen):xM p=some (patB p):=by
 unfold xM patB;rw [pathsXparts_is h];simp only [ua];rw [contains_is (q:=λs=>!(s==[42] || nameB s)) _ (λx _=>by
  unfold wD;rw [opIsName_is];cases h1:(x==([42]:zc)) <;> simp)]
 have e:(xK p).any (λs=>!(s==[42] || nameB s))=!(xK p).all (λs=>s==[42] || nameB s):=by rw [uz];simp
 have c:decide (((xK p).length:Int) > 0)=decide (0 < (xK p).length):=su.2 (by omega);rw [e,bnd3,c];cases ((decide (0 < (xK p).length) || endsB p)&&decide ((xK p).length<=3)) <;> simp
theorem agree_loop (path:List zc) {f:Nat->zc->Unit->Option (Out Bool Unit)} (c:∀i x,i < path.length->f i x ()=if (!(x==([42]:zc))&&!(x==path.getD i default))=true then some (.ret false) else some (.nxt ())) :
  ∀(L:List zc) (i:Nat),L.length+i<=path.length->zo f L i ()=if agreeB L (path.drop i)=true then some (.inr ()) else some (.inl false)
 | [],i,_=>by cases path.drop i <;> rfl
 | x::t,i,h=>by
  simp only [ud] at h;have hi:i < path.length:=by omega
  have g:=agree_loop path c t (i+1) (by omega);have e:path.drop i=path[i]::path.drop (i+1):=(sN hi).symm;have j:path.getD i default=path[i]:=by rw [uF,uj hi];rfl
  simp only [zo,c i x hi,e,agreeB,j];cases h1:(x==([42]:zc)) <;> cases h2:(x==path[i]) <;> simp [g]
theorem pathsMatch_is {p path:List zc} (h:p.length<=maxLen):pathsMatch p path=some (matchB p path):=by
 unfold pathsMatch matchB;rw [pathsXparts_is h,pathsMayPattern_is h];simp only [ua,opMayPath_is];cases hp:patB p
 ·simp
 ·cases hq:xu path
  ·simp
  ·by_cases hl:(xK p).length<=path.length
   ·have c:decide ((path.length:Int) < ((xK p).length:Int))=false:=uS (by omega);have e:decide ((path.length:Int) > ((xK p).length:Int))=!decide (path.length<=(xK p).length):=by
     rw [uz];simp
    rw [c,e,agree_loop path (λi x hi=>by rw [zj (by intro _;omega),uN]) _ 0 (by omega)];simp only [sA,tp hl];cases decide (path.length<=(xK p).length) <;> cases endsB p <;> cases agreeB (xK p) path <;> simp
   ·have c:decide ((path.length:Int) < ((xK p).length:Int))=true:=tp (by omega);rw [c,uS hl];simp

section
variable {S X:Type}
def foldF (y:S->X->Option (Bool×S)):List X->S->Option (Bool×S)
 | [],s=>some (true,s)
 | x::r,s=>(y s x).bind λv=>if v.1=true then foldF y r v.2 else some (false,v.2)
theorem foldF_app (y:S->X->Option (Bool×S)):∀(a b:List X) (s:S),foldF y (a++b) s=(foldF y a s).bind λv=>if v.1=true then foldF y b v.2 else some v
 | [],b,s=>by simp [foldF]
 | x::r,b,s=>by
  simp only [te,foldF];cases y s x with
  | none=>rfl
  | some v =>
   simp only [ua];cases hv:v.1
   ·simp
   ·simp only [ur];exact foldF_app y r b v.2
theorem foldF_stp (y:S->X->Option (Bool×S)):∀(xs:List X) (s:S),
  foldF (stp (λ(e:S) (f:X)=>(((y e f).bind λv=>(if (!v.1)=true then some (false,(v.2,some 0)) else some (true,(v.2,none)))):Option (Bool×(S×Option Nat))))) xs (s,none)=(foldF y xs s).map λv=>(v.1,(v.2,if v.1=true then none else some 0))
 | [],s=>rfl
 | x::r,s=>by
  simp only [foldF,stp];cases y s x with
  | none=>rfl
  | some v =>
   rcases v with ⟨b,c⟩
   cases b
   ·simp
   ·simp only [tv,uo,uH,ua,ur];exact foldF_stp y r c
theorem loop_tell {ρ α:Type} (y:S->X->Option (Bool×S)) (g:α->X) (r:S->ρ) {f:Nat->α->S->Option (Out ρ S)}:∀(L:List α) (i:Nat) (s:S),(∀i x s,x ∈ L->f i x s=(y s (g x)).bind λv=>if (!v.1)=true then some (.ret (r v.2)) else some (.nxt v.2)) ->
  zo f L i s=(foldF y (L.map g) s).map λv=>if v.1=true then .inr v.2 else .inl (r v.2)
 | [],_,_,_=>rfl
 | x::t,i,s,h=>by
  simp only [zo,h i x s (tF ..),ut,foldF];cases y s (g x) with
  | none=>rfl
  | some v =>
   rcases v with ⟨b,c⟩
   cases b
   ·rfl
   ·simp only [tv,uo,uH,ua,ur];exact loop_tell y g r t (i+1) c λi x s hx=>h i x s (tu _ hx)
theorem loop_tells {ρ α:Type} (y:S->X->Option (Bool×S)) (g:α->List X) (r:S->ρ) {f:Nat->α->S->Option (Out ρ S)}:∀(L:List α) (i:Nat) (s:S),(∀i x s,x ∈ L->f i x s=(foldF y (g x) s).map λv=>if v.1=true then .nxt v.2 else .ret (r v.2)) ->
  zo f L i s=(foldF y (L.flatMap g) s).map λv=>if v.1=true then .inr v.2 else .inl (r v.2)
 | [],_,_,_=>rfl
 | x::t,i,s,h=>by
  simp only [zo,h i x s (tF ..),u6,foldF_app];cases foldF y (g x) s with
  | none=>rfl
  | some v =>
   rcases v with ⟨b,c⟩
   cases b
   ·rfl
   ·simp only [uV,ur,ua];exact loop_tells y g r t (i+1) c λi x s hx=>h i x s (tu _ hx)
end
theorem clone_is {α:Type} {L:List α} (h:L.length<=yY):(nilq L λc=>(if c=true then some ([]:List α) else (zU ((([]:List α)).length+L.length<=yY) (some (([]:List α)++L)))))=some L:=by
 refine nilq_of ?_ λe=>by subst e;rfl
 rw [zj (by simpa using h)];simp
theorem cloneString_is {L:List zc} (h:L.length<=yY):xf L=some L:=clone_is h
theorem cloneItem_is (h:L.length<=yY):xj L=some L:=clone_is h
theorem cloneDot_is {L:List GC} (h:L.length<=yY):xF L=some L:=clone_is h
theorem pathsXown_is (h:LeafOk l):pathsXown l=some l:=by
 unfold pathsXown;rw [cloneItem_is (by have:=h.items;unfold yY;omega),cloneDot_is (by have:=h.tombs;unfold yY;omega)];rfl
mutual
def qd (a:List zc):GA->List GH
 | ⟨nm,ls,sb⟩=>ls.map (λl=>GH.mk (a++[nm]) l)++zp (a++[nm]) sb
def zp (a:List zc):List GA->List GH
 | []=>[]
 | x::r=>qd a x++zp a r
end
mutual
def wv (is:List zc->Bool) (a:List zc):GA->GA
 | ⟨nm,ls,sb⟩=>⟨nm,if is (a++[nm])=true then ls else [],xU is (a++[nm]) sb⟩
def xU (is:List zc->Bool) (a:List zc):List GA->List GA
 | []=>[]
 | x::r=>if (wv is a x).leaves.isEmpty&&(wv is a x).subs.isEmpty then xU is a r else wv is a x::xU is a r
end
theorem yz (a:List zc) (x:GA):qd a x=x.leaves.map (λl=>GH.mk (a++[x.name]) l)++zp (a++[x.name]) x.subs:=by cases x;rfl
theorem ye (a:List zc):∀t,zp a t=t.flatMap (qd a)
 | []=>rfl
 | x::r=>by simp only [zp,u6,ye a r]
theorem keepN_eq (is:List zc->Bool) (a:List zc) (x:GA):wv is a x=⟨x.name,if is (a++[x.name])=true then x.leaves else [],xU is (a++[x.name]) x.subs⟩:=by cases x;rfl
theorem keepL_filter (is:List zc->Bool) (a:List zc):∀t,xU is a t=(t.map (wv is a)).filter λy=>!(y.leaves.isEmpty&&y.subs.isEmpty)
 | []=>rfl
 | x::r=>by
  simp only [xU,ut,rK,keepL_filter is a r];cases ((wv is a x).leaves.isEmpty&&(wv is a x).subs.isEmpty) <;> simp
theorem rows_is {S:Type}:∀(n:Nat) (S:Type) (y:S->GH->Option (Bool×S)) (t:List GA) (a:List zc) (s:S),GA.deps t < n->Small t->a.length+GA.deps t<=40000000->xR n S y t a s=(foldF y (zp a t) s).map (·.2)
 | 0,_,_,_,_,_,h,_,_=>by omega
 | n+1,S,y,t,a,s,h,hs,ha=>by
  unfold xR;rw [loop_tells y (qd a) (λs=>s),<- ye]
  ·cases foldF y (zp a t) s with
   | none=>rfl
   | some v=>rcases v with ⟨b,c⟩;cases b <;> rfl
  ·intro i x m hx;have e:=vp hx;have g:=xd x;rw [cloneString_is (by unfold yY;omega),ua,zj (by simp [yY];omega)];rw [loop_tell y (λl=>GH.mk (a++[x.name]) l) (λs=>Out.ret s)]
   ·rw [yz,foldF_app];cases foldF y (x.leaves.map λl=>GH.mk (a++[x.name]) l) m with
    | none=>rfl
    | some v =>
     rcases v with ⟨b,c⟩
     cases b
     ·rfl
     ·simp only [uV,ur,wA,ua];unfold qm;simp only [ua];rw [rows_is (S:=Unit) n _ _ x.subs (a++[x.name]) (c,none) (by omega) (hs.subs hx) (by simp;omega),foldF_stp];cases foldF y (zp (a++[x.name]) x.subs) c with
      | none=>rfl
      | some v=>rcases v with ⟨b,s2⟩;cases b <;> rfl
   ·intro j l s2 f;rw [cloneString_is (by simp [yY];omega),ua,pathsXown_is (hs.leaf hx f),ua]

theorem loop_keep {α c ρ:Type} (p:α->Bool) (g:α->c) {f:Nat->α->List c->Option (Out ρ (List c))}:∀(L:List α) (i:Nat) (s:List c),s.length+L.length<=yY->(∀i x s,x ∈ L->s.length+1<=yY->f i x s=if p x=true then some (.nxt (s++[g x])) else some (.nxt s)) ->
  zo f L i s=some (.inr (s++(L.filter p).map g))
 | [],_,s,_,_=>by simp [zo]
 | x::t,i,s,hl,h=>by
  simp only [ud] at hl;simp only [zo,h i x s (tF ..) (by omega),rK];cases hp:p x
  ·simp only [uo,uH];exact loop_keep p g t (i+1) s (by omega) λi x s hx=>h i x s (tu _ hx)
  ·simp only [ur];rw [loop_keep p g t (i+1) (s++[g x]) (by simp;omega) λi x s hx=>h i x s (tu _ hx)];simp
theorem keep_len (is:List zc->Bool) (a:List zc) (t:List GA):(xU is a t).length<=t.length:=by
 rw [keepL_filter];exact uA (sD _ _) (by simp)
theorem kept_is (is:List zc->Bool) (f:List zc->Option Bool) (z:∀p,f p=some (is p)):∀(n:Nat) (t:List GA) (a:List zc),GA.deps t < n->Small t->a.length+GA.deps t<=40000000->wH n t a f=some (xU is a t)
 | 0,_,_,h,_,_=>by omega
 | n+1,t,a,h,hs,ha=>by
  unfold wH;have E:=hs.len;have key:∀(L:List GA) (i:Nat) (s:List GA),(∀x ∈ L,x ∈ t)->s.length+L.length<=16777216->∀{F:Nat->GA->List GA->Option (Out (List GA) (List GA))},(∀i x s,x ∈ t->s.length+1<=16777216->F i x s=some (.nxt (if ((wv is a x).leaves.isEmpty&&(wv is a x).subs.isEmpty)=true then s else s++[wv is a x]))) ->
    zo F L i s=some (.inr (s++xU is a L)):=by
   intro L
   induction L with
   | nil=>intro i s _ _ F _;simp [zo,xU]
   | cons x r ih =>
    intro i s w c F o;simp only [ud] at c;simp only [zo,o i x s (w x (by simp)) (by omega),xU];cases he:((wv is a x).leaves.isEmpty&&(wv is a x).subs.isEmpty)
    ·simp only [uo,uH];rw [ih (i+1) _ (λy u=>w y (by simp [u])) (by simp;omega) o];simp
    ·simp only [ur];exact ih (i+1) s (λy u=>w y (by simp [u])) (by omega) o
  rw [key t 0 [] (λ_ h=>h) (by simpa using E)]
  ·simp
  ·intro i x s hx c;have B:=vp hx;have C:=xd x;have e:=hs.leaves hx;have A:=(hs.subs hx).len;rw [cloneString_is (by unfold yY;omega),ua,zj (by simp [yY];omega),kept_is is f z n x.subs (a++[x.name]) (by omega) (hs.subs hx) (by simp;omega),ua];rw [loop_keep (λ_=>is (a++[x.name])) (λl=>l) x.leaves 0 [] (by simp [yY];omega)]
   ·simp only [wA,uR,List.map_id_fun',id];have g:(x.leaves.filter λ_=>is (a++[x.name]))=(if is (a++[x.name])=true then x.leaves else []):=by
     cases is (a++[x.name]) <;> simp
    rw [g,<- keepN_eq];have G:=keep_len is (a++[x.name]) x.subs;have D:decide ((IntKind.wrap .i64 (((if is (a++[x.name])=true then x.leaves else []).length:Int)+((xU is (a++[x.name]) x.subs).length:Int))) > 0)=!((wv is a x).leaves.isEmpty&&(wv is a x).subs.isEmpty):=by
     rw [keepN_eq];have H:(if is (a++[x.name])=true then x.leaves else []).length<=16777216:=by cases is (a++[x.name]) <;> simp [e]
     rw [wz (by omega)];cases hA:(if is (a++[x.name])=true then x.leaves else []) <;> cases hB:xU is (a++[x.name]) x.subs <;> simp <;> omega
    rw [D];cases ((wv is a x).leaves.isEmpty&&(wv is a x).subs.isEmpty)
    ·simp only [tU,ur,uo,uH];rw [zj (by simp [yY];omega)]
    ·simp
   ·intro j l s2 m v;rw [z,ua,pathsXown_is (hs.leaf hx m),ua,zj (by simpa using v)]
theorem deps_bks:∀(n:Nat) (t:List GA),GA.deps t<=n->GA.deps t<=GA.bks t:=by
 intro n
 induction n with
 | zero=>intro t c;omega
 | succ n ih =>
  intro t
  induction t with
  | nil=>intro _;simp [GA.deps]
  | cons x r ihr =>
   intro c;simp only [GA.deps] at c ⊢;simp only [GA.bks];have g:=ihr (by omega);have e:=xd x;have h:=ih x.subs (by omega);have f:=bk_node x;omega
theorem Small.dep {t:List GA} (h:Small t):GA.deps t<=16777216:=uA (deps_bks _ t (uh _)) h.2
theorem keptAll_is (is:List zc->Bool) (f:List zc->Option Bool) (c:∀p,f p=some (is p)) {t:List GA} (h:Small t):pathsXkept t [] f=some (xU is [] t):=by
 unfold pathsXkept;have e:=h.dep;rw [qa (GA.deps t+1) λn g=>kept_is is f c n t [] (by omega) h (by simp;omega)]
theorem rows_len:∀(n:Nat) (t:List GA) (a:List zc),GA.deps t<=n->(zp a t).length<=GA.bks t:=by
 intro n
 induction n with
 | zero =>
  intro t a h;cases t with
  | nil=>simp [zp]
  | cons x r=>simp only [GA.deps] at h;have:=xd x;omega
 | succ n ih =>
  intro t
  induction t with
  | nil=>intro a _;simp [zp]
  | cons x r ihr =>
   intro a c;simp only [GA.deps] at c;simp only [GA.bks,zp,ue];have i:=ihr a (by omega);have e:=xd x;have m:=ih x.subs (a++[x.name]) (by omega);have g:=bk_node x;have j:=sum_len (f:=GE.bk) (λx=>by unfold GE.bk;omega) x.leaves;rw [yz];simp only [ue,ux];omega
theorem fold_app {X:Type}:∀(xs s:List X),s.length+xs.length<=yY->foldF (stp (λ(e:List X) (c:X)=>((zU (e.length+([c]:List X).length<=yY) (some (true,((e++[c]),none)))):Option (Bool×(List X×Option Nat))))) xs (s,none)=some (true,(s++xs,none))
 | [],s,_=>by simp [foldF]
 | x::r,s,h=>by
  simp only [ud] at h;simp only [foldF,stp];rw [zj (by simp;omega)];simp only [ua,ur];rw [fold_app r (s++[x]) (by simp;omega)];simp
theorem pathsRows_is {t:List GA} (h:Small t):pathsRows t=some (if treeB 0 t=true then zp [] t else []):=by
 unfold pathsRows;rw [treeMay_is h,ua];cases treeB 0 t
 ·rfl
 ·have hd:=h.dep;have c:=rows_len _ t [] (uh _);have e:=h.2;simp only [tv,uo,uH,ur,qm,ua,wU,wb,pathsXrowsC1];rw [qa (r:=(zp [] t,none)) (GA.deps t+1) λn f=>by
   rw [rows_is (S:=Unit) n _ _ t [] ([],none) (by omega) h (by simp;omega),fold_app _ _ (by simp [yY];omega)];rfl]
  rfl

theorem qs:∀{a b c:List UInt8},Op.bytesLess a b=true->Op.bytesLess b c=true->Op.bytesLess a c=true
 | _,[],_,h,_=>by cases ‹List UInt8› <;> simp [Op.bytesLess] at h
 | a,b::y,[],_,h=>by simp [Op.bytesLess] at h
 | [],b::y,c::z,_,_=>rfl
 | a::x,b::y,c::z,f,e=>by
  simp only [Op.bytesLess,uY,ui,uf,sM] at f e ⊢;rcases f with f | ⟨rfl,f⟩
  ·rcases e with e | ⟨rfl,e⟩
   ·left;exact UInt8.lt_trans f e
   ·left;exact f
  ·rcases e with e | ⟨rfl,e⟩
   ·left;exact e
   ·right;exact ⟨rfl,qs f e⟩
theorem upB_iff (t:List GA):upB t=true ↔ t.Pairwise (λx y=>Op.bytesLess x.name y.name=true):=by
 unfold upB;rw [allI_iff];constructor
 ·intro h;rw [tA];intro i j hi c e;obtain ⟨k,rfl⟩:∃k,j=i+1+k:=⟨j - i - 1,by omega⟩
  induction k with
  | zero =>
   have:=h (i+1) _ (uj c);simp only [tX,uY,ui] at this;rcases this with h0 | h0
   ·omega
   ·rw [uF,uj hi] at h0;exact h0
  | succ k ih =>
   have f:=ih (by omega) (by omega);have:=h (i+1+(k+1)) _ (uj c);simp only [uY,ui] at this;rcases this with h0 | h0
   ·omega
   ·rw [show i+1+(k+1) - 1=i+1+k by omega,uF,uj (by omega:i+1+k < t.length)] at h0;exact qs f h0
 ·intro h i x hx;rcases i with _ | i
  ·rfl
  ·rw [tA] at h;obtain ⟨hi,rfl⟩:=uc.1 hx;have:=h i (i+1) (by omega) hi (by omega);simp only [tX,uY];right;rw [uF,uj (by omega:i < t.length)];exact this
section
variable (is:List zc->Bool)
theorem keep_up (a:List zc) {t:List GA} (h:upB t=true):upB (xU is a t)=true:=by
 rw [upB_iff] at h ⊢;rw [keepL_filter];refine List.Pairwise.filter _ ?_;rw [pb];exact h.imp λ{x y} h=>by rw [keepN_eq,keepN_eq];exact h
theorem xY {M:List GA->Prop} (h0:M []) (c:∀x r,M x.subs->M r->M (x::r)):∀t,M t:=by
 have key:∀(n:Nat) (t:List GA),GA.deps t<=n->M t:=by
  intro n
  induction n with
  | zero =>
   intro t h;cases t with
   | nil=>exact h0
   | cons x r=>simp only [GA.deps] at h;have:=xd x;omega
  | succ n ih =>
   intro t
   induction t with
   | nil=>intro _;exact h0
   | cons x r ihr =>
    intro h;simp only [GA.deps] at h;have:=xd x;exact c x r (ih x.subs (by omega)) (ihr (by omega))
 exact λt=>key _ t (uh _)
theorem keep_may:∀(t:List GA) (d:Nat) (a:List zc),treeB d t=true->treeB d (xU is a t)=true:=by
 intro t;have key:∀(t:List GA),(∀(d:Nat) (a:List zc),treeB d t=true->treeB d (xU is a t)=true)/\(∀(d:Nat) (a:List zc),xz d t=true->xz d (xU is a t)=true):=by
  refine xY ⟨λd a h=>h,λd a h=>h⟩ ?_;intro x r hx f;have e:∀(d:Nat) (a:List zc),xz d (x::r)=true->xz d (xU is a (x::r))=true:=by
   intro d a h;simp only [xz,uf] at h;simp only [xU];cases he:((wv is a x).leaves.isEmpty&&(wv is a x).subs.isEmpty)
   ·simp only [uo,uH,xz,uf];refine ⟨?_,f.2 d a h.2⟩;have c:=h.1;rw [qS] at c ⊢;simp only [uf,sg] at c ⊢;rw [keepN_eq] at he ⊢;refine ⟨⟨⟨c.1.1.1,he⟩,hx.1 (d+1) _ c.1.2⟩,?_⟩;show leavesB (if is (a++[x.name])=true then x.leaves else [])=true;split
    ·exact c.2
    ·rfl
   ·simp only [ur];exact f.2 d a h.2
  refine ⟨λd a h=>?_,e⟩;unfold treeB at h ⊢;simp only [uf] at h ⊢;refine ⟨⟨?_,keep_up is a h.1.2⟩,e d a h.2⟩;have:decide (d < 3)=true:=by simpa using h.1.1
  rw [this];simp
 exact (key t).1
theorem keep_rows:∀(t:List GA) (a:List zc),zp a (xU is a t)=(zp a t).filter λr=>is r.path:=by
 refine xY (λa=>rfl) ?_;intro x r hx c a;have e:qd a (wv is a x)=(qd a x).filter λr=>is r.path:=by
  rw [keepN_eq,yz,yz,sa,<- hx];simp only;congr 1;cases h:is (a++[x.name])
  ·simp [h]
  ·simp only [ur];rw [sn.2];intro r c;obtain ⟨l,_,rfl⟩:=th.1 c;exact h
 simp only [xU,zp,sa,<- c,<- e];cases he:((wv is a x).leaves.isEmpty&&(wv is a x).subs.isEmpty)
 ·simp [zp]
 ·simp only [ur];simp only [uf,s8] at he;rw [yz,he.1,he.2];simp [zp]
theorem keep_small:∀(t:List GA) (a:List zc),(GA.wfs t->GA.wfs (xU is a t))/\GA.bks (xU is a t)<=GA.bks t:=by
 refine xY (λa=>⟨λh=>h,uh _⟩) ?_;intro x r hx c a;have m:(wv is a x).bk<=x.bk:=by
  have:=(hx (a++[x.name])).2;cases x with
  | mk nm ls sb =>
   simp only [wv,GA.bk] at this ⊢;have e:((if is (a++[nm])=true then ls else []).map GE.bk).sum<=(ls.map GE.bk).sum:=by split <;> simp
   omega
 have f:x.wf->(wv is a x).wf:=by
  have:=(hx (a++[x.name])).1;cases x with
  | mk nm ls sb =>
   simp only [wv,GA.wf] at this ⊢
   rintro ⟨i,e,j⟩
   refine ⟨i,?_,this j⟩;split
   ·exact e
   ·exact ⟨by simp,λy g=>by cases g⟩
 simp only [xU];split
 ·refine ⟨λh=>(c a).1 (by simp only [GA.wfs] at h;exact h.2),?_⟩;have:=(c a).2;simp only [GA.bks];omega
 ·refine ⟨λh=>?_,?_⟩
  ·simp only [GA.wfs] at h ⊢;exact ⟨f h.1,(c a).1 h.2⟩
  ·have:=(c a).2;simp only [GA.bks];omega
theorem Small.keep {t:List GA} (h:Small t) (a:List zc):Small (xU is a t):=⟨(keep_small is t a).1 h.1,uA (keep_small is t a).2 h.2⟩
end
theorem ref05Same_refl (l:GE):wV l l=some true:=by
 unfold wV;simp only [dotEq,itemEq];rw [uD (by simp),vT (r:=false) (λ_ _=>true),vT (r:=false) (λ_ _=>true)]
 ·simp [allI]
 ·intro i x hx;have hi:=(uc.1 hx).1;have c:l.tombs[i]=x:=(uc.1 hx).2;rw [qv hi,c];simp
 ·intro i x hx;have hi:=(uc.1 hx).1;have c:l.items[i]=x:=(uc.1 hx).2;rw [qv hi,c];simp
theorem ref07SameN_refl:∀(n:Nat) (t:List GA),GA.deps t < n->xG n t t=some true
 | 0,_,h=>by omega
 | n+1,t,h=>by
  unfold xG;rw [uD (by simp),vT (r:=false) (λ_ _=>true)]
  ·simp [allI]
  ·intro i x hx;have hi:=(uc.1 hx).1;have g:t[i]=x:=(uc.1 hx).2;have hd:t.getD i default=x:=by rw [uF,hx];rfl
   have f:=vp (uC hx);have o:=xd x;rw [qv hi,g];simp only [ua,uN,hd,ref07SameN_refl n x.subs (by omega)];rw [zj (by intro _;omega),zj (by intro _;omega),zj (by intro _;omega),zj (by intro _;omega)];rw [vT (r:=.ret false) (λ_ _=>true)]
   ·simp [allI]
   ·intro j l e;have m:=(uc.1 e).1;have c:x.leaves[j]=l:=(uc.1 e).2;rw [qv m,c];simp [ref05Same_refl]
theorem ref07Same_refl (t:List GA):ql t t=some true:=by
 unfold ql;exact qa (GA.deps t+1) λn c=>ref07SameN_refl n t (by omega)

theorem pathsSelect_is {t:List GA} (h:Small t) {p:List zc} (c:p.length<=maxLen):wI t p=some (if (treeB 0 t&&patB p)=true then (xU (matchB p) [] t,0) else ([],2)):=by
 unfold wI;rw [treeMay_is h,pathsMayPattern_is c,keptAll_is (matchB p) _ (λq=>by unfold qI;rw [pathsMatch_is c];rfl) h];cases treeB 0 t <;> cases patB p <;> rfl
theorem half_mid {lo hi:Nat} (h:lo < hi) (i:hi<=4611686018427387904):IntKind.wrap .i64 (Int.fdiv (IntKind.wrap .u64 (IntKind.wrap .i64 ((lo:Int)+(hi:Int)))) (2 ^ (min (1:Int).toNat (IntKind.bits .u64))))=(((lo+hi) / 2:Nat):Int):=by
 have c:IntKind.wrap .i64 ((lo:Int)+(hi:Int))=((lo+hi:Nat):Int):=by rw [wz (by omega)];omega
 have g:IntKind.wrap .u64 (((lo+hi:Nat):Int))=((lo+hi:Nat):Int):=by rw [IntKind.wrap_u64];omega
 have e:(2:Int) ^ (min (1:Int).toNat (IntKind.bits .u64))=2:=by decide
 rw [c,g,e,Int.fdiv_eq_ediv_of_nonneg _ (by decide)];have f:((lo+hi:Nat):Int) / 2=(((lo+hi) / 2:Nat):Int):=by omega
 rw [f,wz (by omega)]
theorem bs_loop {g:GA->zc->Option Int} {x:List GA} {s:zc} {c:Nat} (hx:x.length<=16777216) (u:∀i n,x[i]?=some n->∃v,g n s=some v/\(i < c->v < 0)/\(c<=i->0<=v)) :
  ∀(k lo hi:Nat),hi - lo<=k->lo<=c->c<=hi->hi<=x.length->yA (ρ:=Int×Bool) (λ(f:Int×Int)=>((if (decide (f.1 < f.2))=true then ((xQ x (IntKind.wrap .i64 ((Int.fdiv (IntKind.wrap .u64 ((IntKind.wrap .i64 (f.1+f.2)))) (2 ^ (min (1:Int).toNat (IntKind.bits .u64))))))).bind λy=>((g y s).bind λh=>(if (decide (h < (0:Int)))=true then some (.nxt ((IntKind.wrap .i64 ((IntKind.wrap .i64 ((Int.fdiv (IntKind.wrap .u64 ((IntKind.wrap .i64 (f.1+f.2)))) (2 ^ (min (1:Int).toNat (IntKind.bits .u64))))))+(1:Int))),f.2)) else some (.nxt (f.1,(IntKind.wrap .i64 ((Int.fdiv (IntKind.wrap .u64 ((IntKind.wrap .i64 (f.1+f.2)))) (2 ^ (min (1:Int).toNat (IntKind.bits .u64))))))))))) else some (.brk (f.1,f.2))):Option (Out _ (Int×Int)))) ((lo:Int),(hi:Int))=some (.inr ((c:Int),(c:Int))):=by
 intro k
 induction k with
 | zero =>
  intro lo hi t j o hh;obtain rfl:lo=hi:=by omega
  obtain rfl:lo=c:=by omega
  rw [wK];simp
 | succ k ih =>
  intro lo hi t j o hh;rw [wK];by_cases hlt:lo < hi
  ·have hd:decide ((lo:Int) < (hi:Int))=true:=tp (by omega);simp only [hd,ur,half_mid hlt (by omega)];have m:(lo+hi) / 2 < x.length:=by omega
   rw [qv m,ua];obtain ⟨v,z,p,w⟩:=u ((lo+hi) / 2) _ (uj m);rw [z,ua];by_cases hcm:(lo+hi) / 2 < c
   ·rw [tp (p hcm),uq rfl];simp only;have e:IntKind.wrap .i64 ((((lo+hi) / 2:Nat):Int)+1)=(((lo+hi) / 2+1:Nat):Int):=by rw [wz (by omega)];omega
    rw [e];exact ih _ _ (by omega) (by omega) o hh
   ·rw [uS (by have:=w (by omega);omega)];simp only [uo,uH];exact ih _ _ (by omega) j (by omega) (by omega)
  ·obtain rfl:lo=hi:=by omega
   obtain rfl:lo=c:=by omega
   simp
theorem bs_is {e:GA->zc->Option Int} {x:List GA} {s:zc} {c:Nat} (hx:x.length<=16777216) (g:c<=x.length) (f:∀i n,x[i]?=some n->∃v,e n s=some v/\(i < c->v < 0)/\(c<=i->0<=v)) :
  zA x s e=(if c < x.length then e (x.getD c default) s else some 1).bind λv=>some ((c:Int),(decide (c < x.length)&&(v==0))):=by
 unfold zA;have:=bs_loop hx f x.length 0 x.length (by omega) (tQ _) g (uh _);simp only [Int.natCast_zero] at this;rw [show ((0:Int),(x.length:Int))=(((0:Nat):Int),(x.length:Int)) from rfl] at *;rw [this];simp only [lp];by_cases h:c < x.length
 ·have hd:decide ((c:Int) < (x.length:Int))=true:=tp (by omega);simp only [hd,h,ur,uN,tB,rL,u9];rw [zj (by intro _;omega)]
 ·have hd:decide ((c:Int) < (x.length:Int))=false:=uS (by omega);simp only [hd,h,uH,decide_false,rE,ua];rw [zj (by intro hh;cases hh)];simp
theorem cmp_less {b:List UInt8}:Lib.compareBytes a b < 0 ↔ Op.bytesLess a b=true:=by
 induction a generalizing b with
 | nil=>cases b <;> simp [Lib.compareBytes,Op.bytesLess]
 | cons x a ih =>
  cases b with
  | nil=>simp [Lib.compareBytes,Op.bytesLess]
  | cons y b =>
   simp only [Lib.compareBytes,Op.bytesLess];by_cases h1:x < y
   ·simp [h1]
   ·by_cases h2:y < x
    ·have:¬ x=y:=by rintro rfl;exact h1 h2
     simp [h1,h2,this]
    ·have:x=y:=UInt8.le_antisymm (UInt8.not_lt.1 h2) (UInt8.not_lt.1 h1);simp [h1,h2,this,ih]
theorem cmp_self (a:List UInt8):Lib.compareBytes a a=0:=by
 induction a with
 | nil=>rfl
 | cons x a ih=>simp [Lib.compareBytes,ih]
theorem layC1_is (n:GA) (s:zc):wP n s=some (Lib.compareBytes n.name s):=rfl
theorem cloneLeaf_is {L:List GE} (h:L.length<=yY):wu L=some L:=clone_is h
theorem cloneNode_is {L:List GA} (h:L.length<=yY):xr L=some L:=clone_is h
theorem vw (h:n<=16777217):n<=yY:=uA h (by decide)
theorem own_is (h:LeafOk l):diffXown l=some l:=by
 unfold diffXown;rw [cloneItem_is (vw (sV h.items)),ua,cloneDot_is (vw (sV h.tombs)),ua]
def preR (a:List zc) (r:GH):GH:=⟨a++r.path,r.leaf⟩
theorem rows_pre:∀(t:List GA) (a b:List zc),zp (a++b) t=(zp b t).map (preR a):=by
 refine xY (λ_ _=>rfl) ?_;intro x r hx c a b;rw [ye,ye,u6,u6,<- ye,<- ye,c,tH];congr 1;rw [yz,yz,uy,hx,tH,sr];rfl
theorem rows_path:∀(t:List GA) (a:List zc) (r:GH),r ∈ zp a t->a.length < r.path.length/\r.path.length<=a.length+GA.deps t:=by
 refine xY (λ_ _ h=>by simp [zp] at h) ?_;intro x r hx e a q c;rw [ye,u6,uE,<- ye] at c;have g:x.dep<=GA.deps (x::r):=vp (by simp);have f:=xd x;have i:GA.deps r<=GA.deps (x::r):=by
  simp only [GA.deps];omega
 rcases c with c | c
 ·rw [yz,uE,th] at c;rcases c with ⟨l,_,rfl⟩ | c
  ·simp;omega
  ·have:=hx _ _ c;simp only [ue,ud,ug] at this;omega
 ·have:=e _ _ c;omega
theorem leaf_typ (h:leafB l=true):1<=l.typ/\l.typ<=4:=by
 unfold leafB at h;split at h
 ·omega
 split at h
 ·omega
 split at h
 ·omega
 split at h
 ·omega
 ·cases h
theorem leaves_up (h:leavesB ls=true):ls.Pairwise (λx y=>x.typ < y.typ)/\∀l ∈ ls,leafB l=true:=by
 unfold leavesB at h;rw [allI_iff] at h;have o:∀l ∈ ls,leafB l=true:=λl m=>by
  obtain ⟨i,hi⟩:=tj.1 m;have:=h i l hi;simp only [uf] at this;exact this.1
 refine ⟨?_,o⟩;have c:∀i,(hi:i+1 < ls.length)->ls[i].typ < ls[i+1].typ:=λi hi=>by
  have:=h (i+1) _ (uj hi);simp only [Nat.add_eq_zero_iff,rO,and_false,decide_false,tI,uf,ui,tX] at this;have e:ls.getD i default=ls[i]:=by simp [uF,uj (show i < ls.length by omega)]
  rw [e] at this;exact this.2
 rw [tA];intro i j hi g f;obtain ⟨k,rfl⟩:∃k,j=i+1+k:=⟨j - (i+1),by omega⟩
 clear f
 induction k with
 | zero=>exact c i g
 | succ k ih=>exact Int.lt_trans (ih (by omega)) (c (i+1+k) g)
theorem Small.tail {x:GA} {r:List GA} (h:Small (x::r)):Small r:=by
 refine ⟨(GA.wfs_iff r).2 λy c=>(GA.wfs_iff _).1 h.1 y (by simp [c]),?_⟩;have:=h.2;simp only [GA.bks] at this;omega
def pathLt (a b:List zc):Prop:=(∃y q,b=a++y::q) \/ ∃p x y a' b',a=p++x::a'/\b=p++y::b'/\Op.bytesLess x y=true
theorem less_irr:∀(a:List UInt8),Op.bytesLess a a=false
 | []=>rfl
 | x::a=>by simp [Op.bytesLess,less_irr a]
theorem less_ne {b:List UInt8} (h:Op.bytesLess a b=true):a ≠ b:=by
 rintro rfl;rw [less_irr] at h;cases h
theorem cmpS_self (x:zc):yo x x=some 0:=by
 unfold yo xp;simp [less_irr]
theorem cmpS_less {x y:zc} (h:Op.bytesLess x y=true):yo x y=some (-1):=by
 unfold yo xp;simp [h]
noncomputable def cmpF (s2:List zc):Nat->zc->Unit->Option (Out Int Unit):=λn x _=>if (decide ((n:Int) >= ((s2).length:Int)))=true then some (.ret (1:Int)) else ((xQ s2 (n:Int)).bind λy12=>((yo x y12).bind λv13=>(if (v13 != (0:Int))=true then some (.ret v13) else some (.nxt ()))))
theorem cmpP_eq (a b:List zc):yq a b=lp (zo (cmpF b) a 0 ()) λ_=>(if (decide (((a).length:Int) < ((b).length:Int)))=true then some (-1:Int) else some (0:Int)):=rfl
theorem cmp_pre {s2:List zc}:∀(p a:List zc) (q b:List zc),s2=q++(p++b)->zo (cmpF s2) (p++a) q.length ()=zo (cmpF s2) a (q.length+p.length) ()
 | [],a,q,b,_=>rfl
 | x::p,a,q,b,h=>by
  have c:q.length < s2.length:=by rw [h];simp
  have hx:xQ s2 (q.length:Int)=some x:=zD (by rw [h];simp);have e:cmpF s2 q.length x ()=some (.nxt ()):=by
   unfold cmpF;rw [uS (by omega)];simp only [uo,uH,hx,ua,cmpS_self,rG]
  simp only [te,zo,e];have:=cmp_pre (s2:=s2) p a (q++[x]) b (by rw [h];simp);rw [ue,rH] at this;rw [this];congr 1;simp only [ud];omega
theorem cmpP_lt {a b:List zc} (h:pathLt a b):yq a b=some (-1):=by
 rw [cmpP_eq];rcases h with ⟨y,q,rfl⟩ | ⟨p,x,y,a',c,rfl,rfl,h⟩
 ·have:=cmp_pre (s2:=a++y::q) a [] [] (y::q) rfl;rw [tw,ug] at this;rw [this];simp only [zo,wA];rw [uq (tp (by simp only [ue,ud];omega))]
 ·have:=cmp_pre (s2:=p++y::c) p (x::a') [] (y::c) rfl;rw [ug] at this;rw [this];have hx:xQ (p++y::c) ((0+p.length:Nat):Int)=some y:=zD (by simp);have e:cmpF (p++y::c) (0+p.length) x ()=some (.ret (-1)):=by
   unfold cmpF;rw [uS (by simp only [ue,ud];omega)];simp only [uo,uH,hx,ua,cmpS_less h];rfl
  simp only [zo,e,lp_inl]
theorem cmpP_self (a:List zc):yq a a=some 0:=by
 rw [cmpP_eq];have:=cmp_pre (s2:=a) a [] [] [] (by simp);rw [tw,ug] at this;rw [this];simp only [zo,wA];rw [uD (by simp)]
def rowLt (r q:GH):Prop:=pathLt r.path q.path \/ (r.path=q.path/\r.leaf.typ < q.leaf.typ)
def leaf0:GE:=GE.mk (0:Int) (0:Int) (0:Int) (GC.mk (GI.mk (0:Int) (0:Int)) (0:Int)) ([]:zc) ([]:List GF) ([]:List GC)
theorem qh {t:List GA} {a:List zc} (h:r ∈ zp a t):∃x ∈ t,∃w,r.path=a++x.name::w:=by
 rw [ye,List.mem_flatMap] at h;obtain ⟨x,hx,h⟩:=h;refine ⟨x,hx,?_⟩;rw [yz,uE,th] at h;rcases h with ⟨l,_,rfl⟩ | h
 ·exact ⟨[],rfl⟩
 ·have:=rows_pre x.subs (a++[x.name]) [];rw [tw] at this;rw [this,th] at h;obtain ⟨q,_,rfl⟩:=h;exact ⟨q.path,by simp [preR]⟩
theorem rows_lt:∀(t:List GA) (d:Nat) (a:List zc),upB t=true->xz d t=true->(zp a t).Pairwise rowLt:=by
 refine xY (λ_ _ _ _=>List.Pairwise.nil) ?_;intro x r hx C d a o u;rw [ye,u6,<- ye];rw [upB_iff,tn] at o;simp only [xz,uf] at u;obtain ⟨f,m⟩:=u;rw [qS] at f;simp only [uf] at f;obtain ⟨⟨⟨_,_⟩,c⟩,p⟩:=f;simp only [treeB,uf] at c;obtain ⟨j,_⟩:=leaves_up p;rw [tD];refine ⟨?_,C d a (upB_iff r |>.2 o.2) m,λq i E g=>?_⟩
 ·rw [yz,tD];refine ⟨?_,hx (d+1) _ c.1.2 c.2,λq i E g=>?_⟩
  ·rw [pb];exact j.imp λh=>.inr ⟨rfl,h⟩
  ·rw [th] at i;obtain ⟨l,_,rfl⟩:=i;obtain ⟨y,_,w,e⟩:=qh g;exact .inl (.inl ⟨y.name,w,e⟩)
 ·have v:∃w,q.path=a++x.name::w:=by
   have:q ∈ zp a [x]:=by rw [ye];simpa using i
   obtain ⟨z,s,w,e⟩:=qh this;simp only [uB] at s;subst s;exact ⟨w,e⟩
  obtain ⟨w,D⟩:=v;obtain ⟨y,B,w',A⟩:=qh g;exact .inl (.inr ⟨a,x.name,y.name,w,w',D,A,o.1 y B⟩)
structure RowOk' (r:GH):Prop where
 path:xu r.path=true
 leaf:leafB r.leaf=true
 ok:LeafOk r.leaf
theorem rows_ok:∀(t:List GA) (d:Nat) (a:List zc),Small t->treeB d t=true->a.length=d->a.all nameB=true->∀r ∈ zp a t,RowOk' r:=by
 have key:∀(t:List GA),(∀(d:Nat) (a:List zc),Small t->xz d t=true->d < 3->a.length=d->a.all nameB=true->∀r ∈ zp a t,RowOk' r):=by
  refine xY (λ_ _ _ _ _ _ _ _ h=>by simp [zp] at h) ?_;intro x r hx g d a hs w hd m o q c;rw [ye,u6,uE,<- ye] at c;simp only [xz,uf] at w;obtain ⟨f,s⟩:=w;rcases c with c | c
  ·rw [qS] at f;simp only [uf] at f;obtain ⟨⟨⟨u,_⟩,e⟩,v⟩:=f;have j:(a++[x.name]).all nameB=true:=by rw [tV,o];simpa using u
   rw [yz,uE,th] at c;rcases c with ⟨l,i,rfl⟩ | c
   ·refine ⟨?_,(leaves_up v).2 l i,hs.leaf (by simp) i⟩;simp only [xu,j,tO,ue,ud,ug,uf,ui];omega
   ·simp only [treeB,uf,uY,s8,ui] at e;rcases e.1.1 with h0 | h0
    ·rw [h0] at c;simp [zp] at c
    ·exact hx (d+1) _ (hs.subs (by simp)) e.2 h0 (by simp [m]) j q c
  ·exact g d a hs.tail s hd m o q c
 intro t d a hs p m o r g;simp only [treeB,uf,uY,s8,ui] at p;rcases p.1.1 with h0 | h0
 ·rw [h0] at g;simp [zp] at g
 ·exact key t d a hs p.2 h0 m o r g
theorem side0 (k:Int):x7 false leaf0 k=some true:=by
 unfold x7;simp only [tU,ur];have:=leafSame_is leaf0 leaf0;unfold leaf0 at this ⊢;rw [this];simp
theorem side1 (h:leafB l=true) (c:LeafOk l):x7 true l l.typ=some true:=by
 unfold x7;have e:leafMay l=some true:=by
  rw [leafMay_is (uA c.items (by decide)) (uA c.tombs (by decide)),h]
 simp [e]
theorem tree_nil (d:Nat):treeB d []=true:=by simp [treeB,xz,upB,allI]
theorem leafNew_tot (k:Int):∃v,vU k=some v:=by unfold vU;split <;> exact ⟨_,rfl⟩
theorem pathB_ne {p:List zc} (h:xu p=true):p ≠ []:=by
 rintro rfl
 simp [xu] at h
theorem loopW_inv {ρ:Type} {f:σ->Option (Out ρ σ)} (i g:σ->Prop) (j:σ->Nat) (h:∀s,i s->(∃c,f s=some (.brk c)/\g c) \/ ∃c,f s=some (.nxt c)/\i c/\j c < j s):∀(k:Nat) (s:σ),j s=k->i s->∃c,yA f s=some (.inr c)/\g c:=by
 intro k
 induction k using Nat.strongRecOn with
 | _ k ih =>
  intro s p hi;rw [wK];rcases h s hi with ⟨c,e,m⟩ | ⟨c,e,o,t⟩
  ·exact ⟨c,by rw [e],m⟩
  ·rw [e];exact ih (j c) (by omega) c rfl o
theorem idxF_is {q:GE->Bool} {del:GE->Option Bool}:∀(L:List GE) (n:Nat),(∀x ∈ L,del x=some (q x)) ->
  (zo (λ(f:Nat) (j:GE) (_:Unit)=>(((del j).bind λm=>(if m=true then some (.ret (f:Int)) else some (.nxt ()))):Option (Out Int Unit))) L n ()=some (.inr ())/\∀x ∈ L,q x=false) \/
  ∃A x B,L=A++x::B/\q x=true/\(∀y ∈ A,q y=false)/\zo (λ(f:Nat) (j:GE) (_:Unit)=>(((del j).bind λm=>(if m=true then some (.ret (f:Int)) else some (.nxt ()))):Option (Out Int Unit))) L n ()=some (.inl ((n+A.length:Nat):Int))
 | [],n,_=>.inl ⟨rfl,by simp⟩
 | x::r,n,h=>by
  have hx:=h x (by simp);cases hq:q x with
  | true=>exact .inr ⟨[],x,r,rfl,hq,by simp,by simp [zo,hx,hq]⟩
  | false =>
   rcases idxF_is r (n+1) (λy c=>h y (by simp [c])) with ⟨e,i⟩ | ⟨A,y,B,rfl,o,i,e⟩
   ·refine .inl ⟨by simp only [zo,hx,hq,ua];exact e,?_⟩;intro y c;rcases uw.1 c with rfl | c
    ·exact hq
    ·exact i y c
   ·refine .inr ⟨x::A,y,B,rfl,o,?_,?_⟩
    ·intro z g;rcases uw.1 g with rfl | g
     ·exact hq
     ·exact i z g
    ·simp only [zo,hx,hq,ua];rw [show n+(x::A).length=n+1+A.length by simp only [ud];omega];exact e
theorem wrap_a1 {a:Nat} (h:a<=16777216):IntKind.wrap .i64 ((a:Int)+1)=((a+1:Nat):Int):=wrap_add1 (uA (pk h) (by decide))
noncomputable def delF (del:GE->Option Bool) (n:Nat):Int×Int×(List GE)->Option (Out (List GE) (Int×Int×(List GE))):=λs1=>((zU ((s1.2.2).length=n) ((if (decide (s1.2.1 < ((n:Nat):Int)))=true then ((xQ s1.2.2 s1.2.1).bind λy14=>((del y14).bind λv15=>(if (!v15)=true then ((xQ s1.2.2 s1.1).bind λy17=>some (.nxt ((IntKind.wrap .i64 (s1.1+(1:Int))),(IntKind.wrap .i64 (s1.2.1+(1:Int))),(s1.2.2.set s1.1.toNat y14)))) else some (.nxt (s1.1,(IntKind.wrap .i64 (s1.2.1+(1:Int))),s1.2.2))))) else some (.brk (s1.1,s1.2.1,s1.2.2))))))
theorem delR_eq (e:List GE) (c:GE->Option Bool):yE e c=((zS e c).bind λg=>(if (g==(-1:Int))=true then some e else (lp (yA (delF c e.length) (g,(IntKind.wrap .i64 (g+(1:Int))),e)) λ(f:Int×Int×(List GE))=>(zU (0<=f.1/\f.1<=((e.length:Nat):Int)) (((slc (f.2.2.take f.1.toNat++List.replicate (e.length - f.1.toNat) zLf) (0:Int) f.1).bind λm19=>some m19)))))):=rfl
theorem delF_run (z:L0.length<=16777216) (h:∀x ∈ L0,del x=some (q x)) {a0 b0:Nat} (C:a0 < b0) (B:b0<=L0.length) (E:L0.take a0=(L0.take b0).filter λx=>!q x) :
  ∃o,yA (delF del L0.length) ((a0:Int),(b0:Int),L0)=some (.inr o)/\∃a:Nat,o.1=(a:Int)/\a < L0.length/\o.2.2.length=L0.length/\o.2.2.take a=L0.filter λx=>!q x:=by
 refine loopW_inv (f:=delF del L0.length) (λs=>∃a b:Nat,s.1=(a:Int)/\s.2.1=(b:Int)/\a < b/\b<=L0.length/\s.2.2.length=L0.length/\s.2.2.take a=(L0.take b).filter (λx=>!q x)/\s.2.2.drop b=L0.drop b)
  _ (λs=>L0.length - s.2.1.toNat) ?_ _ _ rfl ⟨a0,b0,rfl,rfl,C,B,rfl,E,rfl⟩
 rintro ⟨i,j,M⟩ ⟨a,b,w,A,F,y,m,t,p⟩
 simp only at w A m t p;subst w A;simp only [delF,zU,m,ur];by_cases hb:b < L0.length
 ·right;have D:M[b]?=L0[b]?:=by
   have:=congrArg (λl=>l[0]?) p;simpa [uK] using this
  have u:L0[b]?=some L0[b]:=uj hb;have hd:=h L0[b] (rJ hb);have g:xQ M (b:Int)=some L0[b]:=by simp [xQ,D]
  have c:xQ M (a:Int)=some (M[a]'(by omega)):=by simp [xQ]
  rw [uq (by simp;omega),g,ua,hd,ua];have e:L0.take (b+1)=L0.take b++[L0[b]]:=by rw [rB,u];rfl
  cases hq:q L0[b] with
  | true =>
   refine ⟨((a:Int),((b+1:Nat):Int),M),by simp [wrap_a1 (uA y z)],⟨a,b+1,rfl,rfl,by omega,by omega,m,?_,?_⟩,by simp;omega⟩
   ·rw [t,e,sa];simp [hq]
   ·have:=congrArg (λl=>l.drop 1) p;simpa [tL] using this
  | false =>
   refine ⟨(((a+1:Nat):Int),((b+1:Nat):Int),M.set a L0[b]),by simp [c,wrap_a1 (uA y z),wrap_a1 (show a<=16777216 by omega)],⟨a+1,b+1,rfl,rfl,by omega,by omega,by simpa using m,?_,?_⟩,by simp;omega⟩
   ·rw [rB,List.take_set_of_le (uh _),t,e,sa,uI (by omega)];simp [hq]
   ·have:=congrArg (λl=>l.drop 1) p;rw [List.drop_set_of_lt (by omega)];simpa [tL] using this
 ·left;have v:b=L0.length:=by omega
  rw [uD (by simp;omega)];exact ⟨_,rfl,a,rfl,by omega,m,by rw [t,v,sx]⟩
theorem deleteR_is (p:L0.length<=16777216) (h:∀x ∈ L0,del x=some (q x)):yE L0 del=some (L0.filter λx=>!q x):=by
 rw [delR_eq];unfold zS;rcases idxF_is L0 0 h with ⟨e,c⟩ | ⟨A,x,B,i,o,c,e⟩
 ·rw [e];simp only [lp,ua,tB,ur];rw [sn.2 (λx hx=>by rw [c x hx];rfl)]
 ·rw [e];have j:L0.length=A.length+1+B.length:=by rw [i];simp;omega
  simp only [lp,ua,uT];rw [uD (by simp <;> omega),wrap_a1 (by omega)];obtain ⟨f,t,a,g,v,u,m⟩:=delF_run p h (a0:=A.length) (b0:=A.length+1) (by omega) (by omega) (by
   rw [i,pu,tN,uL (by omega),show A.length+1 - A.length=1 by omega,sa];simp only [rf,List.take_zero,rK,o,List.filter_nil];rw [sn.2 (λy s=>by rw [c y s];rfl)];simp)
  rw [t];simp only [zU];rw [uq (by rw [g];omega),g];have hs:slc (f.2.2.take ((a:Int)).toNat++List.replicate (L0.length - ((a:Int)).toNat) zLf) (0:Int) (a:Int)=some (f.2.2.take a):=by
   unfold slc;rw [uq (by simp;omega)];simp only [uN,Int.toNat_zero,sA];rw [u2 (by simp;omega),pw,Nat.min_self]
  rw [hs,ua,m]

theorem less_tot:∀(a b:List UInt8),a=b \/ Op.bytesLess a b=true \/ Op.bytesLess b a=true
 | [],[]=>.inl rfl
 | [],_::_=>.inr (.inl rfl)
 | _::_,[]=>.inr (.inr rfl)
 | x::a,y::b=>by
  by_cases h:x=y
  ·subst h;rcases less_tot a b with rfl | h | h
   ·exact .inl rfl
   ·exact .inr (.inl (by simp [Op.bytesLess,h]))
   ·exact .inr (.inr (by simp [Op.bytesLess,h]))
  ·have h':x.toNat ≠ y.toNat:=λe=>h (UInt8.toNat_inj.1 e);rcases Nat.lt_or_gt_of_ne h' with h | h
   ·exact .inr (.inl (by simp [Op.bytesLess,sU,h]))
   ·exact .inr (.inr (by simp [Op.bytesLess,sU,h]))
def qQ:List zc->List zc->Bool
 | _,[]=>false
 | [],_::_=>true
 | x::a,y::b=>Op.bytesLess x y || (decide (x=y)&&qQ a b)
theorem plt_irr:∀a,qQ a a=false
 | []=>rfl
 | x::a=>by simp [qQ,less_irr,plt_irr a]
theorem plt_trans:∀{a b c:List zc},qQ a b=true->qQ b c=true->qQ a c=true
 | _,[],_,h,_=>by cases ‹List zc› <;> simp [qQ] at h
 | _,_::_,[],_,h=>by simp [qQ] at h
 | [],_::_,_::_,_,_=>rfl
 | x::a,y::b,z::c,f,e=>by
  simp only [qQ,uY,uf,ui] at *;rcases f with f | ⟨rfl,f⟩
  ·rcases e with e | ⟨rfl,e⟩
   ·exact .inl (qs f e)
   ·exact .inl f
  ·rcases e with e | ⟨rfl,e⟩
   ·exact .inl e
   ·exact .inr ⟨rfl,plt_trans f e⟩
theorem plt_tot:∀(a b:List zc),a=b \/ qQ a b=true \/ qQ b a=true
 | [],[]=>.inl rfl
 | [],_::_=>.inr (.inl rfl)
 | _::_,[]=>.inr (.inr rfl)
 | x::a,y::b=>by
  rcases less_tot x y with rfl | h | h
  ·rcases plt_tot a b with rfl | h | h
   ·exact .inl rfl
   ·exact .inr (.inl (by simp [qQ,h]))
   ·exact .inr (.inr (by simp [qQ,h]))
  ·exact .inr (.inl (by simp [qQ,h]))
  ·exact .inr (.inr (by simp [qQ,h]))
theorem plt_path:∀{a b:List zc},qQ a b=true->pathLt a b
 | _,[],h=>by cases ‹List zc› <;> simp [qQ] at h
 | [],y::b,_=>.inl ⟨y,b,rfl⟩
 | x::a,y::b,h=>by
  simp only [qQ,uY,uf,ui] at h;rcases h with h | ⟨rfl,h⟩
  ·exact .inr ⟨[],x,y,a,b,rfl,rfl,h⟩
  ·rcases plt_path h with ⟨z,q,rfl⟩ | ⟨p,u,v,a',c,rfl,rfl,e⟩
   ·exact .inl ⟨z,q,rfl⟩
   ·exact .inr ⟨x::p,u,v,a',c,rfl,rfl,e⟩
theorem path_plt {a b:List zc} (h:pathLt a b):qQ a b=true:=by
 rcases h with ⟨y,q,rfl⟩ | ⟨p,x,y,a',c,rfl,rfl,h⟩
 ·induction a with
  | nil=>rfl
  | cons x a ih=>simp [qQ,ih]
 ·induction p with
  | nil=>simp [qQ,h]
  | cons x a ih=>simp [qQ,ih]
theorem cmpS_gt {x y:zc} (h:Op.bytesLess y x=true):yo x y=some 1:=by
 have c:Op.bytesLess x y=false:=by
  cases e:Op.bytesLess x y
  ·rfl
  ·have:=qs h e;rw [less_irr] at this;cases this
 unfold yo xp;have f:¬ x=y:=λe=>less_ne h e.symm;simp [h,c,f]
theorem cmpP_gt {a b:List zc} (h:pathLt b a):yq a b=some 1:=by
 rw [cmpP_eq];rcases h with ⟨y,q,rfl⟩ | ⟨p,x,y,a',c,rfl,rfl,h⟩
 ·have:=cmp_pre (s2:=b) b (y::q) [] [] (by simp);rw [ug] at this;rw [this];have e:cmpF b (0+b.length) y ()=some (.ret 1):=by
   unfold cmpF;rw [uq (tp (by omega))]
  simp only [zo,e,lp_inl]
 ·have:=cmp_pre (s2:=p++x::a') p (y::c) [] (x::a') rfl;rw [ug] at this;rw [this];have hx:xQ (p++x::a') ((0+p.length:Nat):Int)=some x:=zD (by simp);have e:cmpF (p++x::a') (0+p.length) y ()=some (.ret 1):=by
   unfold cmpF;rw [uS (by simp only [ue,ud];omega)];simp only [uo,uH,hx,ua,cmpS_gt h];rfl
  simp only [zo,e,lp_inl]
def Key:=List zc×Int
def kltB (a b:Key):Bool:=qQ a.1 b.1 || (decide (a.1=b.1)&&decide (a.2 < b.2))
theorem klt_irr (a:Key):kltB a a=false:=by simp [kltB,plt_irr]
theorem klt_trans {a b c:Key} (f:kltB a b=true) (e:kltB b c=true):kltB a c=true:=by
 simp only [kltB,uY,uf,ui] at *;rcases f with f | ⟨h,f⟩
 ·rcases e with e | ⟨g,e⟩
  ·exact .inl (plt_trans f e)
  ·rw [g] at f;exact .inl f
 ·rcases e with e | ⟨g,e⟩
  ·rw [<- h] at e;exact .inl e
  ·exact .inr ⟨h.trans g,by omega⟩
def ekey (e:GJ):Key:=(e.path,e.typ)
def rkey (r:GH):Key:=(r.path,r.leaf.typ)
def ordI (a b:GJ):Int:=if kltB (ekey a) (ekey b)=true then -1 else if kltB (ekey b) (ekey a)=true then 1 else 0
theorem plt_asym {a b:List zc} (h:qQ a b=true):qQ b a=false:=by
 cases e:qQ b a
 ·rfl
 ·have:=plt_trans h e;rw [plt_irr] at this;cases this
theorem order_is (a b:GJ):qA a b=some (ordI a b):=by
 unfold qA ordI kltB ekey;rcases plt_tot a.path b.path with h | h | h
 ·simp only [h,cmpP_self,cmpU8is,ua,cmpOr2_is,plt_irr,tI,rL,u9,ui,or2,cmpI];simp
 ·have c:a.path ≠ b.path:=λe=>by rw [e,plt_irr] at h;cases h
  simp only [cmpP_lt (plt_path h),cmpU8is,ua,cmpOr2_is,h,or2];simp
 ·have c:a.path ≠ b.path:=λe=>by rw [e,plt_irr] at h;cases h
  simp only [cmpP_gt (plt_path h),cmpU8is,ua,cmpOr2_is,h,plt_asym h,or2];simp [c]
theorem ordI_lt {a b:GJ}:ordI a b < 0 ↔ kltB (ekey a) (ekey b)=true:=by
 unfold ordI;split
 ·rename_i h;simp [h]
 ·rename_i h;split
  ·simp [h]
  ·simp [h]
theorem sortO_lt {α:Type} {c:α->α->Option Int} {cf:α->α->Int} {lt:α->α->Prop} {L R:List α} (D:∀x ∈ L,∀y ∈ L,c x y=some (cf x y)) (u:∀x y,cf x y < 0 ↔ lt x y) (p:∀x,¬ lt x x) (w:∀x y z,lt x y->lt y z->lt x z)
  (o:∀x ∈ L,∀y ∈ L,x=y \/ lt x y \/ lt y x) (s:R.Perm L) (hs:R.Pairwise lt) (F:L.length<=yY):sortO c L=some R:=by
 unfold sortO;rw [uq (λx hx y f=>by rw [D x hx y f];rfl)];have hd:∀x ∈ L,∀y ∈ L,(c x y).getD 0 < 0 ↔ lt x y:=λx hx y f=>by rw [D x hx y f];exact u x y
 have i:∀x y,lt x y->¬ lt y x:=λx y j g=>p x (w _ _ _ j g);have C:R.Pairwise λa b=>¬ (c b a).getD 0 < 0:=by
  have:R.Pairwise λa b=>a ∈ L/\b ∈ L/\lt a b:=by
   refine List.Pairwise.imp_of_mem ?_ hs;intro a b B v h;exact ⟨s.subset B,s.subset v,h⟩
  refine this.imp ?_
  rintro a b ⟨B,v,h⟩ g
  exact i _ _ h ((hd b v a B).1 g)
 refine sortF_of ⟨λx hx h=>p x ((hd x hx x hx).1 h),λx y z hx f m j g=>(hd x hx z m).2 (w _ _ _ ((hd x hx y f).1 j) ((hd y f z m).1 g)),λx y z hx f m j g t=>?_⟩ F ⟨s,C⟩ ?_
 ·have t:=(hd x hx z m).1 t;rcases o x hx y f with rfl | h | h
  ·exact g ((hd _ f z m).2 t)
  ·exact j ((hd x hx y f).2 h)
  ·exact g ((hd y f z m).2 (w _ _ _ h t))
 ·rintro M ⟨A,E⟩
  refine sorted_one (A.trans s.symm) E C λx y hx f j g=>?_;have hx:=A.subset hx;have f:=A.subset f;rcases o x hx y f with e | h | h
  ·exact e
  ·exact (j ((hd x hx y f).2 h)).elim
  ·exact (g ((hd y f x hx).2 h)).elim
theorem cmp_pos:∀{a b:List UInt8},Op.bytesLess b a=true->0 < Lib.compareBytes a b
 | [],b,h=>by cases b <;> simp [Op.bytesLess] at h
 | _::_,[],_=>by simp [Lib.compareBytes]
 | x::a,y::b,h=>by
  simp only [Op.bytesLess,uY,uf,ui,sM] at h;rcases h with h | ⟨rfl,h⟩
  ·have h':y.toNat < x.toNat:=sU.1 h;have c:¬ x < y:=λe=>by have:=sU.1 e;omega
   simp [Lib.compareBytes,h,c]
  ·have:=cmp_pos h;simp [Lib.compareBytes,this]
def NLt (s:zc) (A:List GA):Prop:=∀y ∈ A,Op.bytesLess y.name s=true
def NGt (s:zc) (B:List GA):Prop:=∀y ∈ B,Op.bytesLess s y.name=true
theorem split_up {t:List GA} (s:zc) (h:upB t=true):(∃A B,t=A++B/\NLt s A/\NGt s B) \/ ∃A x B,t=A++x::B/\x.name=s/\NLt s A/\NGt s B:=by
 rw [upB_iff] at h
 induction t with
 | nil=>exact .inl ⟨[],[],rfl,λ_ h=>by simp at h,λ_ h=>by simp at h⟩
 | cons x t ih =>
  obtain ⟨i,j⟩:=tn.1 h;rcases less_tot x.name s with e | e | e
  ·exact .inr ⟨[],x,t,rfl,e,λ_ h=>by simp at h,λy c=>by rw [<- e];exact i y c⟩
  ·rcases ih j with ⟨A,B,rfl,f,g⟩ | ⟨A,z,B,rfl,m,f,g⟩
   ·refine .inl ⟨x::A,B,rfl,λy c=>?_,g⟩;rcases uw.1 c with rfl | c
    ·exact e
    ·exact f y c
   ·refine .inr ⟨x::A,z,B,rfl,m,λy c=>?_,g⟩;rcases uw.1 c with rfl | c
    ·exact e
    ·exact f y c
  ·refine .inl ⟨[],x::t,rfl,λ_ h=>by simp at h,λy c=>?_⟩;rcases uw.1 c with rfl | c
   ·exact e
   ·exact qs e (i y c)
theorem bs_none {A B:List GA} {s:zc} (hx:(A++B).length<=16777216) (j:NLt s A) (g:NGt s B):zA (A++B) s (λh p=>wP h p)=some ((A.length:Int),false):=by
 rw [bs_is (c:=A.length) hx (by simp) λi m hi=>⟨_,layC1_is m s,λf=>by
   rw [up f] at hi;exact cmp_less.2 (j m (uC hi)),λf=>by
   rw [un f] at hi;exact Int.le_of_lt (cmp_pos (g m (uC hi)))⟩]
 cases B with
 | nil=>simp
 | cons y B =>
  have e:(A++y::B).getD A.length default=y:=by simp
  have:=cmp_pos (g y (by simp));rw [uq (by simp),e,layC1_is];have o:(Lib.compareBytes y.name s==0)=false:=by simp;omega
  simp [o]
theorem bs_some {A B:List GA} {x:GA} {s:zc} (hx:(A++x::B).length<=16777216) (hs:x.name=s) (j:NLt s A) (p:NGt s B):zA (A++x::B) s (λg o=>wP g o)=some ((A.length:Int),true):=by
 subst hs;rw [bs_is (c:=A.length) hx (by simp) λi m hi=>⟨_,layC1_is m x.name,λf=>by
   rw [up f] at hi;exact cmp_less.2 (j m (uC hi)),λf=>by
   rw [un f] at hi;rcases uw.1 (uC hi) with rfl | h
   ·rw [cmp_self];exact pc _
   ·exact Int.le_of_lt (cmp_pos (p m h))⟩]
 have e:(A++x::B).getD A.length default=x:=by simp
 rw [uq (by simp),e,layC1_is,cmp_self];simp
noncomputable def layIn (n:Nat) (path1:List zc) (kind2:Int) (l3:GE) (there4:Bool) (s1:zc×(List GE)×(List GA)):Option (List GA ⊕ ((List GE)×(List GA))):=((if (decide (((path1).length:Int) > (1:Int)))=true then ((slc path1 (1:Int) ((path1).length:Int)).bind λm20=>((wZ n s1.2.2 m20 kind2 l3 there4).bind λv21=>some (.inr (s1.2.1,v21)))) else ((wu s1.2.1).bind λv22=>((yE v22 (λx0=>diffXlayC2 x0 kind2)).bind λv23=>(if there4=true then ((diffXown l3).bind λv25=>(zU ((v23).length+(([v25]:List GE)).length<=yY) (((sortO (λx y=>qB x y) (v23++([v25]:List GE))).bind λv27=>some (.inr (v27,s1.2.2)))))) else some (.inr (v23,s1.2.2)))))):Option (_ ⊕ ((List GE)×(List GA))))
noncomputable def layRest (t0:List GA) (i:Int) (f:Bool) (nm:zc) (s2:(List GE)×(List GA)):Option (List GA):=((slc t0 (0:Int) i).bind λm28=>((xr m28).bind λv29=>(if (decide ((IntKind.wrap .i64 (((s2.1).length:Int)+((s2.2).length:Int))) > (0:Int)))=true then (zU ((v29).length+(([(GA.mk nm s2.1 s2.2)]:List GA)).length<=yY) ((if f=true then ((slc t0 (IntKind.wrap .i64 (i+(1:Int))) ((t0).length:Int)).bind λm35=>(zU (((v29++([(GA.mk nm s2.1 s2.2)]:List GA))).length+(m35).length<=yY) (some ((v29++([(GA.mk nm s2.1 s2.2)]:List GA))++m35)))) else ((slc t0 i ((t0).length:Int)).bind λm37=>(zU (((v29++([(GA.mk nm s2.1 s2.2)]:List GA))).length+(m37).length<=yY) (some ((v29++([(GA.mk nm s2.1 s2.2)]:List GA))++m37))))))) else (if f=true then ((slc t0 (IntKind.wrap .i64 (i+(1:Int))) ((t0).length:Int)).bind λm40=>(zU ((v29).length+(m40).length<=yY) (some (v29++m40)))) else ((slc t0 i ((t0).length:Int)).bind λm42=>(zU ((v29).length+(m42).length<=yY) (some (v29++m42))))))))
theorem layN_eq (n:Nat) (t0:List GA) (c:List zc) (f:Int) (i:GE) (e:Bool):wZ (n+1) t0 c f i e=((xQ c (0:Int)).bind λp=>((zA t0 p (λj o=>wP j o)).bind λv2=>((xQ c (0:Int)).bind λm=>(lp ((if v2.2=true then ((xQ t0 v2.1).bind λg=>some (.inr (g.name,g.leaves,g.subs))) else some (.inr (m,([]:List GE),([]:List GA)))):Option (_ ⊕ (zc×(List GE)×(List GA)))) λ(h:zc×(List GE)×(List GA))=>(lp (layIn n c f i e h) λ(s2:(List GE)×(List GA))=>layRest t0 v2.1 v2.2 h.1 s2))))):=rfl
def layLs (k:Int) (l:GE) (there:Bool) (ls:List GE):List GE:=if there=true then ls.filter (λx=>decide (x.typ < k))++[l]++ls.filter (λx=>decide (k < x.typ)) else ls.filter (λx=>!decide (x.typ=k))
theorem ups_inj (h:ls.Pairwise λx y=>x.typ < y.typ) {x y:GE} (hx:x ∈ ls) (m:y ∈ ls) (e:x.typ=y.typ):x=y:=by
 induction ls with
 | nil=>simp at hx
 | cons z r ih =>
  obtain ⟨j,o⟩:=tn.1 h;rcases uw.1 hx with g | c <;> rcases uw.1 m with i | f
  ·rw [g,i]
  ·have:=j y f;rw [<- g] at this;omega
  ·have:=j x c;rw [<- i] at this;omega
  ·exact ih o c f
theorem layLs_up (e:there=true->l.typ=k) (h:ls.Pairwise λx y=>x.typ < y.typ):(layLs k l there ls).Pairwise λx y=>x.typ < y.typ:=by
 unfold layLs;split
 ·rename_i f;have e:=e f;rw [tD,tD];refine ⟨⟨h.filter _,by simp,λx hx y c=>?_⟩,h.filter _,λx hx y c=>?_⟩
  ·have hx:=(tm.1 hx).2;simp at hx c;subst c;omega
  ·have c:=(tm.1 c).2;simp at c;rcases uE.1 hx with hx | hx
   ·have hx:=(tm.1 hx).2;simp at hx;omega
   ·simp at hx;subst hx;omega
 ·exact h.filter _
theorem sortLs_is (g:l.typ=k) (j:ls.length<=16777216) (h:ls.Pairwise λx y=>x.typ < y.typ):sortO (λx y=>qB x y) (ls.filter (λx=>!decide (x.typ=k))++[l])=some (layLs k l true ls):=by
 have i:=sD (λx:GE=>!decide (x.typ=k)) ls;refine sortO_lt (α:=GE) (cf:=λx y=>cmpI x.typ y.typ) (lt:=λx y=>x.typ < y.typ) (λx _ y _=>by unfold qB;rw [cmpU8is];rfl) (λx y=>by unfold cmpI;split <;> (try split) <;> omega) (λx h=>by omega) (λx y z f m=>by omega) ?_ ?_ (layLs_up (λ_=>g) h) (vw (by simp;omega))
 ·intro x hx y c;rcases Int.lt_trichotomy x.typ y.typ with e | e | e
  ·exact .inr (.inl e)
  ·left;rcases uE.1 hx with hx | hx <;> rcases uE.1 c with c | c
   ·exact ups_inj h (tm.1 hx).1 (tm.1 c).1 e
   ·have hx:=(tm.1 hx).2;simp at hx c;subst c;omega
   ·have c:=(tm.1 c).2;simp at hx c;subst hx;omega
   ·simp at hx c;rw [hx,c]
  ·exact .inr (.inr e)
 ·unfold layLs;rw [uq rfl];have f:(ls.filter (λx=>decide (x.typ < k))++ls.filter (λx=>decide (k < x.typ))).Perm (ls.filter λx=>!decide (x.typ=k)):=by
   have:=pn (λx:GE=>decide (x.typ < k)) (ls.filter λx=>!decide (x.typ=k));rw [r5,r5] at this;refine List.Perm.trans (.of_eq ?_) this;congr 1 <;> refine List.filter_congr λx _=>?_ <;> rw [uz] <;> simp <;> omega
  rw [uy];refine List.Perm.trans (List.Perm.append_left _ List.perm_append_comm) ?_;rw [<- uy];exact f.append_right _
theorem layIn_leaf {s:zc} {nm:zc} {e:List GA} (f:there=true->l.typ=k/\LeafOk l) (c:ls.length<=16777216) (h:ls.Pairwise λx y=>x.typ < y.typ) :
  layIn n [s] k l there (nm,ls,e)=some (.inr (layLs k l there ls,e)):=by
 unfold layIn;have g:decide (((([s]:List zc).length:Int)) > 1)=false:=rfl;have m:=sD (λx:GE=>!decide (x.typ=k)) ls;simp only [g,uo,uH];rw [cloneLeaf_is (vw (by omega)),ua,deleteR_is (q:=λx=>decide (x.typ=k)) c (λx _=>by unfold diffXlayC2;rfl),ua];cases there with
 | false=>simp [layLs]
 | true =>
  obtain ⟨j,i⟩:=f rfl;simp only [ur];rw [own_is i,ua,zj (vw (by simp;omega)),sortLs_is j c h,ua]
theorem layIn_sub {s a:zc} {r:List zc} {nm:zc} {e c:List GA} (i:(s::a::r).length<=16777216) (h:wZ n e (a::r) k l there=some c):layIn n (s::a::r) k l there (nm,ls,e)=some (.inr (ls,c)):=by
 unfold layIn;have f:decide ((((s::a::r).length:Int)) > 1)=true:=tp (by simp only [ud];omega);simp only [f,ur];rw [slc_at ⟨by omega,by simp only [ud];omega,pc _⟩,ua];have g:((s::a::r).take (((s::a::r).length:Int)).toNat).drop (1:Int).toNat=a::r:=by rw [uN,sx];rfl
 rw [g,h,ua]
def fitN (nm:zc) (ls:List GE) (sb:List GA):List GA:=if ls.length+sb.length=0 then [] else [⟨nm,ls,sb⟩]
theorem layRest_is {A B:List GA} {m:List GA} {nm:zc} {g:List GA} {f:Bool} (j:m.length=if f=true then 1 else 0) (t:(A++m++B).length<=16777216) (v:ls.length<=16777216) (u:g.length<=16777217) :
  layRest (A++m++B) (A.length:Int) f nm (ls,g)=some (A++fitN nm ls g++B):=by
 simp only [ue] at t;unfold layRest;rw [slc_at ⟨pc _,by omega,by simp;omega⟩,ua];have s:((A++m++B).take ((A.length:Int)).toNat).drop (0:Int).toNat=A:=by simp
 rw [s,cloneNode_is (vw (by omega)),ua];have o:∀(c:List GA),c.length<=A.length+1->((if f=true then ((slc (A++m++B) (IntKind.wrap .i64 ((A.length:Int)+(1:Int))) ((A++m++B).length:Int)).bind λi=>(zU (c.length+(i).length<=yY) (some (c++i)))) else ((slc (A++m++B) (A.length:Int) ((A++m++B).length:Int)).bind λh=>(zU (c.length+(h).length<=yY) (some (c++h))))):Option (List GA))=some (c++B):=by
  intro c w;cases f with
  | true =>
   simp only [ur] at j ⊢;rw [wz (by omega),slc_at ⟨by omega,by simp;omega,pc _⟩,ua];have e:((A++m++B).take (((A++m++B).length:Int)).toNat).drop ((A.length:Int)+1).toNat=B:=by
    rw [uN,sx,show ((A.length:Int)+1).toNat=(A++m).length by simp;omega,ry]
   rw [e,zj (vw (by omega))]
  | false =>
   simp only [uo,uH] at j ⊢;obtain rfl:=uO j;rw [slc_at ⟨by omega,by simp;omega,pc _⟩,ua];have e:((A++[]++B).take (((A++[]++B).length:Int)).toNat).drop ((A.length:Int)).toNat=B:=by
    simp only [uN];rw [sx,tw,ry]
   rw [e,zj (vw (by omega))]
 unfold fitN;have p:IntKind.wrap .i64 ((ls.length:Int)+(g.length:Int))=(ls.length:Int)+(g.length:Int):=wz (by omega);simp only [p];by_cases h0:ls.length+g.length=0
 ·rw [uq h0,uD (by simp;omega),tw];exact o A (by omega)
 ·rw [uD h0,uq (by simp;omega),zj (vw (by simp;omega))];exact o (A++[⟨nm,ls,g⟩]) (by simp)

theorem leaves_of (h:ls.Pairwise λx y=>x.typ < y.typ) (e:∀l ∈ ls,leafB l=true):leavesB ls=true:=by
 unfold leavesB;rw [allI_iff];intro i x hx;have c:=e x (uC hx);simp only [c,u9];rcases i with _ | i
 ·rfl
 ·obtain ⟨hi,rfl⟩:=uc.1 hx;have:=tA.1 h i (i+1) (by omega) hi (by omega);simp only [tX,uY,ui];right;rw [uF,uj (by omega:i < ls.length)];exact this
theorem qi (a:List zc) (A B:List GA):zp a (A++B)=zp a A++zp a B:=by rw [ye,ye,ye,rg]
theorem rowsN_mem {a:List zc} {x:GA}:r ∈ qd a x ↔ (∃l ∈ x.leaves,r=⟨a++[x.name],l⟩) \/ r ∈ zp (a++[x.name]) x.subs:=by
 rw [yz,uE,th];constructor
 ·rintro (⟨l,c,rfl⟩ | h)
  ·exact .inl ⟨l,c,rfl⟩
  ·exact .inr h
 ·rintro (⟨l,c,rfl⟩ | h)
  ·exact .inl ⟨l,c,rfl⟩
  ·exact .inr h
theorem rows_one {a:List zc} {x:GA}:zp a [x]=qd a x:=by simp [zp]
theorem fit_mem {a:List zc} {nm:zc} {c:List GA}:r ∈ zp a (fitN nm ls c) ↔ (∃l ∈ ls,r=⟨a++[nm],l⟩) \/ r ∈ zp (a++[nm]) c:=by
 unfold fitN;split
 ·rename_i h;have f:ls=[]:=uO (by omega);have e:c=[]:=uO (by omega);subst f e;simp [zp]
 ·rw [rows_one,rowsN_mem]
theorem len_rows (t:List GA) (a b:List zc):(zp a t).length=(zp b t).length:=by
 have e:=rows_pre t a [];have c:=rows_pre t b [];rw [tw] at e c;rw [e,c,ux,ux]
theorem node_row:∀(t:List GA) (d:Nat),xz d t=true->t.length<=(zp [] t).length:=by
 refine xY (λ_ _=>tQ _) ?_;intro x r hx g d e;simp only [xz,uf] at e;have i:=g d e.2;have c:=e.1;rw [qS] at c;simp only [uf,treeB,sg,sS] at c;have f:=hx (d+1) c.1.2.2;rw [show x::r=[x]++r from rfl,qi,rows_one,yz];simp only [ue,ux,ud,ug];rw [len_rows x.subs ([]++[x.name]) []];rcases c.1.1.2 with h | h
 ·cases hl:x.leaves with
  | nil=>rw [hl] at h;cases h
  | cons l ls=>simp only [ud];omega
 ·cases hl:x.subs with
  | nil=>rw [hl] at h;cases h
  | cons l ls=>rw [hl] at f;simp only [ud] at f;omega
theorem mem_rows_len {t:List GA} {x:GA} (hx:x ∈ t):x.leaves.length+(zp [] x.subs).length<=(zp [] t).length:=by
 obtain ⟨A,B,rfl⟩:=List.append_of_mem hx;rw [qi,show x::B=[x]++B from rfl,qi,rows_one,yz];simp only [ue,ux];rw [len_rows x.subs ([]++[x.name]) []];omega
theorem yp {t:List GA} (h:treeB d t=true):upB t=true/\∀x ∈ t,nodeB d x=true:=by
 simp only [treeB,uf,yG,uu] at h;exact ⟨h.1.2,h.2⟩
theorem treeB_of {t:List GA} (hd:d < 3) (e:upB t=true) (c:∀x ∈ t,nodeB d x=true):treeB d t=true:=by
 simp only [treeB,uf,yG,uu,e,hd,rL,pq,px];exact c
theorem wJ {x:GA} (h:nodeB d x=true):nameB x.name=true/\treeB (d+1) x.subs=true/\leavesB x.leaves=true:=by
 rw [qS] at h;simp only [uf] at h;exact ⟨h.1.1.1,h.1.2,h.2⟩
theorem find_node {t:List GA} (s:zc) (h:treeB d t=true) (v:(zp [] t).length<=16777215):∃A m B f ls g,t=A++m++B/\NLt s A/\NGt s B/\m.length=(if f=true then 1 else 0)/\zA t s (λo w=>wP o w)=some ((A.length:Int),f) /\
  ((if f=true then ((xQ t (A.length:Int)).bind λi=>some (.inr (i.name,i.leaves,i.subs))) else some (.inr (s,([]:List GE),([]:List GA)))):Option (List GA ⊕ (zc×(List GE)×(List GA))))=some (.inr (s,ls,g))/\treeB (d+1) g=true/\leavesB ls=true /\
  ls.length+(zp [] g).length<=(zp [] t).length/\∀a r,r ∈ zp a m ↔ (∃l ∈ ls,r=⟨a++[s],l⟩) \/ r ∈ zp (a++[s]) g:=by
 obtain ⟨u,j⟩:=yp h;have z:t.length<=16777215:=uA (node_row t d (by rw [yG];exact uu.2 j)) v;rcases split_up s u with ⟨A,B,rfl,e,c⟩ | ⟨A,x,B,rfl,hx,e,c⟩
 ·refine ⟨A,[],B,false,[],[],by simp,e,c,rfl,bs_none (by omega) e c,rfl,tree_nil _,rfl,by simp [zp],λa r=>by simp [zp]⟩
 ·obtain ⟨C,y,p⟩:=wJ (j x (by simp));refine ⟨A,[x],B,true,x.leaves,x.subs,by simp,e,c,rfl,bs_some (by omega) hx e c,?_,y,p,mem_rows_len (by simp),λa r=>?_⟩
  ·rw [uq rfl,zD (x:=x) (by simp),ua,hx]
  ·rw [rows_one,rowsN_mem,hx]
theorem rows_off {s:zc} {A:List GA} (h:∀y ∈ A,y.name ≠ s) {a q:List zc} {r:GH} (f:r ∈ zp a A):r.path ≠ a++s::q:=by
 obtain ⟨x,hx,w,e⟩:=qh f;rw [e];intro g;have:=rx g;injection this with c _;exact h x hx c
theorem NLt.ne {s:zc} {A:List GA} (h:NLt s A):∀y ∈ A,y.name ≠ s:=λy c=>less_ne (h y c)
theorem NGt.ne {s:zc} {A:List GA} (h:NGt s A):∀y ∈ A,y.name ≠ s:=λy c=>(less_ne (h y c)).symm
theorem lay_fin {A m B:List GA} {s:zc} {e:List GA} (hd:d < 3) (h:treeB d (A++m++B)=true) (j:NLt s A) (i:NGt s B) (hs:nameB s=true) (p:leavesB ls=true) (o:treeB (d+1) e=true):treeB d (A++fitN s ls e++B)=true:=by
 obtain ⟨u,n⟩:=yp h;rw [upB_iff,tD,tD] at u;have f:∀x ∈ A,∀y ∈ B,Op.bytesLess x.name y.name=true:=λx hx y c=>qs (j x hx) (i y c);have g:∀x ∈ fitN s ls e,x=⟨s,ls,e⟩/\¬ ls.length+e.length=0:=λx hx=>by
  unfold fitN at hx;split at hx
  ·simp at hx
  ·rename_i h0;simp at hx;exact ⟨hx,h0⟩
 refine treeB_of hd ?_ ?_
 ·rw [upB_iff,tD,tD];refine ⟨⟨u.1.1,?_,λx hx y c=>by rw [(g y c).1];exact j x hx⟩,u.2.1,λx hx y c=>?_⟩
  ·unfold fitN;split <;> simp
  ·rcases uE.1 hx with hx | hx
   ·exact f x hx y c
   ·rw [(g x hx).1];exact i y c
 ·intro x hx;rcases uE.1 hx with hx | hx
  ·rcases uE.1 hx with hx | hx
   ·exact n x (by simp [hx])
   ·obtain ⟨rfl,h0⟩:=g x hx;rw [qS];simp only [hs,p,o,tO,u9,sg,sS];cases ls with
    | cons _ _=>exact .inl rfl
    | nil=>cases e with
     | cons _ _=>exact .inr rfl
     | nil=>simp at h0
  ·exact n x (by simp [hx])
theorem fit_len (s:zc) (ls:List GE) (c:List GA):(fitN s ls c).length<=1:=by unfold fitN;split <;> simp
theorem layLs_mem {x:GE}:x ∈ layLs k l there ls ↔ (x ∈ ls/\x.typ ≠ k) \/ (there=true/\x=l):=by
 unfold layLs;cases there with
 | false=>simp
 | true =>
  simp only [ur,uE,tm,uB,ui,px];constructor
  ·rintro ((⟨h,c⟩ | h) | ⟨h,c⟩)
   ·exact .inl ⟨h,by omega⟩
   ·exact .inr h
   ·exact .inl ⟨h,by omega⟩
  ·rintro (⟨h,c⟩ | h)
   ·rcases Int.lt_or_gt_of_ne c with e | e
    ·exact .inl (.inl ⟨h,e⟩)
    ·exact .inr ⟨h,e⟩
   ·exact .inl (.inr h)
theorem lay_is {k:Int} {l:GE} {there:Bool} (y:there=true->l.typ=k/\leafB l=true/\LeafOk l):∀(p:List zc) (t:List GA) (d n:Nat),p ≠ []->p.all nameB=true->d+p.length<=3->treeB d t=true->(zp [] t).length<=16777215->p.length < n ->
  ∃t',wZ n t p k l there=some t'/\treeB d t'=true/\t'.length<=t.length+1/\∀a r,r ∈ zp a t' ↔ (r ∈ zp a t/\rkey r ≠ (a++p,k)) \/ (there=true/\r=⟨a++p,l⟩)
 | [],_,_,_,h,_,_,_,_,_=>absurd rfl h
 | _::_,_,_,0,_,_,_,_,_,h=>by omega
 | s::q,t,d,n+1,_,hp,hd,ht,hw,hn=>by
  simp only [uX,uf,ud] at hp hd hn;obtain ⟨A,m,B,f,ls,C,rfl,F,E,P,I,J,o,D,O,u⟩:=find_node s ht hw;have H:xQ (s::q) (0:Int)=some s:=rfl;obtain ⟨z,N⟩:=leaves_up D;have U:(A++m++B).length<=16777215:=uA (node_row _ d (by rw [yG];exact uu.2 (yp ht).2)) hw;have T:=λi g=>fit_len s i g;have j:∀i g,(A++fitN s i g++B).length<=(A++m++B).length+1:=λi g=>by
   have:=fit_len s i g;simp only [ue];omega
  rw [layN_eq,H,ua,I,ua,ua];simp only [];rw [J,wA];cases q with
  | nil =>
   rw [layIn_leaf (λh=>⟨(y h).1,(y h).2.2⟩) (by omega) z,wA,layRest_is P (by omega) (by
    have:(layLs k l there ls).length<=ls.length+1:=by
     unfold layLs;split
     ·have w:=pn (λx:GE=>decide (x.typ < k)) ls;have v:=w.length_eq;have h3:(ls.filter λx=>decide (k < x.typ)).length<=(ls.filter λx=>!decide (x.typ < k)).length:=by
       have:(ls.filter λx=>decide (k < x.typ))=(ls.filter λx=>!decide (x.typ < k)).filter (λx=>decide (k < x.typ)):=by
        rw [r5];refine List.filter_congr λx _=>?_;rw [uz];simp;omega
       rw [this];exact sD _ _
      simp only [ue,ud,ug] at v ⊢;omega
     ·exact sV (sD _ _)
    omega) (by have:=node_row C (d+1) (by rw [yG];exact uu.2 (yp o).2);omega)]
   refine ⟨_,rfl,lay_fin (by omega) ht F E hp.1 (leaves_of (layLs_up (λh=>(y h).1) z) λx hx=>?_) o,j _ _,λa r=>?_⟩
   ·rcases layLs_mem.1 hx with h | ⟨h,rfl⟩
    ·exact N x h.1
    ·exact (y h).2.1
   ·simp only [qi,uE,fit_mem,u];have G:r ∈ zp a A->rkey r ≠ (a++[s],k):=λh e=>rows_off F.ne h (congrArg Prod.fst e);have M:r ∈ zp a B->rkey r ≠ (a++[s],k):=λh e=>rows_off E.ne h (congrArg Prod.fst e);have K:r ∈ zp (a++[s]) C->rkey r ≠ (a++[s],k):=λh e=>by
     have:=(rows_path C _ r h).1;rw [show r.path=a++[s] from congrArg Prod.fst e] at this;omega
    constructor
    ·rintro ((h | ⟨x,hx,rfl⟩ | h) | h)
     ·exact .inl ⟨.inl (.inl h),G h⟩
     ·rcases layLs_mem.1 hx with ⟨w,v⟩ | ⟨w,rfl⟩
      ·exact .inl ⟨.inl (.inr (.inl ⟨x,w,rfl⟩)),λe=>v (congrArg Prod.snd e)⟩
      ·exact .inr ⟨w,rfl⟩
     ·exact .inl ⟨.inl (.inr (.inr h)),K h⟩
     ·exact .inl ⟨.inr h,M h⟩
    ·rintro (⟨(h | ⟨x,hx,rfl⟩ | h) | h,v⟩ | ⟨w,rfl⟩)
     ·exact .inl (.inl h)
     ·exact .inl (.inr (.inl ⟨x,layLs_mem.2 (.inl ⟨hx,λe=>v (by rw [<- e];rfl)⟩),rfl⟩))
     ·exact .inl (.inr (.inr h))
     ·exact .inr h
     ·exact .inl (.inr (.inl ⟨l,layLs_mem.2 (.inr ⟨w,rfl⟩),rfl⟩))
  | cons c q =>
   obtain ⟨g,V,R,e3,Y⟩:=lay_is y (c::q) C (d+1) n (by simp) hp.2 (by simp only [ud] at hd ⊢;omega) o (by omega) (by omega);have Q:=node_row C (d+1) (by rw [yG];exact uu.2 (yp o).2);rw [layIn_sub (by simp only [ud] at hd ⊢;omega) V,wA,layRest_is P (by omega) (by omega) (by omega)];refine ⟨_,rfl,lay_fin (by omega) ht F E hp.1 D R,j _ _,λa r=>?_⟩;simp only [qi,uE,fit_mem,u,Y];have Z:a++[s]++c::q=a++s::c::q:=by simp
   rw [Z];have G:r ∈ zp a A->rkey r ≠ (a++s::c::q,k):=λh e=>rows_off F.ne h (congrArg Prod.fst e);have M:r ∈ zp a B->rkey r ≠ (a++s::c::q,k):=λh e=>rows_off E.ne h (congrArg Prod.fst e);have K:∀x,r=⟨a++[s],x⟩->rkey r ≠ (a++s::c::q,k):=λx h e=>by
    rw [h] at e;have:=congrArg List.length (congrArg Prod.fst e);simp [rkey] at this
   constructor
   ·rintro ((h | ⟨x,hx,h⟩ | (h | h)) | h)
    ·exact .inl ⟨.inl (.inl h),G h⟩
    ·exact .inl ⟨.inl (.inr (.inl ⟨x,hx,h⟩)),K x h⟩
    ·exact .inl ⟨.inl (.inr (.inr h.1)),h.2⟩
    ·exact .inr h
    ·exact .inl ⟨.inr h,M h⟩
   ·rintro (⟨(h | ⟨x,hx,h⟩ | h) | h,v⟩ | h)
    ·exact .inl (.inl h)
    ·exact .inl (.inr (.inl ⟨x,hx,h⟩))
    ·exact .inl (.inr (.inr (.inl ⟨h,v⟩)))
    ·exact .inr h
    ·exact .inl (.inr (.inr (.inr h)))

theorem rowLt_iff {q:GH}:rowLt r q ↔ kltB (rkey r) (rkey q)=true:=by
 unfold rowLt kltB rkey;simp only [uY,uf,ui];constructor
 ·rintro (h | h)
  ·exact .inl (path_plt h)
  ·exact .inr h
 ·rintro (h | h)
  ·exact .inl (plt_path h)
  ·exact .inr h
theorem sorted_ext {α:Type} {lt:α->α->Prop} (c:∀x,¬ lt x x) (i:∀x y z,lt x y->lt y z->lt x z):∀{L M:List α},L.Pairwise lt->M.Pairwise lt->(∀x,x ∈ L ↔ x ∈ M)->L=M
 | [],[],_,_,_=>rfl
 | [],y::M,_,_,h=>by have:=(h y).2 (by simp);simp at this
 | x::L,[],_,_,h=>by have:=(h x).1 (by simp);simp at this
 | x::L,y::M,h1,h2,h=>by
  obtain ⟨m,a2⟩:=tn.1 h1;obtain ⟨j,p⟩:=tn.1 h2;have e:x=y:=by
   rcases uw.1 ((h x).1 (by simp)) with e | hx
   ·exact e
   ·rcases uw.1 ((h y).2 (by simp)) with e | o
    ·exact e.symm
    ·exact (c x (i _ _ _ (m y o) (j x hx))).elim
  subst e;rw [sorted_ext c i a2 p λz=>?_];constructor
  ·intro g;rcases uw.1 ((h z).1 (by simp [g])) with e | f
   ·subst e;exact (c _ (m _ g)).elim
   ·exact f
  ·intro g;rcases uw.1 ((h z).2 (by simp [g])) with e | f
   ·subst e;exact (c _ (j _ g)).elim
   ·exact f
theorem filter_app_left {α:Type} {P:α->Bool} {A B:List α} (e:∀x ∈ A,P x=true) (c:∀x ∈ B,P x=false):(A++B).filter P=A/\(A++B).filter (λx=>!P x)=B:=by
 rw [sa,sa,sn.2 e,rD.2 (λx hx=>by simp [c x hx]),rD.2 (λx hx=>by simp [e x hx]),sn.2 (λx hx=>by simp [c x hx])];simp
theorem app_split {α:Type} {P:α->Bool} {A B C D:List α} (h:A++B=C++D) (g:∀x ∈ A,P x=true) (e:∀x ∈ B,P x=false) (i:∀x ∈ C,P x=true) (f:∀x ∈ D,P x=false):A=C/\B=D:=by
 obtain ⟨a,b⟩:=filter_app_left g e;obtain ⟨c,d⟩:=filter_app_left i f;exact ⟨by rw [<- a,<- c,h],by rw [<- b,<- d,h]⟩
theorem rowsN_head {a:List zc} {x:GA} (h:r ∈ qd a x):∃w,r.path=a++x.name::w:=by
 rw [<- rows_one] at h;obtain ⟨y,c,w,e⟩:=qh h;simp only [uB] at c;subst c;exact ⟨w,e⟩
theorem rowsN_ne {x:GA} (h:nodeB d x=true) (a:List zc):∃r L,qd a x=r::L:=by
 have c:=node_row [x] d (by simp [xz,h]);rw [len_rows [x] [] a,rows_one] at c;cases e:qd a x with
 | nil=>rw [e] at c;simp at c
 | cons r L=>exact ⟨r,L,rfl⟩
def hasN (n:Nat) (s:zc) (r:GH):Bool:=decide ((r.path.drop n).head?=some s)
theorem hasN_is (a w:List zc) (s nm:zc) {r:GH} (h:r.path=a++nm::w):hasN a.length s r=decide (nm=s):=by
 unfold hasN;rw [h,ry];simp
theorem rows_inj:∀(t:List GA) (d:Nat) (a:List zc) (t':List GA),treeB d t=true->treeB d t'=true->zp a t=zp a t'->t=t':=by
 have key:∀(t:List GA) (d:Nat) (a:List zc) (t':List GA),(∀x ∈ t,nodeB d x=true)->upB t=true->(∀x ∈ t',nodeB d x=true)->upB t'=true->zp a t=zp a t'->t=t':=by
  refine xY ?_ ?_
  ·intro d a t' _ _ h _ e;cases t' with
   | nil=>rfl
   | cons y r =>
    obtain ⟨q,L,i⟩:=rowsN_ne (h y (by simp)) a;rw [zp,zp,i] at e;simp at e
  ·intro x r hx M d a t' u B C v e;cases t' with
   | nil =>
    obtain ⟨q,L,i⟩:=rowsN_ne (u x (by simp)) a;rw [zp,zp,i] at e;simp at e
   | cons y s =>
    rw [upB_iff,tn] at B v;have e:qd a x++zp a r=qd a y++zp a s:=e;have f:x.name=y.name:=by
     obtain ⟨q,L,i⟩:=rowsN_ne (u x (by simp)) a;obtain ⟨O,L',F⟩:=rowsN_ne (C y (by simp)) a;have G:=e;rw [i,F] at G;injection G with I _;subst I;obtain ⟨w,p⟩:=rowsN_head (a:=a) (x:=x) (r:=q) (by rw [i];simp);obtain ⟨w',m⟩:=rowsN_head (a:=a) (x:=y) (r:=q) (by rw [F];simp);rw [p] at m;have:=rx m;injection this
    obtain ⟨E,J⟩:=app_split (P:=hasN a.length x.name) e
     (λq c=>by obtain ⟨w,h⟩:=rowsN_head c;rw [hasN_is a w _ _ h];simp)
     (λq c=>by
      obtain ⟨z,g,w,h⟩:=qh c;rw [hasN_is a w _ _ h];exact uS (less_ne (B.1 z g)).symm)
     (λq c=>by obtain ⟨w,h⟩:=rowsN_head c;rw [hasN_is a w _ _ h,f];simp)
     (λq c=>by
      obtain ⟨z,g,w,h⟩:=qh c;rw [hasN_is a w _ _ h,f];exact uS (less_ne (v.1 z g)).symm)
    have N:=M d a s (λz g=>u z (by simp [g])) ((upB_iff r).2 B.2) (λz g=>C z (by simp [g])) ((upB_iff s).2 v.2) J;rw [yz,yz,<- f] at E;obtain ⟨K,A⟩:=app_split (P:=λq=>decide (q.path.length=a.length+1)) E
     (λq c=>by obtain ⟨l,_,rfl⟩:=th.1 c;simp)
     (λq c=>by have:=(rows_path _ _ q c).1;simp at this;exact uS (by omega))
     (λq c=>by obtain ⟨l,_,rfl⟩:=th.1 c;simp)
     (λq c=>by have:=(rows_path _ _ q c).1;simp at this;exact uS (by omega))
    have j:x.leaves=y.leaves:=by
     have:=congrArg (List.map (·.leaf)) K;simpa [sr,sj] using this
    obtain ⟨_,D,_⟩:=wJ (u x (by simp));obtain ⟨_,H,_⟩:=wJ (C y (by simp));have o:=hx (d+1) (a++[x.name]) y.subs (yp D).2 (yp D).1 (yp H).2 (yp H).1 A;cases x;cases y;simp only at f j o;rw [f,j,o,N]
 intro t d a t' p m e;exact key t d a t' (yp p).2 (yp p).1 (yp m).2 (yp m).1 e
theorem vG {t:List GA} (h:treeB d t=true) (a:List zc):(zp a t).Pairwise λr q=>kltB (rkey r) (rkey q)=true:=by
 have:=rows_lt t d a (yp h).1 (by rw [yG];exact uu.2 (yp h).2);exact this.imp λh=>rowLt_iff.1 h
theorem rows_ext {t t':List GA} (e:treeB 0 t=true) (c:treeB 0 t'=true) (h:∀r,r ∈ zp [] t ↔ r ∈ zp [] t'):t=t' :=
 rows_inj t 0 [] t' e c (sorted_ext (lt:=λr q=>kltB (rkey r) (rkey q)=true) (λx h=>by rw [klt_irr] at h;cases h) (λ_ _ _=>klt_trans) (vG e []) (vG c []) h)
theorem sorted_key {α:Type} {key:α->Key} {L:List α} (h:L.Pairwise λr q=>kltB (key r) (key q)=true) {x y:α} (hx:x ∈ L) (m:y ∈ L) (e:key x=key y):x=y:=by
 induction L with
 | nil=>simp at hx
 | cons z r ih =>
  obtain ⟨j,o⟩:=tn.1 h;rcases uw.1 hx with g | c <;> rcases uw.1 m with i | f
  ·rw [g,i]
  ·have:=j y f;rw [<- g,e,klt_irr] at this;cases this
  ·have:=j x c;rw [<- i,e,klt_irr] at this;cases this
  ·exact ih o c f

theorem first_is {α:Type} {q:α->Bool} {del:α->Option Bool}:∀(L:List α) (n:Nat),(∀x ∈ L,del x=some (q x)) ->
  (zo (λ(f:Nat) (j:α) (_:Unit)=>(((del j).bind λm=>(if m=true then some (.ret (f:Int)) else some (.nxt ()))):Option (Out Int Unit))) L n ()=some (.inr ())/\∀x ∈ L,q x=false) \/
  ∃A x B,L=A++x::B/\q x=true/\(∀y ∈ A,q y=false)/\zo (λ(f:Nat) (j:α) (_:Unit)=>(((del j).bind λm=>(if m=true then some (.ret (f:Int)) else some (.nxt ()))):Option (Out Int Unit))) L n ()=some (.inl ((n+A.length:Nat):Int))
 | [],n,_=>.inl ⟨rfl,by simp⟩
 | x::r,n,h=>by
  have hx:=h x (by simp);cases hq:q x with
  | true=>exact .inr ⟨[],x,r,rfl,hq,by simp,by simp [zo,hx,hq]⟩
  | false =>
   rcases first_is r (n+1) (λy c=>h y (by simp [c])) with ⟨e,i⟩ | ⟨A,y,B,rfl,o,i,e⟩
   ·refine .inl ⟨by simp only [zo,hx,hq,ua];exact e,?_⟩;intro y c;rcases uw.1 c with rfl | c
    ·exact hq
    ·exact i y c
   ·refine .inr ⟨x::A,y,B,rfl,o,?_,?_⟩
    ·intro z g;rcases uw.1 g with rfl | g
     ·exact hq
     ·exact i z g
    ·simp only [zo,hx,hq,ua];rw [show n+(x::A).length=n+1+A.length by simp only [ud];omega];exact e
def node0:GA:=GA.mk ([]:zc) ([]:List GE) ([]:List GA)
def nodeOf (t:List GA) (s:zc):Option GA:=t.find? λx=>x.name==s
theorem linear_is (t:List GA) (s:zc):vE t s=some (match nodeOf t s with | some x=>(x,true) | none=>(node0,false)):=by
 unfold vE xe;rcases first_is (q:=λx:GA=>x.name==s) (del:=λc=>qF c s) t 0 (λx _=>rfl) with ⟨e,h⟩ | ⟨A,x,B,rfl,i,g,e⟩
 ·rw [e];have:nodeOf t s=none:=rq.2 λx hx=>by rw [h x hx];simp
  rw [this];rfl
 ·rw [e];have:nodeOf (A++x::B) s=some x:=by
   unfold nodeOf;rw [List.find?_append,rq.2 (λy f=>by rw [g y f];simp),List.find?_cons,i];rfl
  rw [this];simp only [lp,ua,uT];rw [uD (by simp),zD (x:=x) (by simp)];rfl
def nodeAt:List GA->List zc->Option GA
 | _,[]=>none
 | t,[s]=>nodeOf t s
 | t,s::c::q=>(nodeOf t s).bind λx=>nodeAt x.subs (c::q)
noncomputable def tlF:Nat->zc->(List GA)×Bool×zc×(List GE)×(List GA)->Option (Out ((GE×Bool) ⊕ (Bool×zc×(List GE)×(List GA))) ((List GA)×Bool×zc×(List GE)×(List GA))):=(λ(_:Nat) (x2:zc) (s2:(List GA)×Bool×zc×(List GE)×(List GA))=>(((vE s2.1 x2).bind λv47=>(if (!v47.2)=true then some (.brk (s2.1,v47.2,v47.1.name,v47.1.leaves,v47.1.subs)) else some (.nxt (v47.1.subs,v47.2,v47.1.name,v47.1.leaves,v47.1.subs))))))
noncomputable def tlR (kind2:Int) (s1:Bool×zc×(List GE)×(List GA)):Option (GE×Bool):=((zS s1.2.2.1 (λx0=>treeLeafC1 x0 kind2)).bind λv49=>((if (((!s1.1) || (decide (v49 < (0:Int))))==false)=true then vU kind2 else some default).bind λv50=>(if (((!s1.1) || (decide (v49 < (0:Int)))) || (v50.typ==(0:Int)))=true then ((vU kind2).bind λv52=>some (v52,false)) else ((xQ s1.2.2.1 v49).bind λy53=>((xj y53.items).bind λv54=>((xF y53.tombs).bind λv55=>some ((GE.mk y53.typ y53.n y53.time y53.dot y53.text v54 v55),true)))))))
theorem tl_eq (t0:List GA) (c:List zc) (e:Int):treeLeaf t0 c e=(lp ((lp (zo tlF c 0 (t0,(decide (((c).length:Int) > (0:Int))),([]:zc),([]:List GE),([]:List GA))) λ(s2:(List GA)×Bool×zc×(List GE)×(List GA))=>some (.inr (s2.2.1,s2.2.2.1,s2.2.2.2.1,s2.2.2.2.2))):Option ((GE×Bool) ⊕ (Bool×zc×(List GE)×(List GA)))) (tlR e)):=rfl
theorem tl_walk:∀(p:List zc) (n:Nat) (t:List GA) (z:Bool×zc×(List GE)×(List GA)),p ≠ [] ->
  match nodeAt t p with
  | some x=>zo tlF p n (t,z)=some (.inr (x.subs,true,x.name,x.leaves,x.subs))
  | none=>∃u,zo tlF p n (t,z)=some (.inr (u,false,([]:zc),([]:List GE),([]:List GA)))
 | [],_,_,_,h=>absurd rfl h
 | [s],n,t,z,_=>by
  simp only [nodeAt,zo,tlF,linear_is,ua];cases nodeOf t s with
  | none=>exact ⟨t,rfl⟩
  | some x=>rfl
 | s::c::q,n,t,z,_=>by
  have f:=λu z=>tl_walk (c::q) (n+1) u z (by simp);simp only [nodeAt];cases e:nodeOf t s with
  | none=>exact ⟨t,by rw [zo];simp only [tlF,linear_is,e,ua];rfl⟩
  | some x =>
   have g:tlF n s (t,z)=some (.nxt (x.subs,true,x.name,x.leaves,x.subs)):=by simp only [tlF,linear_is,e,ua];rfl
   have:=f x.subs (true,x.name,x.leaves,x.subs);rw [zo,g,ua];exact this
theorem nodeOf_split {t:List GA} (s:zc) (h:upB t=true):(nodeOf t s=none/\∀y ∈ t,y.name ≠ s) \/ ∃A x B,t=A++x::B/\nodeOf t s=some x/\x.name=s/\(∀y ∈ A,y.name ≠ s)/\∀y ∈ B,y.name ≠ s:=by
 rcases split_up s h with ⟨A,B,rfl,e,f⟩ | ⟨A,x,B,rfl,hx,e,f⟩
 ·left;have:∀y ∈ A++B,y.name ≠ s:=λy c=>by
   rcases uE.1 c with c | c
   ·exact e.ne y c
   ·exact f.ne y c
  exact ⟨rq.2 λy c=>by simp [this y c],this⟩
 ·refine .inr ⟨A,x,B,rfl,?_,hx,e.ne,f.ne⟩;unfold nodeOf;rw [List.find?_append,rq.2 (λy c=>by simp [e.ne y c]),List.find?_cons];simp [hx]
theorem row_at:∀(p:List zc) (t:List GA) (d:Nat) (a:List zc) (l:GE),p ≠ []->treeB d t=true->(GH.mk (a++p) l ∈ zp a t ↔ ∃x,nodeAt t p=some x/\l ∈ x.leaves)
 | [],_,_,_,_,h,_=>absurd rfl h
 | s::q,t,d,a,l,_,h=>by
  obtain ⟨E,F⟩:=yp h;rcases nodeOf_split s E with ⟨e,z⟩ | ⟨A,x,B,rfl,e,hx,G,w⟩
  ·have m:nodeAt t (s::q)=none:=by cases q <;> simp [nodeAt,e]
   rw [m];constructor
   ·intro f;exact (rows_off z f rfl).elim
   ·rintro ⟨x,h,_⟩;cases h
  ·rw [qi,show x::B=[x]++B from rfl,qi,rows_one,uE,uE,rowsN_mem,hx];have j:¬ GH.mk (a++s::q) l ∈ zp a A:=λf=>rows_off G f rfl;have v:¬ GH.mk (a++s::q) l ∈ zp a B:=λf=>rows_off w f rfl;have g:=(wJ (F x (by simp))).2.1;cases q with
   | nil =>
    have C:¬ GH.mk (a++[s]) l ∈ zp (a++[s]) x.subs:=λf=>by
     have:=(rows_path _ _ _ f).1;simp at this
    have m:nodeAt (A++x::B) [s]=some x:=e;have i:nodeAt (A++([x]++B)) [s]=some x:=e;rw [i];constructor
    ·rintro (h | (⟨y,o,h⟩ | h) | h)
     ·exact (j h).elim
     ·injection h with _ h;subst h;exact ⟨x,rfl,o⟩
     ·exact (C h).elim
     ·exact (v h).elim
    ·rintro ⟨y,h,D⟩
     injection h with h;subst h;exact .inr (.inl (.inl ⟨l,D,rfl⟩))
   | cons c q =>
    have u:=row_at (c::q) x.subs (d+1) (a++[s]) l (by simp) g;have H:a++[s]++c::q=a++s::c::q:=by simp
    rw [H] at u;have i:nodeAt (A++([x]++B)) (s::c::q)=nodeAt x.subs (c::q):=by
     show (nodeOf (A++x::B) s).bind _=_;rw [e];rfl
    rw [i,u];constructor
    ·rintro (h | (⟨y,o,h⟩ | h) | h)
     ·exact (j h).elim
     ·injection h with h _;have:=congrArg List.length h;simp at this
     ·exact h
     ·exact (v h).elim
    ·intro h;exact .inr (.inl (.inr h))
theorem row_mk {p:List zc} (h:rkey r=(p,k)):r=GH.mk ([]++p) r.leaf:=by
 have e:r.path=p:=congrArg Prod.fst h;cases r;simp only at e;rw [e];rfl
theorem leafNew_typ (h:1<=k/\k<=4):∃v,vU k=some v/\v.typ=k:=by
 unfold vU;rw [uD (by simp;omega)];exact ⟨_,rfl,rfl⟩
theorem tlR_none (s:zc):∃v,tlR k (false,s,([]:List GE),([]:List GA))=some (v,false):=by
 obtain ⟨v,e⟩:=leafNew_tot k;refine ⟨v,?_⟩;unfold tlR zS;simp [zo,lp,e]
theorem treeLeaf_is {t:List GA} (h:treeB 0 t=true) (w:∀r ∈ zp [] t,LeafOk r.leaf) {p:List zc} (D:p ≠ []) {k:Int} (H:1<=k/\k<=4) :
  (∃l,GH.mk p l ∈ zp [] t/\l.typ=k/\treeLeaf t p k=some (l,true)) \/ ((∀r ∈ zp [] t,rkey r ≠ (p,k))/\∃v,treeLeaf t p k=some (v,false)):=by
 have g:=tl_walk p 0 t (decide ((p.length:Int) > 0),([]:zc),([]:List GE),([]:List GA)) D;have s:=λl=>row_at p t 0 [] l D h;rw [tl_eq];cases e:nodeAt t p with
 | none =>
  rw [e] at g;obtain ⟨u,g⟩:=g;right;refine ⟨λr c m=>?_,?_⟩
  ·have:=row_mk m;rw [this] at c;obtain ⟨x,i,_⟩:=(s _).1 c;rw [e] at i;cases i
  ·rw [g];exact tlR_none []
 | some x =>
  rw [e] at g;simp only at g;rw [g];simp only [wA];obtain ⟨v0,F,M⟩:=leafNew_typ H;unfold tlR zS;rcases first_is (q:=λy:GE=>y.typ==k) (del:=λG=>treeLeafC1 G k) x.leaves 0 (λx _=>rfl) with ⟨z,i⟩ | ⟨A,y,B,j,i,N,z⟩
  ·right;refine ⟨λr c m=>?_,v0,?_⟩
   ·have:=row_mk m;rw [this] at c;obtain ⟨O,o,I⟩:=(s _).1 c;rw [e] at o;injection o with o;subst o;have:=i _ I;simp only [sJ] at this;exact this (congrArg Prod.snd m)
   ·simp only [];rw [z];simp [lp,F]
  ·left;have K:y ∈ x.leaves:=by rw [j];simp
   have f:GH.mk ([]++p) y ∈ zp [] t:=(s y).2 ⟨x,e,K⟩;have C:y.typ=k:=by simpa using i
   have E:=w _ f;refine ⟨y,f,C,?_⟩;simp only [];rw [z];simp only [lp,ua,uT];have J:((!true) || (decide (((A.length:Nat):Int) < (0:Int))))=false:=by simp
   rw [J];simp only [tB,ur,F,ua,tI,M];rw [uD (by simp;omega),j,zD (x:=y) (by simp),ua,cloneItem_is (vw (sV E.items)),ua,cloneDot_is (vw (sV E.tombs)),ua]

structure EOk (e:GJ):Prop where
 path:xu e.path=true
 typ:1<=e.typ/\e.typ<=4
 any:e.had=true \/ e.has=true
 ne:e.had=true->e.has=true->e.was ≠ e.is
 was1:e.had=true->leafB e.was=true/\LeafOk e.was/\e.was.typ=e.typ
 was0:e.had=false->e.was=leaf0
 is1:e.has=true->leafB e.is=true/\LeafOk e.is/\e.is.typ=e.typ
 is0:e.has=false->e.is=leaf0
def eLt (a b:GJ):Prop:=kltB (ekey a) (ekey b)=true
theorem side_is (c:there=true->leafB l=true/\LeafOk l/\l.typ=k) (h0:there=false->l=leaf0):x7 there l k=some true:=by
 cases there with
 | false=>rw [h0 rfl];exact side0 k
 | true=>obtain ⟨a,b,rfl⟩:=c rfl;exact side1 a b
theorem diffMay_is {es:List GJ} (s:es.length<=16777216) (o:∀e ∈ es,EOk e) (f:es.Pairwise eLt):diffMay es=some true:=by
 unfold diffMay;rw [vT (r:=false) (λ_ _=>true) (λi x hx=>?_)]
 ·have:allI (λ_ _=>true) es=true:=allI_iff.2 λ_ _ _=>rfl;rw [uq this]
 ·have hi:=(uc.1 hx).1;have c:=o x (uC hx);have G:decide (x.typ >= 1)=true:=tp c.typ.1;have B:decide (x.typ<=4)=true:=tp c.typ.2;have H:vJ x.path=some true:=by rw [opMayPath_is,c.path]
  have E:∃v,(if ((decide ((i:Int) > (0:Int)))==true)=true then qA (es.getD (IntKind.wrap .i64 ((i:Int) - (1:Int))).toNat default) x else some default)=some v/\((decide ((i:Int) > 0))&&(decide (v >= 0)))=false:=by
   by_cases h0:0 < i
   ·have w:IntKind.wrap .i64 ((i:Int) - 1)=((i - 1:Nat):Int):=by rw [wz (by omega)];omega
    have C:es[i - 1]?=some es[i - 1]:=uj (by omega);have p:ordI es[i - 1] x < 0:=ordI_lt.2 (by
     have:=tA.1 f (i - 1) i (by omega) hi (by omega)
     rwa [(uc.1 hx).2] at this)
    have y:es.getD (i - 1) default=es[i - 1]:=by
     rw [uF,C];rfl
    rw [tp (by omega:(i:Int) > 0),w,uN,y,order_is];exact ⟨_,rfl,by rw [uS (by omega)];rfl⟩
   ·rw [uS (by omega:¬ (i:Int) > 0)];exact ⟨default,rfl,rfl⟩
  obtain ⟨v,j,m⟩:=E;have t:((decide ((i:Int) > (0:Int)))==true)=true->0<=(IntKind.wrap .i64 ((i:Int) - (1:Int)))/\(IntKind.wrap .i64 ((i:Int) - (1:Int))) < ((es).length:Int):=by
   intro h;simp only [sM,ui] at h;rw [wz (by omega)];omega
  obtain ⟨z,D,g⟩:∃z,(if ((x.had&&x.has)==true)=true then x5 x.was x.is else some default)=some z/\((x.had&&x.has)&&z)=false:=by
   cases h1:x.had with
   | false=>exact ⟨default,rfl,rfl⟩
   | true =>
    cases p:x.has with
    | false=>exact ⟨default,rfl,rfl⟩
    | true=>exact ⟨false,by rw [uq (by rfl),leafSame_is,uS (c.ne h1 p)],rfl⟩
  have F:x7 x.had x.was x.typ=some true:=side_is c.was1 c.was0;have s2:x7 x.has x.is x.typ=some true:=side_is c.is1 c.is0;have I:((!x.had)&&(!x.has))=false:=by
   rcases c.any with h | h <;> simp [h]
  rw [D,ua,H,ua,G,B];have u:((((!true) || (!(true&&true))) || ((!x.had)&&(!x.has))) || ((x.had&&x.has)&&z))=false:=by rw [I,g];rfl
  rw [u,uq (by rfl),F,ua];have J:((false || (!true))==false)=true:=rfl;rw [uq J,s2,ua];have A:((false || (!true)) || (!true))=false:=rfl;rw [A,uD (by decide),zj t,j,ua,m];simp
noncomputable def patF (t0:List GA):Nat->GJ->List GA->Option (Out (List GA×Int) (List GA)):=(λ(n1:Nat) (x1:GJ) (s1:(List GA))=>(((treeLeaf t0 x1.path x1.typ).bind λv14=>((if (((!(v14.2==x1.had))==false)&&(v14.2==true))=true then x5 v14.1 x1.was else some default).bind λv15=>(if ((!(v14.2==x1.had)) || (v14.2&&(!v15)))=true then some (.ret (([]:List GA),(16:Int))) else ((diffXlay s1 x1.path x1.typ x1.is x1.has).bind λv17=>some (.nxt v17))))):Option (Out _ (List GA))))
theorem patch_eq (t0:List GA) (c:List GJ):qC t0 c=((treeMay t0).bind λe=>((if ((!e)==false)=true then diffMay c else some default).bind λv2=>(if ((!e) || (!v2))=true then some (([]:List GA),(2:Int)) else ((wI t0 ([([42,42]:zc)]:List zc)).bind λv4=>(lp (zo (patF t0) c 0 v4.1) λ(f:(List GA))=>some (f,(0:Int))))))):=rfl
theorem sub_len {α:Type} {lt:α->α->Prop} (c:∀x,¬ lt x x):∀(L M:List α),L.Pairwise lt->(∀x ∈ L,x ∈ M)->L.length<=M.length
 | [],_,_,_=>tQ _
 | x::L,M,h,hs=>by
  obtain ⟨m,j⟩:=tn.1 h;obtain ⟨A,B,rfl⟩:=List.append_of_mem (hs x (by simp));have:=sub_len c L (A++B) j λy i=>by
   have f:=hs y (by simp [i]);have g:y ≠ x:=λe=>c x (by have:=m y i;rwa [e] at this);simp only [uE,uw] at f ⊢;rcases f with h | h | h
   ·exact .inl h
   ·exact (g h).elim
   ·exact .inr h
  simp only [ue,ud] at this ⊢;omega
theorem pathB_parts {p:List zc} (h:xu p=true):p ≠ []/\p.length<=3/\p.all nameB=true:=by
 refine ⟨pathB_ne h,?_⟩;simp only [xu,uf,ui] at h;exact ⟨h.1.2,h.2⟩
theorem lay_all {p:List zc} {t:List GA} (j:there=true->l.typ=k/\leafB l=true/\LeafOk l) (v:xu p=true) (i:treeB 0 t=true) (m:(zp [] t).length<=16777215) :
  ∃t',diffXlay t p k l there=some t'/\treeB 0 t'=true/\(zp [] t').length<=(zp [] t).length+1/\∀r,r ∈ zp [] t' ↔ (r ∈ zp [] t/\rkey r ≠ (p,k)) \/ (there=true/\r=⟨p,l⟩):=by
 obtain ⟨o,z,g⟩:=pathB_parts v;obtain ⟨t',B,f,_,c⟩:=lay_is j p t 0 (p.length+1) o g (by omega) i m (by omega);have c:=c [];simp only [uR] at c;refine ⟨t',qa (p.length+1) λn A=>?_,f,?_,c⟩
 ·obtain ⟨u,s,y,_,e⟩:=lay_is j p t 0 n o g (by omega) i m (by omega);have e:=e [];simp only [uR] at e;rw [s,rows_ext y f λr=>by rw [e,c]]
 ·have:=sub_len (lt:=λr q=>kltB (rkey r) (rkey q)=true) (λx h=>by rw [klt_irr] at h;cases h) (zp [] t') (zp [] t++[⟨p,l⟩]) (vG f []) λr w=>by
   rcases (c r).1 w with h | h
   ·simp [h.1]
   ·simp [h.2]
  simpa using this
structure EFits (t:List GA) (e:GJ):Prop where
 had:e.had=true->GH.mk e.path e.was ∈ zp [] t
 new:e.had=false->∀r ∈ zp [] t,rkey r ≠ ekey e
theorem patF_is {t s:List GA} {e:GJ} (o:treeB 0 t=true) (j:∀r ∈ zp [] t,LeafOk r.leaf) (c:EOk e) (g:EFits t e) (hs:treeB 0 s=true) (z:(zp [] s).length<=16777215) (n:Nat) :
  ∃u,patF t n e s=some (.nxt u)/\treeB 0 u=true/\(zp [] u).length<=(zp [] s).length+1/\∀r,r ∈ zp [] u ↔ (r ∈ zp [] s/\rkey r ≠ ekey e) \/ (e.has=true/\r=⟨e.path,e.is⟩):=by
 obtain ⟨u,p,w,y,x⟩:=lay_all (k:=e.typ) (l:=e.is) (there:=e.has) (λh=>⟨(c.is1 h).2.2,(c.is1 h).1,(c.is1 h).2.1⟩) c.path hs z;refine ⟨u,?_,w,y,x⟩;unfold patF;rcases treeLeaf_is o j (pathB_parts c.path).1 c.typ with ⟨l,f,m,i⟩ | ⟨f,v,i⟩
 ·have hh:e.had=true:=by
   cases h:e.had with
   | true=>rfl
   | false=>exact (g.new h _ f (by unfold rkey ekey;rw [m])).elim
  have:(GH.mk e.path l)=GH.mk e.path e.was:=sorted_key (vG o []) f (g.had hh) (by unfold rkey;rw [m,(c.was1 hh).2.2]);injection this with _ A;rw [i,hh,A];simp only [ua,leafSame_is,p];simp
 ·have hh:e.had=false:=by
   cases h:e.had with
   | false=>rfl
   | true=>exact (f _ (g.had h) (by unfold rkey;rw [(c.was1 h).2.2])).elim
  rw [i,hh];simp only [ua,p];simp
theorem pat_loop {t:List GA} (j:treeB 0 t=true) (g:∀r ∈ zp [] t,LeafOk r.leaf):∀(es:List GJ) (n:Nat) (s:List GA),(∀e ∈ es,EOk e/\EFits t e)->es.Pairwise eLt->treeB 0 s=true->(zp [] s).length+es.length<=16777215 ->
  ∃u,zo (patF t) es n s=some (.inr u)/\treeB 0 u=true/\∀r,r ∈ zp [] u ↔ (r ∈ zp [] s/\∀e ∈ es,rkey r ≠ ekey e) \/ ∃e ∈ es,e.has=true/\r=⟨e.path,e.is⟩
 | [],n,s,_,_,hs,_=>⟨s,rfl,hs,λr=>by simp⟩
 | e::es,n,s,h,hp,hs,hw=>by
  obtain ⟨B,p⟩:=tn.1 hp;simp only [ud] at hw;obtain ⟨m,A⟩:=h e (by simp);obtain ⟨z,F,a2,a3,a4⟩:=patF_is j g m A hs (by omega) n;obtain ⟨u,o,D,v⟩:=pat_loop j g es (n+1) z (λx hx=>h x (by simp [hx])) p a2 (by omega);refine ⟨u,by rw [zo,F];exact o,D,λr=>?_⟩;rw [v,a4];have f:e.has=true->∀x ∈ es,rkey ⟨e.path,e.is⟩ ≠ ekey x:=λhh x hx w=>by
   have:=B x hx;unfold eLt at this;rw [<- w] at this;have E:rkey ⟨e.path,e.is⟩=ekey e:=by unfold rkey ekey;rw [(m.is1 hh).2.2]
   rw [E,klt_irr] at this;cases this
  constructor
  ·rintro (⟨c | c,i⟩ | ⟨x,hx,c⟩)
   ·refine .inl ⟨c.1,λx hx=>?_⟩;rcases uw.1 hx with rfl | hx
    ·exact c.2
    ·exact i x hx
   ·exact .inr ⟨e,by simp,c⟩
   ·exact .inr ⟨x,by simp [hx],c⟩
  ·rintro (⟨c,i⟩ | ⟨x,hx,c⟩)
   ·exact .inl ⟨.inl ⟨c,i e (by simp)⟩,λx hx=>i x (by simp [hx])⟩
   ·rcases uw.1 hx with rfl | hx
    ·exact .inl ⟨.inr c,λy C=>by rw [c.2];exact f c.1 y C⟩
    ·exact .inr ⟨x,hx,c⟩
theorem select_all {t:List GA} (hs:Small t) (c:treeB 0 t=true):wI t [[42,42]]=some (t,0):=by
 have e:patB [[42,42]]=true:=by decide
 rw [pathsSelect_is hs (by simp [maxLen]),c,e];have:xU (matchB [[42,42]]) [] t=t:=by
  refine rows_ext (keep_may _ t 0 [] c) c λr=>?_;rw [keep_rows,tm];refine ⟨λh=>h.1,λh=>⟨h,?_⟩⟩;have f:=(rows_ok t 0 [] hs c rfl rfl r h).path;unfold matchB;rw [f,e];simp [xK,endsB,agreeB]
 simp [this]
theorem patch_is {t:List GA} (hs:Small t) (c:treeB 0 t=true) {es:List GJ} (i:(zp [] t).length+es.length<=16777215) (h:∀e ∈ es,EOk e/\EFits t e) (g:es.Pairwise eLt) :
  ∃u,qC t es=some (u,0)/\treeB 0 u=true/\∀r,r ∈ zp [] u ↔ (r ∈ zp [] t/\∀e ∈ es,rkey r ≠ ekey e) \/ ∃e ∈ es,e.has=true/\r=⟨e.path,e.is⟩:=by
 have f:=λr o=>(rows_ok t 0 [] hs c rfl rfl r o).ok;obtain ⟨u,m,a2,a3⟩:=pat_loop c f es 0 t h g c i;refine ⟨u,?_,a2,a3⟩;rw [patch_eq,treeMay_is hs,c,ua,uq (show ((!true)==false)=true from rfl),diffMay_is (by omega) (λe j=>(h e j).1) g,ua,uD (by decide),select_all hs c,ua,m,wA]

def keyS (p:List zc) (k:Int):zc:=p.flatMap (λs=>s++[0])++[UInt8.ofNat k.toNat]
theorem name_len {s:zc} (h:nameB s=true):s.length<=12/\∀b ∈ s,b ≠ 0:=by
 simp only [nameB,uf,ui,uu] at h;refine ⟨h.1.2,λb c e=>?_⟩;have:=h.2 b c;rw [e] at this;revert this;decide
theorem flat_inj:∀(p q:List zc),p.all nameB=true->q.all nameB=true->p.flatMap (λs=>s++[(0:UInt8)])=q.flatMap (λs=>s++[0])->p=q
 | [],[],_,_,_=>rfl
 | [],s::q,_,_,h=>by simp at h
 | s::p,[],_,_,h=>by simp at h
 | s::p,c::q,h1,h2,h=>by
  simp only [uX,uf] at h1 h2;simp only [u6,uy,List.singleton_append] at h;have g:=(name_len h1.1).2;have a2:=(name_len h2.1).2;have f:∀(s:zc) (r:List UInt8),(∀b ∈ s,b ≠ 0)->(s++0::r).takeWhile (λb=>decide (b ≠ 0))=s:=λs r hs=>by
   rw [List.takeWhile_append_of_pos (λb i=>by simp [hs b i])];simp
  have e:s=c:=by rw [<- f s _ g,<- f c _ a2,h]
  subst e;have h:=rx h;injection h with _ h;rw [flat_inj p q h1.2 h2.2 h]
theorem key_inj {p q:List zc} {j:Int} (e:xu p=true) (f:xu q=true) (i:1<=k/\k<=4) (m:1<=j/\j<=4) (h:keyS p k=keyS q j):p=q/\k=j:=by
 unfold keyS at h;have g:=List.append_inj_left' h rfl;have c:=List.append_inj_right' h rfl;refine ⟨flat_inj p q (pathB_parts e).2.2 (pathB_parts f).2.2 g,?_⟩;injection c with c _;have:=congrArg UInt8.toNat c;simp at this;omega
section
variable {W:Type}
def mnd (m:List (zc×W)):Prop:=m.Pairwise λx y=>x.1 ≠ y.1
end
structure Side (rs:List GH) (p:List zc) (k:Int) (there:Bool) (l:GE):Prop where
 on:there=true->GH.mk p l ∈ rs/\l.typ=k
 off:there=false->l=leaf0/\∀r ∈ rs,rkey r ≠ (p,k)
structure EdOf (ra rb:List GH) (e:GJ):Prop where
 any:e.had=true \/ e.has=true
 a:Side ra e.path e.typ e.had e.was
 b:Side rb e.path e.typ e.has e.is
theorem Side.one {c:List GH} (h:c.Pairwise λr q=>kltB (rkey r) (rkey q)=true) {p:List zc} {k:Int} {x y:Bool} {l m:GE} (g:Side c p k x l) (s2:Side c p k y m):x=y/\l=m:=by
 cases x with
 | true =>
  obtain ⟨j,a2⟩:=g.on rfl;cases y with
  | true =>
   obtain ⟨f,i⟩:=s2.on rfl;have:=sorted_key h j f (by unfold rkey;rw [a2,i]);injection this with _ e;exact ⟨rfl,e⟩
  | false=>exact ((s2.off rfl).2 _ j (by unfold rkey;rw [a2])).elim
 | false =>
  cases y with
  | true =>
   obtain ⟨f,i⟩:=s2.on rfl;exact ((g.off rfl).2 _ f (by unfold rkey;rw [i])).elim
  | false=>exact ⟨rfl,(g.off rfl).1.trans (s2.off rfl).1.symm⟩
theorem EdOf.one {j i:List GH} (u:j.Pairwise λr q=>kltB (rkey r) (rkey q)=true) (v:i.Pairwise λr q=>kltB (rkey r) (rkey q)=true) {e f:GJ} (s:EdOf j i e) (o:EdOf j i f) (h:ekey e=ekey f):e=f:=by
 have c:e.path=f.path:=congrArg Prod.fst h;have g:e.typ=f.typ:=congrArg Prod.snd h;obtain ⟨p,a2⟩:=s.a.one u (by rw [c,g];exact o.a);obtain ⟨m,t⟩:=s.b.one v (by rw [c,g];exact o.b);cases e;cases f;simp only at c g p a2 m t;subst c g p a2 m t;rfl
def RKey (r:GH):Prop:=xu r.path=true/\1<=r.leaf.typ/\r.leaf.typ<=4
structure MInv (ra rb:List GH) (m:List (zc×GJ)):Prop where
 nd:mnd m
 ed:∀x ∈ m,EdOf ra rb x.2/\x.1=keyS x.2.path x.2.typ/\xu x.2.path=true/\1<=x.2.typ/\x.2.typ<=4
 ca:∀r ∈ ra,∃x ∈ m,ekey x.2=rkey r
 cb:∀r ∈ rb,∃x ∈ m,ekey x.2=rkey r
theorem MInv.nil:MInv [] [] []:=⟨List.Pairwise.nil,by simp,by simp,by simp⟩
theorem MInv.key {p o:List GH} {m:List (zc×GJ)} (h:MInv p o m) {r:GH} (g:RKey r) {x:zc×GJ} (hx:x ∈ m):x.1=keyS r.path r.leaf.typ ↔ ekey x.2=rkey r:=by
 obtain ⟨_,i,j,s⟩:=h.ed x hx;constructor
 ·intro e;rw [i] at e;obtain ⟨c,f⟩:=key_inj j g.1 s g.2 e;unfold ekey rkey;rw [c,f]
 ·intro e;have c:x.2.path=r.path:=congrArg Prod.fst e;have f:x.2.typ=r.leaf.typ:=congrArg Prod.snd e;rw [i,c,f]
theorem rows_key {t:List GA} (hs:Small t) (e:treeB 0 t=true):∀r ∈ zp [] t,RKey r:=λr c=>by
 have:=rows_ok t 0 [] hs e rfl rfl r c;exact ⟨this.path,leaf_typ this.leaf⟩
theorem rows_small {t:List GA} (hs:Small t):(zp [] t).length<=GA.bks t:=rows_len _ t [] (uh _)
theorem loop_ex {α ρ:Type} {f:Nat->α->Unit->Option (Out ρ Unit)} {r:ρ} {P:Nat->α->Prop}:∀(L:List α) (k:Nat),(∀i x,L[i]?=some x->∃v:Bool,f (k+i) x ()=(if v=true then some (.nxt ()) else some (.ret r))/\(v=true->P (k+i) x)) ->
  (zo f L k ()=some (.inr ())/\∀i x,L[i]?=some x->P (k+i) x) \/ zo f L k ()=some (.inl r)
 | [],k,_=>.inl ⟨rfl,by simp⟩
 | x::L,k,h=>by
  obtain ⟨v,e,g⟩:=h 0 x rfl;cases v with
  | false =>
   right;rw [tC] at e;rw [zo,e];rfl
  | true =>
   rw [tC] at e;rw [zo,e];rcases loop_ex L (k+1) (λi y c=>by
    have:=h (i+1) y (by simpa using c)
    rwa [show k+(i+1)=k+1+i by omega] at this) with ⟨h1,h2⟩ | h1
   ·refine .inl ⟨h1,λi y c=>?_⟩;rcases i with _ | i
    ·simp at c;subst c;exact g rfl
    ·have:=h2 i y (by simpa using c)
     rwa [show k+1+i=k+(i+1) by omega] at this
   ·exact .inr h1
theorem same_list {α:Type} {a b:List α} (c:a.length=b.length) (h:∀(i:Nat) (x:α),a[i]?=some x->b[i]?=some x):a=b:=by
 refine uZ λi=>?_;by_cases hi:i < a.length
 ·have:=uj hi;rw [this,h i _ this]
 ·rw [tz (by omega),tz (by omega)]
theorem same5_is (a b:GE):∃v,wV a b=some v/\(v=true->a=b):=by
 unfold wV;simp only [dotEq,itemEq];split
 ·exact ⟨false,rfl,λh=>by cases h⟩
 ·rename_i s;simp only [uY,bne_iff_ne,ne_eq,sg,sJ,ru,rC,Classical.not_not] at s;obtain ⟨⟨⟨⟨⟨⟨o,c2⟩,c3⟩,c4⟩,c5⟩,w⟩,u⟩:=s;have g:a.items.length=b.items.length:=by omega
  have e:a.tombs.length=b.tombs.length:=by omega
  rcases loop_ex (r:=false) (P:=λi x=>b.items[i]?=some x) (f:=(λ(j:Nat) (m:GF) (t:Unit)=>(((xQ b.items (j:Int)).bind λc=>(if (!decide (m=c))=true then some (.ret false) else some (.nxt ()))):Option (Out Bool Unit)))) a.items 0 (λi x hx=>by
   have hi:=(uc.1 hx).1;refine ⟨decide (x=b.items[i]'(by omega)),?_,λh=>?_⟩
   ·rw [uT,qv (by omega:i < b.items.length),ua];cases decide (x=b.items[i]) <;> rfl
   ·rw [uT,uj (by omega),u5 h]) with ⟨e1,h1⟩ | e1
  ·rw [e1,wA];rcases loop_ex (r:=false) (P:=λi x=>b.tombs[i]?=some x) (f:=(λ(j:Nat) (m:GC) (t:Unit)=>(((xQ b.tombs (j:Int)).bind λc=>(if (!decide (m=c))=true then some (.ret false) else some (.nxt ()))):Option (Out Bool Unit)))) a.tombs 0 (λi x hx=>by
    have hi:=(uc.1 hx).1;refine ⟨decide (x=b.tombs[i]'(by omega)),?_,λh=>?_⟩
    ·rw [uT,qv (by omega:i < b.tombs.length),ua];cases decide (x=b.tombs[i]) <;> rfl
    ·rw [uT,uj (by omega),u5 h]) with ⟨e2,h2⟩ | e2
   ·rw [e2,wA];refine ⟨true,rfl,λ_=>?_⟩;have p:=same_list g λi x hx=>by have:=h1 i x hx;rwa [uT] at this
    have i2:=same_list e λi x hx=>by have:=h2 i x hx;rwa [uT] at this
    cases a;cases b;simp only at o c2 c3 c4 c5 p i2;subst o c2 c3 c4 c5 p i2;rfl
   ·rw [e2];exact ⟨false,rfl,λh=>by cases h⟩
  ·rw [e1];exact ⟨false,rfl,λh=>by cases h⟩
noncomputable def s7F (n:Nat) (t u:List GA):Nat->GA->Unit->Option (Out Bool Unit):=(λ(n1:Nat) (x1:GA) (s1:Unit)=>(((xQ u (n1:Int)).bind λy41=>(zU (((!(x1.name==y41.name))==false)=true->0<=(n1:Int)/\(n1:Int) < ((t).length:Int)) ((zU (((!(x1.name==y41.name))==false)=true->0<=(n1:Int)/\(n1:Int) < ((u).length:Int)) ((zU ((((!(x1.name==y41.name)) || (((((t).getD (n1:Int).toNat default).leaves).length:Int) != ((((u).getD (n1:Int).toNat default).leaves).length:Int)))==false)=true->0<=(n1:Int)/\(n1:Int) < ((t).length:Int)) ((zU ((((!(x1.name==y41.name)) || (((((t).getD (n1:Int).toNat default).leaves).length:Int) != ((((u).getD (n1:Int).toNat default).leaves).length:Int)))==false)=true->0<=(n1:Int)/\(n1:Int) < ((u).length:Int)) (((if (((!(x1.name==y41.name)) || (((((t).getD (n1:Int).toNat default).leaves).length:Int) != ((((u).getD (n1:Int).toNat default).leaves).length:Int)))==false)=true then xG n (((t).getD (n1:Int).toNat default).subs) (((u).getD (n1:Int).toNat default).subs) else some default).bind λv48=>(if (((!(x1.name==y41.name)) || (((((t).getD (n1:Int).toNat default).leaves).length:Int) != ((((u).getD (n1:Int).toNat default).leaves).length:Int))) || (!v48))=true then some (.ret false) else (lp (zo (λ(n2:Nat) (x2:GE) (s2:Unit)=>(((xQ u (n1:Int)).bind λy60=>((xQ y60.leaves (n2:Int)).bind λy61=>((wV x2 y61).bind λv62=>(if (!v62)=true then some (.ret (.ret false)) else some (.nxt ()))))):Option (Out (Out Bool Unit) Unit))) x1.leaves 0 ()) λ(s2:Unit)=>some (.nxt ()))))))))))))):Option (Out Bool Unit)))
theorem s7_eq (n:Nat) (t u:List GA):xG (n+1) t u=(if (((t).length:Int) != ((u).length:Int))=true then some false else lp (zo (s7F n t u) t 0 ()) λ_=>some true):=rfl
theorem s7F_is {t u:List GA} (H:∀(t u:List GA),GA.deps t < n->∃v,xG n t u=some v/\(v=true->t=u)) (h:GA.deps t < n+1) (J:t.length=u.length) (i:Nat) (x:GA) (hx:t[i]?=some x) :
  ∃v:Bool,s7F n t u (0+i) x ()=(if v=true then some (.nxt ()) else some (.ret false))/\(v=true->u[0+i]?=some x):=by
 unfold s7F;have hi:=(uc.1 hx).1;have e:u[i]?=some (u[i]'(by omega)):=uj (by omega);generalize u[i]'(by omega)=y at e;have o:xQ u (i:Int)=some y:=zD e;have hd:t.getD i default=x:=by rw [uF,hx];rfl
 have g:u.getD i default=y:=by rw [uF,e];rfl
 have B:=vp (uC hx);have C:=xd x;obtain ⟨v,ev,I⟩:=H x.subs y.subs (by omega);simp only [uT];rw [o];simp only [ua,uN,hd,g];rw [zj (by intro _;omega),zj (by intro _;omega),zj (by intro _;omega),zj (by intro _;omega)];by_cases hn:x.name=y.name
 ·by_cases hll:x.leaves.length=y.leaves.length
  ·have c:((!(x.name==y.name)) || ((x.leaves.length:Int) != (y.leaves.length:Int)))=false:=by simp [hn,hll]
   rw [c,uq (by rfl),ev,ua];cases v with
   | false=>exact ⟨false,by simp,λh=>by cases h⟩
   | true =>
    simp only [tv,pg,uo,uH];rcases loop_ex (r:=Out.ret false) (P:=λj l=>y.leaves[j]?=some l) (f:=(λ(D:Nat) (G:GE) (s2:Unit)=>((((xQ y.leaves (D:Int)).bind λp=>((wV G p).bind λs=>(if (!s)=true then some (.ret (.ret false)) else some (.nxt ()))))):Option (Out (Out Bool Unit) Unit)))) x.leaves 0 (λj l m=>by
     have A:=(uc.1 m).1;obtain ⟨w,E,F⟩:=same5_is l (y.leaves[j]'(by omega));refine ⟨w,?_,λh=>?_⟩
     ·rw [uT,qv (by omega:j < y.leaves.length),ua,E,ua];cases w <;> rfl
     ·rw [uT,uj (by omega),F h]) with ⟨e1,h1⟩ | e1
    ·rw [e1,wA];refine ⟨true,rfl,λ_=>?_⟩;have z:=same_list hll λj l A=>by have:=h1 j l A;rwa [uT] at this
     have i2:=I rfl;rw [e];cases x;cases y;simp only at hn z i2;rw [hn,z,i2]
    ·rw [e1];exact ⟨false,rfl,λh=>by cases h⟩
  ·have c:((!(x.name==y.name)) || ((x.leaves.length:Int) != (y.leaves.length:Int)))=true:=by
    simp [hn];omega
   rw [c];exact ⟨false,rfl,λh=>by cases h⟩
 ·have c:((!(x.name==y.name)) || ((x.leaves.length:Int) != (y.leaves.length:Int)))=true:=by simp [hn]
  rw [c];exact ⟨false,rfl,λh=>by cases h⟩
theorem same7N_is:∀(n:Nat) (t u:List GA),GA.deps t < n->∃v,xG n t u=some v/\(v=true->t=u)
 | 0,_,_,h=>by omega
 | n+1,t,u,h=>by
  rw [s7_eq];split
  ·exact ⟨false,rfl,λh=>by cases h⟩
  ·rename_i c;have c:t.length=u.length:=by simp at c;omega
   rcases loop_ex (r:=false) (P:=λ(i:Nat) (x:GA)=>u[i]?=some x) t 0 (s7F_is (same7N_is n) h c) with ⟨e,f⟩ | e
   ·rw [e,wA];exact ⟨true,rfl,λ_=>same_list c λi x hx=>by have:=f i x hx;rwa [uT] at this⟩
   ·rw [e];exact ⟨false,rfl,λh=>by cases h⟩
theorem same7_ne {t u:List GA} (h:t ≠ u):ql t u=some false:=qa (GA.deps t+1) λn f=>by
 obtain ⟨v,e,c⟩:=same7N_is n t u (by omega);cases v with
 | true=>exact (h (c rfl)).elim
 | false=>exact e

theorem same7_is (t u:List GA):∃v,ql t u=some v/\(v=true ↔ t=u):=by
 by_cases h:t=u
 ·subst h;exact ⟨true,ref07Same_refl t,by simp⟩
 ·exact ⟨false,same7_ne h,by simp [h]⟩
theorem Side.ok {t:List GA} (hs:Small t) (f:treeB 0 t=true) {p:List zc} {k:Int} {there:Bool} {l:GE} (h:Side (zp [] t) p k there l):there=true->leafB l=true/\LeafOk l/\l.typ=k:=λe=>by
 obtain ⟨c,a2⟩:=h.on e;have:=rows_ok t 0 [] hs f rfl rfl _ c;exact ⟨this.leaf,this.ok,a2⟩
theorem Side.rkey {t:List GA} (hs:Small t) (e:treeB 0 t=true) {p:List zc} {k:Int} {l:GE} (h:Side (zp [] t) p k true l):xu p=true/\1<=k/\k<=4:=by
 obtain ⟨c,a2⟩:=h.on rfl;have:=rows_key hs e _ c;unfold RKey at this;rw [a2] at this;exact this
theorem pathAll {p:List zc} {f:zc->Option Bool} (c:∀x,f x=some (nameB x)):(lp (zo (λ(_:Nat) (e:zc) (_:Unit)=>(((f e).bind λv9=>(if (!v9)=true then some (.ret false) else some (.nxt ()))):Option (Out _ Unit))) p 0 ()) λ(_:Unit)=>some ((decide (((p).length:Int) >= (1:Int)))&&(decide (((p).length:Int)<=(3:Int)))))=some (xu p):=by
 rw [loopL_all nameB false _ _ (λi x _=>by rw [c];cases nameB x <;> rfl),bnd1,bnd3];unfold xu;cases h:p.all nameB <;> simp
theorem ref04MayPath_is (p:List zc):ref04MayPath p=some (xu p):=pathAll ref04IsName_is
abbrev LyR:=List GA->List zc->GE->List GA->Prop
structure LyOk (Ly:LyR):Prop where
 vU:∀{t:List GA} {s:zc} {l:GE},t.length+1<=16777216->(∀y ∈ t,Op.bytesLess y.name s=true)->LeafOk l->Ly t [s] l (t++[⟨s,[l],[]⟩])
 leafOld:∀{t:List GA} {s:zc} {l:GE} {ls:List GE},t.length+1<=16777216->(∀y ∈ t,Op.bytesLess y.name s=true)->LeafOk l->ls.length<=11->(ls++[l]).Pairwise (λx y=>x.typ < y.typ)->Ly (t++[⟨s,ls,[]⟩]) [s] l (t++[⟨s,ls++[l],[]⟩])
 subOld:∀{t:List GA} {s a:zc} {q:List zc} {l:GE} {ls:List GE} {sb u:List GA},t.length+1<=16777216->(∀y ∈ t,Op.bytesLess y.name s=true)->ls.length<=16777216->0 < u.length->u.length<=16777216->(a::q).length+1<=16777216->Ly sb (a::q) l u->Ly (t++[⟨s,ls,sb⟩]) (s::a::q) l (t++[⟨s,ls,u⟩])
 subNew:∀{t:List GA} {s a:zc} {q:List zc} {l:GE} {u:List GA},t.length+1<=16777216->(∀y ∈ t,Op.bytesLess y.name s=true)->0 < u.length->u.length<=16777216->(a::q).length+1<=16777216->Ly [] (a::q) l u->Ly t (s::a::q) l (t++[⟨s,[],u⟩])
def LaysG (Ly:LyR):List GA->List GH->List GA->Prop
 | t,[],t'=>t'=t
 | t,r::rs,t'=>∃t1,Ly t r.path r.leaf t1/\(0 < t1.length/\t1.length<=16777216)/\LaysG Ly t1 rs t'
section
variable {Ly:LyR}
theorem LaysG.app:∀{a b:List GH} {t c t2:List GA},LaysG Ly t a c->LaysG Ly c b t2->LaysG Ly t (a++b) t2
 | [],_,_,_,_,h,k=>by cases h;exact k
 | _::_,_,_,_,_,⟨u,h1,h0,h2⟩,k=>⟨u,h1,h0,h2.app k⟩
theorem LaysG.below (ok:LyOk Ly) {t:List GA} {s:zc} {ls:List GE} (j:t.length+1<=16777216) (o:∀y ∈ t,Op.bytesLess y.name s=true) (m:ls.length<=16777216) :
  ∀{g:List GH} {i c:List GA},LaysG Ly i g c->(∀r ∈ g,0 < r.path.length/\r.path.length+1<=16777216)->LaysG Ly (t++[⟨s,ls,i⟩]) (g.map (preR [s])) (t++[⟨s,ls,c⟩])
 | [],_,_,h,_=>by cases h;rfl
 | r::g,i,c,⟨u,hu,⟨u0,u1⟩,h⟩,hp=>by
  obtain ⟨h0,f⟩:=hp r (by simp);obtain ⟨a,q,e⟩:∃a q,r.path=a::q:=by
   cases hq:r.path with
   | nil=>rw [hq] at h0;simp at h0
   | cons a q=>exact ⟨a,q,rfl⟩
  refine ⟨t++[⟨s,ls,u⟩],?_,by simp;omega,LaysG.below ok j o m h (λx hx=>hp x (by simp [hx]))⟩;simp only [preR,e,List.singleton_append];rw [e] at hu f;exact ok.subOld j o m u0 u1 f hu
theorem LaysG.leaves (ok:LyOk Ly) {t:List GA} {s:zc} (g:t.length+1<=16777216) (h:∀y ∈ t,Op.bytesLess y.name s=true) :
  ∀{ls c:List GE},(∀l ∈ ls,LeafOk l)->(c++ls).length<=12->(c++ls).Pairwise (λx y=>x.typ < y.typ)->LaysG Ly (t++[⟨s,c,[]⟩]) (ls.map λl=>⟨[s],l⟩) (t++[⟨s,c++ls,[]⟩])
 | [],c,_,_,_=>by rw [tw];rfl
 | l::ls,c,hl,hs,hp=>by
  have e:c++l::ls=(c++[l])++ls:=by simp
  rw [e] at hs hp ⊢;have f:=hs;simp only [ue,ud,ug] at f;refine ⟨t++[⟨s,c++[l],[]⟩],?_,by simp;omega,LaysG.leaves ok g h (λx hx=>hl x (by simp [hx])) hs hp⟩;refine ok.leafOld g h (hl l (by simp)) (by omega) ?_;rw [tD] at hp;exact hp.1
end
noncomputable def r7F (n:Nat) (ahead1:List zc):Nat->GA->List GK->Option (Out (List GK) (List GK)):=(λ(n1:Nat) (x1:GA) (s1:(List GK))=>((zU ((([]:List zc)).length+(ahead1).length<=yY) ((zU (((([]:List zc)++ahead1)).length+(([x1.name]:List zc)).length<=yY) ((lp (zo (λ(n2:Nat) (x2:GE) (s2:(List GK))=>((zU ((s2).length+(([(GK.mk ((([]:List zc)++ahead1)++([x1.name]:List zc)) x2)]:List GK)).length<=yY) (some (.nxt (s2++([(GK.mk ((([]:List zc)++ahead1)++([x1.name]:List zc)) x2)]:List GK))))):Option (Out _ (List GK)))) x1.leaves 0 s1) λ(s2:(List GK))=>((we n x1.subs ((([]:List zc)++ahead1)++([x1.name]:List zc))).bind λv44=>(zU ((s2).length+(v44).length<=yY) (some (.nxt (s2++v44)))))))))):Option (Out _ (List GK))))
theorem rows7_eq (n:Nat) (t0:List GA) (c:List zc):we (n+1) t0 c=(lp (zo (r7F n c) t0 0 ([]:List GK)) λ(e:(List GK))=>some e):=rfl
def vR (r:GH):GK:=⟨r.path,r.leaf⟩

theorem filt_all {α:Type} (L:List α):L.filter (λ_=>true)=L:=sn.2 λ_ _=>rfl
theorem r7F_is {a:List zc} {x:GA} {s:List GK} (f:a.length<=16777216) (h:we n x.subs (a++[x.name])=some ((zp (a++[x.name]) x.subs).map vR)) (hs:s.length+(qd a x).length<=16777216) (i:Nat):r7F n a i x s=some (.nxt (s++(qd a x).map vR)):=by
 rw [yz] at hs ⊢;simp only [ue,ux] at hs;unfold r7F;simp only [uR];rw [zj (vw (by simp;omega)),zj (vw (by simp;omega))];rw [loop_keep (λ_:GE=>true) (λl=>(⟨a++[x.name],l⟩:GK)) x.leaves 0 s (vw (by omega)) (λi y e _ c=>by rw [zj (by simpa using c),uq rfl]),wA];rw [filt_all];rw [h,ua,zj (vw (by simp;omega))];simp [vR,sj]
theorem rows7_is:∀(n:Nat) (t:List GA) (a:List zc),GA.deps t < n->Small t->a.length+GA.deps t<=16777216->we n t a=some ((zp a t).map vR)
 | 0,_,_,h,_,_=>by omega
 | n+1,t,a,h,hs,ha=>by
  rw [rows7_eq];have key:∀(u:List GA) (i:Nat) (s:List GK),(∀x ∈ u,x ∈ t)->s.length+(zp a u).length<=16777216->zo (r7F n a) u i s=some (.inr (s++(zp a u).map vR)):=by
   intro u
   induction u with
   | nil=>intro i s _ _;simp [zo,zp]
   | cons x r ih =>
    intro i s f c;have e:zp a (x::r)=qd a x++zp a r:=by rw [ye,u6,<- ye]
    rw [e] at c ⊢;simp only [ue] at c;have hx:=f x (by simp);have p:x.dep<=GA.deps t:=vp hx;have o:=xd x;have m:=rows7_is n x.subs (a++[x.name]) (by omega) (hs.subs hx) (by simp;omega);have g:=r7F_is (s:=s) (by omega) m (by omega) i;simp only [zo,g];rw [ih (i+1) (s++(qd a x).map vR) (λy j=>f y (by simp [j])) (by simp;omega)];simp
  rw [key t 0 [] (λx h=>h) (by simpa using uA (rows_len _ t a (uh _)) hs.2),wA,uR]
structure ROk (r:GH):Prop where
 path:xu r.path=true
 leaf:leafB r.leaf=true
 ok:LeafOk r.leaf
end Go.Vv
