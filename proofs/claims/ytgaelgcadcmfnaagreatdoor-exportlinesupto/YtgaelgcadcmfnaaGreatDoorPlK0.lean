/- Plain laws, as far as they are leaned on. -/
import Derived.Test.YtgaelgcadcmfnaaGreatDoorD
import Derived.Test.YtgaelgcadcmfnaaGreatDoorVvMr
set_option linter.all false
namespace Go.Vv
open Go
variable {b:UInt8} {σ:Type} {L:List GF} {q:GE->Bool} {l:GE} {n d:Nat} {a:List UInt8} {ls L0:List GE} {r:GH} {del:GE->Option Bool} {k:Int} {there:Bool}
def vU (b:UInt8):Bool:=(decide (97<=b.toNat)&&decide (b.toNat<=122)) || (decide (65<=b.toNat)&&decide (b.toNat<=90)) || (decide (48<=b.toNat)&&decide (b.toNat<=57))
def other (r:Int):Bool:=!((decide (97<=r)&&decide (r<=122)) || (decide (65<=r)&&decide (r<=90)) || (decide (48<=r)&&decide (r<=57)))
def runeIdx (q:Int->Bool) (s:List UInt8) (i:Nat):Int :=
 if h:i < s.length then (if q (dec s i).1 then i else if (dec s i).2=0 then -1 else runeIdx q s (i+(dec s i).2)) else -1
termination_by s.length - i
decreasing_by omega
theorem dec_width (s:List UInt8) (i:Nat) (h:i < s.length):1<=(dec s i).2:=by
 have hs:i < (⟨s.toArray⟩:ByteArray).size:=by simpa [ByteArray.size] using h
 by_cases ha:((⟨s.toArray⟩:ByteArray)[i]'hs).toNat < 128
 ·unfold dec;rw [decode_ascii _ i hs ha];exact ug _
 ·exact (decode_high _ i hs (by omega)).2
theorem dec_low {s:List UInt8} {i:Nat} (c:s[i]?=some b) (h:b.toNat < 128):dec s i=(b.toNat,1):=by
 have f:i < s.length:=(uc.1 c).1;have hs:i < (⟨s.toArray⟩:ByteArray).size:=by simpa [ByteArray.size] using f
 have e:((⟨s.toArray⟩:ByteArray)[i]'hs)=b:=by
  have g:((⟨s.toArray⟩:ByteArray)[i]'hs)=s[i]:=rfl;rw [g];rw [ui f] at c;injection c
 unfold dec;rw [decode_ascii _ i hs (by rw [e];exact h),e]
theorem dec_hi {s:List UInt8} {i:Nat} (c:s[i]?=some b) (h:128<=b.toNat):128<=(dec s i).1:=by
 have f:i < s.length:=(uc.1 c).1;have hs:i < (⟨s.toArray⟩:ByteArray).size:=by simpa [ByteArray.size] using f
 have e:((⟨s.toArray⟩:ByteArray)[i]'hs)=b:=by
  have g:((⟨s.toArray⟩:ByteArray)[i]'hs)=s[i]:=rfl;rw [g];rw [ui f] at c;injection c
 exact (decode_high _ i hs (by rw [e];exact h)).1
theorem other_alnum:other (b.toNat:Int)=!vU b:=by
 unfold other vU;congr 1;rw [uz];simp;omega
theorem rune_all {s:List UInt8} (h:s.all vU=true):∀(n i:Nat),s.length - i=n->runeIdx other s i=-1
 | n,i,hn=>by
  rw [runeIdx.eq_def];by_cases hi:i < s.length
  ·rw [r9 hi];have f:s[i]?=some s[i]:=ui hi;have e:vU s[i]=true:=by rw [ur] at h;exact h _ (sP hi)
   have c:s[i].toNat < 128:=by
    unfold vU at e;simp only [uY,ud,uh] at e;omega
   rw [dec_low f c];simp only [other_alnum,e,tT,up,uL,rO];exact rune_all h (s.length - (i+1)) (i+1) rfl
  ·rw [dif_neg hi]
 termination_by n=>n
 decreasing_by omega
theorem rune_some {s:List UInt8} {k:Nat} {b:UInt8} (c:s[k]?=some b) (g:vU b=false):∀(n i:Nat),k - i=n->i<=k->0<=runeIdx other s i
 | n,i,hn,hik=>by
  have j:k < s.length:=(uc.1 c).1;have hi:i < s.length:=by omega
  rw [runeIdx.eq_def,r9 hi];by_cases ho:other ((dec s i).1:Nat)=true
  ·rw [uv ho];omega
  ·rw [uG ho];have f:s[i]?=some s[i]:=ui hi;have e:s[i].toNat < 128:=by
    refine Decidable.byContradiction λhh=>ho ?_;have:=dec_hi f (by omega);unfold other;simp;omega
   rw [dec_low f e] at ho ⊢;rw [other_alnum] at ho;have h:i ≠ k:=by
    rintro rfl
    rw [f] at c;injection c with c;subst c;rw [g] at ho;exact ho rfl
   simp only [rO,uL];exact rune_some c g (k - (i+1)) (i+1) rfl (by omega)
 termination_by n=>n
 decreasing_by omega

def nameB (s:zd):Bool:=decide (1<=s.length)&&decide (s.length<=12)&&s.all vU
def xI (p:List zd):Bool:=decide (1<=p.length)&&decide (p.length<=3)&&p.all nameB
theorem bnd1 (n:Nat):decide ((n:Int) >= 1)=decide (1<=n):=sy.2 (by omega)
theorem bnd12 (n:Nat):decide ((n:Int)<=12)=decide (n<=12):=sy.2 (by omega)
theorem bnd3 (n:Nat):decide ((n:Int)<=3)=decide (n<=3):=sy.2 (by omega)
theorem ref04IsName_is (s:zd):qB s=some (nameB s):=by
 unfold qB nameB;rw [loopL_all vU false]
 ·split
  ·rename_i h;simp only [uY,uh] at h;congr 1;rw [eq_comm,sV,sV];left;rcases h with h | h
   ·exact .inl (uR (by omega))
   ·exact .inr (uR (by omega))
  ·rename_i h;simp only [uY,uh] at h;have f:1<=s.length:=by omega
   have c:s.length<=12:=by omega
   cases ha:s.all vU <;> simp [f,c]
 ·intro i x _;unfold vU;have e:(((decide ((x.toNat:Int) >= 97))&&(decide ((x.toNat:Int)<=122)) || (decide ((x.toNat:Int) >= 65))&&(decide ((x.toNat:Int)<=90))) || (decide ((x.toNat:Int) >= 48))&&(decide ((x.toNat:Int)<=57))) =
    (decide (97<=x.toNat)&&decide (x.toNat<=122) || decide (65<=x.toNat)&&decide (x.toNat<=90) || decide (48<=x.toNat)&&decide (x.toNat<=57)):=by
   rw [uz];simp;omega
  rw [e];generalize (decide (97<=x.toNat)&&decide (x.toNat<=122) || decide (65<=x.toNat)&&decide (x.toNat<=90) || decide (48<=x.toNat)&&decide (x.toNat<=57))=b;cases b <;> rfl
theorem rune_loop (q:Int->Bool) (s:zd) {f:Nat->Option (Out Int Nat)} (c:∀i,f i=if i < s.length then (if q (dec s i).1=true then some (.ret (i:Int)) else some (.nxt (i+(dec s i).2))) else some (.brk i)) :
  ∀(k i:Nat),s.length - i=k->lp (yr f i) (λ_=>some (-1:Int))=some (runeIdx q s i)
 | k,i,hk=>by
  rw [wB,runeIdx.eq_def,c];by_cases h:i < s.length
  ·have e:=dec_width s i h;rw [uv h,r9 h];by_cases hq:q (dec s i).1=true
   ·simp [hq]
   ·have h0:¬ (dec s i).2=0:=by omega
    simp only [uG hq,uG h0];exact rune_loop q s c (s.length - (i+(dec s i).2)) _ rfl
  ·rw [uG h,dif_neg h];rfl
 termination_by k=>k
 decreasing_by omega
theorem stringsContains_other (s:zd):xg s (λx=>qb x)=some (!s.all vU):=by
 have e:(λx=>qb x)=λx=>some (other x):=by
  funext x;unfold qb other;congr 1;rw [uz];simp
 unfold xg wK wo;rw [e,rune_loop other s (λi=>by simp) _ 0 rfl];simp only [ua];congr 1;cases h:s.all vU with
 | true=>rw [rune_all h _ 0 rfl];rfl
 | false =>
  rw [List.all_eq_false] at h;obtain ⟨b,f,g⟩:=h;obtain ⟨k,c,rfl⟩:=List.getElem_of_mem f;have:=rune_some (ui c) (by simpa using g) _ 0 rfl (tO _);simp [this]
theorem opIsName_is (s:zd):opIsName s=some (nameB s):=by
 unfold opIsName nameB;rw [stringsContains_other,bnd1,bnd12];cases h1:decide (1<=s.length) <;> cases h2:decide (s.length<=12) <;> simp
theorem contains_is {f:zd->Option Bool} {q:zd->Bool} (p:List zd) (c:∀x ∈ p,f x=some (q x)):yh p f=some (p.any q):=by
 unfold yh xz;rw [first_loop p c];simp only [ua,firstI_any]
theorem q8 (p:List zd):vz p=some (xI p):=by
 unfold vz xI;rw [contains_is (q:=λs=>!nameB s) p (λx _=>by unfold opMayPathC1;rw [opIsName_is];rfl),bnd1,bnd3];have e:p.any (λs=>!nameB s)=!p.all nameB:=by rw [uz];simp
 rw [e];cases h1:decide (1<=p.length) <;> cases h2:decide (p.length<=3) <;> simp
def actorB (a:GI):Bool:=decide (a.rep < 16)&&decide (a.inc >= 1)&&decide (a.inc<=4)
def xK (d:GC):Bool:=actorB d.actor&&decide (d.seq >= 1)&&decide (d.seq<=1048576)
theorem dotMay_is (d:GC):dotMay d=some (xK d):=rfl
theorem ref03MayActor_is (a:GI):wW a=some (actorB a):=by
 unfold wW actorB;have:decide (a.rep<=15)=decide (a.rep < 16):=sy.2 (by omega);rw [this]
theorem ref03May_is (d:GC):ref03May d=some (xK d):=by unfold ref03May;rw [ref03MayActor_is];rfl
def vM (a b:GC):Bool:=if a.actor.rep ≠ b.actor.rep then decide (a.actor.rep < b.actor.rep) else if a.actor.inc ≠ b.actor.inc then decide (a.actor.inc < b.actor.inc) else decide (a.seq < b.seq)
theorem ref03Less_is (a b:GC):ref03Less a b=some (vM a b):=by
 unfold ref03Less vM;by_cases h1:a.actor.rep=b.actor.rep <;> by_cases h2:a.actor.inc=b.actor.inc <;> simp [h1,h2]
def cmpI (a b:Int):Int:=if a < b then -1 else if b < a then 1 else 0
theorem cmpU8is (a b:Int):yP a b=some (cmpI a b):=by
 unfold yP wI cmpI;simp only [rI,ua,up,uL,uh,gt_iff_lt];split <;> (try split) <;> rfl
theorem cmpU32is (a b:Int):xT a b=some (cmpI a b):=by
 unfold xT wl cmpI;simp only [rI,ua,up,uL,uh,gt_iff_lt];split <;> (try split) <;> rfl
theorem cmpU64is (a b:Int):xp a b=some (cmpI a b):=by
 unfold xp wj cmpI;simp only [rI,ua,up,uL,uh,gt_iff_lt];split <;> (try split) <;> rfl
def or2 (a b:Int):Int:=if a ≠ 0 then a else b
theorem cmpOr2_is (a b:Int):vN [a,b]=some (or2 a b):=by
 unfold vN or2;by_cases h1:a=0 <;> by_cases h2:b=0 <;> simp [zq,h1,h2]
def actorCmp (a b:GI):Int:=or2 (cmpI a.rep b.rep) (cmpI a.inc b.inc)
def dotCmp (a b:GC):Int:=or2 (actorCmp a.actor b.actor) (cmpI a.seq b.seq)
theorem dotXcompare_is (a b:GI):qM a b=some (actorCmp a b):=by
 unfold qM;rw [cmpU8is,cmpU32is];simp only [ua];rw [cmpOr2_is];rfl
theorem dotCompare_is (a b:GC):qi a b=some (dotCmp a b):=by
 unfold qi;rw [dotXcompare_is,cmpU64is];simp only [ua];rw [cmpOr2_is];rfl
theorem dotCmp_lt (a b:GC):decide (dotCmp a b >= 0)=!vM a b:=by
 unfold dotCmp actorCmp vM cmpI or2
 grind

def rising:List GC->Bool
 | a::b::r=>vM a b&&rising (b::r)
 | _=>true
def xU (ds:List GC) (i:Nat) (x:GC):Bool:=decide (i=0) || vM (ds.getD (i - 1) default) x
theorem rising_loop (ds:List GC) {g:Nat->GC->Unit->Option (Out Bool Unit)}
  (o:∀i x,ds[i]?=some x->g i x ()=if (xK x&&xU ds i x)=true then some (.nxt ()) else some (.ret false)) :
  lp (zq g ds 0 ()) (λ_=>some true)=some (ds.all xK&&rising ds):=by
 have key:∀(L pre:List GC),ds=pre++L->lp (zq g L pre.length ()) (λ_=>some true)=some (L.all xK&&rising (match pre.getLast? with | some y=>y::L | none=>L)):=by
  intro L
  induction L with
  | nil=>intro pre h;cases hp:pre.getLast? <;> simp [zq,rising]
  | cons x t ih =>
   intro pre h;have hx:ds[pre.length]?=some x:=by rw [h];simp
   have c:=ih (pre++[x]) (by rw [h];simp);simp only [uf,ue,uk,te,List.getLast?_append,pj,rH] at c;simp only [zq,o _ _ hx];cases hp:pre.getLast? with
   | none =>
    have e:pre=[]:=r7.1 hp;subst e;simp only [uk,te] at c ⊢;cases hd:xK x <;> simp [xU,hd,c]
   | some y =>
    have f:pre ≠ []:=by rintro rfl;simp at hp
    have h0:0 < pre.length:=ri.2 f;have j:ds.getD (pre.length - 1) default=y:=by
     rw [uM,h,uo (by omega)];rw [rf] at hp;rw [hp];rfl
    have m:xU ds pre.length x=vM y x:=by
     unfold xU;rw [j];have:decide (pre.length=0)=false:=uR (by omega);rw [this];rfl
    rw [m];cases hd:xK x <;> cases hlt:vM y x <;> simp [hd,hlt,c,rising]
 have:=key ds [] rfl;simpa using this
theorem same_loop {α:Type} [DecidableEq α] (M:List α) {eq:α->α->Bool} (g:∀a b,eq a b=decide (a=b)) {f:Nat->α->Unit->Option (Out Bool Unit)} :
  ∀(L:List α) (i:Nat),L.length+i=M.length->(∀j x,L[j]?=some x->f (i+j) x ()=(wh M ((i+j:Nat):Int)).bind λy=>if (!eq x y)=true then some (.ret false) else some (.nxt ())) ->
  zq f L i ()=if L=M.drop i then some (.inr ()) else some (.inl false)
 | [],i,hl,_=>by
  rw [tr (by simp at hl;omega)];rfl
 | x::t,i,hl,h=>by
  simp only [ue] at hl;have hi:i < M.length:=by omega
  have h0:=h 0 x rfl;simp only [tE] at h0;rw [idx_at hi] at h0;have o:=same_loop M g (f:=f) t (i+1) (by omega) (λj y m=>by have:=h (j+1) y m;rw [show i+1+j=i+(j+1) by omega];exact this);have e:M.drop i=M[i]::M.drop (i+1):=(sx hi).symm;simp only [zq,h0,ua,g,e];by_cases hx:x=M[i]
  ·simp only [hx,rL,tT,up,uL,o,rm,pw]
  ·have c:¬ (x::t=M[i]::M.drop (i+1)):=λhh=>hx (rk hh).1;simp only [uR hx,tZ,uq,uG c]
theorem dotEq (a b:GC):(a.actor.rep==b.actor.rep&&(a.actor.inc==b.actor.inc&&(a.seq==b.seq&&true)))=decide (a=b):=by
 rcases a with ⟨⟨e,a2⟩,a3⟩;rcases b with ⟨⟨c,f⟩,g⟩
 rw [uz];simp [sm]
theorem slicesEqualDot_is (L M:List GC):wv L M=some (decide (L=M)):=by
 unfold wv;by_cases hl:L.length=M.length
 ·have e:((L.length:Int) != (M.length:Int))=false:=by simp;omega
  rw [e,same_loop M dotEq L 0 (by omega) (λj x c=>by simp)];by_cases h:L=M <;> simp [h]
 ·have e:((L.length:Int) != (M.length:Int))=true:=by simp;omega
  rw [e,uR (λh=>hl (by rw [h]))];rfl
section
variable {α ρ:Type}
def allI (g:Nat->α->Bool) (L:List α):Bool:=L.zipIdx.all λp=>g p.2 p.1
theorem allI_iff {g:Nat->α->Bool} {L:List α}:allI g L=true ↔ ∀i x,L[i]?=some x->g i x=true:=by
 unfold allI;rw [ur];constructor
 ·intro h i x hx;exact h (x,i) (rP.2 hx)
 ·rintro h ⟨x,i⟩ hx
  exact h i x (rP.1 hx)
theorem loopL_allI (g:Nat->α->Bool) {r:ρ} {f:Nat->α->Unit->Option (Out ρ Unit)}:∀(L:List α) (k:Nat),(∀i x,L[i]?=some x->f (k+i) x ()=if g (k+i) x=true then some (.nxt ()) else some (.ret r)) ->
  zq f L k ()=if ((L.zipIdx k).all λp=>g p.2 p.1)=true then some (.inr ()) else some (.inl r)
 | [],_,_=>rfl
 | x::t,k,h=>by
  have h0:=h 0 x rfl;simp only [tE] at h0;have c:=loopL_allI g (f:=f) (r:=r) t (k+1) (λi y e=>by have:=h (i+1) y (by simpa using e);rw [show k+1+i=k+(i+1) by omega];exact this);simp only [zq,h0,pg,uW];by_cases hg:g k x=true
  ·simp only [hg,uq,c,u5]
  ·simp only [hg,up,uL,rG]
theorem lp_all (g:Nat->α->Bool) {r:σ} {L:List α} {f:Nat->α->Unit->Option (Out σ Unit)} {rest:Unit->Option σ} (c:∀i x,L[i]?=some x->f i x ()=if g i x=true then some (.nxt ()) else some (.ret r)) :
  lp (zq f L 0 ()) rest=if allI g L=true then rest () else some r:=by
 rw [loopL_allI g L 0 (λi x hx=>by simpa using c i x hx)];unfold allI;split <;> rfl
theorem lp_all0 (g:α->Bool) {r:σ} {L:List α} {f:Nat->α->Unit->Option (Out σ Unit)} {rest:Unit->Option σ} (c:∀i x,L[i]?=some x->f i x ()=if g x=true then some (.nxt ()) else some (.ret r)) :
  lp (zq f L 0 ()) rest=if L.all g=true then rest () else some r:=by
 rw [lp_all (λ_=>g) c];have:allI (λ_=>g) L=L.all g:=by
  rw [uz,allI_iff,ur];exact ⟨λh x hx=>by obtain ⟨i,hi⟩:=tg.1 hx;exact h i x hi,λh i x hx=>h x (uD hx)⟩
 rw [this]
end
theorem vp {j:Nat} (c:j+1<=maxLen):IntKind.wrap .i64 (((j+1:Nat):Int) - 1)=(j:Int):=by
 simp only [maxLen] at c;rw [xV (by omega)];omega
theorem wrap_add1 {j:Nat} (c:j+1<=maxLen):IntKind.wrap .i64 ((j:Int)+1)=((j+1:Nat):Int):=by
 simp only [maxLen] at c;rw [xV (by omega)];omega
theorem qC (j:Nat):decide (((j+1:Nat):Int) > 0)=true:=tp (by omega)
def qz (n:Int):Bool:=decide (n >= 1)&&decide (n<=1099511627776)
def aheadI (a b:GF):Bool:=if a.time ≠ b.time then decide (a.time < b.time) else vM a.dot b.dot
theorem leafXisTime_is (n:Int):qH n=some (qz n):=rfl
theorem leafXisText_is (s:zd):vB s=some (decide (s.length<=40)):=by unfold vB;rw [sy.2 (show ((s.length:Int)<=40) ↔ s.length<=40 by omega)]
theorem dotCmp_neg (a b:GC):decide (dotCmp a b < 0)=vM a b:=by
 have h:=dotCmp_lt a b;have:decide (dotCmp a b < 0)=!decide (dotCmp a b >= 0):=by rw [uz];simp
 rw [this,h,Bool.not_not]
theorem leafAhead_is (a:Int) (d:GC) (b:Int) (o:GC):leafAhead a d b o=some (if a ≠ b then decide (a < b) else vM d o):=by
 unfold leafAhead leafXcompare;rw [cmpU64is,dotCompare_is];simp only [ua,cmpOr2_is];congr 1;by_cases h:a=b
 ·subst h;have:cmpI a a=0:=by unfold cmpI;simp
  simp [or2,this,dotCmp_neg]
 ·have:cmpI a b ≠ 0:=by unfold cmpI;split <;> (try split) <;> omega
  simp only [or2,this,ne_eq,not_false_eq_true,uq,h];unfold cmpI;rw [uz];simp only [uh];split <;> (try split) <;> omega
theorem ref05Ahead_is (a:Int) (d:GC) (b:Int) (o:GC):ref05Ahead a d b o=some (if a ≠ b then decide (a < b) else vM d o):=by
 unfold ref05Ahead;by_cases h:a=b <;> simp [h,ref03Less_is]
def prevI {α:Type} [Inhabited α] (L:List α) (i:Nat):α:=L.getD (i - 1) default
def wC (timed:Bool) (x:GF):Bool:=xK x.dot&&decide (x.text.length<=40)&&(if timed then qz x.time else decide (x.time=0))
def riseB (L:List GF):Bool:=allI (λi x=>decide (i=0) || aheadI (prevI L i) x) L
def onceB (L:List GF):Bool:=decide ((L.map (·.dot)).Nodup)
theorem eqb_iff (a b:GC):GC.eqb a b=decide (a=b):=by unfold GC.eqb;exact dotEq a b
def vK (m:List (GC×Int)):List GC:=m.map (·.1)
theorem mput_keys (m:List (GC×Int)) (k:GC) (v:Int):vK (mput GC.eqb m k v)=if k ∈ vK m then vK m else vK m++[k]:=by
 induction m with
 | nil=>simp [mput,vK]
 | cons e r ih =>
  simp only [mput,eqb_iff];by_cases h:k=e.1
  ·simp [h,vK]
  ·simp only [uR h,up,uL,vK,uu,ut] at ih ⊢;rw [ih];by_cases h2:k ∈ r.map (·.1) <;> simp [h,h2]
theorem twice_fold:∀(L:List GF) (m:List (GC×Int)),(vK m).Nodup ->
  (L.foldl (λs x=>mput GC.eqb s x.dot (IntKind.wrap .i64 ((xL GC.eqb 0 s x.dot)+1))) m).length<=m.length+L.length /\
  ((L.foldl (λs x=>mput GC.eqb s x.dot (IntKind.wrap .i64 ((xL GC.eqb 0 s x.dot)+1))) m).length=m.length+L.length ↔ (vK m++L.map (·.dot)).Nodup)
 | [],m,h=>by simp [h]
 | x::t,m,h=>by
  simp only [tV];have c:=mput_keys m x.dot (IntKind.wrap .i64 ((xL GC.eqb 0 m x.dot)+1));generalize hm:mput GC.eqb m x.dot (IntKind.wrap .i64 ((xL GC.eqb 0 m x.dot)+1))=m' at c;have g:m'.length=(vK m').length:=by simp [vK]
  have v:m.length=(vK m).length:=by simp [vK]
  by_cases hx:x.dot ∈ vK m
  ·rw [uv hx] at c;have f:=twice_fold t m' (by rw [c];exact h);rw [c] at f g;refine ⟨by simp only [ue];omega,?_⟩;constructor
   ·intro p;simp only [ue] at p;omega
   ·intro o;rw [List.nodup_append] at o;exact absurd rfl (o.2.2 _ hx _ (by simp))
  ·rw [uG hx] at c;have i:(vK m++[x.dot]).Nodup:=by
    rw [List.nodup_append];refine ⟨h,by simp,λa u b j=>?_⟩;simp at j;subst j;rintro rfl;exact hx u
   have f:=twice_fold t m' (by rw [c];exact i);rw [c] at f g;simp only [uf,ue,uk] at g;refine ⟨by simp only [ue];omega,?_⟩;have e:vK m++[x.dot]++t.map (·.dot)=vK m++(x::t).map (·.dot):=by simp
   rw [<- e,<- f.2];simp only [ue];omega
theorem leafXtwice_is (L:List GF):leafXtwice L=some (!onceB L):=by
 unfold leafXtwice;rw [loopL_fold (λs x=>mput GC.eqb s x.dot (IntKind.wrap .i64 ((xL GC.eqb 0 s x.dot)+1))) L 0 [] (λ_ _ _ _=>rfl)];have h:=twice_fold L [] (by simp [vK]);simp only [uk,te,vK,tN,uT] at h;simp only [vI,onceB];congr 1;generalize List.length (List.foldl _ _ _)=n at h ⊢;by_cases hn:(L.map (·.dot)).Nodup
 ·have:=h.2.2 hn;rw [tp hn,uR (by omega)];rfl
 ·have c:n ≠ L.length:=λe=>hn (h.2.1 e);rw [uR hn,tp (by omega)];rfl
theorem leafXitems_is (g:L.length<=maxLen) (c:Bool):qe L c=some (L.all (wC c)&&riseB L&&onceB L):=by
 unfold qe;rw [lp_all (r:=false) (λi x=>wC c x&&(decide (i=0) || aheadI (prevI L i) x))]
 ·rw [leafXtwice_is];have e:allI (λi x=>wC c x&&(decide (i=0) || aheadI (prevI L i) x)) L=(L.all (wC c)&&riseB L):=by
   rw [uz,ud,riseB,allI_iff,allI_iff,ur];constructor
   ·intro h;exact ⟨λx hx=>by obtain ⟨i,hi⟩:=tg.1 hx;have:=h i x hi;simp only [ud] at this;exact this.1,λi x hx=>by have:=h i x hx;simp only [ud] at this;exact this.2⟩
   ·rintro ⟨p,m⟩ i x hx
    simp only [ud];exact ⟨p x (uD hx),m i x hx⟩
  rw [e];simp only [ua,Bool.not_not];cases L.all (wC c)&&riseB L <;> simp
 ·intro i x hx;have hi:i < L.length:=(uc.1 hx).1;simp only [dotMay_is,leafXisText_is,leafXisTime_is,ua,leafAhead_is];have s:wC c x=(xK x.dot&&decide (x.text.length<=40)&&(c==qz x.time)&&(c || decide (x.time=0))):=by
   unfold wC;cases c
   ·by_cases h0:x.time=0
    ·simp [h0,show qz 0=false from rfl]
    ·simp [h0]
   ·simp
  rw [s];cases hd:xK x.dot
  ·simp
  cases ht:decide (x.text.length<=40)
  ·simp
  by_cases htt:c=qz x.time
  ·have t:(x.time != 0)=!decide (x.time=0):=by rw [uz];simp
   have f:(c==qz x.time)=true:=by simpa using htt
   rw [t,f];cases hzz:(c || decide (x.time=0))
   ·have:(!c&&!decide (x.time=0))=true:=by rw [<- Bool.not_or,hzz];rfl
    simp [this]
   have:(!c&&!decide (x.time=0))=false:=by rw [<- Bool.not_or,hzz];rfl
   rw [this];rcases i with _ | j
   ·simp [ym,htt]
   ·rw [vp (by simp only [maxLen] at g ⊢;omega),qC];have o:(j:Int) < (L.length:Int):=by omega
    simp [ym,o,prevI,aheadI,htt];by_cases hq:(L[j]?.getD default).time=x.time
    ·cases hdl:vM (L[j]?.getD default).dot x.dot <;> simp [hq,hdl]
    ·by_cases hlt:(L[j]?.getD default).time < x.time
     ·simp [hq,hlt,Int.not_le.2 hlt]
     ·simp [hq,hlt,Int.not_lt.1 hlt]
  ·have f:(c==qz x.time)=false:=by simpa using htt
   rw [f];simp [htt]

theorem itemEq (a b:GF):(a.time==b.time&&(a.dot.actor.rep==b.dot.actor.rep&&(a.dot.actor.inc==b.dot.actor.inc&&(a.dot.seq==b.dot.seq&&(a.text==b.text&&true)))))=decide (a=b):=by
 rcases a with ⟨a0,⟨⟨e,a2⟩,a3⟩,a4⟩;rcases b with ⟨b0,⟨⟨c,f⟩,h⟩,g⟩
 rw [uz];simp [sm]
theorem slicesEqualItem_is (L M:List GF):wd L M=some (decide (L=M)):=by
 unfold wd;by_cases hl:L.length=M.length
 ·have e:((L.length:Int) != (M.length:Int))=false:=by simp;omega
  rw [e,same_loop M itemEq L 0 (by omega) (λj x c=>by simp)];by_cases h:L=M <;> simp [h]
 ·have e:((L.length:Int) != (M.length:Int))=true:=by simp;omega
  rw [e,uR (λh=>hl (by rw [h]))];rfl
theorem leafSame_is (a b:GE):xR a b=some (decide (a=b)):=by
 unfold xR;simp only [slicesEqualItem_is,slicesEqualDot_is,dotEq];rcases a with ⟨a0,f,a2,a3,a4,a5,m⟩;rcases b with ⟨b0,c,h,j,i,e,g⟩
 simp only [GE.mk.injEq];by_cases h0:a0=b0 <;> by_cases h1:f=c <;> by_cases h2:a2=h <;> by_cases h3:a3=j <;> by_cases h4:a4=i <;> by_cases h5:a5=e <;> by_cases h6:m=g <;> simp [h0,h1,h2,h3,h4,h5,h6]
def dot0:GC:=⟨⟨0,0⟩,0⟩
def zeroB (l:GE):Bool:=decide (l.time=0)&&decide (l.dot=dot0)&&decide (l.text=[])
def tombsB (l:GE):Bool:=l.tombs.all xK&&rising l.tombs&&l.tombs.all (λd=>!l.items.any λx=>decide (x.dot=d))
def leafB (l:GE):Bool :=
 if l.typ=1 then zeroB l&&decide (l.items=[])&&decide (l.tombs=[])
 else if l.typ=2 then decide (l.n=0)&&decide (l.items=[])&&decide (l.tombs=[])&&(if l.time=0 then decide (l.dot=dot0)&&decide (l.text=[]) else qz l.time&&xK l.dot&&decide (l.text.length<=40))
 else if l.typ=3 then decide (l.n=0)&&zeroB l&&(l.items.all (wC false)&&riseB l.items&&onceB l.items)&&tombsB l
 else if l.typ=4 then decide (l.n=0)&&zeroB l&&decide (l.tombs=[])&&(l.items.all (wC true)&&riseB l.items&&onceB l.items)
 else false
theorem containsItem_is {f:GF->Option Bool} {q:GF->Bool} (p:List GF) (c:∀x ∈ p,f x=some (q x)):yK p f=some (p.any q):=by
 unfold yK xO;rw [first_loop p c,ua,firstI_any]
theorem leafXhas_is (L:List GF) (d:GC):leafXhas L d=some (L.any λx=>decide (x.dot=d)):=by
 unfold leafXhas;rw [containsItem_is (q:=λx=>decide (x.dot=d)) L (λx _=>by unfold leafXhasC1;rw [dotEq]),ua]
theorem rising_allI (ds:List GC):rising ds=allI (λi x=>xU ds i x) ds:=by
 have h:=rising_loop ds (g:=λi x _=>if (xK x&&xU ds i x)=true then some (.nxt ()) else some (.ret false)) (λ_ _ _=>rfl);have key:∀(L pre:List GC),ds=pre++L->rising (match pre.getLast? with | some y=>y::L | none=>L)=(L.zipIdx pre.length).all λp=>xU ds p.2 p.1:=by
  intro L
  induction L with
  | nil=>intro pre _;cases pre.getLast? <;> simp [rising]
  | cons x t ih =>
   intro pre hd;have c:=ih (pre++[x]) (by rw [hd];simp);simp only [uf,ue,uk,te,List.getLast?_append,pj,rH] at c;simp only [pg,uW];cases hp:pre.getLast? with
   | none =>
    have e:pre=[]:=r7.1 hp;subst e;simp only [uk,te] at c ⊢;rw [c];simp [xU]
   | some y =>
    have f:pre ≠ []:=by rintro rfl;simp at hp
    have h0:0 < pre.length:=ri.2 f;have j:ds.getD (pre.length - 1) default=y:=by
     rw [uM,hd,uo (by omega)];rw [rf] at hp;rw [hp];rfl
    have m:xU ds pre.length x=vM y x:=by
     unfold xU;rw [j,uR (by omega)];rfl
    rw [m,<- c];simp [rising]
 simpa [allI] using key ds [] rfl
theorem leafXtombs_is (f:l.tombs.length<=maxLen):leafXtombs l=some (tombsB l):=by
 unfold leafXtombs;rw [lp_all (r:=false) (λi x=>xK x&&xU l.tombs i x&&!(l.items.any λy=>decide (y.dot=x)))]
 ·have e:allI (λi x=>xK x&&xU l.tombs i x&&!(l.items.any λy=>decide (y.dot=x))) l.tombs=tombsB l:=by
   unfold tombsB;rw [uz,rising_allI,ud,ud,allI_iff,allI_iff,ur,ur];constructor
   ·intro h;refine ⟨⟨λx hx=>?_,λi x hx=>?_⟩,λx hx=>?_⟩
    ·obtain ⟨i,hi⟩:=tg.1 hx;have:=h i x hi;simp only [ud] at this;exact this.1.1
    ·have:=h i x hx;simp only [ud] at this;exact this.1.2
    ·obtain ⟨i,hi⟩:=tg.1 hx;have:=h i x hi;simp only [ud] at this;exact this.2
   ·rintro ⟨⟨o,g⟩,p⟩ i x hx
    have c:=uD hx;simp only [ud];exact ⟨⟨o x c,g i x hx⟩,p x c⟩
  rw [e];cases tombsB l <;> rfl
 ·intro i x hx;have hi:i < l.tombs.length:=(uc.1 hx).1;simp only [dotMay_is,ua,dotCompare_is,leafXhas_is];cases hd:xK x
  ·simp [ym]
  rcases i with _ | j
  ·cases hh:(l.items.any λy=>decide (y.dot=x)) <;> simp [ym,xU]
  ·rw [vp (by simp only [maxLen] at f ⊢;omega),qC];have s:(j:Int) < (l.tombs.length:Int):=by omega
   have m:xU l.tombs (j+1) x=vM (l.tombs.getD j default) x:=by unfold xU;simp
   have e:=dotCmp_lt (l.tombs.getD j default) x;rw [zx (by intro _;omega),m,uP];generalize l.tombs.getD j default=y at e ⊢;simp only [tT,BEq.rfl,u5,uq,ua,e,tK];cases hlt:vM y x
   ·simp
   ·cases hh:(l.items.any λy=>decide (y.dot=x)) <;> simp
theorem leafMay_is (hi:l.items.length<=maxLen) (h:l.tombs.length<=maxLen):leafMay l=some (leafB l):=by
 unfold leafMay leafB;simp only [leafSame_is,leafXisTime_is,dotMay_is,leafXisText_is,leafXitems_is hi,leafXtombs_is h,dotEq,ua];rcases l with ⟨t,n,e,d,f,c,g⟩
 simp only [GE.mk.injEq,zeroB,sI,dot0];by_cases h1:t=1
 ·simp only [h1,uq];congr 1;rw [uz];simp [sm];intros;exact rY.symm
 by_cases h2:t=2
 ·subst h2;by_cases h0:e=0
  ·subst h0;by_cases hd:d=⟨⟨0,0⟩,0⟩
   ·by_cases hx:f=[]
    ·simp [hd,hx];rw [uz];simp [sm]
    ·simp [hd,hx]
   ·have p:((0:Int)==0&&!decide (d=⟨⟨0,0⟩,0⟩))=true:=by simp [hd]
    simp [hd];intro j;rcases d with ⟨⟨o,i⟩,m⟩
    simp_all
  ·cases htt:qz e <;> cases hdd:xK d <;> cases hxx:decide (f.length<=40) <;> simp_all [sm];rw [uz];simp [sm]
 by_cases h3:t=3
 ·subst h3;cases ha:(c.all (wC false)&&riseB c&&onceB c) <;> cases hb:tombsB ⟨3,n,e,d,f,c,g⟩ <;> simp [sm];rw [uz];simp [sm];intros;exact rY.symm
 by_cases h4:t=4
 ·subst h4;cases ha:(c.all (wC true)&&riseB c&&onceB c) <;> simp [sm];rw [uz];simp [sm];intros;exact rY.symm
 simp [h1,h2,h3,h4]

theorem ref05Item_is (L:List GF) (d:GC):ref05Item L d=some (qf (λx=>decide (x.dot=d)) L):=by
 unfold ref05Item;rw [loopL_first (λx:GF=>decide (x.dot=d)) (λi _=>(i:Int)) _ _ (λi x _=>by rw [dotEq])];unfold qf;cases h:L.findIdx? (λx=>decide (x.dot=d)) with
 | none=>simp
 | some j =>
  obtain ⟨c,_⟩:=sE.1 h;simp [ui c]
theorem ref05Tomb_is (L:List GC) (d:GC):ref05Tomb L d=some (L.any λx=>decide (x=d)):=by
 unfold ref05Tomb;rw [lp_all0 (r:=true) (λx:GC=>!decide (x=d)) (λi x _=>by rw [dotEq];cases decide (x=d) <;> rfl)];have e:L.any (λx=>decide (x=d))=!L.all (λx=>!decide (x=d)):=by rw [uz];simp
 rw [e];cases L.all (λx=>!decide (x=d)) <;> rfl
theorem first_nodup (L:List GF):(∀(i:Nat) (x:GF),L[i]?=some x->qf (λy:GF=>decide (y.dot=x.dot)) L=(i:Int)) ↔ (L.map (·.dot)).Nodup:=by
 constructor
 ·intro h;rw [rZ,tx];intro i j hi c o e;simp only [ux] at hi c;simp only [List.getElem_map] at e;have g:=h i _ (ui hi);have m:=h j _ (ui c);rw [e] at g;rw [g] at m;omega
 ·intro h i x hx;obtain ⟨hi,rfl⟩:=uc.1 hx;unfold qf;have:L.findIdx? (λy=>decide (y.dot=L[i].dot))=some i:=by
   rw [sE];refine ⟨hi,by simp,λj c=>?_⟩;have f:j < L.length:=by omega
   simp only [uh];intro e;rw [rZ,tx] at h;exact h j i (by simpa using f) (by simpa using hi) c (by simpa using e)
  rw [this]
def itemR (t:Int) (x:GF):Bool:=xK x.dot&&decide (x.text.length<=40)&&(decide (t ≠ 3) || decide (x.time=0))&&(decide (t ≠ 4) || qz x.time)
def tailB (l:GE):Bool:=l.items.all (itemR l.typ)&&onceB l.items&&l.items.all (λx=>!(l.tombs.any λy=>decide (y=x.dot)))&&riseB l.items&&(l.tombs.all xK&&rising l.tombs)
theorem items_allI (l:GE):allI (λi x=>itemR l.typ x&&(decide (qf (λy:GF=>decide (y.dot=x.dot)) l.items=(i:Int))&&(!(l.tombs.any λy=>decide (y=x.dot))&&(decide (i=0) || aheadI (prevI l.items i) x)))) l.items =
  (l.items.all (itemR l.typ)&&onceB l.items&&l.items.all (λx=>!(l.tombs.any λy=>decide (y=x.dot)))&&riseB l.items):=by
 rw [uz,allI_iff];simp only [ud,uh,onceB,riseB,allI_iff,ur,<- first_nodup];constructor
 ·intro h;refine ⟨⟨⟨λx hx=>?_,λi x hx=>(h i x hx).2.1⟩,λx hx=>?_⟩,λi x hx=>(h i x hx).2.2.2⟩
  ·obtain ⟨i,hi⟩:=tg.1 hx;exact (h i x hi).1
  ·obtain ⟨i,hi⟩:=tg.1 hx;exact (h i x hi).2.2.1
 ·rintro ⟨⟨⟨g,e⟩,j⟩,f⟩ i x hx
  have c:=uD hx;exact ⟨g x c,e i x hx,j x c,f i x hx⟩
theorem tombs_allI (ds:List GC):allI (λi x=>xK x&&xU ds i x) ds=(ds.all xK&&rising ds):=by
 rw [uz,allI_iff,rising_allI];simp only [ud,allI_iff,ur];constructor
 ·intro h;exact ⟨λx hx=>by obtain ⟨i,hi⟩:=tg.1 hx;exact (h i x hi).1,λi x hx=>(h i x hx).2⟩
 ·rintro ⟨e,c⟩ i x hx
  exact ⟨e x (uD hx),c i x hx⟩
theorem ref05May_is (hi:l.items.length<=maxLen) (z:l.tombs.length<=maxLen) (h0:0<=l.time):ref05May l=some (leafB l):=by
 unfold ref05May;simp only [ref03May_is,ref05Item_is,ref05Tomb_is,ref05Ahead_is,ref03Less_is,ua,dotEq];generalize hT:lp (zq _ l.items 0 ()) _=T;have G:decide ((l.items.length:Int) > 0)=!decide (l.items=[]):=by cases l.items <;> simp
 have a2:decide ((l.tombs.length:Int) > 0)=!decide (l.tombs=[]):=by cases l.tombs <;> simp
 have o:T=some (tailB l):=by
  rw [<- hT,lp_all (r:=false) (λi x=>itemR l.typ x&&(decide (qf (λy:GF=>decide (y.dot=x.dot)) l.items=(i:Int))&&(!(l.tombs.any λy=>decide (y=x.dot))&&(decide (i=0) || aheadI (prevI l.items i) x))))]
  ·rw [lp_all (r:=false) (λi x=>xK x&&xU l.tombs i x)]
   ·rw [items_allI,tombs_allI];unfold tailB;cases (l.items.all (itemR l.typ)&&onceB l.items&&l.items.all (λx=>!(l.tombs.any λy=>decide (y=x.dot)))&&riseB l.items) <;> cases (l.tombs.all xK&&rising l.tombs) <;> simp
   ·intro i x hx;have t:i < l.tombs.length:=(uc.1 hx).1;have m:l.tombs.getD i default=x:=by rw [uM,hx];rfl
    rcases i with _ | j
    ·cases hd:xK x <;> simp [ym,xU]
    ·rw [vp (by simp only [maxLen] at z ⊢;omega),qC,uP,uP,m];have v:xU l.tombs (j+1) x=vM (l.tombs.getD j default) x:=by unfold xU;simp
     rw [zx (by intro _;omega),zx (by intro _;omega),v];generalize l.tombs.getD j default=y;cases hd:xK x <;> cases g:vM y x <;> simp
  ·intro i x hx;have t:i < l.items.length:=(uc.1 hx).1;have w:decide ((x.text.length:Int) > 40)=!decide (x.text.length<=40):=by rw [uz];simp;omega
   have D:(((l.typ==4)&&(decide (x.time < 1) || decide (x.time > 1099511627776))))=!(decide (l.typ ≠ 4) || qz x.time):=by
    rw [uz];simp [qz]
   have A:((l.typ==3)&&(x.time != 0))=!(decide (l.typ ≠ 3) || decide (x.time=0)):=by rw [uz];simp
   rw [w,D,A];have H:(((!xK x.dot || !decide (x.text.length<=40)) || !(decide (l.typ ≠ 3) || decide (x.time=0))) || !(decide (l.typ ≠ 4) || qz x.time))=!itemR l.typ x:=by unfold itemR;simp only [Bool.not_and]
   rw [H];have E:(qf (λy:GF=>decide (y.dot=x.dot)) l.items != (i:Int))=!decide (qf (λy:GF=>decide (y.dot=x.dot)) l.items=(i:Int)):=by rw [uz];simp
   cases hr:itemR l.typ x
   ·simp
   simp only [tT,BEq.rfl,uq,ua,tK];rw [E];cases hf:decide (qf (λy:GF=>decide (y.dot=x.dot)) l.items=(i:Int))
   ·simp
   cases htb:l.tombs.any λy=>decide (y=x.dot)
   ·rcases i with _ | j
    ·simp [ym]
    ·rw [vp (by simp only [maxLen] at hi ⊢;omega),qC,uP];rw [zx (by intro _;omega),zx (by intro _;omega)];have v:(if (l.items.getD j default).time ≠ x.time then decide ((l.items.getD j default).time < x.time) else vM (l.items.getD j default).dot x.dot)=aheadI (prevI l.items (j+1)) x:=rfl;rw [v];cases aheadI (prevI l.items (j+1)) x <;> simp
   ·simp
 subst o;clear hT;rw [G,a2];have B:(l.time != 0)=!decide (l.time=0):=by rw [uz];simp
 have z2:(l.time==0)=decide (l.time=0):=by rw [uz];simp
 have z3:(l.text==([]:zd))=decide (l.text=[]):=by rw [uz];simp
 have z4:decide (l.time > 1099511627776)=!decide (l.time<=1099511627776):=by rw [uz];simp
 have z5:decide ((l.text.length:Int) > 40)=!decide (l.text.length<=40):=by rw [uz];simp;omega
 have s:zeroB l=(decide (l.time=0)&&decide (l.dot=dot0)&&decide (l.text=[])):=rfl;have C:(l.dot.actor.rep==0&&(l.dot.actor.inc==0&&(l.dot.seq==0&&true)))=decide (l.dot=dot0):=dotEq l.dot dot0;rw [B,z2,z3,z4,z5,C];by_cases h1:l.typ=1
 ·have hi:decide (l.items=[])=true->tailB l=(l.tombs.all xK&&rising l.tombs):=by
   intro h;have:=u9 h;unfold tailB;rw [this];simp [onceB,riseB,allI]
  unfold leafB;simp only [h1,uq,s];cases hi2:decide (l.items=[])
  ·simp
  ·rw [hi hi2];cases ht2:decide (l.tombs=[])
   ·simp
   ·have:=u9 ht2;rw [this];cases decide (l.time=0) <;> cases decide (l.dot=dot0) <;> cases decide (l.text=[]) <;> simp [rising]
 by_cases h2:l.typ=2
 ·have hi:decide (l.items=[])=true->tailB l=(l.tombs.all xK&&rising l.tombs):=by
   intro h;have:=u9 h;unfold tailB;rw [this];simp [onceB,riseB,allI]
  unfold leafB;have f:qz l.time=(!decide (l.time=0)&&decide (l.time<=1099511627776)):=by
   unfold qz;rw [uz];simp;omega
  simp only [h2,uq,f];cases hn:decide (l.n=0)
  ·have:(l.n != 0)=true:=by simpa using hn
   simp [this]
  ·have c:l.n=0:=u9 hn;cases hi2:decide (l.items=[])
   ·simp [c]
   ·rw [hi hi2];cases ht2:decide (l.tombs=[])
    ·simp [c]
    ·have:=u9 ht2;rw [this];by_cases ht0:l.time=0
     ·cases hdd:decide (l.dot=dot0) <;> cases htx:decide (l.text=[]) <;> simp [c,ht0,rising]
     ·cases hm:decide (l.time<=1099511627776) <;> cases hdd:xK l.dot <;> cases htx:decide (l.text.length<=40) <;> simp [c,ht0,rising]
 by_cases h3:l.typ=3
 ·have u:(λx=>itemR 3 x)=wC false:=by
   funext x;unfold itemR wC;simp
  have p:tailB l=(l.items.all (wC false)&&riseB l.items&&onceB l.items&&tombsB l):=by
   unfold tailB tombsB;rw [h3,show itemR 3=wC false from u];have F:l.items.all (λx=>!(l.tombs.any λy=>decide (y=x.dot)))=l.tombs.all (λd=>!l.items.any λx=>decide (x.dot=d)):=by
    rw [uz];simp only [ur,sH,List.any_eq_false,uh];exact ⟨λh d hd x hx e=>h x hx d hd e.symm,λh x hx d hd e=>h d hd x hx e.symm⟩
   rw [F];cases l.items.all (wC false) <;> cases onceB l.items <;> cases riseB l.items <;> cases l.tombs.all xK <;> cases rising l.tombs <;> cases l.tombs.all (λd=>!l.items.any λx=>decide (x.dot=d)) <;> rfl
  unfold leafB;simp only [h3,p,s];cases hn:decide (l.n=0)
  ·have:(l.n != 0)=true:=by simpa using hn
   simp [this]
  ·have c:l.n=0:=u9 hn;cases decide (l.time=0) <;> cases decide (l.dot=dot0) <;> cases decide (l.text=[]) <;> simp [c]
 by_cases h4:l.typ=4
 ·have u:(λx=>itemR 4 x)=wC true:=by
   funext x;unfold itemR wC;simp
  have p:decide (l.tombs=[])=true->tailB l=(l.items.all (wC true)&&riseB l.items&&onceB l.items):=by
   intro h;have:=u9 h;unfold tailB;rw [h4,show itemR 4=wC true from u,this];cases l.items.all (wC true) <;> cases onceB l.items <;> cases riseB l.items <;> simp [rising]
  unfold leafB;simp only [h4,s];cases hn:decide (l.n=0)
  ·have:(l.n != 0)=true:=by simpa using hn
   simp [this]
  ·have c:l.n=0:=u9 hn;cases ht2:decide (l.tombs=[])
   ·simp [c]
   ·rw [p ht2];cases decide (l.time=0) <;> cases decide (l.dot=dot0) <;> cases decide (l.text=[]) <;> simp [c]
 have g:l.typ < 1 \/ 4 < l.typ:=by omega
 have:(decide (l.typ < 1) || decide (l.typ > 4))=true:=by simp;omega
 unfold leafB;rw [this,uG h1,uG h2,uG h3,uG h4];simp

mutual
def GA.dep:GA->Nat
 | ⟨_,_,sb⟩=>GA.deps sb+1
def GA.deps:List GA->Nat
 | []=>0
 | x::r=>max x.dep (GA.deps r)
end
theorem qy {x:GA}:∀{t:List GA},x ∈ t->x.dep<=GA.deps t
 | [],h=>by cases h
 | y::r,h=>by
  simp only [GA.deps];rcases ut.1 h with rfl | h
  ·omega
  ·have:=qy h;omega
theorem xy (x:GA):GA.deps x.subs+1=x.dep:=by cases x;simp [GA.dep]
def Small (t:List GA):Prop:=GA.wfs t/\GA.bks t<=16777216
theorem bk_pos (x:GA):1<=x.bk:=by cases x;simp only [GA.bk];omega
theorem len_bks:∀t:List GA,t.length<=GA.bks t
 | []=>by simp [GA.bks]
 | x::r=>by have:=len_bks r;have:=bk_pos x;simp only [GA.bks,ue];omega
theorem bk_mem {x:GA}:∀{t:List GA},x ∈ t->x.bk<=GA.bks t
 | [],h=>by cases h
 | y::r,h=>by
  simp only [GA.bks];rcases ut.1 h with rfl | h
  ·omega
  ·have:=bk_mem h;omega
theorem sum_len {α:Type} {f:α->Nat} (h:∀x,1<=f x):∀l:List α,l.length<=(l.map f).sum
 | []=>by simp
 | x::r=>by have:=sum_len h r;have:=h x;simp only [ue,uu,tc];omega
theorem sum_mem {α:Type} {f:α->Nat} {x:α}:∀{l:List α},x ∈ l->f x<=(l.map f).sum
 | [],h=>by cases h
 | y::r,h=>by
  simp only [uu,tc];rcases ut.1 h with rfl | h
  ·omega
  ·have:=sum_mem (f:=f) h;omega
theorem bk_node (x:GA):x.name.length+1+((x.leaves.map GE.bk).sum+1)+(GA.bks x.subs+1)<=x.bk:=by cases x;simp only [GA.bk];omega
theorem Small.subs {t:List GA} (h:Small t) {x:GA} (hx:x ∈ t):Small x.subs:=by
 refine ⟨?_,by have:=bk_mem hx;have:=bk_node x;have:=h.2;omega⟩;have:=(GA.wfs_iff t).1 h.1 x hx;cases x;simp only [GA.wf] at this;exact this.2.2
theorem Small.len {t:List GA} (h:Small t):t.length<=16777216:=uB (len_bks t) h.2
structure LeafOk (l:GE):Prop where
 items:l.items.length<=16777216
 tombs:l.tombs.length<=16777216
 time:0<=l.time
theorem Small.leaf {t:List GA} (h:Small t) {x:GA} (hx:x ∈ t) {l:GE} (c:l ∈ x.leaves):LeafOk l:=by
 have j:=bk_mem hx;have g:=bk_node x;have p:=h.2;have i:l.bk<=_:=sum_mem (f:=GE.bk) c;have o:(l.items.map GF.bk).sum+1+((l.tombs.map GC.bk).sum+1)<=l.bk:=by unfold GE.bk;omega
 have e:=sum_len (f:=GF.bk) (λx=>by unfold GF.bk;omega) l.items;have m:=sum_len (f:=GC.bk) (λx=>by unfold GC.bk;omega) l.tombs;refine ⟨by omega,by omega,?_⟩;have:=(GA.wfs_iff t).1 h.1 x hx;cases x;simp only [GA.wf] at this;have:=this.2.1.2 l c;unfold GE.wf at this;have:=this.2.2.1;unfold InK at this;simp [IntKind.min,IntKind.max,IntKind.signed,IntKind.bits] at this;omega
theorem Small.leaves {t:List GA} (h:Small t) {x:GA} (hx:x ∈ t):x.leaves.length<=16777216:=by
 have g:=bk_mem hx;have e:=bk_node x;have i:=h.2;have c:=sum_len (f:=GE.bk) (λx=>by unfold GE.bk;omega) x.leaves;omega
def upB (t:List GA):Bool:=allI (λi x=>decide (i=0) || Op.bytesLess (t.getD (i - 1) default).name x.name) t
def leavesB (ls:List GE):Bool:=allI (λi l=>leafB l&&(decide (i=0) || decide ((ls.getD (i - 1) default).typ < l.typ))) ls
mutual
def nodeB (d:Nat):GA->Bool
 | ⟨nm,ls,sb⟩=>nameB nm&&!(ls.isEmpty&&sb.isEmpty)&&((sb.isEmpty || decide (d+1 < 3))&&upB sb&&xj (d+1) sb)&&leavesB ls
def xj (d:Nat):List GA->Bool
 | []=>true
 | x::r=>nodeB d x&&xj d r
end
def treeB (d:Nat) (t:List GA):Bool:=(t.isEmpty || decide (d < 3))&&upB t&&xj d t
theorem yD (d:Nat):∀t,xj d t=t.all (nodeB d)
 | []=>rfl
 | x::r=>by simp only [xj,uW,yD d r]
theorem qF (d:Nat) (x:GA):nodeB d x=(nameB x.name&&!(x.leaves.isEmpty&&x.subs.isEmpty)&&treeB (d+1) x.subs&&leavesB x.leaves):=by cases x;rfl
theorem up_nodes (d:Nat) (t:List GA):allI (λi x=>nodeB d x&&(decide (i=0) || Op.bytesLess (t.getD (i - 1) default).name x.name)) t=(upB t&&xj d t):=by
 rw [uz,allI_iff,yD];simp only [ud,upB,allI_iff,ur];constructor
 ·intro h;exact ⟨λi x hx=>(h i x hx).2,λx hx=>by obtain ⟨i,hi⟩:=tg.1 hx;exact (h i x hi).1⟩
 ·rintro ⟨e,c⟩ i x hx
  exact ⟨c x (uD hx),e i x hx⟩
theorem lenE {α:Type} (l:List α):((l.length:Int)==0)=l.isEmpty:=by cases l <;> simp;omega
theorem treeXmayN_is:∀(n:Nat) (t:List GA) (d:Nat),GA.deps t < n->d<=3->Small t->vq n t (d:Int)=some (treeB d t)
 | 0,_,_,h,_,_=>by omega
 | n+1,t,d,h,hd,hs=>by
  unfold vq;by_cases hc:(decide ((t.length:Int) > 0)&&((d:Int)==3))=true
  ·rw [uv hc];simp only [ud,uh,sI] at hc;have:t.isEmpty=false:=by cases t <;> simp at hc ⊢
   have c:decide (d < 3)=false:=uR (by omega);simp [treeB,this,c]
  ·rw [uG hc];have u:(t.isEmpty || decide (d < 3))=true:=by
    simp only [ud,uh,sI] at hc;cases t with
    | nil=>rfl
    | cons x r=>simp at hc ⊢;omega
   have I:=hs.len;rw [lp_all (r:=false) (λi x=>nodeB d x&&(decide (i=0) || Op.bytesLess (t.getD (i - 1) default).name x.name)),up_nodes]
   ·unfold treeB;rw [u,u5];cases upB t&&xj d t <;> rfl
   ·intro i x hx;have hi:i < t.length:=(uc.1 hx).1;have m:=uD hx;have z:=qy m;have C:=xy x;have A:0 < t.length:=by omega
    have c:d < 3:=by
     simp only [ud,uh,sI] at hc;omega
    have F:IntKind.wrap .i64 ((d:Int)+1)=((d+1:Nat):Int):=by rw [xV (by omega)];omega
    have H:=treeXmayN_is n x.subs (d+1) (by omega) (by omega) (hs.subs m);have B:=hs.leaves m;have D:=(hs.subs m).len;have s:IntKind.wrap .i64 ((x.leaves.length:Int)+(x.subs.length:Int))=((x.leaves.length+x.subs.length:Nat):Int):=by rw [xV (by omega)];omega
    have E:((((x.leaves.length+x.subs.length:Nat):Int))==0)=(x.leaves.isEmpty&&x.subs.isEmpty):=by
     cases h1:x.leaves <;> cases h2:x.subs <;> simp <;> omega
    rw [opIsName_is,F,H,s,E,qF];have v:lp (zq (λ(p:Nat) (w:GE) (s2:Unit)=>(((leafMay w).bind λg=>(ym ((((!g)==false)&&((decide ((p:Int) > (0:Int)))==true))=true->0<=(IntKind.wrap .i64 ((p:Int) - (1:Int)))/\(IntKind.wrap .i64 ((p:Int) - (1:Int))) < ((x.leaves).length:Int)) ((if ((!g) || ((decide ((p:Int) > (0:Int)))&&(decide (((x.leaves).getD (IntKind.wrap .i64 ((p:Int) - (1:Int))).toNat default).typ >= w.typ))))=true then some (.ret (.ret false)) else some (.nxt ()))))):Option (Out (Out Bool Unit) Unit))) x.leaves 0 ()) (λ(s2:Unit)=>some (.nxt ()))=if leavesB x.leaves=true then some (.nxt ()) else some (.ret false):=by
     rw [lp_all (r:=.ret false) (λi l=>leafB l&&(decide (i=0) || decide ((x.leaves.getD (i - 1) default).typ < l.typ)))]
     ·rfl
     ·intro j l f;have G:j < x.leaves.length:=(uc.1 f).1;have o:=hs.leaf m (uD f);rw [leafMay_is (by have:=o.items;simp only [maxLen];omega) (by have:=o.tombs;simp only [maxLen];omega)];simp only [ua];rcases j with _ | j
      ·cases leafB l <;> simp [ym]
      ·rw [vp (by simp only [maxLen];omega),qC,uP,zx (by intro _;omega)];have e:decide ((x.leaves.getD j default).typ >= l.typ)=!decide ((x.leaves.getD j default).typ < l.typ):=by rw [uz];simp
       rw [e,tW];generalize (x.leaves.getD j default)=y;cases leafB l <;> cases decide (y.typ < l.typ) <;> simp
    rw [v];simp only [ua];rcases i with _ | j
    ·cases nameB x.name <;> cases (x.leaves.isEmpty&&x.subs.isEmpty) <;> cases treeB (d+1) x.subs <;> cases leavesB x.leaves <;> simp [ym]
    ·rw [vp (by simp only [maxLen];omega),qC,uP,zx (by intro _;omega),tW];generalize (t.getD j default)=y;cases nameB x.name <;> cases (x.leaves.isEmpty&&x.subs.isEmpty) <;> cases treeB (d+1) x.subs <;> cases leavesB x.leaves <;> cases Op.bytesLess y.name x.name <;> simp
theorem treeMay_is {t:List GA} (h:Small t):treeMay t=some (treeB 0 t):=by
 unfold treeMay treeXmay;have:=anyN_of (g:=λn=>vq n t 0) (r:=treeB 0 t) (GA.deps t+1) (λn c=>by have:=treeXmayN_is n t 0 (by omega) (by omega) h;simpa using this);rw [this];rfl
theorem ref07XmayN_is:∀(n:Nat) (t:List GA) (d:Nat),GA.deps t < n->d<=3->Small t->ww n t (d:Int)=some (treeB d t)
 | 0,_,_,h,_,_=>by omega
 | n+1,t,d,h,hd,hs=>by
  unfold ww;have D:=hs.len;rw [lp_all (r:=false) (λi x=>decide (d < 3)&&(nodeB d x&&(decide (i=0) || Op.bytesLess (t.getD (i - 1) default).name x.name)))]
  ·have e:allI (λi x=>decide (d < 3)&&(nodeB d x&&(decide (i=0) || Op.bytesLess (t.getD (i - 1) default).name x.name))) t=treeB d t:=by
    unfold treeB;rw [Bool.and_assoc,<- up_nodes];cases hd3:decide (d < 3)
    ·cases t with
     | nil=>rfl
     | cons x r=>simp [allI]
    ·simp
   rw [e];cases treeB d t <;> rfl
  ·intro i x hx;have hi:i < t.length:=(uc.1 hx).1;have m:=uD hx;have u:=qy m;have w:=xy x;have o:decide ((d:Int) >= 3)=!decide (d < 3):=by rw [uz];simp;omega
   rw [o];by_cases hd3:d < 3
   ·have z:IntKind.wrap .i64 ((d:Int)+1)=((d+1:Nat):Int):=by rw [xV (by omega)];omega
    have C:=ref07XmayN_is n x.subs (d+1) (by omega) (by omega) (hs.subs m);have v:=hs.leaves m;rw [ref04IsName_is,z,C,qF,lenE,lenE];have s:lp (zq (λ(c:Nat) (A:GE) (s2:Unit)=>(((ref05May A).bind λv50=>(ym ((((!v50)==false)&&((decide ((c:Int) > (0:Int)))==true))=true->0<=(IntKind.wrap .i64 ((c:Int) - (1:Int)))/\(IntKind.wrap .i64 ((c:Int) - (1:Int))) < ((x.leaves).length:Int)) ((ym ((((!v50)==false)&&((decide ((c:Int) > (0:Int)))==true))=true->0<=(c:Int)/\(c:Int) < ((x.leaves).length:Int)) ((if ((!v50) || ((decide ((c:Int) > (0:Int)))&&(decide (((x.leaves).getD (IntKind.wrap .i64 ((c:Int) - (1:Int))).toNat default).typ >= ((x.leaves).getD (c:Int).toNat default).typ))))=true then some (.ret (.ret false)) else some (.nxt ()))))))):Option (Out (Out Bool Unit) Unit))) x.leaves 0 ()) (λ(s2:Unit)=>some (.nxt ()))=if leavesB x.leaves=true then some (.nxt ()) else some (.ret false):=by
     rw [lp_all (r:=.ret false) (λi l=>leafB l&&(decide (i=0) || decide ((x.leaves.getD (i - 1) default).typ < l.typ)))]
     ·rfl
     ·intro j l f;have B:j < x.leaves.length:=(uc.1 f).1;have p:x.leaves.getD j default=l:=by rw [uM,f];rfl
      have g:=hs.leaf m (uD f);rw [ref05May_is (by have:=g.items;simp only [maxLen];omega) (by have:=g.tombs;simp only [maxLen];omega) g.time];simp only [ua];rcases j with _ | j
      ·cases leafB l <;> simp [ym]
      ·rw [vp (by simp only [maxLen];omega),qC,uP,uP,p,zx (by intro _;omega),zx (by intro _;omega)];have e:decide ((x.leaves.getD j default).typ >= l.typ)=!decide ((x.leaves.getD j default).typ < l.typ):=by rw [uz];simp
       rw [e,tW];generalize (x.leaves.getD j default)=y;cases leafB l <;> cases decide (y.typ < l.typ) <;> simp
    rw [s,tp hd3];simp only [ua,tT,tK,u5,BEq.rfl,uq];rcases i with _ | j
    ·cases nameB x.name <;> cases (x.leaves.isEmpty&&x.subs.isEmpty) <;> cases treeB (d+1) x.subs <;> cases leavesB x.leaves <;> simp [ym]
    ·rw [vp (by simp only [maxLen];omega),qC,uP,zx (by intro _;omega),tW];generalize (t.getD j default)=y;cases nameB x.name <;> cases (x.leaves.isEmpty&&x.subs.isEmpty) <;> cases treeB (d+1) x.subs <;> cases leavesB x.leaves <;> cases Op.bytesLess y.name x.name <;> simp
   ·rw [uR hd3];simp [ym]
theorem ref07May_is {t:List GA} (h:Small t):ref07May t=some (treeB 0 t):=by
 unfold ref07May ref07Xmay;have:=anyN_of (g:=λn=>ww n t 0) (r:=treeB 0 t) (GA.deps t+1) (λn c=>by have:=ref07XmayN_is n t 0 (by omega) (by omega) h;simpa using this);rw [this];rfl

theorem loopW_end {ρ:Type} {f:σ->Option (Out ρ σ)} (g:σ->Prop) (i:σ->Nat) (h:∀s,g s->(∃c,f s=some (.brk c)) \/ ∃c,f s=some (.nxt c)/\g c/\i c < i s):∀(k:Nat) (s:σ),i s=k->g s->∃c,yr f s=some (.inr c):=by
 intro k
 induction k using Nat.strongRecOn with
 | _ k ih =>
  intro s m hi;rw [wB];rcases h s hi with ⟨c,e⟩ | ⟨c,e,j,o⟩
  ·exact ⟨c,by rw [e]⟩
  ·rw [e];exact ih (i c) (by omega) c rfl j
theorem lpW_end {ρ:Type} {f:σ->Option (Out ρ σ)} {rest:σ->Option ρ} (c:σ->Prop) (i:σ->Nat) (m:∀s,∃v,rest s=some v) (j:σ) (hi:c j) (h:∀s,c s->(∃g,f s=some (.brk g)) \/ ∃g,f s=some (.nxt g)/\c g/\i g < i s):∃v,lp (yr f j) rest=some v:=by
 obtain ⟨g,e⟩:=loopW_end c i h _ j rfl hi;rw [e];exact m g
theorem idx_mem {α:Type} {L:List α} {i:Int} {x:α} (h:wh L i=some x):x ∈ L:=by
 unfold wh at h;split at h
 ·exact uD h
 ·cases h
theorem size_tot:∀(n:Nat) (t:List GA) (d:Int),GA.deps t < n->Small t->∃v,yH n t d=some v
 | 0,_,_,h,_=>by omega
 | n+1,t,d,h,hs=>by
  unfold yH;have C:=hs.len;refine lpW_end (λs=>0<=s.2/\s.2<=(t.length:Int)) (λs=>(t.length - s.2.toNat)) (λ_=>⟨_,rfl⟩) _ ⟨by simp,by simp⟩ (λs hi=>?_);rcases s with ⟨a,i⟩
  obtain ⟨k,rfl⟩:∃k:Nat,i=(k:Int):=⟨i.toNat,by have:=hi.1;simp at this;omega⟩
  by_cases hc:(decide ((k:Int) < (t.length:Int))&&decide (d < 10))=true
  ·right;simp only [ud,uh] at hc;have o:k < t.length:=by omega
   have u:t[k] ∈ t:=sP o;have x:=qy u;have z:=xy t[k];obtain ⟨v,A⟩:=size_tot n t[k].subs (IntKind.wrap .i64 (d+1)) (by omega) (hs.subs u);have y:=hs.leaves u;obtain ⟨s2,w⟩:=loopW_end (ρ:=Out Int (Int×Int)) (σ:=Int×Int) (f:=λs2:Int×Int=>(((wh t (k:Int)).bind λm=>(if decide (s2.2 < ((m.leaves).length:Int))=true then ((wh t (k:Int)).bind λg=>((wh g.leaves s2.2).bind λc=>(lp (zq (λ(B:Nat) (p:GF) (j:Int)=>(some (.nxt (IntKind.wrap .i64 ((IntKind.wrap .i64 (j+(1:Int)))+((p.text).length:Int)))):Option (Out _ Int))) c.items 0 (IntKind.wrap .i64 ((IntKind.wrap .i64 ((IntKind.wrap .i64 (s2.1+(1:Int)))+((c.text).length:Int)))+((c.tombs).length:Int)))) λ(j:Int)=>some (.nxt (j,(IntKind.wrap .i64 (s2.2+(1:Int)))))))) else some (.brk (s2.1,s2.2)))):Option (Out (Out Int (Int×Int)) (Int×Int))))
    (λs=>0<=s.2/\s.2<=(t[k].leaves.length:Int)) (λs=>(t[k].leaves.length - s.2.toNat)) (λs hi=>by
     rcases s with ⟨b,i⟩
     obtain ⟨q,rfl⟩:∃q:Nat,i=(q:Int):=⟨i.toNat,by have:=hi.1;simp at this;omega⟩
     simp only [idx_at o,ua];by_cases hq:q < t[k].leaves.length
     ·right;have e:decide ((q:Int) < (t[k].leaves.length:Int))=true:=by simpa using hq
      simp only [e,uq,idx_at hq,ua];rw [loopL_fold (λ(j:Int) (p:GF)=>IntKind.wrap .i64 ((IntKind.wrap .i64 (j+(1:Int)))+((p.text).length:Int))) _ 0 _ (λ_ _ _ _=>rfl),vI];refine ⟨_,rfl,?_,?_⟩
      ·simp only;rw [xV (by omega)];omega
      ·simp only;rw [xV (by omega)];omega
     ·left;have e:decide ((q:Int) < (t[k].leaves.length:Int))=false:=by simp;omega
      simp only [e];exact ⟨_,rfl⟩) _ ((IntKind.wrap .i64 ((IntKind.wrap .i64 ((IntKind.wrap .i64 (a+(1:Int)))+((t[k].name).length:Int)))+v)),(0:Int)) rfl ⟨by simp,by simp⟩
   refine ⟨(s2.1,IntKind.wrap .i64 ((k:Int)+1)),?_,?_,?_⟩
   ·simp only [hc,rL,uV,uq,idx_at o,ua,A];simp only [idx_at o,ua] at w;rw [w];rfl
   ·simp only;rw [xV (by omega)];omega
   ·simp only;rw [xV (by omega)];omega
  ·left;refine ⟨(a,(k:Int)),?_⟩;simp only at hc ⊢;rw [uG hc]
theorem size_fuel:∀(n m:Nat) (t:List GA) (d:Int),GA.deps t < n->GA.deps t < m->yH n t d=yH m t d
 | 0,_,_,_,h,_=>by omega
 | _+1,0,_,_,_,h=>by omega
 | n+1,m+1,t,d,h1,h2=>by
  unfold yH;congr 2;funext s;split
  ·cases hx:wh t s.2 with
   | none=>rfl
   | some y =>
    have c:=qy (idx_mem hx);have e:=xy y;simp only [ua];rw [size_fuel n m y.subs _ (by omega) (by omega)]
  ·rfl
theorem ref07Great_tot {t:List GA} (h:Small t):∃b,vi t=some b:=by
 unfold vi ref07Xsize;obtain ⟨v,c⟩:∃v,∀n,GA.deps t+1<=n->yH n t 0=some v:=by
  obtain ⟨v,c⟩:=size_tot (GA.deps t+1) t 0 (by omega) h;exact ⟨v,λn e=>by rw [size_fuel n (GA.deps t+1) t 0 (by omega) (by omega)];exact c⟩
 rw [anyN_of (GA.deps t+1) c];exact ⟨_,rfl⟩

def endsB (p:List zd):Bool:=p.getLast?==some [42,42]
def xC (p:List zd):List zd:=if endsB p then p.dropLast else p
def agreeB:List zd->List zd->Bool
 | [],_=>true
 | x::t,y::r=>(x==[42] || x==y)&&agreeB t r
 | _::_,[]=>false
def patB (p:List zd):Bool:=(decide (0 < (xC p).length) || endsB p)&&decide ((xC p).length<=3)&&(xC p).all (λs=>s==[42] || nameB s)
def matchB (p path:List zd):Bool:=patB p&&xI path&&decide ((xC p).length<=path.length)&&(endsB p || decide (path.length<=(xC p).length))&&agreeB (xC p) path
theorem wrapLen (h0:0 < n) (h:n<=maxLen):IntKind.wrap .i64 ((n:Int) - 1)=((n - 1:Nat):Int):=by
 simp only [maxLen] at h;rw [xV (by omega)];omega
theorem last_getD {p:List zd} (h0:0 < p.length):(p.getD (p.length - 1) default==[42,42])=endsB p:=by
 unfold endsB;rw [rf,uM,ui (by omega)];rw [uz];simp
theorem slc_init {p:List zd} (h0:0 < p.length):slc p 0 ((p.length - 1:Nat):Int)=some p.dropLast:=by
 rw [slc_at (by omega)];simp [List.dropLast_eq_take]
theorem pathsXparts_is {p:List zd} (h:p.length<=maxLen):vw p=some (xC p,endsB p):=by
 unfold vw xC;by_cases h0:0 < p.length
 ·rw [wrapLen h0 h,zx (by intro _;omega)];have e:decide ((p.length:Int) > 0)=true:=by simpa using h0
  rw [e,uP,last_getD h0,slc_init h0];cases endsB p <;> rfl
 ·have:p=[]:=uN (by omega);subst this;rfl
theorem pathsMayPattern_is {p:List zd} (h:p.length<=maxLen):xE p=some (patB p):=by
 unfold xE patB;rw [pathsXparts_is h];simp only [ua];rw [contains_is (q:=λs=>!(s==[42] || nameB s)) _ (λx _=>by
  unfold wq;rw [opIsName_is];cases h1:(x==([42]:zd)) <;> simp)]
 have e:(xC p).any (λs=>!(s==[42] || nameB s))=!(xC p).all (λs=>s==[42] || nameB s):=by rw [uz];simp
 have c:decide (((xC p).length:Int) > 0)=decide (0 < (xC p).length):=sy.2 (by omega);rw [e,bnd3,c];cases ((decide (0 < (xC p).length) || endsB p)&&decide ((xC p).length<=3)) <;> simp
theorem agree_loop (path:List zd) {f:Nat->zd->Unit->Option (Out Bool Unit)} (c:∀i x,i < path.length->f i x ()=if (!(x==([42]:zd))&&!(x==path.getD i default))=true then some (.ret false) else some (.nxt ())) :
  ∀(L:List zd) (i:Nat),L.length+i<=path.length->zq f L i ()=if agreeB L (path.drop i)=true then some (.inr ()) else some (.inl false)
 | [],i,_=>by cases path.drop i <;> rfl
 | x::t,i,h=>by
  simp only [ue] at h;have hi:i < path.length:=by omega
  have g:=agree_loop path c t (i+1) (by omega);have e:path.drop i=path[i]::path.drop (i+1):=(sx hi).symm;have j:path.getD i default=path[i]:=by rw [uM,ui hi];rfl
  simp only [zq,c i x hi,e,agreeB,j];cases h1:(x==([42]:zd)) <;> cases h2:(x==path[i]) <;> simp [g]
theorem pathsMatch_is {p path:List zd} (h:p.length<=maxLen):pathsMatch p path=some (matchB p path):=by
 unfold pathsMatch matchB;rw [pathsXparts_is h,pathsMayPattern_is h];simp only [ua,q8];cases hp:patB p
 ·simp
 ·cases hq:xI path
  ·simp
  ·by_cases hl:(xC p).length<=path.length
   ·have c:decide ((path.length:Int) < ((xC p).length:Int))=false:=uR (by omega);have e:decide ((path.length:Int) > ((xC p).length:Int))=!decide (path.length<=(xC p).length):=by
     rw [uz];simp
    rw [c,e,agree_loop path (λi x hi=>by rw [zx (by intro _;omega),uP]) _ 0 (by omega)];simp only [sg,tp hl];cases decide (path.length<=(xC p).length) <;> cases endsB p <;> cases agreeB (xC p) path <;> simp
   ·have c:decide ((path.length:Int) < ((xC p).length:Int))=true:=tp (by omega);rw [c,uR hl];simp

section
variable {S X:Type}
def foldF (y:S->X->Option (Bool×S)):List X->S->Option (Bool×S)
 | [],s=>some (true,s)
 | x::r,s=>(y s x).bind λv=>if v.1=true then foldF y r v.2 else some (false,v.2)
theorem foldF_app (y:S->X->Option (Bool×S)):∀(a b:List X) (s:S),foldF y (a++b) s=(foldF y a s).bind λv=>if v.1=true then foldF y b v.2 else some v
 | [],b,s=>by simp [foldF]
 | x::r,b,s=>by
  simp only [tj,foldF];cases y s x with
  | none=>rfl
  | some v =>
   simp only [ua];cases hv:v.1
   ·simp
   ·simp only [uq];exact foldF_app y r b v.2
theorem foldF_stp (y:S->X->Option (Bool×S)):∀(xs:List X) (s:S),
  foldF (stp (λ(e:S) (f:X)=>(((y e f).bind λv=>(if (!v.1)=true then some (false,(v.2,some 0)) else some (true,(v.2,none)))):Option (Bool×(S×Option Nat))))) xs (s,none)=(foldF y xs s).map λv=>(v.1,(v.2,if v.1=true then none else some 0))
 | [],s=>rfl
 | x::r,s=>by
  simp only [foldF,stp];cases y s x with
  | none=>rfl
  | some v =>
   rcases v with ⟨b,c⟩
   cases b
   ·simp
   ·simp only [tT,up,uL,ua,uq];exact foldF_stp y r c
theorem loop_tell {ρ α:Type} (y:S->X->Option (Bool×S)) (g:α->X) (r:S->ρ) {f:Nat->α->S->Option (Out ρ S)}:∀(L:List α) (i:Nat) (s:S),(∀i x s,x ∈ L->f i x s=(y s (g x)).bind λv=>if (!v.1)=true then some (.ret (r v.2)) else some (.nxt v.2)) ->
  zq f L i s=(foldF y (L.map g) s).map λv=>if v.1=true then .inr v.2 else .inl (r v.2)
 | [],_,_,_=>rfl
 | x::t,i,s,h=>by
  simp only [zq,h i x s (tB ..),uu,foldF];cases y s (g x) with
  | none=>rfl
  | some v =>
   rcases v with ⟨b,c⟩
   cases b
   ·rfl
   ·simp only [tT,up,uL,ua,uq];exact loop_tell y g r t (i+1) c λi x s hx=>h i x s (tu _ hx)
theorem loop_tells {ρ α:Type} (y:S->X->Option (Bool×S)) (g:α->List X) (r:S->ρ) {f:Nat->α->S->Option (Out ρ S)}:∀(L:List α) (i:Nat) (s:S),(∀i x s,x ∈ L->f i x s=(foldF y (g x) s).map λv=>if v.1=true then .nxt v.2 else .ret (r v.2)) ->
  zq f L i s=(foldF y (L.flatMap g) s).map λv=>if v.1=true then .inr v.2 else .inl (r v.2)
 | [],_,_,_=>rfl
 | x::t,i,s,h=>by
  simp only [zq,h i x s (tB ..),th,foldF_app];cases foldF y (g x) s with
  | none=>rfl
  | some v =>
   rcases v with ⟨b,c⟩
   cases b
   ·rfl
   ·simp only [uU,uq,ua];exact loop_tells y g r t (i+1) c λi x s hx=>h i x s (tu _ hx)
end
theorem clone_is {α:Type} {L:List α} (h:L.length<=yS):(nilq L λc=>(if c=true then some ([]:List α) else (ym ((([]:List α)).length+L.length<=yS) (some (([]:List α)++L)))))=some L:=by
 refine nilq_of ?_ λe=>by subst e;rfl
 rw [zx (by simpa using h)];simp
theorem cloneString_is {L:List zd} (h:L.length<=yS):yY L=some L:=clone_is h
theorem cloneItem_is (h:L.length<=yS):xc L=some L:=clone_is h
theorem cloneDot_is {L:List GC} (h:L.length<=yS):xr L=some L:=clone_is h
theorem pathsXown_is (h:LeafOk l):pathsXown l=some l:=by
 unfold pathsXown;rw [cloneItem_is (by have:=h.items;unfold yS;omega),cloneDot_is (by have:=h.tombs;unfold yS;omega)];rfl
mutual
def vS (a:List zd):GA->List GH
 | ⟨nm,ls,sb⟩=>ls.map (λl=>GH.mk (a++[nm]) l)++zj (a++[nm]) sb
def zj (a:List zd):List GA->List GH
 | []=>[]
 | x::r=>vS a x++zj a r
end
mutual
def wg (is:List zd->Bool) (a:List zd):GA->GA
 | ⟨nm,ls,sb⟩=>⟨nm,if is (a++[nm])=true then ls else [],xM is (a++[nm]) sb⟩
def xM (is:List zd->Bool) (a:List zd):List GA->List GA
 | []=>[]
 | x::r=>if (wg is a x).leaves.isEmpty&&(wg is a x).subs.isEmpty then xM is a r else wg is a x::xM is a r
end
theorem yw (a:List zd) (x:GA):vS a x=x.leaves.map (λl=>GH.mk (a++[x.name]) l)++zj (a++[x.name]) x.subs:=by cases x;rfl
theorem yb (a:List zd):∀t,zj a t=t.flatMap (vS a)
 | []=>rfl
 | x::r=>by simp only [zj,th,yb a r]
theorem keepN_eq (is:List zd->Bool) (a:List zd) (x:GA):wg is a x=⟨x.name,if is (a++[x.name])=true then x.leaves else [],xM is (a++[x.name]) x.subs⟩:=by cases x;rfl
theorem keepL_filter (is:List zd->Bool) (a:List zd):∀t,xM is a t=(t.map (wg is a)).filter λy=>!(y.leaves.isEmpty&&y.subs.isEmpty)
 | []=>rfl
 | x::r=>by
  simp only [xM,uu,rK,keepL_filter is a r];cases ((wg is a x).leaves.isEmpty&&(wg is a x).subs.isEmpty) <;> simp
theorem rows_is {S:Type}:∀(n:Nat) (S:Type) (y:S->GH->Option (Bool×S)) (t:List GA) (a:List zd) (s:S),GA.deps t < n->Small t->a.length+GA.deps t<=40000000->xJ n S y t a s=(foldF y (zj a t) s).map (·.2)
 | 0,_,_,_,_,_,h,_,_=>by omega
 | n+1,S,y,t,a,s,h,hs,ha=>by
  unfold xJ;rw [loop_tells y (vS a) (λs=>s),<- yb]
  ·cases foldF y (zj a t) s with
   | none=>rfl
   | some v=>rcases v with ⟨b,c⟩;cases b <;> rfl
  ·intro i x m hx;have e:=qy hx;have g:=xy x;rw [cloneString_is (by unfold yS;omega),ua,zx (by simp [yS];omega)];rw [loop_tell y (λl=>GH.mk (a++[x.name]) l) (λs=>Out.ret s)]
   ·rw [yw,foldF_app];cases foldF y (x.leaves.map λl=>GH.mk (a++[x.name]) l) m with
    | none=>rfl
    | some v =>
     rcases v with ⟨b,c⟩
     cases b
     ·rfl
     ·simp only [uU,uq,vI,ua];unfold vZ;simp only [ua];rw [rows_is (S:=Unit) n _ _ x.subs (a++[x.name]) (c,none) (by omega) (hs.subs hx) (by simp;omega),foldF_stp];cases foldF y (zj (a++[x.name]) x.subs) c with
      | none=>rfl
      | some v=>rcases v with ⟨b,s2⟩;cases b <;> rfl
   ·intro j l s2 f;rw [cloneString_is (by simp [yS];omega),ua,pathsXown_is (hs.leaf hx f),ua]

theorem loop_keep {α c ρ:Type} (p:α->Bool) (g:α->c) {f:Nat->α->List c->Option (Out ρ (List c))}:∀(L:List α) (i:Nat) (s:List c),s.length+L.length<=yS->(∀i x s,x ∈ L->s.length+1<=yS->f i x s=if p x=true then some (.nxt (s++[g x])) else some (.nxt s)) ->
  zq f L i s=some (.inr (s++(L.filter p).map g))
 | [],_,s,_,_=>by simp [zq]
 | x::t,i,s,hl,h=>by
  simp only [ue] at hl;simp only [zq,h i x s (tB ..) (by omega),rK];cases hp:p x
  ·simp only [up,uL];exact loop_keep p g t (i+1) s (by omega) λi x s hx=>h i x s (tu _ hx)
  ·simp only [uq];rw [loop_keep p g t (i+1) (s++[g x]) (by simp;omega) λi x s hx=>h i x s (tu _ hx)];simp
theorem keep_len (is:List zd->Bool) (a:List zd) (t:List GA):(xM is a t).length<=t.length:=by
 rw [keepL_filter];exact uB (sD _ _) (by simp)
theorem kept_is (is:List zd->Bool) (f:List zd->Option Bool) (z:∀p,f p=some (is p)):∀(n:Nat) (t:List GA) (a:List zd),GA.deps t < n->Small t->a.length+GA.deps t<=40000000->wx n t a f=some (xM is a t)
 | 0,_,_,h,_,_=>by omega
 | n+1,t,a,h,hs,ha=>by
  unfold wx;have E:=hs.len;have key:∀(L:List GA) (i:Nat) (s:List GA),(∀x ∈ L,x ∈ t)->s.length+L.length<=16777216->∀{F:Nat->GA->List GA->Option (Out (List GA) (List GA))},(∀i x s,x ∈ t->s.length+1<=16777216->F i x s=some (.nxt (if ((wg is a x).leaves.isEmpty&&(wg is a x).subs.isEmpty)=true then s else s++[wg is a x]))) ->
    zq F L i s=some (.inr (s++xM is a L)):=by
   intro L
   induction L with
   | nil=>intro i s _ _ F _;simp [zq,xM]
   | cons x r ih =>
    intro i s w c F o;simp only [ue] at c;simp only [zq,o i x s (w x (by simp)) (by omega),xM];cases he:((wg is a x).leaves.isEmpty&&(wg is a x).subs.isEmpty)
    ·simp only [up,uL];rw [ih (i+1) _ (λy u=>w y (by simp [u])) (by simp;omega) o];simp
    ·simp only [uq];exact ih (i+1) s (λy u=>w y (by simp [u])) (by omega) o
  rw [key t 0 [] (λ_ h=>h) (by simpa using E)]
  ·simp
  ·intro i x s hx c;have B:=qy hx;have C:=xy x;have e:=hs.leaves hx;have A:=(hs.subs hx).len;rw [cloneString_is (by unfold yS;omega),ua,zx (by simp [yS];omega),kept_is is f z n x.subs (a++[x.name]) (by omega) (hs.subs hx) (by simp;omega),ua];rw [loop_keep (λ_=>is (a++[x.name])) (λl=>l) x.leaves 0 [] (by simp [yS];omega)]
   ·simp only [vI,uT,List.map_id_fun',id];have g:(x.leaves.filter λ_=>is (a++[x.name]))=(if is (a++[x.name])=true then x.leaves else []):=by
     cases is (a++[x.name]) <;> simp
    rw [g,<- keepN_eq];have G:=keep_len is (a++[x.name]) x.subs;have D:decide ((IntKind.wrap .i64 (((if is (a++[x.name])=true then x.leaves else []).length:Int)+((xM is (a++[x.name]) x.subs).length:Int))) > 0)=!((wg is a x).leaves.isEmpty&&(wg is a x).subs.isEmpty):=by
     rw [keepN_eq];have H:(if is (a++[x.name])=true then x.leaves else []).length<=16777216:=by cases is (a++[x.name]) <;> simp [e]
     rw [xV (by omega)];cases hA:(if is (a++[x.name])=true then x.leaves else []) <;> cases hB:xM is (a++[x.name]) x.subs <;> simp <;> omega
    rw [D];cases ((wg is a x).leaves.isEmpty&&(wg is a x).subs.isEmpty)
    ·simp only [tZ,uq,up,uL];rw [zx (by simp [yS];omega)]
    ·simp
   ·intro j l s2 m v;rw [z,ua,pathsXown_is (hs.leaf hx m),ua,zx (by simpa using v)]
theorem deps_bks:∀(n:Nat) (t:List GA),GA.deps t<=n->GA.deps t<=GA.bks t:=by
 intro n
 induction n with
 | zero=>intro t c;omega
 | succ n ih =>
  intro t
  induction t with
  | nil=>intro _;simp [GA.deps]
  | cons x r ihr =>
   intro c;simp only [GA.deps] at c ⊢;simp only [GA.bks];have g:=ihr (by omega);have e:=xy x;have h:=ih x.subs (by omega);have f:=bk_node x;omega
theorem Small.dep {t:List GA} (h:Small t):GA.deps t<=16777216:=uB (deps_bks _ t (ug _)) h.2
theorem keptAll_is (is:List zd->Bool) (f:List zd->Option Bool) (c:∀p,f p=some (is p)) {t:List GA} (h:Small t):pathsXkept t [] f=some (xM is [] t):=by
 unfold pathsXkept;have e:=h.dep;rw [anyN_of (GA.deps t+1) λn g=>kept_is is f c n t [] (by omega) h (by simp;omega)]
theorem rows_len:∀(n:Nat) (t:List GA) (a:List zd),GA.deps t<=n->(zj a t).length<=GA.bks t:=by
 intro n
 induction n with
 | zero =>
  intro t a h;cases t with
  | nil=>simp [zj]
  | cons x r=>simp only [GA.deps] at h;have:=xy x;omega
 | succ n ih =>
  intro t
  induction t with
  | nil=>intro a _;simp [zj]
  | cons x r ihr =>
   intro a c;simp only [GA.deps] at c;simp only [GA.bks,zj,uf];have i:=ihr a (by omega);have e:=xy x;have m:=ih x.subs (a++[x.name]) (by omega);have g:=bk_node x;have j:=sum_len (f:=GE.bk) (λx=>by unfold GE.bk;omega) x.leaves;rw [yw];simp only [uf,ux];omega
theorem fold_app {X:Type}:∀(xs s:List X),s.length+xs.length<=yS->foldF (stp (λ(e:List X) (c:X)=>((ym (e.length+([c]:List X).length<=yS) (some (true,((e++[c]),none)))):Option (Bool×(List X×Option Nat))))) xs (s,none)=some (true,(s++xs,none))
 | [],s,_=>by simp [foldF]
 | x::r,s,h=>by
  simp only [ue] at h;simp only [foldF,stp];rw [zx (by simp;omega)];simp only [ua,uq];rw [fold_app r (s++[x]) (by simp;omega)];simp
theorem pathsRows_is {t:List GA} (h:Small t):pathsRows t=some (if treeB 0 t=true then zj [] t else []):=by
 unfold pathsRows;rw [treeMay_is h,ua];cases treeB 0 t
 ·rfl
 ·have hd:=h.dep;have c:=rows_len _ t [] (ug _);have e:=h.2;simp only [tT,up,uL,uq,vZ,ua,wL,xY,pathsXrowsC1];rw [anyN_of (r:=(zj [] t,none)) (GA.deps t+1) λn f=>by
   rw [rows_is (S:=Unit) n _ _ t [] ([],none) (by omega) h (by simp;omega),fold_app _ _ (by simp [yS];omega)];rfl]
  rfl

theorem qd:∀{a b c:List UInt8},Op.bytesLess a b=true->Op.bytesLess b c=true->Op.bytesLess a c=true
 | _,[],_,h,_=>by cases ‹List UInt8› <;> simp [Op.bytesLess] at h
 | a,b::y,[],_,h=>by simp [Op.bytesLess] at h
 | [],b::y,c::z,_,_=>rfl
 | a::x,b::y,c::z,f,e=>by
  simp only [Op.bytesLess,uY,uh,ud,sI] at f e ⊢;rcases f with f | ⟨rfl,f⟩
  ·rcases e with e | ⟨rfl,e⟩
   ·left;exact UInt8.lt_trans f e
   ·left;exact f
  ·rcases e with e | ⟨rfl,e⟩
   ·left;exact e
   ·right;exact ⟨rfl,qd f e⟩
theorem qW (t:List GA):upB t=true ↔ t.Pairwise (λx y=>Op.bytesLess x.name y.name=true):=by
 unfold upB;rw [allI_iff];constructor
 ·intro h;rw [tx];intro i j hi c e;obtain ⟨k,rfl⟩:∃k,j=i+1+k:=⟨j - i - 1,by omega⟩
  induction k with
  | zero =>
   have:=h (i+1) _ (ui c);simp only [tW,uY,uh] at this;rcases this with h0 | h0
   ·omega
   ·rw [uM,ui hi] at h0;exact h0
  | succ k ih =>
   have f:=ih (by omega) (by omega);have:=h (i+1+(k+1)) _ (ui c);simp only [uY,uh] at this;rcases this with h0 | h0
   ·omega
   ·rw [show i+1+(k+1) - 1=i+1+k by omega,uM,ui (by omega:i+1+k < t.length)] at h0;exact qd f h0
 ·intro h i x hx;rcases i with _ | i
  ·rfl
  ·rw [tx] at h;obtain ⟨hi,rfl⟩:=uc.1 hx;have:=h i (i+1) (by omega) hi (by omega);simp only [tW,uY];right;rw [uM,ui (by omega:i < t.length)];exact this
section
variable (is:List zd->Bool)
theorem keep_up (a:List zd) {t:List GA} (h:upB t=true):upB (xM is a t)=true:=by
 rw [qW] at h ⊢;rw [keepL_filter];refine List.Pairwise.filter _ ?_;rw [pa];exact h.imp λ{x y} h=>by rw [keepN_eq,keepN_eq];exact h
theorem xP {M:List GA->Prop} (h0:M []) (c:∀x r,M x.subs->M r->M (x::r)):∀t,M t:=by
 have key:∀(n:Nat) (t:List GA),GA.deps t<=n->M t:=by
  intro n
  induction n with
  | zero =>
   intro t h;cases t with
   | nil=>exact h0
   | cons x r=>simp only [GA.deps] at h;have:=xy x;omega
  | succ n ih =>
   intro t
   induction t with
   | nil=>intro _;exact h0
   | cons x r ihr =>
    intro h;simp only [GA.deps] at h;have:=xy x;exact c x r (ih x.subs (by omega)) (ihr (by omega))
 exact λt=>key _ t (ug _)
theorem keep_may:∀(t:List GA) (d:Nat) (a:List zd),treeB d t=true->treeB d (xM is a t)=true:=by
 intro t;have key:∀(t:List GA),(∀(d:Nat) (a:List zd),treeB d t=true->treeB d (xM is a t)=true)/\(∀(d:Nat) (a:List zd),xj d t=true->xj d (xM is a t)=true):=by
  refine xP ⟨λd a h=>h,λd a h=>h⟩ ?_;intro x r hx f;have e:∀(d:Nat) (a:List zd),xj d (x::r)=true->xj d (xM is a (x::r))=true:=by
   intro d a h;simp only [xj,ud] at h;simp only [xM];cases he:((wg is a x).leaves.isEmpty&&(wg is a x).subs.isEmpty)
   ·simp only [up,uL,xj,ud];refine ⟨?_,f.2 d a h.2⟩;have c:=h.1;rw [qF] at c ⊢;simp only [ud,sH] at c ⊢;rw [keepN_eq] at he ⊢;refine ⟨⟨⟨c.1.1.1,he⟩,hx.1 (d+1) _ c.1.2⟩,?_⟩;show leavesB (if is (a++[x.name])=true then x.leaves else [])=true;split
    ·exact c.2
    ·rfl
   ·simp only [uq];exact f.2 d a h.2
  refine ⟨λd a h=>?_,e⟩;unfold treeB at h ⊢;simp only [ud] at h ⊢;refine ⟨⟨?_,keep_up is a h.1.2⟩,e d a h.2⟩;have:decide (d < 3)=true:=by simpa using h.1.1
  rw [this];simp
 exact (key t).1
theorem keep_rows:∀(t:List GA) (a:List zd),zj a (xM is a t)=(zj a t).filter λr=>is r.path:=by
 refine xP (λa=>rfl) ?_;intro x r hx c a;have e:vS a (wg is a x)=(vS a x).filter λr=>is r.path:=by
  rw [keepN_eq,yw,yw,sa,<- hx];simp only;congr 1;cases h:is (a++[x.name])
  ·simp [h]
  ·simp only [uq];rw [sq.2];intro r c;obtain ⟨l,_,rfl⟩:=tf.1 c;exact h
 simp only [xM,zj,sa,<- c,<- e];cases he:((wg is a x).leaves.isEmpty&&(wg is a x).subs.isEmpty)
 ·simp [zj]
 ·simp only [uq];simp only [ud,s9] at he;rw [yw,he.1,he.2];simp [zj]
theorem keep_small:∀(t:List GA) (a:List zd),(GA.wfs t->GA.wfs (xM is a t))/\GA.bks (xM is a t)<=GA.bks t:=by
 refine xP (λa=>⟨λh=>h,ug _⟩) ?_;intro x r hx c a;have m:(wg is a x).bk<=x.bk:=by
  have:=(hx (a++[x.name])).2;cases x with
  | mk nm ls sb =>
   simp only [wg,GA.bk] at this ⊢;have e:((if is (a++[nm])=true then ls else []).map GE.bk).sum<=(ls.map GE.bk).sum:=by split <;> simp
   omega
 have f:x.wf->(wg is a x).wf:=by
  have:=(hx (a++[x.name])).1;cases x with
  | mk nm ls sb =>
   simp only [wg,GA.wf] at this ⊢
   rintro ⟨i,e,j⟩
   refine ⟨i,?_,this j⟩;split
   ·exact e
   ·exact ⟨by simp,λy g=>by cases g⟩
 simp only [xM];split
 ·refine ⟨λh=>(c a).1 (by simp only [GA.wfs] at h;exact h.2),?_⟩;have:=(c a).2;simp only [GA.bks];omega
 ·refine ⟨λh=>?_,?_⟩
  ·simp only [GA.wfs] at h ⊢;exact ⟨f h.1,(c a).1 h.2⟩
  ·have:=(c a).2;simp only [GA.bks];omega
theorem Small.keep {t:List GA} (h:Small t) (a:List zd):Small (xM is a t):=⟨(keep_small is t a).1 h.1,uB (keep_small is t a).2 h.2⟩
end
theorem pathsSelect_is {t:List GA} (h:Small t) {p:List zd} (c:p.length<=maxLen):wy t p=some (if (treeB 0 t&&patB p)=true then (xM (matchB p) [] t,0) else ([],2)):=by
 unfold wy;rw [treeMay_is h,pathsMayPattern_is c,keptAll_is (matchB p) _ (λq=>by unfold qt;rw [pathsMatch_is c];rfl) h];cases treeB 0 t <;> cases patB p <;> rfl
theorem half_mid {lo hi:Nat} (h:lo < hi) (i:hi<=4611686018427387904):IntKind.wrap .i64 (Int.fdiv (IntKind.wrap .u64 (IntKind.wrap .i64 ((lo:Int)+(hi:Int)))) (2 ^ (min (1:Int).toNat (IntKind.bits .u64))))=(((lo+hi) / 2:Nat):Int):=by
 have c:IntKind.wrap .i64 ((lo:Int)+(hi:Int))=((lo+hi:Nat):Int):=by rw [xV (by omega)];omega
 have g:IntKind.wrap .u64 (((lo+hi:Nat):Int))=((lo+hi:Nat):Int):=by rw [IntKind.wrap_u64];omega
 have e:(2:Int) ^ (min (1:Int).toNat (IntKind.bits .u64))=2:=by decide
 rw [c,g,e,Int.fdiv_eq_ediv_of_nonneg _ (by decide)];have f:((lo+hi:Nat):Int) / 2=(((lo+hi) / 2:Nat):Int):=by omega
 rw [f,xV (by omega)]
theorem bs_loop {g:GA->zd->Option Int} {x:List GA} {s:zd} {c:Nat} (hx:x.length<=16777216) (u:∀i n,x[i]?=some n->∃v,g n s=some v/\(i < c->v < 0)/\(c<=i->0<=v)) :
  ∀(k lo hi:Nat),hi - lo<=k->lo<=c->c<=hi->hi<=x.length->yr (ρ:=Int×Bool) (λ(f:Int×Int)=>((if (decide (f.1 < f.2))=true then ((wh x (IntKind.wrap .i64 ((Int.fdiv (IntKind.wrap .u64 ((IntKind.wrap .i64 (f.1+f.2)))) (2 ^ (min (1:Int).toNat (IntKind.bits .u64))))))).bind λy=>((g y s).bind λh=>(if (decide (h < (0:Int)))=true then some (.nxt ((IntKind.wrap .i64 ((IntKind.wrap .i64 ((Int.fdiv (IntKind.wrap .u64 ((IntKind.wrap .i64 (f.1+f.2)))) (2 ^ (min (1:Int).toNat (IntKind.bits .u64))))))+(1:Int))),f.2)) else some (.nxt (f.1,(IntKind.wrap .i64 ((Int.fdiv (IntKind.wrap .u64 ((IntKind.wrap .i64 (f.1+f.2)))) (2 ^ (min (1:Int).toNat (IntKind.bits .u64))))))))))) else some (.brk (f.1,f.2))):Option (Out _ (Int×Int)))) ((lo:Int),(hi:Int))=some (.inr ((c:Int),(c:Int))):=by
 intro k
 induction k with
 | zero =>
  intro lo hi t j o hh;obtain rfl:lo=hi:=by omega
  obtain rfl:lo=c:=by omega
  rw [wB];simp
 | succ k ih =>
  intro lo hi t j o hh;rw [wB];by_cases hlt:lo < hi
  ·have hd:decide ((lo:Int) < (hi:Int))=true:=tp (by omega);simp only [hd,uq,half_mid hlt (by omega)];have m:(lo+hi) / 2 < x.length:=by omega
   rw [idx_at m,ua];obtain ⟨v,z,p,w⟩:=u ((lo+hi) / 2) _ (ui m);rw [z,ua];by_cases hcm:(lo+hi) / 2 < c
   ·rw [tp (p hcm),uv rfl];simp only;have e:IntKind.wrap .i64 ((((lo+hi) / 2:Nat):Int)+1)=(((lo+hi) / 2+1:Nat):Int):=by rw [xV (by omega)];omega
    rw [e];exact ih _ _ (by omega) (by omega) o hh
   ·rw [uR (by have:=w (by omega);omega)];simp only [up,uL];exact ih _ _ (by omega) j (by omega) (by omega)
  ·obtain rfl:lo=hi:=by omega
   obtain rfl:lo=c:=by omega
   simp
theorem bs_is {e:GA->zd->Option Int} {x:List GA} {s:zd} {c:Nat} (hx:x.length<=16777216) (g:c<=x.length) (f:∀i n,x[i]?=some n->∃v,e n s=some v/\(i < c->v < 0)/\(c<=i->0<=v)) :
  zz x s e=(if c < x.length then e (x.getD c default) s else some 1).bind λv=>some ((c:Int),(decide (c < x.length)&&(v==0))):=by
 unfold zz;have:=bs_loop hx f x.length 0 x.length (by omega) (tO _) g (ug _);simp only [Int.natCast_zero] at this;rw [show ((0:Int),(x.length:Int))=(((0:Nat):Int),(x.length:Int)) from rfl] at *;rw [this];simp only [lp];by_cases h:c < x.length
 ·have hd:decide ((c:Int) < (x.length:Int))=true:=tp (by omega);simp only [hd,h,uq,uP,tR,rL,u5];rw [zx (by intro _;omega)]
 ·have hd:decide ((c:Int) < (x.length:Int))=false:=uR (by omega);simp only [hd,h,uL,decide_false,rG,ua];rw [zx (by intro hh;cases hh)];simp
theorem cmp_less {b:List UInt8}:Lib.compareBytes a b < 0 ↔ Op.bytesLess a b=true:=by
 induction a generalizing b with
 | nil=>cases b <;> simp [Lib.compareBytes,Op.bytesLess]
 | cons x a ih =>
  cases b with
  | nil=>simp [Lib.compareBytes,Op.bytesLess]
  | cons y b =>
   simp only [Lib.compareBytes,Op.bytesLess];by_cases h1:x < y
   ·simp [h1]
   ·by_cases h2:y < x
    ·have:¬ x=y:=by rintro rfl;exact h1 h2
     simp [h1,h2,this]
    ·have:x=y:=UInt8.le_antisymm (UInt8.not_lt.1 h2) (UInt8.not_lt.1 h1);simp [h1,h2,this,ih]
theorem cmp_self (a:List UInt8):Lib.compareBytes a a=0:=by
 induction a with
 | nil=>rfl
 | cons x a ih=>simp [Lib.compareBytes,ih]
theorem layC1_is (n:GA) (s:zd):wH n s=some (Lib.compareBytes n.name s):=rfl
theorem cloneLeaf_is {L:List GE} (h:L.length<=yS):we L=some L:=clone_is h
theorem cloneNode_is {L:List GA} (h:L.length<=yS):xh L=some L:=clone_is h
theorem vk (h:n<=16777217):n<=yS:=uB h (by decide)
theorem own_is (h:LeafOk l):diffXown l=some l:=by
 unfold diffXown;rw [cloneItem_is (vk (sX h.items)),ua,cloneDot_is (vk (sX h.tombs)),ua]
def preR (a:List zd) (r:GH):GH:=⟨a++r.path,r.leaf⟩
theorem rows_pre:∀(t:List GA) (a b:List zd),zj (a++b) t=(zj b t).map (preR a):=by
 refine xP (λ_ _=>rfl) ?_;intro x r hx c a b;rw [yb,yb,th,th,<- yb,<- yb,c,tC];congr 1;rw [yw,yw,uy,hx,tC,sG];rfl
theorem rows_path:∀(t:List GA) (a:List zd) (r:GH),r ∈ zj a t->a.length < r.path.length/\r.path.length<=a.length+GA.deps t:=by
 refine xP (λ_ _ h=>by simp [zj] at h) ?_;intro x r hx e a q c;rw [yb,th,uC,<- yb] at c;have g:x.dep<=GA.deps (x::r):=qy (by simp);have f:=xy x;have i:GA.deps r<=GA.deps (x::r):=by
  simp only [GA.deps];omega
 rcases c with c | c
 ·rw [yw,uC,tf] at c;rcases c with ⟨l,_,rfl⟩ | c
  ·simp;omega
  ·have:=hx _ _ c;simp only [uf,ue,uk] at this;omega
 ·have:=e _ _ c;omega
theorem leaf_typ (h:leafB l=true):1<=l.typ/\l.typ<=4:=by
 unfold leafB at h;split at h
 ·omega
 split at h
 ·omega
 split at h
 ·omega
 split at h
 ·omega
 ·cases h
theorem leaves_up (h:leavesB ls=true):ls.Pairwise (λx y=>x.typ < y.typ)/\∀l ∈ ls,leafB l=true:=by
 unfold leavesB at h;rw [allI_iff] at h;have o:∀l ∈ ls,leafB l=true:=λl m=>by
  obtain ⟨i,hi⟩:=tg.1 m;have:=h i l hi;simp only [ud] at this;exact this.1
 refine ⟨?_,o⟩;have c:∀i,(hi:i+1 < ls.length)->ls[i].typ < ls[i+1].typ:=λi hi=>by
  have:=h (i+1) _ (ui hi);simp only [Nat.add_eq_zero_iff,rO,and_false,decide_false,tK,ud,uh,tW] at this;have e:ls.getD i default=ls[i]:=by simp [uM,ui (show i < ls.length by omega)]
  rw [e] at this;exact this.2
 rw [tx];intro i j hi g f;obtain ⟨k,rfl⟩:∃k,j=i+1+k:=⟨j - (i+1),by omega⟩
 clear f
 induction k with
 | zero=>exact c i g
 | succ k ih=>exact Int.lt_trans (ih (by omega)) (c (i+1+k) g)
theorem Small.tail {x:GA} {r:List GA} (h:Small (x::r)):Small r:=by
 refine ⟨(GA.wfs_iff r).2 λy c=>(GA.wfs_iff _).1 h.1 y (by simp [c]),?_⟩;have:=h.2;simp only [GA.bks] at this;omega
def pathLt (a b:List zd):Prop:=(∃y q,b=a++y::q) \/ ∃p x y a' b',a=p++x::a'/\b=p++y::b'/\Op.bytesLess x y=true
theorem less_irr:∀(a:List UInt8),Op.bytesLess a a=false
 | []=>rfl
 | x::a=>by simp [Op.bytesLess,less_irr a]
theorem less_ne {b:List UInt8} (h:Op.bytesLess a b=true):a ≠ b:=by
 rintro rfl;rw [less_irr] at h;cases h
theorem cmpS_self (x:zd):yi x x=some 0:=by
 unfold yi xf;simp [less_irr]
theorem cmpS_less {x y:zd} (h:Op.bytesLess x y=true):yi x y=some (-1):=by
 unfold yi xf;simp [h]
noncomputable def cmpF (s2:List zd):Nat->zd->Unit->Option (Out Int Unit):=λn x _=>if (decide ((n:Int) >= ((s2).length:Int)))=true then some (.ret (1:Int)) else ((wh s2 (n:Int)).bind λy12=>((yi x y12).bind λv13=>(if (v13 != (0:Int))=true then some (.ret v13) else some (.nxt ()))))
theorem cmpP_eq (a b:List zd):yk a b=lp (zq (cmpF b) a 0 ()) λ_=>(if (decide (((a).length:Int) < ((b).length:Int)))=true then some (-1:Int) else some (0:Int)):=rfl
theorem cmp_pre {s2:List zd}:∀(p a:List zd) (q b:List zd),s2=q++(p++b)->zq (cmpF s2) (p++a) q.length ()=zq (cmpF s2) a (q.length+p.length) ()
 | [],a,q,b,_=>rfl
 | x::p,a,q,b,h=>by
  have c:q.length < s2.length:=by rw [h];simp
  have hx:wh s2 (q.length:Int)=some x:=zM (by rw [h];simp);have e:cmpF s2 q.length x ()=some (.nxt ()):=by
   unfold cmpF;rw [uR (by omega)];simp only [up,uL,hx,ua,cmpS_self,rI]
  simp only [tj,zq,e];have:=cmp_pre (s2:=s2) p a (q++[x]) b (by rw [h];simp);rw [uf,rJ] at this;rw [this];congr 1;simp only [ue];omega
theorem cmpP_lt {a b:List zd} (h:pathLt a b):yk a b=some (-1):=by
 rw [cmpP_eq];rcases h with ⟨y,q,rfl⟩ | ⟨p,x,y,a',c,rfl,rfl,h⟩
 ·have:=cmp_pre (s2:=a++y::q) a [] [] (y::q) rfl;rw [tv,uk] at this;rw [this];simp only [zq,vI];rw [uv (tp (by simp only [uf,ue];omega))]
 ·have:=cmp_pre (s2:=p++y::c) p (x::a') [] (y::c) rfl;rw [uk] at this;rw [this];have hx:wh (p++y::c) ((0+p.length:Nat):Int)=some y:=zM (by simp);have e:cmpF (p++y::c) (0+p.length) x ()=some (.ret (-1)):=by
   unfold cmpF;rw [uR (by simp only [uf,ue];omega)];simp only [up,uL,hx,ua,cmpS_less h];rfl
  simp only [zq,e,lp_inl]
theorem cmpP_self (a:List zd):yk a a=some 0:=by
 rw [cmpP_eq];have:=cmp_pre (s2:=a) a [] [] [] (by simp);rw [tv,uk] at this;rw [this];simp only [zq,vI];rw [uG (by simp)]
def rowLt (r q:GH):Prop:=pathLt r.path q.path \/ (r.path=q.path/\r.leaf.typ < q.leaf.typ)
def leaf0:GE:=GE.mk (0:Int) (0:Int) (0:Int) (GC.mk (GI.mk (0:Int) (0:Int)) (0:Int)) ([]:zd) ([]:List GF) ([]:List GC)
theorem vX {t:List GA} {a:List zd} (h:r ∈ zj a t):∃x ∈ t,∃w,r.path=a++x.name::w:=by
 rw [yb,List.mem_flatMap] at h;obtain ⟨x,hx,h⟩:=h;refine ⟨x,hx,?_⟩;rw [yw,uC,tf] at h;rcases h with ⟨l,_,rfl⟩ | h
 ·exact ⟨[],rfl⟩
 ·have:=rows_pre x.subs (a++[x.name]) [];rw [tv] at this;rw [this,tf] at h;obtain ⟨q,_,rfl⟩:=h;exact ⟨q.path,by simp [preR]⟩
theorem rows_lt:∀(t:List GA) (d:Nat) (a:List zd),upB t=true->xj d t=true->(zj a t).Pairwise rowLt:=by
 refine xP (λ_ _ _ _=>List.Pairwise.nil) ?_;intro x r hx C d a o u;rw [yb,th,<- yb];rw [qW,tn] at o;simp only [xj,ud] at u;obtain ⟨f,m⟩:=u;rw [qF] at f;simp only [ud] at f;obtain ⟨⟨⟨_,_⟩,c⟩,p⟩:=f;simp only [treeB,ud] at c;obtain ⟨j,_⟩:=leaves_up p;rw [tz];refine ⟨?_,C d a (qW r |>.2 o.2) m,λq i E g=>?_⟩
 ·rw [yw,tz];refine ⟨?_,hx (d+1) _ c.1.2 c.2,λq i E g=>?_⟩
  ·rw [pa];exact j.imp λh=>.inr ⟨rfl,h⟩
  ·rw [tf] at i;obtain ⟨l,_,rfl⟩:=i;obtain ⟨y,_,w,e⟩:=vX g;exact .inl (.inl ⟨y.name,w,e⟩)
 ·have v:∃w,q.path=a++x.name::w:=by
   have:q ∈ zj a [x]:=by rw [yb];simpa using i
   obtain ⟨z,s,w,e⟩:=vX this;simp only [uA] at s;subst s;exact ⟨w,e⟩
  obtain ⟨w,D⟩:=v;obtain ⟨y,B,w',A⟩:=vX g;exact .inl (.inr ⟨a,x.name,y.name,w,w',D,A,o.1 y B⟩)
structure RowOk' (r:GH):Prop where
 path:xI r.path=true
 leaf:leafB r.leaf=true
 ok:LeafOk r.leaf
theorem rows_ok:∀(t:List GA) (d:Nat) (a:List zd),Small t->treeB d t=true->a.length=d->a.all nameB=true->∀r ∈ zj a t,RowOk' r:=by
 have key:∀(t:List GA),(∀(d:Nat) (a:List zd),Small t->xj d t=true->d < 3->a.length=d->a.all nameB=true->∀r ∈ zj a t,RowOk' r):=by
  refine xP (λ_ _ _ _ _ _ _ _ h=>by simp [zj] at h) ?_;intro x r hx g d a hs w hd m o q c;rw [yb,th,uC,<- yb] at c;simp only [xj,ud] at w;obtain ⟨f,s⟩:=w;rcases c with c | c
  ·rw [qF] at f;simp only [ud] at f;obtain ⟨⟨⟨u,_⟩,e⟩,v⟩:=f;have j:(a++[x.name]).all nameB=true:=by rw [tU,o];simpa using u
   rw [yw,uC,tf] at c;rcases c with ⟨l,i,rfl⟩ | c
   ·refine ⟨?_,(leaves_up v).2 l i,hs.leaf (by simp) i⟩;simp only [xI,j,tJ,uf,ue,uk,ud,uh];omega
   ·simp only [treeB,ud,uY,s9,uh] at e;rcases e.1.1 with h0 | h0
    ·rw [h0] at c;simp [zj] at c
    ·exact hx (d+1) _ (hs.subs (by simp)) e.2 h0 (by simp [m]) j q c
  ·exact g d a hs.tail s hd m o q c
 intro t d a hs p m o r g;simp only [treeB,ud,uY,s9,uh] at p;rcases p.1.1 with h0 | h0
 ·rw [h0] at g;simp [zj] at g
 ·exact key t d a hs p.2 h0 m o r g
theorem side0 (k:Int):xS false leaf0 k=some true:=by
 unfold xS;simp only [tZ,uq];have:=leafSame_is leaf0 leaf0;unfold leaf0 at this ⊢;rw [this];simp
theorem side1 (h:leafB l=true) (c:LeafOk l):xS true l l.typ=some true:=by
 unfold xS;have e:leafMay l=some true:=by
  rw [leafMay_is (uB c.items (by decide)) (uB c.tombs (by decide)),h]
 simp [e]
theorem tree_nil (d:Nat):treeB d []=true:=by simp [treeB,xj,upB,allI]
theorem leafNew_tot (k:Int):∃v,vJ k=some v:=by unfold vJ;split <;> exact ⟨_,rfl⟩
theorem pathB_ne {p:List zd} (h:xI p=true):p ≠ []:=by
 rintro rfl
 simp [xI] at h
theorem loopW_inv {ρ:Type} {f:σ->Option (Out ρ σ)} (i g:σ->Prop) (j:σ->Nat) (h:∀s,i s->(∃c,f s=some (.brk c)/\g c) \/ ∃c,f s=some (.nxt c)/\i c/\j c < j s):∀(k:Nat) (s:σ),j s=k->i s->∃c,yr f s=some (.inr c)/\g c:=by
 intro k
 induction k using Nat.strongRecOn with
 | _ k ih =>
  intro s p hi;rw [wB];rcases h s hi with ⟨c,e,m⟩ | ⟨c,e,o,t⟩
  ·exact ⟨c,by rw [e],m⟩
  ·rw [e];exact ih (j c) (by omega) c rfl o
theorem idxF_is {q:GE->Bool} {del:GE->Option Bool}:∀(L:List GE) (n:Nat),(∀x ∈ L,del x=some (q x)) ->
  (zq (λ(f:Nat) (j:GE) (_:Unit)=>(((del j).bind λm=>(if m=true then some (.ret (f:Int)) else some (.nxt ()))):Option (Out Int Unit))) L n ()=some (.inr ())/\∀x ∈ L,q x=false) \/
  ∃A x B,L=A++x::B/\q x=true/\(∀y ∈ A,q y=false)/\zq (λ(f:Nat) (j:GE) (_:Unit)=>(((del j).bind λm=>(if m=true then some (.ret (f:Int)) else some (.nxt ()))):Option (Out Int Unit))) L n ()=some (.inl ((n+A.length:Nat):Int))
 | [],n,_=>.inl ⟨rfl,by simp⟩
 | x::r,n,h=>by
  have hx:=h x (by simp);cases hq:q x with
  | true=>exact .inr ⟨[],x,r,rfl,hq,by simp,by simp [zq,hx,hq]⟩
  | false =>
   rcases idxF_is r (n+1) (λy c=>h y (by simp [c])) with ⟨e,i⟩ | ⟨A,y,B,rfl,o,i,e⟩
   ·refine .inl ⟨by simp only [zq,hx,hq,ua];exact e,?_⟩;intro y c;rcases ut.1 c with rfl | c
    ·exact hq
    ·exact i y c
   ·refine .inr ⟨x::A,y,B,rfl,o,?_,?_⟩
    ·intro z g;rcases ut.1 g with rfl | g
     ·exact hq
     ·exact i z g
    ·simp only [zq,hx,hq,ua];rw [show n+(x::A).length=n+1+A.length by simp only [ue];omega];exact e
theorem wrap_a1 {a:Nat} (h:a<=16777216):IntKind.wrap .i64 ((a:Int)+1)=((a+1:Nat):Int):=wrap_add1 (uB (pi h) (by decide))
noncomputable def delF (del:GE->Option Bool) (n:Nat):Int×Int×(List GE)->Option (Out (List GE) (Int×Int×(List GE))):=λs1=>((ym ((s1.2.2).length=n) ((if (decide (s1.2.1 < ((n:Nat):Int)))=true then ((wh s1.2.2 s1.2.1).bind λy14=>((del y14).bind λv15=>(if (!v15)=true then ((wh s1.2.2 s1.1).bind λy17=>some (.nxt ((IntKind.wrap .i64 (s1.1+(1:Int))),(IntKind.wrap .i64 (s1.2.1+(1:Int))),(s1.2.2.set s1.1.toNat y14)))) else some (.nxt (s1.1,(IntKind.wrap .i64 (s1.2.1+(1:Int))),s1.2.2))))) else some (.brk (s1.1,s1.2.1,s1.2.2))))))
theorem delR_eq (e:List GE) (c:GE->Option Bool):yB e c=((zS e c).bind λg=>(if (g==(-1:Int))=true then some e else (lp (yr (delF c e.length) (g,(IntKind.wrap .i64 (g+(1:Int))),e)) λ(f:Int×Int×(List GE))=>(ym (0<=f.1/\f.1<=((e.length:Nat):Int)) (((slc (f.2.2.take f.1.toNat++List.replicate (e.length - f.1.toNat) zLf) (0:Int) f.1).bind λm19=>some m19)))))):=rfl
theorem delF_run (z:L0.length<=16777216) (h:∀x ∈ L0,del x=some (q x)) {a0 b0:Nat} (C:a0 < b0) (B:b0<=L0.length) (E:L0.take a0=(L0.take b0).filter λx=>!q x) :
  ∃o,yr (delF del L0.length) ((a0:Int),(b0:Int),L0)=some (.inr o)/\∃a:Nat,o.1=(a:Int)/\a < L0.length/\o.2.2.length=L0.length/\o.2.2.take a=L0.filter λx=>!q x:=by
 refine loopW_inv (f:=delF del L0.length) (λs=>∃a b:Nat,s.1=(a:Int)/\s.2.1=(b:Int)/\a < b/\b<=L0.length/\s.2.2.length=L0.length/\s.2.2.take a=(L0.take b).filter (λx=>!q x)/\s.2.2.drop b=L0.drop b)
  _ (λs=>L0.length - s.2.1.toNat) ?_ _ _ rfl ⟨a0,b0,rfl,rfl,C,B,rfl,E,rfl⟩
 rintro ⟨i,j,M⟩ ⟨a,b,w,A,F,y,m,t,p⟩
 simp only at w A m t p;subst w A;simp only [delF,ym,m,uq];by_cases hb:b < L0.length
 ·right;have D:M[b]?=L0[b]?:=by
   have:=congrArg (λl=>l[0]?) p;simpa [uI] using this
  have u:L0[b]?=some L0[b]:=ui hb;have hd:=h L0[b] (sP hb);have g:wh M (b:Int)=some L0[b]:=by simp [wh,D]
  have c:wh M (a:Int)=some (M[a]'(by omega)):=by simp [wh]
  rw [uv (by simp;omega),g,ua,hd,ua];have e:L0.take (b+1)=L0.take b++[L0[b]]:=by rw [rE,u];rfl
  cases hq:q L0[b] with
  | true =>
   refine ⟨((a:Int),((b+1:Nat):Int),M),by simp [wrap_a1 (uB y z)],⟨a,b+1,rfl,rfl,by omega,by omega,m,?_,?_⟩,by simp;omega⟩
   ·rw [t,e,sa];simp [hq]
   ·have:=congrArg (λl=>l.drop 1) p;simpa [tG] using this
  | false =>
   refine ⟨(((a+1:Nat):Int),((b+1:Nat):Int),M.set a L0[b]),by simp [c,wrap_a1 (uB y z),wrap_a1 (show a<=16777216 by omega)],⟨a+1,b+1,rfl,rfl,by omega,by omega,by simpa using m,?_,?_⟩,by simp;omega⟩
   ·rw [rE,List.take_set_of_le (ug _),t,e,sa,uF (by omega)];simp [hq]
   ·have:=congrArg (λl=>l.drop 1) p;rw [List.drop_set_of_lt (by omega)];simpa [tG] using this
 ·left;have v:b=L0.length:=by omega
  rw [uG (by simp;omega)];exact ⟨_,rfl,a,rfl,by omega,m,by rw [t,v,sd]⟩
theorem deleteR_is (p:L0.length<=16777216) (h:∀x ∈ L0,del x=some (q x)):yB L0 del=some (L0.filter λx=>!q x):=by
 rw [delR_eq];unfold zS;rcases idxF_is L0 0 h with ⟨e,c⟩ | ⟨A,x,B,i,o,c,e⟩
 ·rw [e];simp only [lp,ua,tR,uq];rw [sq.2 (λx hx=>by rw [c x hx];rfl)]
 ·rw [e];have j:L0.length=A.length+1+B.length:=by rw [i];simp;omega
  simp only [lp,ua,te];rw [uG (by simp <;> omega),wrap_a1 (by omega)];obtain ⟨f,t,a,g,v,u,m⟩:=delF_run p h (a0:=A.length) (b0:=A.length+1) (by omega) (by omega) (by
   rw [i,pr,tI,uJ (by omega),show A.length+1 - A.length=1 by omega,sa];simp only [sn,pu,rK,o,List.filter_nil];rw [sq.2 (λy s=>by rw [c y s];rfl)];simp)
  rw [t];simp only [ym];rw [uv (by rw [g];omega),g];have hs:slc (f.2.2.take ((a:Int)).toNat++List.replicate (L0.length - ((a:Int)).toNat) zLf) (0:Int) (a:Int)=some (f.2.2.take a):=by
   unfold slc;rw [uv (by simp;omega)];simp only [uP,Int.toNat_zero,sg];rw [uX (by simp;omega),pt,Nat.min_self]
  rw [hs,ua,m]

theorem less_tot:∀(a b:List UInt8),a=b \/ Op.bytesLess a b=true \/ Op.bytesLess b a=true
 | [],[]=>.inl rfl
 | [],_::_=>.inr (.inl rfl)
 | _::_,[]=>.inr (.inr rfl)
 | x::a,y::b=>by
  by_cases h:x=y
  ·subst h;rcases less_tot a b with rfl | h | h
   ·exact .inl rfl
   ·exact .inr (.inl (by simp [Op.bytesLess,h]))
   ·exact .inr (.inr (by simp [Op.bytesLess,h]))
  ·have h':x.toNat ≠ y.toNat:=λe=>h (UInt8.toNat_inj.1 e);rcases Nat.lt_or_gt_of_ne h' with h | h
   ·exact .inr (.inl (by simp [Op.bytesLess,sW,h]))
   ·exact .inr (.inr (by simp [Op.bytesLess,sW,h]))
def qD:List zd->List zd->Bool
 | _,[]=>false
 | [],_::_=>true
 | x::a,y::b=>Op.bytesLess x y || (decide (x=y)&&qD a b)
theorem plt_irr:∀a,qD a a=false
 | []=>rfl
 | x::a=>by simp [qD,less_irr,plt_irr a]
theorem plt_trans:∀{a b c:List zd},qD a b=true->qD b c=true->qD a c=true
 | _,[],_,h,_=>by cases ‹List zd› <;> simp [qD] at h
 | _,_::_,[],_,h=>by simp [qD] at h
 | [],_::_,_::_,_,_=>rfl
 | x::a,y::b,z::c,f,e=>by
  simp only [qD,uY,ud,uh] at *;rcases f with f | ⟨rfl,f⟩
  ·rcases e with e | ⟨rfl,e⟩
   ·exact .inl (qd f e)
   ·exact .inl f
  ·rcases e with e | ⟨rfl,e⟩
   ·exact .inl e
   ·exact .inr ⟨rfl,plt_trans f e⟩
theorem plt_tot:∀(a b:List zd),a=b \/ qD a b=true \/ qD b a=true
 | [],[]=>.inl rfl
 | [],_::_=>.inr (.inl rfl)
 | _::_,[]=>.inr (.inr rfl)
 | x::a,y::b=>by
  rcases less_tot x y with rfl | h | h
  ·rcases plt_tot a b with rfl | h | h
   ·exact .inl rfl
   ·exact .inr (.inl (by simp [qD,h]))
   ·exact .inr (.inr (by simp [qD,h]))
  ·exact .inr (.inl (by simp [qD,h]))
  ·exact .inr (.inr (by simp [qD,h]))
theorem plt_path:∀{a b:List zd},qD a b=true->pathLt a b
 | _,[],h=>by cases ‹List zd› <;> simp [qD] at h
 | [],y::b,_=>.inl ⟨y,b,rfl⟩
 | x::a,y::b,h=>by
  simp only [qD,uY,ud,uh] at h;rcases h with h | ⟨rfl,h⟩
  ·exact .inr ⟨[],x,y,a,b,rfl,rfl,h⟩
  ·rcases plt_path h with ⟨z,q,rfl⟩ | ⟨p,u,v,a',c,rfl,rfl,e⟩
   ·exact .inl ⟨z,q,rfl⟩
   ·exact .inr ⟨x::p,u,v,a',c,rfl,rfl,e⟩
theorem path_plt {a b:List zd} (h:pathLt a b):qD a b=true:=by
 rcases h with ⟨y,q,rfl⟩ | ⟨p,x,y,a',c,rfl,rfl,h⟩
 ·induction a with
  | nil=>rfl
  | cons x a ih=>simp [qD,ih]
 ·induction p with
  | nil=>simp [qD,h]
  | cons x a ih=>simp [qD,ih]
theorem cmpS_gt {x y:zd} (h:Op.bytesLess y x=true):yi x y=some 1:=by
 have c:Op.bytesLess x y=false:=by
  cases e:Op.bytesLess x y
  ·rfl
  ·have:=qd h e;rw [less_irr] at this;cases this
 unfold yi xf;have f:¬ x=y:=λe=>less_ne h e.symm;simp [h,c,f]
theorem cmpP_gt {a b:List zd} (h:pathLt b a):yk a b=some 1:=by
 rw [cmpP_eq];rcases h with ⟨y,q,rfl⟩ | ⟨p,x,y,a',c,rfl,rfl,h⟩
 ·have:=cmp_pre (s2:=b) b (y::q) [] [] (by simp);rw [uk] at this;rw [this];have e:cmpF b (0+b.length) y ()=some (.ret 1):=by
   unfold cmpF;rw [uv (tp (by omega))]
  simp only [zq,e,lp_inl]
 ·have:=cmp_pre (s2:=p++x::a') p (y::c) [] (x::a') rfl;rw [uk] at this;rw [this];have hx:wh (p++x::a') ((0+p.length:Nat):Int)=some x:=zM (by simp);have e:cmpF (p++x::a') (0+p.length) y ()=some (.ret 1):=by
   unfold cmpF;rw [uR (by simp only [uf,ue];omega)];simp only [up,uL,hx,ua,cmpS_gt h];rfl
  simp only [zq,e,lp_inl]
def Key:=List zd×Int
def kltB (a b:Key):Bool:=qD a.1 b.1 || (decide (a.1=b.1)&&decide (a.2 < b.2))
theorem klt_irr (a:Key):kltB a a=false:=by simp [kltB,plt_irr]
theorem klt_trans {a b c:Key} (f:kltB a b=true) (e:kltB b c=true):kltB a c=true:=by
 simp only [kltB,uY,ud,uh] at *;rcases f with f | ⟨h,f⟩
 ·rcases e with e | ⟨g,e⟩
  ·exact .inl (plt_trans f e)
  ·rw [g] at f;exact .inl f
 ·rcases e with e | ⟨g,e⟩
  ·rw [<- h] at e;exact .inl e
  ·exact .inr ⟨h.trans g,by omega⟩
def ekey (e:GJ):Key:=(e.path,e.typ)
def rkey (r:GH):Key:=(r.path,r.leaf.typ)
def ordI (a b:GJ):Int:=if kltB (ekey a) (ekey b)=true then -1 else if kltB (ekey b) (ekey a)=true then 1 else 0
theorem plt_asym {a b:List zd} (h:qD a b=true):qD b a=false:=by
 cases e:qD b a
 ·rfl
 ·have:=plt_trans h e;rw [plt_irr] at this;cases this
theorem order_is (a b:GJ):qj a b=some (ordI a b):=by
 unfold qj ordI kltB ekey;rcases plt_tot a.path b.path with h | h | h
 ·simp only [h,cmpP_self,cmpU8is,ua,cmpOr2_is,plt_irr,tK,rL,u5,uh,or2,cmpI];simp
 ·have c:a.path ≠ b.path:=λe=>by rw [e,plt_irr] at h;cases h
  simp only [cmpP_lt (plt_path h),cmpU8is,ua,cmpOr2_is,h,or2];simp
 ·have c:a.path ≠ b.path:=λe=>by rw [e,plt_irr] at h;cases h
  simp only [cmpP_gt (plt_path h),cmpU8is,ua,cmpOr2_is,h,plt_asym h,or2];simp [c]
theorem ordI_lt {a b:GJ}:ordI a b < 0 ↔ kltB (ekey a) (ekey b)=true:=by
 unfold ordI;split
 ·rename_i h;simp [h]
 ·rename_i h;split
  ·simp [h]
  ·simp [h]
theorem sortO_lt {α:Type} {c:α->α->Option Int} {cf:α->α->Int} {lt:α->α->Prop} {L R:List α} (D:∀x ∈ L,∀y ∈ L,c x y=some (cf x y)) (u:∀x y,cf x y < 0 ↔ lt x y) (p:∀x,¬ lt x x) (w:∀x y z,lt x y->lt y z->lt x z)
  (o:∀x ∈ L,∀y ∈ L,x=y \/ lt x y \/ lt y x) (s:R.Perm L) (hs:R.Pairwise lt) (F:L.length<=yS):sortO c L=some R:=by
 unfold sortO;rw [uv (λx hx y f=>by rw [D x hx y f];rfl)];have hd:∀x ∈ L,∀y ∈ L,(c x y).getD 0 < 0 ↔ lt x y:=λx hx y f=>by rw [D x hx y f];exact u x y
 have i:∀x y,lt x y->¬ lt y x:=λx y j g=>p x (w _ _ _ j g);have C:R.Pairwise λa b=>¬ (c b a).getD 0 < 0:=by
  have:R.Pairwise λa b=>a ∈ L/\b ∈ L/\lt a b:=by
   refine List.Pairwise.imp_of_mem ?_ hs;intro a b B v h;exact ⟨s.subset B,s.subset v,h⟩
  refine this.imp ?_
  rintro a b ⟨B,v,h⟩ g
  exact i _ _ h ((hd b v a B).1 g)
 refine sortF_of ⟨λx hx h=>p x ((hd x hx x hx).1 h),λx y z hx f m j g=>(hd x hx z m).2 (w _ _ _ ((hd x hx y f).1 j) ((hd y f z m).1 g)),λx y z hx f m j g t=>?_⟩ F ⟨s,C⟩ ?_
 ·have t:=(hd x hx z m).1 t;rcases o x hx y f with rfl | h | h
  ·exact g ((hd _ f z m).2 t)
  ·exact j ((hd x hx y f).2 h)
  ·exact g ((hd y f z m).2 (w _ _ _ h t))
 ·rintro M ⟨A,E⟩
  refine sorted_one (A.trans s.symm) E C λx y hx f j g=>?_;have hx:=A.subset hx;have f:=A.subset f;rcases o x hx y f with e | h | h
  ·exact e
  ·exact (j ((hd x hx y f).2 h)).elim
  ·exact (g ((hd y f x hx).2 h)).elim
theorem cmp_pos:∀{a b:List UInt8},Op.bytesLess b a=true->0 < Lib.compareBytes a b
 | [],b,h=>by cases b <;> simp [Op.bytesLess] at h
 | _::_,[],_=>by simp [Lib.compareBytes]
 | x::a,y::b,h=>by
  simp only [Op.bytesLess,uY,ud,uh,sI] at h;rcases h with h | ⟨rfl,h⟩
  ·have h':y.toNat < x.toNat:=sW.1 h;have c:¬ x < y:=λe=>by have:=sW.1 e;omega
   simp [Lib.compareBytes,h,c]
  ·have:=cmp_pos h;simp [Lib.compareBytes,this]
def NLt (s:zd) (A:List GA):Prop:=∀y ∈ A,Op.bytesLess y.name s=true
def NGt (s:zd) (B:List GA):Prop:=∀y ∈ B,Op.bytesLess s y.name=true
theorem split_up {t:List GA} (s:zd) (h:upB t=true):(∃A B,t=A++B/\NLt s A/\NGt s B) \/ ∃A x B,t=A++x::B/\x.name=s/\NLt s A/\NGt s B:=by
 rw [qW] at h
 induction t with
 | nil=>exact .inl ⟨[],[],rfl,λ_ h=>by simp at h,λ_ h=>by simp at h⟩
 | cons x t ih =>
  obtain ⟨i,j⟩:=tn.1 h;rcases less_tot x.name s with e | e | e
  ·exact .inr ⟨[],x,t,rfl,e,λ_ h=>by simp at h,λy c=>by rw [<- e];exact i y c⟩
  ·rcases ih j with ⟨A,B,rfl,f,g⟩ | ⟨A,z,B,rfl,m,f,g⟩
   ·refine .inl ⟨x::A,B,rfl,λy c=>?_,g⟩;rcases ut.1 c with rfl | c
    ·exact e
    ·exact f y c
   ·refine .inr ⟨x::A,z,B,rfl,m,λy c=>?_,g⟩;rcases ut.1 c with rfl | c
    ·exact e
    ·exact f y c
  ·refine .inl ⟨[],x::t,rfl,λ_ h=>by simp at h,λy c=>?_⟩;rcases ut.1 c with rfl | c
   ·exact e
   ·exact qd e (i y c)
theorem bs_none {A B:List GA} {s:zd} (hx:(A++B).length<=16777216) (j:NLt s A) (g:NGt s B):zz (A++B) s (λh p=>wH h p)=some ((A.length:Int),false):=by
 rw [bs_is (c:=A.length) hx (by simp) λi m hi=>⟨_,layC1_is m s,λf=>by
   rw [uo f] at hi;exact cmp_less.2 (j m (uD hi)),λf=>by
   rw [un f] at hi;exact Int.le_of_lt (cmp_pos (g m (uD hi)))⟩]
 cases B with
 | nil=>simp
 | cons y B =>
  have e:(A++y::B).getD A.length default=y:=by simp
  have:=cmp_pos (g y (by simp));rw [uv (by simp),e,layC1_is];have o:(Lib.compareBytes y.name s==0)=false:=by simp;omega
  simp [o]
theorem bs_some {A B:List GA} {x:GA} {s:zd} (hx:(A++x::B).length<=16777216) (hs:x.name=s) (j:NLt s A) (p:NGt s B):zz (A++x::B) s (λg o=>wH g o)=some ((A.length:Int),true):=by
 subst hs;rw [bs_is (c:=A.length) hx (by simp) λi m hi=>⟨_,layC1_is m x.name,λf=>by
   rw [uo f] at hi;exact cmp_less.2 (j m (uD hi)),λf=>by
   rw [un f] at hi;rcases ut.1 (uD hi) with rfl | h
   ·rw [cmp_self];exact pb _
   ·exact Int.le_of_lt (cmp_pos (p m h))⟩]
 have e:(A++x::B).getD A.length default=x:=by simp
 rw [uv (by simp),e,layC1_is,cmp_self];simp
noncomputable def layIn (n:Nat) (path1:List zd) (kind2:Int) (l3:GE) (there4:Bool) (s1:zd×(List GE)×(List GA)):Option (List GA ⊕ ((List GE)×(List GA))):=((if (decide (((path1).length:Int) > (1:Int)))=true then ((slc path1 (1:Int) ((path1).length:Int)).bind λm20=>((wP n s1.2.2 m20 kind2 l3 there4).bind λv21=>some (.inr (s1.2.1,v21)))) else ((we s1.2.1).bind λv22=>((yB v22 (λx0=>diffXlayC2 x0 kind2)).bind λv23=>(if there4=true then ((diffXown l3).bind λv25=>(ym ((v23).length+(([v25]:List GE)).length<=yS) (((sortO (λx y=>qk x y) (v23++([v25]:List GE))).bind λv27=>some (.inr (v27,s1.2.2)))))) else some (.inr (v23,s1.2.2)))))):Option (_ ⊕ ((List GE)×(List GA))))
noncomputable def layRest (t0:List GA) (i:Int) (f:Bool) (nm:zd) (s2:(List GE)×(List GA)):Option (List GA):=((slc t0 (0:Int) i).bind λm28=>((xh m28).bind λv29=>(if (decide ((IntKind.wrap .i64 (((s2.1).length:Int)+((s2.2).length:Int))) > (0:Int)))=true then (ym ((v29).length+(([(GA.mk nm s2.1 s2.2)]:List GA)).length<=yS) ((if f=true then ((slc t0 (IntKind.wrap .i64 (i+(1:Int))) ((t0).length:Int)).bind λm35=>(ym (((v29++([(GA.mk nm s2.1 s2.2)]:List GA))).length+(m35).length<=yS) (some ((v29++([(GA.mk nm s2.1 s2.2)]:List GA))++m35)))) else ((slc t0 i ((t0).length:Int)).bind λm37=>(ym (((v29++([(GA.mk nm s2.1 s2.2)]:List GA))).length+(m37).length<=yS) (some ((v29++([(GA.mk nm s2.1 s2.2)]:List GA))++m37))))))) else (if f=true then ((slc t0 (IntKind.wrap .i64 (i+(1:Int))) ((t0).length:Int)).bind λm40=>(ym ((v29).length+(m40).length<=yS) (some (v29++m40)))) else ((slc t0 i ((t0).length:Int)).bind λm42=>(ym ((v29).length+(m42).length<=yS) (some (v29++m42))))))))
theorem layN_eq (n:Nat) (t0:List GA) (c:List zd) (f:Int) (i:GE) (e:Bool):wP (n+1) t0 c f i e=((wh c (0:Int)).bind λp=>((zz t0 p (λj o=>wH j o)).bind λv2=>((wh c (0:Int)).bind λm=>(lp ((if v2.2=true then ((wh t0 v2.1).bind λg=>some (.inr (g.name,g.leaves,g.subs))) else some (.inr (m,([]:List GE),([]:List GA)))):Option (_ ⊕ (zd×(List GE)×(List GA)))) λ(h:zd×(List GE)×(List GA))=>(lp (layIn n c f i e h) λ(s2:(List GE)×(List GA))=>layRest t0 v2.1 v2.2 h.1 s2))))):=rfl
def layLs (k:Int) (l:GE) (there:Bool) (ls:List GE):List GE:=if there=true then ls.filter (λx=>decide (x.typ < k))++[l]++ls.filter (λx=>decide (k < x.typ)) else ls.filter (λx=>!decide (x.typ=k))
theorem ups_inj (h:ls.Pairwise λx y=>x.typ < y.typ) {x y:GE} (hx:x ∈ ls) (m:y ∈ ls) (e:x.typ=y.typ):x=y:=by
 induction ls with
 | nil=>simp at hx
 | cons z r ih =>
  obtain ⟨j,o⟩:=tn.1 h;rcases ut.1 hx with g | c <;> rcases ut.1 m with i | f
  ·rw [g,i]
  ·have:=j y f;rw [<- g] at this;omega
  ·have:=j x c;rw [<- i] at this;omega
  ·exact ih o c f
theorem layLs_up (e:there=true->l.typ=k) (h:ls.Pairwise λx y=>x.typ < y.typ):(layLs k l there ls).Pairwise λx y=>x.typ < y.typ:=by
 unfold layLs;split
 ·rename_i f;have e:=e f;rw [tz,tz];refine ⟨⟨h.filter _,by simp,λx hx y c=>?_⟩,h.filter _,λx hx y c=>?_⟩
  ·have hx:=(tm.1 hx).2;simp at hx c;subst c;omega
  ·have c:=(tm.1 c).2;simp at c;rcases uC.1 hx with hx | hx
   ·have hx:=(tm.1 hx).2;simp at hx;omega
   ·simp at hx;subst hx;omega
 ·exact h.filter _
theorem sortLs_is (g:l.typ=k) (j:ls.length<=16777216) (h:ls.Pairwise λx y=>x.typ < y.typ):sortO (λx y=>qk x y) (ls.filter (λx=>!decide (x.typ=k))++[l])=some (layLs k l true ls):=by
 have i:=sD (λx:GE=>!decide (x.typ=k)) ls;refine sortO_lt (α:=GE) (cf:=λx y=>cmpI x.typ y.typ) (lt:=λx y=>x.typ < y.typ) (λx _ y _=>by unfold qk;rw [cmpU8is];rfl) (λx y=>by unfold cmpI;split <;> (try split) <;> omega) (λx h=>by omega) (λx y z f m=>by omega) ?_ ?_ (layLs_up (λ_=>g) h) (vk (by simp;omega))
 ·intro x hx y c;rcases Int.lt_trichotomy x.typ y.typ with e | e | e
  ·exact .inr (.inl e)
  ·left;rcases uC.1 hx with hx | hx <;> rcases uC.1 c with c | c
   ·exact ups_inj h (tm.1 hx).1 (tm.1 c).1 e
   ·have hx:=(tm.1 hx).2;simp at hx c;subst c;omega
   ·have c:=(tm.1 c).2;simp at hx c;subst hx;omega
   ·simp at hx c;rw [hx,c]
  ·exact .inr (.inr e)
 ·unfold layLs;rw [uv rfl];have f:(ls.filter (λx=>decide (x.typ < k))++ls.filter (λx=>decide (k < x.typ))).Perm (ls.filter λx=>!decide (x.typ=k)):=by
   have:=pk (λx:GE=>decide (x.typ < k)) (ls.filter λx=>!decide (x.typ=k));rw [r5,r5] at this;refine List.Perm.trans (.of_eq ?_) this;congr 1 <;> refine List.filter_congr λx _=>?_ <;> rw [uz] <;> simp <;> omega
  rw [uy];refine List.Perm.trans (List.Perm.append_left _ List.perm_append_comm) ?_;rw [<- uy];exact f.append_right _
theorem layIn_leaf {s:zd} {nm:zd} {e:List GA} (f:there=true->l.typ=k/\LeafOk l) (c:ls.length<=16777216) (h:ls.Pairwise λx y=>x.typ < y.typ) :
  layIn n [s] k l there (nm,ls,e)=some (.inr (layLs k l there ls,e)):=by
 unfold layIn;have g:decide (((([s]:List zd).length:Int)) > 1)=false:=rfl;have m:=sD (λx:GE=>!decide (x.typ=k)) ls;simp only [g,up,uL];rw [cloneLeaf_is (vk (by omega)),ua,deleteR_is (q:=λx=>decide (x.typ=k)) c (λx _=>by unfold diffXlayC2;rfl),ua];cases there with
 | false=>simp [layLs]
 | true =>
  obtain ⟨j,i⟩:=f rfl;simp only [uq];rw [own_is i,ua,zx (vk (by simp;omega)),sortLs_is j c h,ua]
theorem layIn_sub {s a:zd} {r:List zd} {nm:zd} {e c:List GA} (i:(s::a::r).length<=16777216) (h:wP n e (a::r) k l there=some c):layIn n (s::a::r) k l there (nm,ls,e)=some (.inr (ls,c)):=by
 unfold layIn;have f:decide ((((s::a::r).length:Int)) > 1)=true:=tp (by simp only [ue];omega);simp only [f,uq];rw [slc_at ⟨by omega,by simp only [ue];omega,pb _⟩,ua];have g:((s::a::r).take (((s::a::r).length:Int)).toNat).drop (1:Int).toNat=a::r:=by rw [uP,sd];rfl
 rw [g,h,ua]
def fitN (nm:zd) (ls:List GE) (sb:List GA):List GA:=if ls.length+sb.length=0 then [] else [⟨nm,ls,sb⟩]
theorem layRest_is {A B:List GA} {m:List GA} {nm:zd} {g:List GA} {f:Bool} (j:m.length=if f=true then 1 else 0) (t:(A++m++B).length<=16777216) (v:ls.length<=16777216) (u:g.length<=16777217) :
  layRest (A++m++B) (A.length:Int) f nm (ls,g)=some (A++fitN nm ls g++B):=by
 simp only [uf] at t;unfold layRest;rw [slc_at ⟨pb _,by omega,by simp;omega⟩,ua];have s:((A++m++B).take ((A.length:Int)).toNat).drop (0:Int).toNat=A:=by simp
 rw [s,cloneNode_is (vk (by omega)),ua];have o:∀(c:List GA),c.length<=A.length+1->((if f=true then ((slc (A++m++B) (IntKind.wrap .i64 ((A.length:Int)+(1:Int))) ((A++m++B).length:Int)).bind λi=>(ym (c.length+(i).length<=yS) (some (c++i)))) else ((slc (A++m++B) (A.length:Int) ((A++m++B).length:Int)).bind λh=>(ym (c.length+(h).length<=yS) (some (c++h))))):Option (List GA))=some (c++B):=by
  intro c w;cases f with
  | true =>
   simp only [uq] at j ⊢;rw [xV (by omega),slc_at ⟨by omega,by simp;omega,pb _⟩,ua];have e:((A++m++B).take (((A++m++B).length:Int)).toNat).drop ((A.length:Int)+1).toNat=B:=by
    rw [uP,sd,show ((A.length:Int)+1).toNat=(A++m).length by simp;omega,rB]
   rw [e,zx (vk (by omega))]
  | false =>
   simp only [up,uL] at j ⊢;obtain rfl:=uN j;rw [slc_at ⟨by omega,by simp;omega,pb _⟩,ua];have e:((A++[]++B).take (((A++[]++B).length:Int)).toNat).drop ((A.length:Int)).toNat=B:=by
    simp only [uP];rw [sd,tv,rB]
   rw [e,zx (vk (by omega))]
 unfold fitN;have p:IntKind.wrap .i64 ((ls.length:Int)+(g.length:Int))=(ls.length:Int)+(g.length:Int):=xV (by omega);simp only [p];by_cases h0:ls.length+g.length=0
 ·rw [uv h0,uG (by simp;omega),tv];exact o A (by omega)
 ·rw [uG h0,uv (by simp;omega),zx (vk (by simp;omega))];exact o (A++[⟨nm,ls,g⟩]) (by simp)

theorem leaves_of (h:ls.Pairwise λx y=>x.typ < y.typ) (e:∀l ∈ ls,leafB l=true):leavesB ls=true:=by
 unfold leavesB;rw [allI_iff];intro i x hx;have c:=e x (uD hx);simp only [c,u5];rcases i with _ | i
 ·rfl
 ·obtain ⟨hi,rfl⟩:=uc.1 hx;have:=tx.1 h i (i+1) (by omega) hi (by omega);simp only [tW,uY,uh];right;rw [uM,ui (by omega:i < ls.length)];exact this
theorem vY (a:List zd) (A B:List GA):zj a (A++B)=zj a A++zj a B:=by rw [yb,yb,yb,rS]
theorem rowsN_mem {a:List zd} {x:GA}:r ∈ vS a x ↔ (∃l ∈ x.leaves,r=⟨a++[x.name],l⟩) \/ r ∈ zj (a++[x.name]) x.subs:=by
 rw [yw,uC,tf];constructor
 ·rintro (⟨l,c,rfl⟩ | h)
  ·exact .inl ⟨l,c,rfl⟩
  ·exact .inr h
 ·rintro (⟨l,c,rfl⟩ | h)
  ·exact .inl ⟨l,c,rfl⟩
  ·exact .inr h
theorem rows_one {a:List zd} {x:GA}:zj a [x]=vS a x:=by simp [zj]
theorem fit_mem {a:List zd} {nm:zd} {c:List GA}:r ∈ zj a (fitN nm ls c) ↔ (∃l ∈ ls,r=⟨a++[nm],l⟩) \/ r ∈ zj (a++[nm]) c:=by
 unfold fitN;split
 ·rename_i h;have f:ls=[]:=uN (by omega);have e:c=[]:=uN (by omega);subst f e;simp [zj]
 ·rw [rows_one,rowsN_mem]
theorem len_rows (t:List GA) (a b:List zd):(zj a t).length=(zj b t).length:=by
 have e:=rows_pre t a [];have c:=rows_pre t b [];rw [tv] at e c;rw [e,c,ux,ux]
theorem node_row:∀(t:List GA) (d:Nat),xj d t=true->t.length<=(zj [] t).length:=by
 refine xP (λ_ _=>tO _) ?_;intro x r hx g d e;simp only [xj,ud] at e;have i:=g d e.2;have c:=e.1;rw [qF] at c;simp only [ud,treeB,sH,sV] at c;have f:=hx (d+1) c.1.2.2;rw [show x::r=[x]++r from rfl,vY,rows_one,yw];simp only [uf,ux,ue,uk];rw [len_rows x.subs ([]++[x.name]) []];rcases c.1.1.2 with h | h
 ·cases hl:x.leaves with
  | nil=>rw [hl] at h;cases h
  | cons l ls=>simp only [ue];omega
 ·cases hl:x.subs with
  | nil=>rw [hl] at h;cases h
  | cons l ls=>rw [hl] at f;simp only [ue] at f;omega
theorem mem_rows_len {t:List GA} {x:GA} (hx:x ∈ t):x.leaves.length+(zj [] x.subs).length<=(zj [] t).length:=by
 obtain ⟨A,B,rfl⟩:=List.append_of_mem hx;rw [vY,show x::B=[x]++B from rfl,vY,rows_one,yw];simp only [uf,ux];rw [len_rows x.subs ([]++[x.name]) []];omega
theorem yj {t:List GA} (h:treeB d t=true):upB t=true/\∀x ∈ t,nodeB d x=true:=by
 simp only [treeB,ud,yD,ur] at h;exact ⟨h.1.2,h.2⟩
theorem treeB_of {t:List GA} (hd:d < 3) (e:upB t=true) (c:∀x ∈ t,nodeB d x=true):treeB d t=true:=by
 simp only [treeB,ud,yD,ur,e,hd,rL,pn,pw];exact c
theorem wA {x:GA} (h:nodeB d x=true):nameB x.name=true/\treeB (d+1) x.subs=true/\leavesB x.leaves=true:=by
 rw [qF] at h;simp only [ud] at h;exact ⟨h.1.1.1,h.1.2,h.2⟩
theorem find_node {t:List GA} (s:zd) (h:treeB d t=true) (v:(zj [] t).length<=16777215):∃A m B f ls g,t=A++m++B/\NLt s A/\NGt s B/\m.length=(if f=true then 1 else 0)/\zz t s (λo w=>wH o w)=some ((A.length:Int),f) /\
  ((if f=true then ((wh t (A.length:Int)).bind λi=>some (.inr (i.name,i.leaves,i.subs))) else some (.inr (s,([]:List GE),([]:List GA)))):Option (List GA ⊕ (zd×(List GE)×(List GA))))=some (.inr (s,ls,g))/\treeB (d+1) g=true/\leavesB ls=true /\
  ls.length+(zj [] g).length<=(zj [] t).length/\∀a r,r ∈ zj a m ↔ (∃l ∈ ls,r=⟨a++[s],l⟩) \/ r ∈ zj (a++[s]) g:=by
 obtain ⟨u,j⟩:=yj h;have z:t.length<=16777215:=uB (node_row t d (by rw [yD];exact ur.2 j)) v;rcases split_up s u with ⟨A,B,rfl,e,c⟩ | ⟨A,x,B,rfl,hx,e,c⟩
 ·refine ⟨A,[],B,false,[],[],by simp,e,c,rfl,bs_none (by omega) e c,rfl,tree_nil _,rfl,by simp [zj],λa r=>by simp [zj]⟩
 ·obtain ⟨C,y,p⟩:=wA (j x (by simp));refine ⟨A,[x],B,true,x.leaves,x.subs,by simp,e,c,rfl,bs_some (by omega) hx e c,?_,y,p,mem_rows_len (by simp),λa r=>?_⟩
  ·rw [uv rfl,zM (x:=x) (by simp),ua,hx]
  ·rw [rows_one,rowsN_mem,hx]
theorem rows_off {s:zd} {A:List GA} (h:∀y ∈ A,y.name ≠ s) {a q:List zd} {r:GH} (f:r ∈ zj a A):r.path ≠ a++s::q:=by
 obtain ⟨x,hx,w,e⟩:=vX f;rw [e];intro g;have:=rA g;injection this with c _;exact h x hx c
theorem NLt.ne {s:zd} {A:List GA} (h:NLt s A):∀y ∈ A,y.name ≠ s:=λy c=>less_ne (h y c)
theorem NGt.ne {s:zd} {A:List GA} (h:NGt s A):∀y ∈ A,y.name ≠ s:=λy c=>(less_ne (h y c)).symm
theorem lay_fin {A m B:List GA} {s:zd} {e:List GA} (hd:d < 3) (h:treeB d (A++m++B)=true) (j:NLt s A) (i:NGt s B) (hs:nameB s=true) (p:leavesB ls=true) (o:treeB (d+1) e=true):treeB d (A++fitN s ls e++B)=true:=by
 obtain ⟨u,n⟩:=yj h;rw [qW,tz,tz] at u;have f:∀x ∈ A,∀y ∈ B,Op.bytesLess x.name y.name=true:=λx hx y c=>qd (j x hx) (i y c);have g:∀x ∈ fitN s ls e,x=⟨s,ls,e⟩/\¬ ls.length+e.length=0:=λx hx=>by
  unfold fitN at hx;split at hx
  ·simp at hx
  ·rename_i h0;simp at hx;exact ⟨hx,h0⟩
 refine treeB_of hd ?_ ?_
 ·rw [qW,tz,tz];refine ⟨⟨u.1.1,?_,λx hx y c=>by rw [(g y c).1];exact j x hx⟩,u.2.1,λx hx y c=>?_⟩
  ·unfold fitN;split <;> simp
  ·rcases uC.1 hx with hx | hx
   ·exact f x hx y c
   ·rw [(g x hx).1];exact i y c
 ·intro x hx;rcases uC.1 hx with hx | hx
  ·rcases uC.1 hx with hx | hx
   ·exact n x (by simp [hx])
   ·obtain ⟨rfl,h0⟩:=g x hx;rw [qF];simp only [hs,p,o,tJ,u5,sH,sV];cases ls with
    | cons _ _=>exact .inl rfl
    | nil=>cases e with
     | cons _ _=>exact .inr rfl
     | nil=>simp at h0
  ·exact n x (by simp [hx])
theorem fit_len (s:zd) (ls:List GE) (c:List GA):(fitN s ls c).length<=1:=by unfold fitN;split <;> simp
theorem layLs_mem {x:GE}:x ∈ layLs k l there ls ↔ (x ∈ ls/\x.typ ≠ k) \/ (there=true/\x=l):=by
 unfold layLs;cases there with
 | false=>simp
 | true =>
  simp only [uq,uC,tm,uA,uh,pw];constructor
  ·rintro ((⟨h,c⟩ | h) | ⟨h,c⟩)
   ·exact .inl ⟨h,by omega⟩
   ·exact .inr h
   ·exact .inl ⟨h,by omega⟩
  ·rintro (⟨h,c⟩ | h)
   ·rcases Int.lt_or_gt_of_ne c with e | e
    ·exact .inl (.inl ⟨h,e⟩)
    ·exact .inr ⟨h,e⟩
   ·exact .inl (.inr h)
theorem lay_is {k:Int} {l:GE} {there:Bool} (y:there=true->l.typ=k/\leafB l=true/\LeafOk l):∀(p:List zd) (t:List GA) (d n:Nat),p ≠ []->p.all nameB=true->d+p.length<=3->treeB d t=true->(zj [] t).length<=16777215->p.length < n ->
  ∃t',wP n t p k l there=some t'/\treeB d t'=true/\t'.length<=t.length+1/\∀a r,r ∈ zj a t' ↔ (r ∈ zj a t/\rkey r ≠ (a++p,k)) \/ (there=true/\r=⟨a++p,l⟩)
 | [],_,_,_,h,_,_,_,_,_=>absurd rfl h
 | _::_,_,_,0,_,_,_,_,_,h=>by omega
 | s::q,t,d,n+1,_,hp,hd,ht,hw,hn=>by
  simp only [uW,ud,ue] at hp hd hn;obtain ⟨A,m,B,f,ls,C,rfl,F,E,P,I,J,o,D,O,u⟩:=find_node s ht hw;have H:wh (s::q) (0:Int)=some s:=rfl;obtain ⟨z,N⟩:=leaves_up D;have U:(A++m++B).length<=16777215:=uB (node_row _ d (by rw [yD];exact ur.2 (yj ht).2)) hw;have T:=λi g=>fit_len s i g;have j:∀i g,(A++fitN s i g++B).length<=(A++m++B).length+1:=λi g=>by
   have:=fit_len s i g;simp only [uf];omega
  rw [layN_eq,H,ua,I,ua,ua];simp only [];rw [J,vI];cases q with
  | nil =>
   rw [layIn_leaf (λh=>⟨(y h).1,(y h).2.2⟩) (by omega) z,vI,layRest_is P (by omega) (by
    have:(layLs k l there ls).length<=ls.length+1:=by
     unfold layLs;split
     ·have w:=pk (λx:GE=>decide (x.typ < k)) ls;have v:=w.length_eq;have h3:(ls.filter λx=>decide (k < x.typ)).length<=(ls.filter λx=>!decide (x.typ < k)).length:=by
       have:(ls.filter λx=>decide (k < x.typ))=(ls.filter λx=>!decide (x.typ < k)).filter (λx=>decide (k < x.typ)):=by
        rw [r5];refine List.filter_congr λx _=>?_;rw [uz];simp;omega
       rw [this];exact sD _ _
      simp only [uf,ue,uk] at v ⊢;omega
     ·exact sX (sD _ _)
    omega) (by have:=node_row C (d+1) (by rw [yD];exact ur.2 (yj o).2);omega)]
   refine ⟨_,rfl,lay_fin (by omega) ht F E hp.1 (leaves_of (layLs_up (λh=>(y h).1) z) λx hx=>?_) o,j _ _,λa r=>?_⟩
   ·rcases layLs_mem.1 hx with h | ⟨h,rfl⟩
    ·exact N x h.1
    ·exact (y h).2.1
   ·simp only [vY,uC,fit_mem,u];have G:r ∈ zj a A->rkey r ≠ (a++[s],k):=λh e=>rows_off F.ne h (congrArg Prod.fst e);have M:r ∈ zj a B->rkey r ≠ (a++[s],k):=λh e=>rows_off E.ne h (congrArg Prod.fst e);have K:r ∈ zj (a++[s]) C->rkey r ≠ (a++[s],k):=λh e=>by
     have:=(rows_path C _ r h).1;rw [show r.path=a++[s] from congrArg Prod.fst e] at this;omega
    constructor
    ·rintro ((h | ⟨x,hx,rfl⟩ | h) | h)
     ·exact .inl ⟨.inl (.inl h),G h⟩
     ·rcases layLs_mem.1 hx with ⟨w,v⟩ | ⟨w,rfl⟩
      ·exact .inl ⟨.inl (.inr (.inl ⟨x,w,rfl⟩)),λe=>v (congrArg Prod.snd e)⟩
      ·exact .inr ⟨w,rfl⟩
     ·exact .inl ⟨.inl (.inr (.inr h)),K h⟩
     ·exact .inl ⟨.inr h,M h⟩
    ·rintro (⟨(h | ⟨x,hx,rfl⟩ | h) | h,v⟩ | ⟨w,rfl⟩)
     ·exact .inl (.inl h)
     ·exact .inl (.inr (.inl ⟨x,layLs_mem.2 (.inl ⟨hx,λe=>v (by rw [<- e];rfl)⟩),rfl⟩))
     ·exact .inl (.inr (.inr h))
     ·exact .inr h
     ·exact .inl (.inr (.inl ⟨l,layLs_mem.2 (.inr ⟨w,rfl⟩),rfl⟩))
  | cons c q =>
   obtain ⟨g,V,R,e3,Y⟩:=lay_is y (c::q) C (d+1) n (by simp) hp.2 (by simp only [ue] at hd ⊢;omega) o (by omega) (by omega);have Q:=node_row C (d+1) (by rw [yD];exact ur.2 (yj o).2);rw [layIn_sub (by simp only [ue] at hd ⊢;omega) V,vI,layRest_is P (by omega) (by omega) (by omega)];refine ⟨_,rfl,lay_fin (by omega) ht F E hp.1 D R,j _ _,λa r=>?_⟩;simp only [vY,uC,fit_mem,u,Y];have Z:a++[s]++c::q=a++s::c::q:=by simp
   rw [Z];have G:r ∈ zj a A->rkey r ≠ (a++s::c::q,k):=λh e=>rows_off F.ne h (congrArg Prod.fst e);have M:r ∈ zj a B->rkey r ≠ (a++s::c::q,k):=λh e=>rows_off E.ne h (congrArg Prod.fst e);have K:∀x,r=⟨a++[s],x⟩->rkey r ≠ (a++s::c::q,k):=λx h e=>by
    rw [h] at e;have:=congrArg List.length (congrArg Prod.fst e);simp [rkey] at this
   constructor
   ·rintro ((h | ⟨x,hx,h⟩ | (h | h)) | h)
    ·exact .inl ⟨.inl (.inl h),G h⟩
    ·exact .inl ⟨.inl (.inr (.inl ⟨x,hx,h⟩)),K x h⟩
    ·exact .inl ⟨.inl (.inr (.inr h.1)),h.2⟩
    ·exact .inr h
    ·exact .inl ⟨.inr h,M h⟩
   ·rintro (⟨(h | ⟨x,hx,h⟩ | h) | h,v⟩ | h)
    ·exact .inl (.inl h)
    ·exact .inl (.inr (.inl ⟨x,hx,h⟩))
    ·exact .inl (.inr (.inr (.inl ⟨h,v⟩)))
    ·exact .inr h
    ·exact .inl (.inr (.inr (.inr h)))

theorem rowLt_iff {q:GH}:rowLt r q ↔ kltB (rkey r) (rkey q)=true:=by
 unfold rowLt kltB rkey;simp only [uY,ud,uh];constructor
 ·rintro (h | h)
  ·exact .inl (path_plt h)
  ·exact .inr h
 ·rintro (h | h)
  ·exact .inl (plt_path h)
  ·exact .inr h
theorem sorted_ext {α:Type} {lt:α->α->Prop} (c:∀x,¬ lt x x) (i:∀x y z,lt x y->lt y z->lt x z):∀{L M:List α},L.Pairwise lt->M.Pairwise lt->(∀x,x ∈ L ↔ x ∈ M)->L=M
 | [],[],_,_,_=>rfl
 | [],y::M,_,_,h=>by have:=(h y).2 (by simp);simp at this
 | x::L,[],_,_,h=>by have:=(h x).1 (by simp);simp at this
 | x::L,y::M,h1,h2,h=>by
  obtain ⟨m,a2⟩:=tn.1 h1;obtain ⟨j,p⟩:=tn.1 h2;have e:x=y:=by
   rcases ut.1 ((h x).1 (by simp)) with e | hx
   ·exact e
   ·rcases ut.1 ((h y).2 (by simp)) with e | o
    ·exact e.symm
    ·exact (c x (i _ _ _ (m y o) (j x hx))).elim
  subst e;rw [sorted_ext c i a2 p λz=>?_];constructor
  ·intro g;rcases ut.1 ((h z).1 (by simp [g])) with e | f
   ·subst e;exact (c _ (m _ g)).elim
   ·exact f
  ·intro g;rcases ut.1 ((h z).2 (by simp [g])) with e | f
   ·subst e;exact (c _ (j _ g)).elim
   ·exact f
theorem filter_app_left {α:Type} {P:α->Bool} {A B:List α} (e:∀x ∈ A,P x=true) (c:∀x ∈ B,P x=false):(A++B).filter P=A/\(A++B).filter (λx=>!P x)=B:=by
 rw [sa,sa,sq.2 e,rF.2 (λx hx=>by simp [c x hx]),rF.2 (λx hx=>by simp [e x hx]),sq.2 (λx hx=>by simp [c x hx])];simp
theorem app_split {α:Type} {P:α->Bool} {A B C D:List α} (h:A++B=C++D) (g:∀x ∈ A,P x=true) (e:∀x ∈ B,P x=false) (i:∀x ∈ C,P x=true) (f:∀x ∈ D,P x=false):A=C/\B=D:=by
 obtain ⟨a,b⟩:=filter_app_left g e;obtain ⟨c,d⟩:=filter_app_left i f;exact ⟨by rw [<- a,<- c,h],by rw [<- b,<- d,h]⟩
theorem rowsN_head {a:List zd} {x:GA} (h:r ∈ vS a x):∃w,r.path=a++x.name::w:=by
 rw [<- rows_one] at h;obtain ⟨y,c,w,e⟩:=vX h;simp only [uA] at c;subst c;exact ⟨w,e⟩
theorem rowsN_ne {x:GA} (h:nodeB d x=true) (a:List zd):∃r L,vS a x=r::L:=by
 have c:=node_row [x] d (by simp [xj,h]);rw [len_rows [x] [] a,rows_one] at c;cases e:vS a x with
 | nil=>rw [e] at c;simp at c
 | cons r L=>exact ⟨r,L,rfl⟩
def hasN (n:Nat) (s:zd) (r:GH):Bool:=decide ((r.path.drop n).head?=some s)
theorem hasN_is (a w:List zd) (s nm:zd) {r:GH} (h:r.path=a++nm::w):hasN a.length s r=decide (nm=s):=by
 unfold hasN;rw [h,rB];simp
theorem rows_inj:∀(t:List GA) (d:Nat) (a:List zd) (t':List GA),treeB d t=true->treeB d t'=true->zj a t=zj a t'->t=t':=by
 have key:∀(t:List GA) (d:Nat) (a:List zd) (t':List GA),(∀x ∈ t,nodeB d x=true)->upB t=true->(∀x ∈ t',nodeB d x=true)->upB t'=true->zj a t=zj a t'->t=t':=by
  refine xP ?_ ?_
  ·intro d a t' _ _ h _ e;cases t' with
   | nil=>rfl
   | cons y r =>
    obtain ⟨q,L,i⟩:=rowsN_ne (h y (by simp)) a;rw [zj,zj,i] at e;simp at e
  ·intro x r hx M d a t' u B C v e;cases t' with
   | nil =>
    obtain ⟨q,L,i⟩:=rowsN_ne (u x (by simp)) a;rw [zj,zj,i] at e;simp at e
   | cons y s =>
    rw [qW,tn] at B v;have e:vS a x++zj a r=vS a y++zj a s:=e;have f:x.name=y.name:=by
     obtain ⟨q,L,i⟩:=rowsN_ne (u x (by simp)) a;obtain ⟨O,L',F⟩:=rowsN_ne (C y (by simp)) a;have G:=e;rw [i,F] at G;injection G with I _;subst I;obtain ⟨w,p⟩:=rowsN_head (a:=a) (x:=x) (r:=q) (by rw [i];simp);obtain ⟨w',m⟩:=rowsN_head (a:=a) (x:=y) (r:=q) (by rw [F];simp);rw [p] at m;have:=rA m;injection this
    obtain ⟨E,J⟩:=app_split (P:=hasN a.length x.name) e
     (λq c=>by obtain ⟨w,h⟩:=rowsN_head c;rw [hasN_is a w _ _ h];simp)
     (λq c=>by
      obtain ⟨z,g,w,h⟩:=vX c;rw [hasN_is a w _ _ h];exact uR (less_ne (B.1 z g)).symm)
     (λq c=>by obtain ⟨w,h⟩:=rowsN_head c;rw [hasN_is a w _ _ h,f];simp)
     (λq c=>by
      obtain ⟨z,g,w,h⟩:=vX c;rw [hasN_is a w _ _ h,f];exact uR (less_ne (v.1 z g)).symm)
    have N:=M d a s (λz g=>u z (by simp [g])) ((qW r).2 B.2) (λz g=>C z (by simp [g])) ((qW s).2 v.2) J;rw [yw,yw,<- f] at E;obtain ⟨K,A⟩:=app_split (P:=λq=>decide (q.path.length=a.length+1)) E
     (λq c=>by obtain ⟨l,_,rfl⟩:=tf.1 c;simp)
     (λq c=>by have:=(rows_path _ _ q c).1;simp at this;exact uR (by omega))
     (λq c=>by obtain ⟨l,_,rfl⟩:=tf.1 c;simp)
     (λq c=>by have:=(rows_path _ _ q c).1;simp at this;exact uR (by omega))
    have j:x.leaves=y.leaves:=by
     have:=congrArg (List.map (·.leaf)) K;simpa [sG,sj] using this
    obtain ⟨_,D,_⟩:=wA (u x (by simp));obtain ⟨_,H,_⟩:=wA (C y (by simp));have o:=hx (d+1) (a++[x.name]) y.subs (yj D).2 (yj D).1 (yj H).2 (yj H).1 A;cases x;cases y;simp only at f j o;rw [f,j,o,N]
 intro t d a t' p m e;exact key t d a t' (yj p).2 (yj p).1 (yj m).2 (yj m).1 e
theorem vu {t:List GA} (h:treeB d t=true) (a:List zd):(zj a t).Pairwise λr q=>kltB (rkey r) (rkey q)=true:=by
 have:=rows_lt t d a (yj h).1 (by rw [yD];exact ur.2 (yj h).2);exact this.imp λh=>rowLt_iff.1 h
theorem rows_ext {t t':List GA} (e:treeB 0 t=true) (c:treeB 0 t'=true) (h:∀r,r ∈ zj [] t ↔ r ∈ zj [] t'):t=t' :=
 rows_inj t 0 [] t' e c (sorted_ext (lt:=λr q=>kltB (rkey r) (rkey q)=true) (λx h=>by rw [klt_irr] at h;cases h) (λ_ _ _=>klt_trans) (vu e []) (vu c []) h)
theorem sorted_key {α:Type} {key:α->Key} {L:List α} (h:L.Pairwise λr q=>kltB (key r) (key q)=true) {x y:α} (hx:x ∈ L) (m:y ∈ L) (e:key x=key y):x=y:=by
 induction L with
 | nil=>simp at hx
 | cons z r ih =>
  obtain ⟨j,o⟩:=tn.1 h;rcases ut.1 hx with g | c <;> rcases ut.1 m with i | f
  ·rw [g,i]
  ·have:=j y f;rw [<- g,e,klt_irr] at this;cases this
  ·have:=j x c;rw [<- i,e,klt_irr] at this;cases this
  ·exact ih o c f

theorem first_is {α:Type} {q:α->Bool} {del:α->Option Bool}:∀(L:List α) (n:Nat),(∀x ∈ L,del x=some (q x)) ->
  (zq (λ(f:Nat) (j:α) (_:Unit)=>(((del j).bind λm=>(if m=true then some (.ret (f:Int)) else some (.nxt ()))):Option (Out Int Unit))) L n ()=some (.inr ())/\∀x ∈ L,q x=false) \/
  ∃A x B,L=A++x::B/\q x=true/\(∀y ∈ A,q y=false)/\zq (λ(f:Nat) (j:α) (_:Unit)=>(((del j).bind λm=>(if m=true then some (.ret (f:Int)) else some (.nxt ()))):Option (Out Int Unit))) L n ()=some (.inl ((n+A.length:Nat):Int))
 | [],n,_=>.inl ⟨rfl,by simp⟩
 | x::r,n,h=>by
  have hx:=h x (by simp);cases hq:q x with
  | true=>exact .inr ⟨[],x,r,rfl,hq,by simp,by simp [zq,hx,hq]⟩
  | false =>
   rcases first_is r (n+1) (λy c=>h y (by simp [c])) with ⟨e,i⟩ | ⟨A,y,B,rfl,o,i,e⟩
   ·refine .inl ⟨by simp only [zq,hx,hq,ua];exact e,?_⟩;intro y c;rcases ut.1 c with rfl | c
    ·exact hq
    ·exact i y c
   ·refine .inr ⟨x::A,y,B,rfl,o,?_,?_⟩
    ·intro z g;rcases ut.1 g with rfl | g
     ·exact hq
     ·exact i z g
    ·simp only [zq,hx,hq,ua];rw [show n+(x::A).length=n+1+A.length by simp only [ue];omega];exact e
def node0:GA:=GA.mk ([]:zd) ([]:List GE) ([]:List GA)
def nodeOf (t:List GA) (s:zd):Option GA:=t.find? λx=>x.name==s
theorem linear_is (t:List GA) (s:zd):vr t s=some (match nodeOf t s with | some x=>(x,true) | none=>(node0,false)):=by
 unfold vr yX;rcases first_is (q:=λx:GA=>x.name==s) (del:=λc=>qp c s) t 0 (λx _=>rfl) with ⟨e,h⟩ | ⟨A,x,B,rfl,i,g,e⟩
 ·rw [e];have:nodeOf t s=none:=ry.2 λx hx=>by rw [h x hx];simp
  rw [this];rfl
 ·rw [e];have:nodeOf (A++x::B) s=some x:=by
   unfold nodeOf;rw [List.find?_append,ry.2 (λy f=>by rw [g y f];simp),List.find?_cons,i];rfl
  rw [this];simp only [lp,ua,te];rw [uG (by simp),zM (x:=x) (by simp)];rfl
def qT:List GA->List zd->Option GA
 | _,[]=>none
 | t,[s]=>nodeOf t s
 | t,s::c::q=>(nodeOf t s).bind λx=>qT x.subs (c::q)
noncomputable def tlF:Nat->zd->(List GA)×Bool×zd×(List GE)×(List GA)->Option (Out ((GE×Bool) ⊕ (Bool×zd×(List GE)×(List GA))) ((List GA)×Bool×zd×(List GE)×(List GA))):=(λ(_:Nat) (x2:zd) (s2:(List GA)×Bool×zd×(List GE)×(List GA))=>(((vr s2.1 x2).bind λv47=>(if (!v47.2)=true then some (.brk (s2.1,v47.2,v47.1.name,v47.1.leaves,v47.1.subs)) else some (.nxt (v47.1.subs,v47.2,v47.1.name,v47.1.leaves,v47.1.subs))))))
noncomputable def tlR (kind2:Int) (s1:Bool×zd×(List GE)×(List GA)):Option (GE×Bool):=((zS s1.2.2.1 (λx0=>treeLeafC1 x0 kind2)).bind λv49=>((if (((!s1.1) || (decide (v49 < (0:Int))))==false)=true then vJ kind2 else some default).bind λv50=>(if (((!s1.1) || (decide (v49 < (0:Int)))) || (v50.typ==(0:Int)))=true then ((vJ kind2).bind λv52=>some (v52,false)) else ((wh s1.2.2.1 v49).bind λy53=>((xc y53.items).bind λv54=>((xr y53.tombs).bind λv55=>some ((GE.mk y53.typ y53.n y53.time y53.dot y53.text v54 v55),true)))))))
theorem tl_eq (t0:List GA) (c:List zd) (e:Int):treeLeaf t0 c e=(lp ((lp (zq tlF c 0 (t0,(decide (((c).length:Int) > (0:Int))),([]:zd),([]:List GE),([]:List GA))) λ(s2:(List GA)×Bool×zd×(List GE)×(List GA))=>some (.inr (s2.2.1,s2.2.2.1,s2.2.2.2.1,s2.2.2.2.2))):Option ((GE×Bool) ⊕ (Bool×zd×(List GE)×(List GA)))) (tlR e)):=rfl
theorem tl_walk:∀(p:List zd) (n:Nat) (t:List GA) (z:Bool×zd×(List GE)×(List GA)),p ≠ [] ->
  match qT t p with
  | some x=>zq tlF p n (t,z)=some (.inr (x.subs,true,x.name,x.leaves,x.subs))
  | none=>∃u,zq tlF p n (t,z)=some (.inr (u,false,([]:zd),([]:List GE),([]:List GA)))
 | [],_,_,_,h=>absurd rfl h
 | [s],n,t,z,_=>by
  simp only [qT,zq,tlF,linear_is,ua];cases nodeOf t s with
  | none=>exact ⟨t,rfl⟩
  | some x=>rfl
 | s::c::q,n,t,z,_=>by
  have f:=λu z=>tl_walk (c::q) (n+1) u z (by simp);simp only [qT];cases e:nodeOf t s with
  | none=>exact ⟨t,by rw [zq];simp only [tlF,linear_is,e,ua];rfl⟩
  | some x =>
   have g:tlF n s (t,z)=some (.nxt (x.subs,true,x.name,x.leaves,x.subs)):=by simp only [tlF,linear_is,e,ua];rfl
   have:=f x.subs (true,x.name,x.leaves,x.subs);rw [zq,g,ua];exact this
theorem nodeOf_split {t:List GA} (s:zd) (h:upB t=true):(nodeOf t s=none/\∀y ∈ t,y.name ≠ s) \/ ∃A x B,t=A++x::B/\nodeOf t s=some x/\x.name=s/\(∀y ∈ A,y.name ≠ s)/\∀y ∈ B,y.name ≠ s:=by
 rcases split_up s h with ⟨A,B,rfl,e,f⟩ | ⟨A,x,B,rfl,hx,e,f⟩
 ·left;have:∀y ∈ A++B,y.name ≠ s:=λy c=>by
   rcases uC.1 c with c | c
   ·exact e.ne y c
   ·exact f.ne y c
  exact ⟨ry.2 λy c=>by simp [this y c],this⟩
 ·refine .inr ⟨A,x,B,rfl,?_,hx,e.ne,f.ne⟩;unfold nodeOf;rw [List.find?_append,ry.2 (λy c=>by simp [e.ne y c]),List.find?_cons];simp [hx]
theorem row_at:∀(p:List zd) (t:List GA) (d:Nat) (a:List zd) (l:GE),p ≠ []->treeB d t=true->(GH.mk (a++p) l ∈ zj a t ↔ ∃x,qT t p=some x/\l ∈ x.leaves)
 | [],_,_,_,_,h,_=>absurd rfl h
 | s::q,t,d,a,l,_,h=>by
  obtain ⟨E,F⟩:=yj h;rcases nodeOf_split s E with ⟨e,z⟩ | ⟨A,x,B,rfl,e,hx,G,w⟩
  ·have m:qT t (s::q)=none:=by cases q <;> simp [qT,e]
   rw [m];constructor
   ·intro f;exact (rows_off z f rfl).elim
   ·rintro ⟨x,h,_⟩;cases h
  ·rw [vY,show x::B=[x]++B from rfl,vY,rows_one,uC,uC,rowsN_mem,hx];have j:¬ GH.mk (a++s::q) l ∈ zj a A:=λf=>rows_off G f rfl;have v:¬ GH.mk (a++s::q) l ∈ zj a B:=λf=>rows_off w f rfl;have g:=(wA (F x (by simp))).2.1;cases q with
   | nil =>
    have C:¬ GH.mk (a++[s]) l ∈ zj (a++[s]) x.subs:=λf=>by
     have:=(rows_path _ _ _ f).1;simp at this
    have m:qT (A++x::B) [s]=some x:=e;have i:qT (A++([x]++B)) [s]=some x:=e;rw [i];constructor
    ·rintro (h | (⟨y,o,h⟩ | h) | h)
     ·exact (j h).elim
     ·injection h with _ h;subst h;exact ⟨x,rfl,o⟩
     ·exact (C h).elim
     ·exact (v h).elim
    ·rintro ⟨y,h,D⟩
     injection h with h;subst h;exact .inr (.inl (.inl ⟨l,D,rfl⟩))
   | cons c q =>
    have u:=row_at (c::q) x.subs (d+1) (a++[s]) l (by simp) g;have H:a++[s]++c::q=a++s::c::q:=by simp
    rw [H] at u;have i:qT (A++([x]++B)) (s::c::q)=qT x.subs (c::q):=by
     show (nodeOf (A++x::B) s).bind _=_;rw [e];rfl
    rw [i,u];constructor
    ·rintro (h | (⟨y,o,h⟩ | h) | h)
     ·exact (j h).elim
     ·injection h with h _;have:=congrArg List.length h;simp at this
     ·exact h
     ·exact (v h).elim
    ·intro h;exact .inr (.inl (.inr h))
theorem row_mk {p:List zd} (h:rkey r=(p,k)):r=GH.mk ([]++p) r.leaf:=by
 have e:r.path=p:=congrArg Prod.fst h;cases r;simp only at e;rw [e];rfl
theorem leafNew_typ (h:1<=k/\k<=4):∃v,vJ k=some v/\v.typ=k:=by
 unfold vJ;rw [uG (by simp;omega)];exact ⟨_,rfl,rfl⟩
theorem tlR_none (s:zd):∃v,tlR k (false,s,([]:List GE),([]:List GA))=some (v,false):=by
 obtain ⟨v,e⟩:=leafNew_tot k;refine ⟨v,?_⟩;unfold tlR zS;simp [zq,lp,e]
theorem treeLeaf_is {t:List GA} (h:treeB 0 t=true) (w:∀r ∈ zj [] t,LeafOk r.leaf) {p:List zd} (D:p ≠ []) {k:Int} (H:1<=k/\k<=4) :
  (∃l,GH.mk p l ∈ zj [] t/\l.typ=k/\treeLeaf t p k=some (l,true)) \/ ((∀r ∈ zj [] t,rkey r ≠ (p,k))/\∃v,treeLeaf t p k=some (v,false)):=by
 have g:=tl_walk p 0 t (decide ((p.length:Int) > 0),([]:zd),([]:List GE),([]:List GA)) D;have s:=λl=>row_at p t 0 [] l D h;rw [tl_eq];cases e:qT t p with
 | none =>
  rw [e] at g;obtain ⟨u,g⟩:=g;right;refine ⟨λr c m=>?_,?_⟩
  ·have:=row_mk m;rw [this] at c;obtain ⟨x,i,_⟩:=(s _).1 c;rw [e] at i;cases i
  ·rw [g];exact tlR_none []
 | some x =>
  rw [e] at g;simp only at g;rw [g];simp only [vI];obtain ⟨v0,F,M⟩:=leafNew_typ H;unfold tlR zS;rcases first_is (q:=λy:GE=>y.typ==k) (del:=λG=>treeLeafC1 G k) x.leaves 0 (λx _=>rfl) with ⟨z,i⟩ | ⟨A,y,B,j,i,N,z⟩
  ·right;refine ⟨λr c m=>?_,v0,?_⟩
   ·have:=row_mk m;rw [this] at c;obtain ⟨O,o,I⟩:=(s _).1 c;rw [e] at o;injection o with o;subst o;have:=i _ I;simp only [rj] at this;exact this (congrArg Prod.snd m)
   ·simp only [];rw [z];simp [lp,F]
  ·left;have K:y ∈ x.leaves:=by rw [j];simp
   have f:GH.mk ([]++p) y ∈ zj [] t:=(s y).2 ⟨x,e,K⟩;have C:y.typ=k:=by simpa using i
   have E:=w _ f;refine ⟨y,f,C,?_⟩;simp only [];rw [z];simp only [lp,ua,te];have J:((!true) || (decide (((A.length:Nat):Int) < (0:Int))))=false:=by simp
   rw [J];simp only [tR,uq,F,ua,tK,M];rw [uG (by simp;omega),j,zM (x:=y) (by simp),ua,cloneItem_is (vk (sX E.items)),ua,cloneDot_is (vk (sX E.tombs)),ua]

structure EOk (e:GJ):Prop where
 path:xI e.path=true
 typ:1<=e.typ/\e.typ<=4
 any:e.had=true \/ e.has=true
 ne:e.had=true->e.has=true->e.was ≠ e.is
 was1:e.had=true->leafB e.was=true/\LeafOk e.was/\e.was.typ=e.typ
 was0:e.had=false->e.was=leaf0
 is1:e.has=true->leafB e.is=true/\LeafOk e.is/\e.is.typ=e.typ
 is0:e.has=false->e.is=leaf0
def eLt (a b:GJ):Prop:=kltB (ekey a) (ekey b)=true
theorem side_is (c:there=true->leafB l=true/\LeafOk l/\l.typ=k) (h0:there=false->l=leaf0):xS there l k=some true:=by
 cases there with
 | false=>rw [h0 rfl];exact side0 k
 | true=>obtain ⟨a,b,rfl⟩:=c rfl;exact side1 a b
theorem diffMay_is {es:List GJ} (s:es.length<=16777216) (o:∀e ∈ es,EOk e) (f:es.Pairwise eLt):diffMay es=some true:=by
 unfold diffMay;rw [lp_all (r:=false) (λ_ _=>true) (λi x hx=>?_)]
 ·have:allI (λ_ _=>true) es=true:=allI_iff.2 λ_ _ _=>rfl;rw [uv this]
 ·have hi:=(uc.1 hx).1;have c:=o x (uD hx);have G:decide (x.typ >= 1)=true:=tp c.typ.1;have B:decide (x.typ<=4)=true:=tp c.typ.2;have H:vz x.path=some true:=by rw [q8,c.path]
  have E:∃v,(if ((decide ((i:Int) > (0:Int)))==true)=true then qj (es.getD (IntKind.wrap .i64 ((i:Int) - (1:Int))).toNat default) x else some default)=some v/\((decide ((i:Int) > 0))&&(decide (v >= 0)))=false:=by
   by_cases h0:0 < i
   ·have w:IntKind.wrap .i64 ((i:Int) - 1)=((i - 1:Nat):Int):=by rw [xV (by omega)];omega
    have C:es[i - 1]?=some es[i - 1]:=ui (by omega);have p:ordI es[i - 1] x < 0:=ordI_lt.2 (by
     have:=tx.1 f (i - 1) i (by omega) hi (by omega)
     rwa [(uc.1 hx).2] at this)
    have y:es.getD (i - 1) default=es[i - 1]:=by
     rw [uM,C];rfl
    rw [tp (by omega:(i:Int) > 0),w,uP,y,order_is];exact ⟨_,rfl,by rw [uR (by omega)];rfl⟩
   ·rw [uR (by omega:¬ (i:Int) > 0)];exact ⟨default,rfl,rfl⟩
  obtain ⟨v,j,m⟩:=E;have t:((decide ((i:Int) > (0:Int)))==true)=true->0<=(IntKind.wrap .i64 ((i:Int) - (1:Int)))/\(IntKind.wrap .i64 ((i:Int) - (1:Int))) < ((es).length:Int):=by
   intro h;simp only [sI,uh] at h;rw [xV (by omega)];omega
  obtain ⟨z,D,g⟩:∃z,(if ((x.had&&x.has)==true)=true then xR x.was x.is else some default)=some z/\((x.had&&x.has)&&z)=false:=by
   cases h1:x.had with
   | false=>exact ⟨default,rfl,rfl⟩
   | true =>
    cases p:x.has with
    | false=>exact ⟨default,rfl,rfl⟩
    | true=>exact ⟨false,by rw [uv (by rfl),leafSame_is,uR (c.ne h1 p)],rfl⟩
  have F:xS x.had x.was x.typ=some true:=side_is c.was1 c.was0;have s2:xS x.has x.is x.typ=some true:=side_is c.is1 c.is0;have I:((!x.had)&&(!x.has))=false:=by
   rcases c.any with h | h <;> simp [h]
  rw [D,ua,H,ua,G,B];have u:((((!true) || (!(true&&true))) || ((!x.had)&&(!x.has))) || ((x.had&&x.has)&&z))=false:=by rw [I,g];rfl
  rw [u,uv (by rfl),F,ua];have J:((false || (!true))==false)=true:=rfl;rw [uv J,s2,ua];have A:((false || (!true)) || (!true))=false:=rfl;rw [A,uG (by decide),zx t,j,ua,m];simp
noncomputable def patF (t0:List GA):Nat->GJ->List GA->Option (Out (List GA×Int) (List GA)):=(λ(n1:Nat) (x1:GJ) (s1:(List GA))=>(((treeLeaf t0 x1.path x1.typ).bind λv14=>((if (((!(v14.2==x1.had))==false)&&(v14.2==true))=true then xR v14.1 x1.was else some default).bind λv15=>(if ((!(v14.2==x1.had)) || (v14.2&&(!v15)))=true then some (.ret (([]:List GA),(16:Int))) else ((diffXlay s1 x1.path x1.typ x1.is x1.has).bind λv17=>some (.nxt v17))))):Option (Out _ (List GA))))
theorem patch_eq (t0:List GA) (c:List GJ):ql t0 c=((treeMay t0).bind λe=>((if ((!e)==false)=true then diffMay c else some default).bind λv2=>(if ((!e) || (!v2))=true then some (([]:List GA),(2:Int)) else ((wy t0 ([([42,42]:zd)]:List zd)).bind λv4=>(lp (zq (patF t0) c 0 v4.1) λ(f:(List GA))=>some (f,(0:Int))))))):=rfl
theorem sub_len {α:Type} {lt:α->α->Prop} (c:∀x,¬ lt x x):∀(L M:List α),L.Pairwise lt->(∀x ∈ L,x ∈ M)->L.length<=M.length
 | [],_,_,_=>tO _
 | x::L,M,h,hs=>by
  obtain ⟨m,j⟩:=tn.1 h;obtain ⟨A,B,rfl⟩:=List.append_of_mem (hs x (by simp));have:=sub_len c L (A++B) j λy i=>by
   have f:=hs y (by simp [i]);have g:y ≠ x:=λe=>c x (by have:=m y i;rwa [e] at this);simp only [uC,ut] at f ⊢;rcases f with h | h | h
   ·exact .inl h
   ·exact (g h).elim
   ·exact .inr h
  simp only [uf,ue] at this ⊢;omega
theorem pathB_parts {p:List zd} (h:xI p=true):p ≠ []/\p.length<=3/\p.all nameB=true:=by
 refine ⟨pathB_ne h,?_⟩;simp only [xI,ud,uh] at h;exact ⟨h.1.2,h.2⟩
theorem lay_all {p:List zd} {t:List GA} (j:there=true->l.typ=k/\leafB l=true/\LeafOk l) (v:xI p=true) (i:treeB 0 t=true) (m:(zj [] t).length<=16777215) :
  ∃t',diffXlay t p k l there=some t'/\treeB 0 t'=true/\(zj [] t').length<=(zj [] t).length+1/\∀r,r ∈ zj [] t' ↔ (r ∈ zj [] t/\rkey r ≠ (p,k)) \/ (there=true/\r=⟨p,l⟩):=by
 obtain ⟨o,z,g⟩:=pathB_parts v;obtain ⟨t',B,f,_,c⟩:=lay_is j p t 0 (p.length+1) o g (by omega) i m (by omega);have c:=c [];simp only [uT] at c;refine ⟨t',anyN_of (p.length+1) λn A=>?_,f,?_,c⟩
 ·obtain ⟨u,s,y,_,e⟩:=lay_is j p t 0 n o g (by omega) i m (by omega);have e:=e [];simp only [uT] at e;rw [s,rows_ext y f λr=>by rw [e,c]]
 ·have:=sub_len (lt:=λr q=>kltB (rkey r) (rkey q)=true) (λx h=>by rw [klt_irr] at h;cases h) (zj [] t') (zj [] t++[⟨p,l⟩]) (vu f []) λr w=>by
   rcases (c r).1 w with h | h
   ·simp [h.1]
   ·simp [h.2]
  simpa using this
structure EFits (t:List GA) (e:GJ):Prop where
 had:e.had=true->GH.mk e.path e.was ∈ zj [] t
 new:e.had=false->∀r ∈ zj [] t,rkey r ≠ ekey e
theorem patF_is {t s:List GA} {e:GJ} (o:treeB 0 t=true) (j:∀r ∈ zj [] t,LeafOk r.leaf) (c:EOk e) (g:EFits t e) (hs:treeB 0 s=true) (z:(zj [] s).length<=16777215) (n:Nat) :
  ∃u,patF t n e s=some (.nxt u)/\treeB 0 u=true/\(zj [] u).length<=(zj [] s).length+1/\∀r,r ∈ zj [] u ↔ (r ∈ zj [] s/\rkey r ≠ ekey e) \/ (e.has=true/\r=⟨e.path,e.is⟩):=by
 obtain ⟨u,p,w,y,x⟩:=lay_all (k:=e.typ) (l:=e.is) (there:=e.has) (λh=>⟨(c.is1 h).2.2,(c.is1 h).1,(c.is1 h).2.1⟩) c.path hs z;refine ⟨u,?_,w,y,x⟩;unfold patF;rcases treeLeaf_is o j (pathB_parts c.path).1 c.typ with ⟨l,f,m,i⟩ | ⟨f,v,i⟩
 ·have hh:e.had=true:=by
   cases h:e.had with
   | true=>rfl
   | false=>exact (g.new h _ f (by unfold rkey ekey;rw [m])).elim
  have:(GH.mk e.path l)=GH.mk e.path e.was:=sorted_key (vu o []) f (g.had hh) (by unfold rkey;rw [m,(c.was1 hh).2.2]);injection this with _ A;rw [i,hh,A];simp only [ua,leafSame_is,p];simp
 ·have hh:e.had=false:=by
   cases h:e.had with
   | false=>rfl
   | true=>exact (f _ (g.had h) (by unfold rkey;rw [(c.was1 h).2.2])).elim
  rw [i,hh];simp only [ua,p];simp
theorem pat_loop {t:List GA} (j:treeB 0 t=true) (g:∀r ∈ zj [] t,LeafOk r.leaf):∀(es:List GJ) (n:Nat) (s:List GA),(∀e ∈ es,EOk e/\EFits t e)->es.Pairwise eLt->treeB 0 s=true->(zj [] s).length+es.length<=16777215 ->
  ∃u,zq (patF t) es n s=some (.inr u)/\treeB 0 u=true/\∀r,r ∈ zj [] u ↔ (r ∈ zj [] s/\∀e ∈ es,rkey r ≠ ekey e) \/ ∃e ∈ es,e.has=true/\r=⟨e.path,e.is⟩
 | [],n,s,_,_,hs,_=>⟨s,rfl,hs,λr=>by simp⟩
 | e::es,n,s,h,hp,hs,hw=>by
  obtain ⟨B,p⟩:=tn.1 hp;simp only [ue] at hw;obtain ⟨m,A⟩:=h e (by simp);obtain ⟨z,F,a2,a3,a4⟩:=patF_is j g m A hs (by omega) n;obtain ⟨u,o,D,v⟩:=pat_loop j g es (n+1) z (λx hx=>h x (by simp [hx])) p a2 (by omega);refine ⟨u,by rw [zq,F];exact o,D,λr=>?_⟩;rw [v,a4];have f:e.has=true->∀x ∈ es,rkey ⟨e.path,e.is⟩ ≠ ekey x:=λhh x hx w=>by
   have:=B x hx;unfold eLt at this;rw [<- w] at this;have E:rkey ⟨e.path,e.is⟩=ekey e:=by unfold rkey ekey;rw [(m.is1 hh).2.2]
   rw [E,klt_irr] at this;cases this
  constructor
  ·rintro (⟨c | c,i⟩ | ⟨x,hx,c⟩)
   ·refine .inl ⟨c.1,λx hx=>?_⟩;rcases ut.1 hx with rfl | hx
    ·exact c.2
    ·exact i x hx
   ·exact .inr ⟨e,by simp,c⟩
   ·exact .inr ⟨x,by simp [hx],c⟩
  ·rintro (⟨c,i⟩ | ⟨x,hx,c⟩)
   ·exact .inl ⟨.inl ⟨c,i e (by simp)⟩,λx hx=>i x (by simp [hx])⟩
   ·rcases ut.1 hx with rfl | hx
    ·exact .inl ⟨.inr c,λy C=>by rw [c.2];exact f c.1 y C⟩
    ·exact .inr ⟨x,hx,c⟩
theorem select_all {t:List GA} (hs:Small t) (c:treeB 0 t=true):wy t [[42,42]]=some (t,0):=by
 have e:patB [[42,42]]=true:=by decide
 rw [pathsSelect_is hs (by simp [maxLen]),c,e];have:xM (matchB [[42,42]]) [] t=t:=by
  refine rows_ext (keep_may _ t 0 [] c) c λr=>?_;rw [keep_rows,tm];refine ⟨λh=>h.1,λh=>⟨h,?_⟩⟩;have f:=(rows_ok t 0 [] hs c rfl rfl r h).path;unfold matchB;rw [f,e];simp [xC,endsB,agreeB]
 simp [this]
theorem patch_is {t:List GA} (hs:Small t) (c:treeB 0 t=true) {es:List GJ} (i:(zj [] t).length+es.length<=16777215) (h:∀e ∈ es,EOk e/\EFits t e) (g:es.Pairwise eLt) :
  ∃u,ql t es=some (u,0)/\treeB 0 u=true/\∀r,r ∈ zj [] u ↔ (r ∈ zj [] t/\∀e ∈ es,rkey r ≠ ekey e) \/ ∃e ∈ es,e.has=true/\r=⟨e.path,e.is⟩:=by
 have f:=λr o=>(rows_ok t 0 [] hs c rfl rfl r o).ok;obtain ⟨u,m,a2,a3⟩:=pat_loop c f es 0 t h g c i;refine ⟨u,?_,a2,a3⟩;rw [patch_eq,treeMay_is hs,c,ua,uv (show ((!true)==false)=true from rfl),diffMay_is (by omega) (λe j=>(h e j).1) g,ua,uG (by decide),select_all hs c,ua,m,vI]

def keyS (p:List zd) (k:Int):zd:=p.flatMap (λs=>s++[0])++[UInt8.ofNat k.toNat]
theorem name_len {s:zd} (h:nameB s=true):s.length<=12/\∀b ∈ s,b ≠ 0:=by
 simp only [nameB,ud,uh,ur] at h;refine ⟨h.1.2,λb c e=>?_⟩;have:=h.2 b c;rw [e] at this;revert this;decide
theorem flat_inj:∀(p q:List zd),p.all nameB=true->q.all nameB=true->p.flatMap (λs=>s++[(0:UInt8)])=q.flatMap (λs=>s++[0])->p=q
 | [],[],_,_,_=>rfl
 | [],s::q,_,_,h=>by simp at h
 | s::p,[],_,_,h=>by simp at h
 | s::p,c::q,h1,h2,h=>by
  simp only [uW,ud] at h1 h2;simp only [th,uy,List.singleton_append] at h;have g:=(name_len h1.1).2;have a2:=(name_len h2.1).2;have f:∀(s:zd) (r:List UInt8),(∀b ∈ s,b ≠ 0)->(s++0::r).takeWhile (λb=>decide (b ≠ 0))=s:=λs r hs=>by
   rw [List.takeWhile_append_of_pos (λb i=>by simp [hs b i])];simp
  have e:s=c:=by rw [<- f s _ g,<- f c _ a2,h]
  subst e;have h:=rA h;injection h with _ h;rw [flat_inj p q h1.2 h2.2 h]
theorem key_inj {p q:List zd} {j:Int} (e:xI p=true) (f:xI q=true) (i:1<=k/\k<=4) (m:1<=j/\j<=4) (h:keyS p k=keyS q j):p=q/\k=j:=by
 unfold keyS at h;have g:=List.append_inj_left' h rfl;have c:=List.append_inj_right' h rfl;refine ⟨flat_inj p q (pathB_parts e).2.2 (pathB_parts f).2.2 g,?_⟩;injection c with c _;have:=congrArg UInt8.toNat c;simp at this;omega
section
variable {W:Type}
def mnd (m:List (zd×W)):Prop:=m.Pairwise λx y=>x.1 ≠ y.1
end
structure Side (rs:List GH) (p:List zd) (k:Int) (there:Bool) (l:GE):Prop where
 on:there=true->GH.mk p l ∈ rs/\l.typ=k
 off:there=false->l=leaf0/\∀r ∈ rs,rkey r ≠ (p,k)
structure EdOf (ra rb:List GH) (e:GJ):Prop where
 any:e.had=true \/ e.has=true
 a:Side ra e.path e.typ e.had e.was
 b:Side rb e.path e.typ e.has e.is
theorem Side.one {c:List GH} (h:c.Pairwise λr q=>kltB (rkey r) (rkey q)=true) {p:List zd} {k:Int} {x y:Bool} {l m:GE} (g:Side c p k x l) (s2:Side c p k y m):x=y/\l=m:=by
 cases x with
 | true =>
  obtain ⟨j,a2⟩:=g.on rfl;cases y with
  | true =>
   obtain ⟨f,i⟩:=s2.on rfl;have:=sorted_key h j f (by unfold rkey;rw [a2,i]);injection this with _ e;exact ⟨rfl,e⟩
  | false=>exact ((s2.off rfl).2 _ j (by unfold rkey;rw [a2])).elim
 | false =>
  cases y with
  | true =>
   obtain ⟨f,i⟩:=s2.on rfl;exact ((g.off rfl).2 _ f (by unfold rkey;rw [i])).elim
  | false=>exact ⟨rfl,(g.off rfl).1.trans (s2.off rfl).1.symm⟩
theorem EdOf.one {j i:List GH} (u:j.Pairwise λr q=>kltB (rkey r) (rkey q)=true) (v:i.Pairwise λr q=>kltB (rkey r) (rkey q)=true) {e f:GJ} (s:EdOf j i e) (o:EdOf j i f) (h:ekey e=ekey f):e=f:=by
 have c:e.path=f.path:=congrArg Prod.fst h;have g:e.typ=f.typ:=congrArg Prod.snd h;obtain ⟨p,a2⟩:=s.a.one u (by rw [c,g];exact o.a);obtain ⟨m,t⟩:=s.b.one v (by rw [c,g];exact o.b);cases e;cases f;simp only at c g p a2 m t;subst c g p a2 m t;rfl
def RKey (r:GH):Prop:=xI r.path=true/\1<=r.leaf.typ/\r.leaf.typ<=4
structure MInv (ra rb:List GH) (m:List (zd×GJ)):Prop where
 nd:mnd m
 ed:∀x ∈ m,EdOf ra rb x.2/\x.1=keyS x.2.path x.2.typ/\xI x.2.path=true/\1<=x.2.typ/\x.2.typ<=4
 ca:∀r ∈ ra,∃x ∈ m,ekey x.2=rkey r
 cb:∀r ∈ rb,∃x ∈ m,ekey x.2=rkey r
theorem MInv.nil:MInv [] [] []:=⟨List.Pairwise.nil,by simp,by simp,by simp⟩
theorem MInv.key {p o:List GH} {m:List (zd×GJ)} (h:MInv p o m) {r:GH} (g:RKey r) {x:zd×GJ} (hx:x ∈ m):x.1=keyS r.path r.leaf.typ ↔ ekey x.2=rkey r:=by
 obtain ⟨_,i,j,s⟩:=h.ed x hx;constructor
 ·intro e;rw [i] at e;obtain ⟨c,f⟩:=key_inj j g.1 s g.2 e;unfold ekey rkey;rw [c,f]
 ·intro e;have c:x.2.path=r.path:=congrArg Prod.fst e;have f:x.2.typ=r.leaf.typ:=congrArg Prod.snd e;rw [i,c,f]
theorem rows_key {t:List GA} (hs:Small t) (e:treeB 0 t=true):∀r ∈ zj [] t,RKey r:=λr c=>by
 have:=rows_ok t 0 [] hs e rfl rfl r c;exact ⟨this.path,leaf_typ this.leaf⟩
theorem rows_small {t:List GA} (hs:Small t):(zj [] t).length<=GA.bks t:=rows_len _ t [] (ug _)
theorem Side.ok {t:List GA} (hs:Small t) (f:treeB 0 t=true) {p:List zd} {k:Int} {there:Bool} {l:GE} (h:Side (zj [] t) p k there l):there=true->leafB l=true/\LeafOk l/\l.typ=k:=λe=>by
 obtain ⟨c,a2⟩:=h.on e;have:=rows_ok t 0 [] hs f rfl rfl _ c;exact ⟨this.leaf,this.ok,a2⟩
theorem Side.rkey {t:List GA} (hs:Small t) (e:treeB 0 t=true) {p:List zd} {k:Int} {l:GE} (h:Side (zj [] t) p k true l):xI p=true/\1<=k/\k<=4:=by
 obtain ⟨c,a2⟩:=h.on rfl;have:=rows_key hs e _ c;unfold RKey at this;rw [a2] at this;exact this
abbrev LyR:=List GA->List zd->GE->List GA->Prop
structure LyOk (Ly:LyR):Prop where
 vJ:∀{t:List GA} {s:zd} {l:GE},t.length+1<=16777216->(∀y ∈ t,Op.bytesLess y.name s=true)->LeafOk l->Ly t [s] l (t++[⟨s,[l],[]⟩])
 leafOld:∀{t:List GA} {s:zd} {l:GE} {ls:List GE},t.length+1<=16777216->(∀y ∈ t,Op.bytesLess y.name s=true)->LeafOk l->ls.length<=11->(ls++[l]).Pairwise (λx y=>x.typ < y.typ)->Ly (t++[⟨s,ls,[]⟩]) [s] l (t++[⟨s,ls++[l],[]⟩])
 subOld:∀{t:List GA} {s a:zd} {q:List zd} {l:GE} {ls:List GE} {sb u:List GA},t.length+1<=16777216->(∀y ∈ t,Op.bytesLess y.name s=true)->ls.length<=16777216->0 < u.length->u.length<=16777216->(a::q).length+1<=16777216->Ly sb (a::q) l u->Ly (t++[⟨s,ls,sb⟩]) (s::a::q) l (t++[⟨s,ls,u⟩])
 subNew:∀{t:List GA} {s a:zd} {q:List zd} {l:GE} {u:List GA},t.length+1<=16777216->(∀y ∈ t,Op.bytesLess y.name s=true)->0 < u.length->u.length<=16777216->(a::q).length+1<=16777216->Ly [] (a::q) l u->Ly t (s::a::q) l (t++[⟨s,[],u⟩])
def LaysG (Ly:LyR):List GA->List GH->List GA->Prop
 | t,[],t'=>t'=t
 | t,r::rs,t'=>∃t1,Ly t r.path r.leaf t1/\(0 < t1.length/\t1.length<=16777216)/\LaysG Ly t1 rs t'
section
variable {Ly:LyR}
theorem LaysG.app:∀{a b:List GH} {t c t2:List GA},LaysG Ly t a c->LaysG Ly c b t2->LaysG Ly t (a++b) t2
 | [],_,_,_,_,h,k=>by cases h;exact k
 | _::_,_,_,_,_,⟨u,h1,h0,h2⟩,k=>⟨u,h1,h0,h2.app k⟩
theorem LaysG.below (ok:LyOk Ly) {t:List GA} {s:zd} {ls:List GE} (j:t.length+1<=16777216) (o:∀y ∈ t,Op.bytesLess y.name s=true) (m:ls.length<=16777216) :
  ∀{g:List GH} {i c:List GA},LaysG Ly i g c->(∀r ∈ g,0 < r.path.length/\r.path.length+1<=16777216)->LaysG Ly (t++[⟨s,ls,i⟩]) (g.map (preR [s])) (t++[⟨s,ls,c⟩])
 | [],_,_,h,_=>by cases h;rfl
 | r::g,i,c,⟨u,hu,⟨u0,u1⟩,h⟩,hp=>by
  obtain ⟨h0,f⟩:=hp r (by simp);obtain ⟨a,q,e⟩:∃a q,r.path=a::q:=by
   cases hq:r.path with
   | nil=>rw [hq] at h0;simp at h0
   | cons a q=>exact ⟨a,q,rfl⟩
  refine ⟨t++[⟨s,ls,u⟩],?_,by simp;omega,LaysG.below ok j o m h (λx hx=>hp x (by simp [hx]))⟩;simp only [preR,e,List.singleton_append];rw [e] at hu f;exact ok.subOld j o m u0 u1 f hu
theorem LaysG.leaves (ok:LyOk Ly) {t:List GA} {s:zd} (g:t.length+1<=16777216) (h:∀y ∈ t,Op.bytesLess y.name s=true) :
  ∀{ls c:List GE},(∀l ∈ ls,LeafOk l)->(c++ls).length<=12->(c++ls).Pairwise (λx y=>x.typ < y.typ)->LaysG Ly (t++[⟨s,c,[]⟩]) (ls.map λl=>⟨[s],l⟩) (t++[⟨s,c++ls,[]⟩])
 | [],c,_,_,_=>by rw [tv];rfl
 | l::ls,c,hl,hs,hp=>by
  have e:c++l::ls=(c++[l])++ls:=by simp
  rw [e] at hs hp ⊢;have f:=hs;simp only [uf,ue,uk] at f;refine ⟨t++[⟨s,c++[l],[]⟩],?_,by simp;omega,LaysG.leaves ok g h (λx hx=>hl x (by simp [hx])) hs hp⟩;refine ok.leafOld g h (hl l (by simp)) (by omega) ?_;rw [tz] at hp;exact hp.1
end
noncomputable def r7F (n:Nat) (ahead1:List zd):Nat->GA->List GK->Option (Out (List GK) (List GK)):=(λ(n1:Nat) (x1:GA) (s1:(List GK))=>((ym ((([]:List zd)).length+(ahead1).length<=yS) ((ym (((([]:List zd)++ahead1)).length+(([x1.name]:List zd)).length<=yS) ((lp (zq (λ(n2:Nat) (x2:GE) (s2:(List GK))=>((ym ((s2).length+(([(GK.mk ((([]:List zd)++ahead1)++([x1.name]:List zd)) x2)]:List GK)).length<=yS) (some (.nxt (s2++([(GK.mk ((([]:List zd)++ahead1)++([x1.name]:List zd)) x2)]:List GK))))):Option (Out _ (List GK)))) x1.leaves 0 s1) λ(s2:(List GK))=>((x4 n x1.subs ((([]:List zd)++ahead1)++([x1.name]:List zd))).bind λv44=>(ym ((s2).length+(v44).length<=yS) (some (.nxt (s2++v44)))))))))):Option (Out _ (List GK))))
theorem rows7_eq (n:Nat) (t0:List GA) (c:List zd):x4 (n+1) t0 c=(lp (zq (r7F n c) t0 0 ([]:List GK)) λ(e:(List GK))=>some e):=rfl
def vR (r:GH):GK:=⟨r.path,r.leaf⟩

theorem filt_all {α:Type} (L:List α):L.filter (λ_=>true)=L:=sq.2 λ_ _=>rfl
theorem r7F_is {a:List zd} {x:GA} {s:List GK} (f:a.length<=16777216) (h:x4 n x.subs (a++[x.name])=some ((zj (a++[x.name]) x.subs).map vR)) (hs:s.length+(vS a x).length<=16777216) (i:Nat):r7F n a i x s=some (.nxt (s++(vS a x).map vR)):=by
 rw [yw] at hs ⊢;simp only [uf,ux] at hs;unfold r7F;simp only [uT];rw [zx (vk (by simp;omega)),zx (vk (by simp;omega))];rw [loop_keep (λ_:GE=>true) (λl=>(⟨a++[x.name],l⟩:GK)) x.leaves 0 s (vk (by omega)) (λi y e _ c=>by rw [zx (by simpa using c),uv rfl]),vI];rw [filt_all];rw [h,ua,zx (vk (by simp;omega))];simp [vR,sj]
theorem rows7_is:∀(n:Nat) (t:List GA) (a:List zd),GA.deps t < n->Small t->a.length+GA.deps t<=16777216->x4 n t a=some ((zj a t).map vR)
 | 0,_,_,h,_,_=>by omega
 | n+1,t,a,h,hs,ha=>by
  rw [rows7_eq];have key:∀(u:List GA) (i:Nat) (s:List GK),(∀x ∈ u,x ∈ t)->s.length+(zj a u).length<=16777216->zq (r7F n a) u i s=some (.inr (s++(zj a u).map vR)):=by
   intro u
   induction u with
   | nil=>intro i s _ _;simp [zq,zj]
   | cons x r ih =>
    intro i s f c;have e:zj a (x::r)=vS a x++zj a r:=by rw [yb,th,<- yb]
    rw [e] at c ⊢;simp only [uf] at c;have hx:=f x (by simp);have p:x.dep<=GA.deps t:=qy hx;have o:=xy x;have m:=rows7_is n x.subs (a++[x.name]) (by omega) (hs.subs hx) (by simp;omega);have g:=r7F_is (s:=s) (by omega) m (by omega) i;simp only [zq,g];rw [ih (i+1) (s++(vS a x).map vR) (λy j=>f y (by simp [j])) (by simp;omega)];simp
  rw [key t 0 [] (λx h=>h) (by simpa using uB (rows_len _ t a (ug _)) hs.2),vI,uT]
structure ROk (r:GH):Prop where
 path:xI r.path=true
 leaf:leafB r.leaf=true
 ok:LeafOk r.leaf
end Go.Vv
