/- Plain laws, as far as they are leaned on. -/
import Derived.Test.YtgaelgcadcmfnaaGreatDoorD
import Derived.Test.YtgaelgcadcmfnaaGreatDoorVvLb
set_option linter.all false
namespace Go.Vv
open Go
variable {i n d:Nat} {b:UInt8} {σ:Type} {L:List GF} {f there:Bool} {q:GE->Bool} {l x:GE} {a:List UInt8} {ls L0 A B:List GE} {r:GH} {del:GE->Option Bool} {k:Int} {rs:List GH}
def alnum (b:UInt8):Bool:=(decide (97<=b.toNat)&&decide (b.toNat<=122)) || (decide (65<=b.toNat)&&decide (b.toNat<=90)) || (decide (48<=b.toNat)&&decide (b.toNat<=57))
def other (r:Int):Bool:=!((decide (97<=r)&&decide (r<=122)) || (decide (65<=r)&&decide (r<=90)) || (decide (48<=r)&&decide (r<=57)))
def runeIdx (q:Int->Bool) (s:List UInt8) (i:Nat):Int :=
 if h:i < s.length then (if q (dec s i).1 then i else if (dec s i).2=0 then -1 else runeIdx q s (i+(dec s i).2)) else -1
termination_by s.length - i
decreasing_by omega
theorem dec_width (s:List UInt8) (i:Nat) (h:i < s.length):1<=(dec s i).2:=by
 have hs:i < (⟨s.toArray⟩:ByteArray).size:=by simpa [ByteArray.size] using h
 by_cases ha:((⟨s.toArray⟩:ByteArray)[i]'hs).toNat < 128
 ·unfold dec;rw [decode_ascii _ i hs ha];exact uj _
 ·exact (decode_high _ i hs (by omega)).2
theorem dec_low {s:List UInt8} (c:s[i]?=some b) (h:b.toNat < 128):dec s i=(b.toNat,1):=by
 have g:i < s.length:=(ud.1 c).1;have hs:i < (⟨s.toArray⟩:ByteArray).size:=by simpa [ByteArray.size] using g
 have e:((⟨s.toArray⟩:ByteArray)[i]'hs)=b:=by
  have j:((⟨s.toArray⟩:ByteArray)[i]'hs)=s[i]:=rfl;rw [j];rw [ul g] at c;injection c
 unfold dec;rw [decode_ascii _ i hs (by rw [e];exact h),e]
theorem dec_hi {s:List UInt8} (c:s[i]?=some b) (h:128<=b.toNat):128<=(dec s i).1:=by
 have g:i < s.length:=(ud.1 c).1;have hs:i < (⟨s.toArray⟩:ByteArray).size:=by simpa [ByteArray.size] using g
 have e:((⟨s.toArray⟩:ByteArray)[i]'hs)=b:=by
  have j:((⟨s.toArray⟩:ByteArray)[i]'hs)=s[i]:=rfl;rw [j];rw [ul g] at c;injection c
 exact (decode_high _ i hs (by rw [e];exact h)).1
theorem other_alnum:other (b.toNat:Int)=!alnum b:=by
 unfold other alnum;congr 1;rw [uC];simp;omega
theorem rune_all {s:List UInt8} (h:s.all alnum=true):∀(n i:Nat),s.length - i=n->runeIdx other s i=-1
 | n,i,hn=>by
  rw [runeIdx.eq_def];by_cases hi:i < s.length
  ·rw [rW hi];have g:s[i]?=some s[i]:=ul hi;have e:alnum s[i]=true:=by rw [uu] at h;exact h _ (sA hi)
   have c:s[i].toNat < 128:=by
    unfold alnum at e;simp only [u5,uf,uh] at e;omega
   rw [dec_low g c];simp only [other_alnum,e,tq,up,uJ,rS];exact rune_all h (s.length - (i+1)) (i+1) rfl
  ·rw [dif_neg hi]
 termination_by n=>n
 decreasing_by omega
theorem rune_some {s:List UInt8} {k:Nat} {b:UInt8} (c:s[k]?=some b) (h:alnum b=false):∀(n i:Nat),k - i=n->i<=k->0<=runeIdx other s i
 | n,i,hn,hik=>by
  have m:k < s.length:=(ud.1 c).1;have hi:i < s.length:=by omega
  rw [runeIdx.eq_def,rW hi];by_cases ho:other ((dec s i).1:Nat)=true
  ·rw [um ho];omega
  ·rw [ur ho];have g:s[i]?=some s[i]:=ul hi;have e:s[i].toNat < 128:=by
    refine Decidable.byContradiction λhh=>ho ?_;have:=dec_hi g (by omega);unfold other;simp;omega
   rw [dec_low g e] at ho ⊢;rw [other_alnum] at ho;have j:i ≠ k:=by
    rintro rfl
    rw [g] at c;injection c with c;subst c;rw [h] at ho;exact ho rfl
   simp only [rS,uJ];exact rune_some c h (k - (i+1)) (i+1) rfl (by omega)
 termination_by n=>n
 decreasing_by omega

def nameB (s:zd):Bool:=decide (1<=s.length)&&decide (s.length<=12)&&s.all alnum
def xA (p:List zd):Bool:=decide (1<=p.length)&&decide (p.length<=3)&&p.all nameB
theorem bnd1 (n:Nat):decide ((n:Int) >= 1)=decide (1<=n):=sn.2 (by omega)
theorem bnd12 (n:Nat):decide ((n:Int)<=12)=decide (n<=12):=sn.2 (by omega)
theorem bnd3 (n:Nat):decide ((n:Int)<=3)=decide (n<=3):=sn.2 (by omega)
theorem ref04IsName_is (s:zd):qj s=some (nameB s):=by
 unfold qj nameB;rw [loopL_all alnum false]
 ·split
  ·rename_i h;simp only [u5,uh] at h;congr 1;rw [eq_comm,sY,sY];left;rcases h with h | h
   ·exact .inl (uS (by omega))
   ·exact .inr (uS (by omega))
  ·rename_i h;simp only [u5,uh] at h;have g:1<=s.length:=by omega
   have c:s.length<=12:=by omega
   cases ha:s.all alnum <;> simp [g,c]
 ·intro i x _;unfold alnum;have e:(((decide ((x.toNat:Int) >= 97))&&(decide ((x.toNat:Int)<=122)) || (decide ((x.toNat:Int) >= 65))&&(decide ((x.toNat:Int)<=90))) || (decide ((x.toNat:Int) >= 48))&&(decide ((x.toNat:Int)<=57))) =
    (decide (97<=x.toNat)&&decide (x.toNat<=122) || decide (65<=x.toNat)&&decide (x.toNat<=90) || decide (48<=x.toNat)&&decide (x.toNat<=57)):=by
   rw [uC];simp;omega
  rw [e];generalize (decide (97<=x.toNat)&&decide (x.toNat<=122) || decide (65<=x.toNat)&&decide (x.toNat<=90) || decide (48<=x.toNat)&&decide (x.toNat<=57))=b;cases b <;> rfl
theorem rune_loop (q:Int->Bool) (s:zd) {f:Nat->Option (Out Int Nat)} (c:∀i,f i=if i < s.length then (if q (dec s i).1=true then some (.ret (i:Int)) else some (.nxt (i+(dec s i).2))) else some (.brk i)) :
  ∀(k i:Nat),s.length - i=k->lp (zX f i) (λ_=>some (-1:Int))=some (runeIdx q s i)
 | k,i,hk=>by
  rw [yk,runeIdx.eq_def,c];by_cases h:i < s.length
  ·have e:=dec_width s i h;rw [um h,rW h];by_cases hq:q (dec s i).1=true
   ·simp [hq]
   ·have h0:¬ (dec s i).2=0:=by omega
    simp only [ur hq,ur h0];exact rune_loop q s c (s.length - (i+(dec s i).2)) _ rfl
  ·rw [ur h,dif_neg h];rfl
 termination_by k=>k
 decreasing_by omega
theorem stringsContains_other (s:zd):xM s (λx=>qW x)=some (!s.all alnum):=by
 have e:(λx=>qW x)=λx=>some (other x):=by
  funext x;unfold qW other;congr 1;rw [uC];simp
 unfold xM vD vg;rw [e,rune_loop other s (λi=>by simp) _ 0 rfl];simp only [ua];congr 1;cases h:s.all alnum with
 | true=>rw [rune_all h _ 0 rfl];rfl
 | false =>
  rw [List.all_eq_false] at h;obtain ⟨b,g,j⟩:=h;obtain ⟨k,c,rfl⟩:=List.getElem_of_mem g;have:=rune_some (ul c) (by simpa using j) _ 0 rfl (sq _);simp [this]
theorem opIsName_is (s:zd):opIsName s=some (nameB s):=by
 unfold opIsName nameB;rw [stringsContains_other,bnd1,bnd12];cases h1:decide (1<=s.length) <;> cases h2:decide (s.length<=12) <;> simp
theorem contains_is {f:zd->Option Bool} {q:zd->Bool} (p:List zd) (c:∀x ∈ p,f x=some (q x)):yz p f=some (p.any q):=by
 unfold yz x8;rw [first_loop p c];simp only [ua,firstI_any]
theorem opMayPath_is (p:List zd):ql p=some (xA p):=by
 unfold ql xA;rw [contains_is (q:=λs=>!nameB s) p (λx _=>by unfold opMayPathC1;rw [opIsName_is];rfl),bnd1,bnd3];have e:p.any (λs=>!nameB s)=!p.all nameB:=by rw [uC];simp
 rw [e];cases h1:decide (1<=p.length) <;> cases h2:decide (p.length<=3) <;> simp
def actorB (a:GI):Bool:=decide (a.rep < 16)&&decide (a.inc >= 1)&&decide (a.inc<=4)
def xw (d:GC):Bool:=actorB d.actor&&decide (d.seq >= 1)&&decide (d.seq<=1048576)
theorem dotMay_is (d:GC):dotMay d=some (xw d):=rfl
theorem ref03MayActor_is (a:GI):vQ a=some (actorB a):=by
 unfold vQ actorB;have:decide (a.rep<=15)=decide (a.rep < 16):=sn.2 (by omega);rw [this]
theorem ref03May_is (d:GC):ref03May d=some (xw d):=by unfold ref03May;rw [ref03MayActor_is];rfl
def qD (a b:GC):Bool:=if a.actor.rep ≠ b.actor.rep then decide (a.actor.rep < b.actor.rep) else if a.actor.inc ≠ b.actor.inc then decide (a.actor.inc < b.actor.inc) else decide (a.seq < b.seq)
theorem ref03Less_is (a b:GC):ref03Less a b=some (qD a b):=by
 unfold ref03Less qD;by_cases h1:a.actor.rep=b.actor.rep <;> by_cases h2:a.actor.inc=b.actor.inc <;> simp [h1,h2]
def cmpI (a b:Int):Int:=if a < b then -1 else if b < a then 1 else 0
theorem cmpU8is (a b:Int):xg a b=some (cmpI a b):=by
 unfold xg vA cmpI;simp only [sI,ua,up,uJ,uh,gt_iff_lt];split <;> (try split) <;> rfl
theorem cmpU32is (a b:Int):wB a b=some (cmpI a b):=by
 unfold wB wZ cmpI;simp only [sI,ua,up,uJ,uh,gt_iff_lt];split <;> (try split) <;> rfl
theorem cmpU64is (a b:Int):xT a b=some (cmpI a b):=by
 unfold xT wY cmpI;simp only [sI,ua,up,uJ,uh,gt_iff_lt];split <;> (try split) <;> rfl
def or2 (a b:Int):Int:=if a ≠ 0 then a else b
theorem cmpOr2_is (a b:Int):qE [a,b]=some (or2 a b):=by
 unfold qE or2;by_cases h1:a=0 <;> by_cases h2:b=0 <;> simp [zn,h1,h2]
def actorCmp (a b:GI):Int:=or2 (cmpI a.rep b.rep) (cmpI a.inc b.inc)
def dotCmp (a b:GC):Int:=or2 (actorCmp a.actor b.actor) (cmpI a.seq b.seq)
theorem dotXcompare_is (a b:GI):dotXcompare a b=some (actorCmp a b):=by
 unfold dotXcompare;rw [cmpU8is,cmpU32is];simp only [ua];rw [cmpOr2_is];rfl
theorem dotCompare_is (a b:GC):dotCompare a b=some (dotCmp a b):=by
 unfold dotCompare;rw [dotXcompare_is,cmpU64is];simp only [ua];rw [cmpOr2_is];rfl
theorem dotCmp_lt (a b:GC):decide (dotCmp a b >= 0)=!qD a b:=by
 unfold dotCmp actorCmp qD cmpI or2
 grind

def rising:List GC->Bool
 | a::b::r=>qD a b&&rising (b::r)
 | _=>true
def wC (ds:List GC) (i:Nat) (x:GC):Bool:=decide (i=0) || qD (ds.getD (i - 1) default) x
theorem rising_loop (c:List GC) {g:Nat->GC->Unit->Option (Out Bool Unit)}
  (s:∀i x,c[i]?=some x->g i x ()=if (xw x&&wC c i x)=true then some (.nxt ()) else some (.ret false)) :
  lp (zn g c 0 ()) (λ_=>some true)=some (c.all xw&&rising c):=by
 have key:∀(L pre:List GC),c=pre++L->lp (zn g L pre.length ()) (λ_=>some true)=some (L.all xw&&rising (match pre.getLast? with | some y=>y::L | none=>L)):=by
  intro L
  induction L with
  | nil=>intro pre h;cases hp:pre.getLast? <;> simp [zn,rising]
  | cons x t ih =>
   intro pre h;have hx:c[pre.length]?=some x:=by rw [h];simp
   have e:=ih (pre++[x]) (by rw [h];simp);simp only [ue,uc,ug,uU,List.getLast?_append,pt,rI] at e;simp only [zn,s _ _ hx];cases hp:pre.getLast? with
   | none =>
    have j:pre=[]:=pb.1 hp;subst j;simp only [ug,uU] at e ⊢;cases hd:xw x <;> simp [wC,hd,e]
   | some y =>
    have m:pre ≠ []:=by rintro rfl;simp at hp
    have h0:0 < pre.length:=tK.2 m;have o:c.getD (pre.length - 1) default=y:=by
     rw [uI,h,uq (by omega)];rw [rj] at hp;rw [hp];rfl
    have p:wC c pre.length x=qD y x:=by
     unfold wC;rw [o];have:decide (pre.length=0)=false:=uS (by omega);rw [this];rfl
    rw [p];cases hd:xw x <;> cases hlt:qD y x <;> simp [hd,hlt,e,rising]
 have:=key c [] rfl;simpa using this
theorem same_loop {α:Type} [DecidableEq α] (M:List α) {eq:α->α->Bool} (g:∀a b,eq a b=decide (a=b)) {f:Nat->α->Unit->Option (Out Bool Unit)} :
  ∀(L:List α) (i:Nat),L.length+i=M.length->(∀j x,L[j]?=some x->f (i+j) x ()=(yx M ((i+j:Nat):Int)).bind λy=>if (!eq x y)=true then some (.ret false) else some (.nxt ())) ->
  zn f L i ()=if L=M.drop i then some (.inr ()) else some (.inl false)
 | [],i,hl,_=>by
  rw [tH (by simp at hl;omega)];rfl
 | x::t,i,hl,h=>by
  simp only [uc] at hl;have hi:i < M.length:=by omega
  have h0:=h 0 x rfl;simp only [tA] at h0;rw [idx_at hi] at h0;have o:=same_loop M g (f:=f) t (i+1) (by omega) (λj y m=>by have:=h (j+1) y m;rw [show i+1+j=i+(j+1) by omega];exact this);have e:M.drop i=M[i]::M.drop (i+1):=(sO hi).symm;simp only [zn,h0,ua,g,e];by_cases hx:x=M[i]
  ·simp only [hx,pf,tq,up,uJ,o,rn,rO]
  ·have c:¬ (x::t=M[i]::M.drop (i+1)):=λhh=>hx (rl hh).1;simp only [uS hx,tV,ut,ur c]
theorem dotEq (a b:GC):(a.actor.rep==b.actor.rep&&(a.actor.inc==b.actor.inc&&(a.seq==b.seq&&true)))=decide (a=b):=by
 rcases a with ⟨⟨e,a2⟩,a3⟩;rcases b with ⟨⟨c,g⟩,h⟩
 rw [uC];simp [rf]
theorem slicesEqualDot_is (L M:List GC):vk L M=some (decide (L=M)):=by
 unfold vk;by_cases hl:L.length=M.length
 ·have e:((L.length:Int) != (M.length:Int))=false:=by simp;omega
  rw [e,same_loop M dotEq L 0 (by omega) (λj x c=>by simp)];by_cases h:L=M <;> simp [h]
 ·have e:((L.length:Int) != (M.length:Int))=true:=by simp;omega
  rw [e,uS (λh=>hl (by rw [h]))];rfl
section
variable {α ρ:Type}
def allI (g:Nat->α->Bool) (L:List α):Bool:=L.zipIdx.all λp=>g p.2 p.1
theorem allI_iff {g:Nat->α->Bool} {L:List α}:allI g L=true ↔ ∀i x,L[i]?=some x->g i x=true:=by
 unfold allI;rw [uu];constructor
 ·intro h i x hx;exact h (x,i) (sR.2 hx)
 ·rintro h ⟨x,i⟩ hx
  exact h i x (sR.1 hx)
theorem loopL_allI (g:Nat->α->Bool) {r:ρ} {f:Nat->α->Unit->Option (Out ρ Unit)}:∀(L:List α) (k:Nat),(∀i x,L[i]?=some x->f (k+i) x ()=if g (k+i) x=true then some (.nxt ()) else some (.ret r)) ->
  zn f L k ()=if ((L.zipIdx k).all λp=>g p.2 p.1)=true then some (.inr ()) else some (.inl r)
 | [],_,_=>rfl
 | x::t,k,h=>by
  have h0:=h 0 x rfl;simp only [tA] at h0;have c:=loopL_allI g (f:=f) (r:=r) t (k+1) (λi y e=>by have:=h (i+1) y (by simpa using e);rw [show k+1+i=k+(i+1) by omega];exact this);simp only [zn,h0,pn,uY];by_cases hg:g k x=true
  ·simp only [hg,ut,c,u2]
  ·simp only [hg,up,uJ,rH]
theorem qv (g:Nat->α->Bool) {r:σ} {L:List α} {f:Nat->α->Unit->Option (Out σ Unit)} {rest:Unit->Option σ} (c:∀i x,L[i]?=some x->f i x ()=if g i x=true then some (.nxt ()) else some (.ret r)) :
  lp (zn f L 0 ()) rest=if allI g L=true then rest () else some r:=by
 rw [loopL_allI g L 0 (λi x hx=>by simpa using c i x hx)];unfold allI;split <;> rfl
theorem lp_all0 (g:α->Bool) {r:σ} {L:List α} {f:Nat->α->Unit->Option (Out σ Unit)} {rest:Unit->Option σ} (c:∀i x,L[i]?=some x->f i x ()=if g x=true then some (.nxt ()) else some (.ret r)) :
  lp (zn f L 0 ()) rest=if L.all g=true then rest () else some r:=by
 rw [qv (λ_=>g) c];have:allI (λ_=>g) L=L.all g:=by
  rw [uC,allI_iff,uu];exact ⟨λh x hx=>by obtain ⟨i,hi⟩:=tn.1 hx;exact h i x hi,λh i x hx=>h x (uG hx)⟩
 rw [this]
end
theorem qf {j:Nat} (c:j+1<=maxLen):IntKind.wrap .i64 (((j+1:Nat):Int) - 1)=(j:Int):=by
 simp only [maxLen] at c;rw [wG (by omega)];omega
theorem wrap_add1 {j:Nat} (c:j+1<=maxLen):IntKind.wrap .i64 ((j:Int)+1)=((j+1:Nat):Int):=by
 simp only [maxLen] at c;rw [wG (by omega)];omega
theorem pos_succ (j:Nat):decide (((j+1:Nat):Int) > 0)=true:=uN (by omega)
def vN (n:Int):Bool:=decide (n >= 1)&&decide (n<=1099511627776)
def aheadI (a b:GF):Bool:=if a.time ≠ b.time then decide (a.time < b.time) else qD a.dot b.dot
theorem leafXisTime_is (n:Int):leafXisTime n=some (vN n):=rfl
theorem leafXisText_is (s:zd):qm s=some (decide (s.length<=40)):=by unfold qm;rw [sn.2 (show ((s.length:Int)<=40) ↔ s.length<=40 by omega)]
theorem dotCmp_neg (a b:GC):decide (dotCmp a b < 0)=qD a b:=by
 have h:=dotCmp_lt a b;have:decide (dotCmp a b < 0)=!decide (dotCmp a b >= 0):=by rw [uC];simp
 rw [this,h,Bool.not_not]
theorem leafAhead_is (a:Int) (d:GC) (b:Int) (o:GC):leafAhead a d b o=some (if a ≠ b then decide (a < b) else qD d o):=by
 unfold leafAhead leafXcompare;rw [cmpU64is,dotCompare_is];simp only [ua,cmpOr2_is];congr 1;by_cases h:a=b
 ·subst h;have:cmpI a a=0:=by unfold cmpI;simp
  simp [or2,this,dotCmp_neg]
 ·have:cmpI a b ≠ 0:=by unfold cmpI;split <;> (try split) <;> omega
  simp only [or2,this,ne_eq,not_false_eq_true,ut,h];unfold cmpI;rw [uC];simp only [uh];split <;> (try split) <;> omega
theorem ref05Ahead_is (a:Int) (d:GC) (b:Int) (o:GC):ref05Ahead a d b o=some (if a ≠ b then decide (a < b) else qD d o):=by
 unfold ref05Ahead;by_cases h:a=b <;> simp [h,ref03Less_is]
def prevI {α:Type} [Inhabited α] (L:List α) (i:Nat):α:=L.getD (i - 1) default
def vr (timed:Bool) (x:GF):Bool:=xw x.dot&&decide (x.text.length<=40)&&(if timed then vN x.time else decide (x.time=0))
def riseB (L:List GF):Bool:=allI (λi x=>decide (i=0) || aheadI (prevI L i) x) L
def onceB (L:List GF):Bool:=decide ((L.map (·.dot)).Nodup)
theorem eqb_iff (a b:GC):GC.eqb a b=decide (a=b):=by unfold GC.eqb;exact dotEq a b
def qy (m:List (GC×Int)):List GC:=m.map (·.1)
theorem mput_keys (m:List (GC×Int)) (k:GC) (v:Int):qy (mput GC.eqb m k v)=if k ∈ qy m then qy m else qy m++[k]:=by
 induction m with
 | nil=>simp [mput,qy]
 | cons e r ih =>
  simp only [mput,eqb_iff];by_cases h:k=e.1
  ·simp [h,qy]
  ·simp only [uS h,up,uJ,qy,ux,uv] at ih ⊢;rw [ih];by_cases h2:k ∈ r.map (·.1) <;> simp [h,h2]
theorem twice_fold:∀(L:List GF) (m:List (GC×Int)),(qy m).Nodup ->
  (L.foldl (λs x=>mput GC.eqb s x.dot (IntKind.wrap .i64 ((wn GC.eqb 0 s x.dot)+1))) m).length<=m.length+L.length /\
  ((L.foldl (λs x=>mput GC.eqb s x.dot (IntKind.wrap .i64 ((wn GC.eqb 0 s x.dot)+1))) m).length=m.length+L.length ↔ (qy m++L.map (·.dot)).Nodup)
 | [],m,h=>by simp [h]
 | x::t,m,h=>by
  simp only [t8];have c:=mput_keys m x.dot (IntKind.wrap .i64 ((wn GC.eqb 0 m x.dot)+1));generalize hm:mput GC.eqb m x.dot (IntKind.wrap .i64 ((wn GC.eqb 0 m x.dot)+1))=m' at c;have j:m'.length=(qy m').length:=by simp [qy]
  have y:m.length=(qy m).length:=by simp [qy]
  by_cases hx:x.dot ∈ qy m
  ·rw [um hx] at c;have g:=twice_fold t m' (by rw [c];exact h);rw [c] at g j;refine ⟨by simp only [uc];omega,?_⟩;constructor
   ·intro v;simp only [uc] at v;omega
   ·intro u;rw [List.nodup_append] at u;exact absurd rfl (u.2.2 _ hx _ (by simp))
  ·rw [ur hx] at c;have o:(qy m++[x.dot]).Nodup:=by
    rw [List.nodup_append];refine ⟨h,by simp,λa w b p=>?_⟩;simp at p;subst p;rintro rfl;exact hx w
   have g:=twice_fold t m' (by rw [c];exact o);rw [c] at g j;simp only [ue,uc,ug] at j;refine ⟨by simp only [uc];omega,?_⟩;have e:qy m++[x.dot]++t.map (·.dot)=qy m++(x::t).map (·.dot):=by simp
   rw [<- e,<- g.2];simp only [uc];omega
theorem leafXtwice_is (L:List GF):leafXtwice L=some (!onceB L):=by
 unfold leafXtwice;rw [loopL_fold (λs x=>mput GC.eqb s x.dot (IntKind.wrap .i64 ((wn GC.eqb 0 s x.dot)+1))) L 0 [] (λ_ _ _ _=>rfl)];have h:=twice_fold L [] (by simp [qy]);simp only [ug,uU,qy,tu,uT] at h;simp only [x4,onceB];congr 1;generalize List.length (List.foldl _ _ _)=n at h ⊢;by_cases hn:(L.map (·.dot)).Nodup
 ·have:=h.2.2 hn;rw [uN hn,uS (by omega)];rfl
 ·have c:n ≠ L.length:=λe=>hn (h.2.1 e);rw [uS hn,uN (by omega)];rfl
theorem leafXitems_is (m:L.length<=maxLen) (c:Bool):qZ L c=some (L.all (vr c)&&riseB L&&onceB L):=by
 unfold qZ;rw [qv (r:=false) (λi x=>vr c x&&(decide (i=0) || aheadI (prevI L i) x))]
 ·rw [leafXtwice_is];have e:allI (λi x=>vr c x&&(decide (i=0) || aheadI (prevI L i) x)) L=(L.all (vr c)&&riseB L):=by
   rw [uC,uf,riseB,allI_iff,allI_iff,uu];constructor
   ·intro h;exact ⟨λx hx=>by obtain ⟨i,hi⟩:=tn.1 hx;have:=h i x hi;simp only [uf] at this;exact this.1,λi x hx=>by have:=h i x hx;simp only [uf] at this;exact this.2⟩
   ·rintro ⟨s,o⟩ i x hx
    simp only [uf];exact ⟨s x (uG hx),o i x hx⟩
  rw [e];simp only [ua,Bool.not_not];cases L.all (vr c)&&riseB L <;> simp
 ·intro i x hx;have hi:i < L.length:=(ud.1 hx).1;simp only [dotMay_is,leafXisText_is,leafXisTime_is,ua,leafAhead_is];have t:vr c x=(xw x.dot&&decide (x.text.length<=40)&&(c==vN x.time)&&(c || decide (x.time=0))):=by
   unfold vr;cases c
   ·by_cases h0:x.time=0
    ·simp [h0,show vN 0=false from rfl]
    ·simp [h0]
   ·simp
  rw [t];cases hd:xw x.dot
  ·simp
  cases ht:decide (x.text.length<=40)
  ·simp
  by_cases htt:c=vN x.time
  ·have u:(x.time != 0)=!decide (x.time=0):=by rw [uC];simp
   have g:(c==vN x.time)=true:=by simpa using htt
   rw [u,g];cases hzz:(c || decide (x.time=0))
   ·have:(!c&&!decide (x.time=0))=true:=by rw [<- Bool.not_or,hzz];rfl
    simp [this]
   have:(!c&&!decide (x.time=0))=false:=by rw [<- Bool.not_or,hzz];rfl
   rw [this];rcases i with _ | j
   ·simp [zN,htt]
   ·rw [qf (by simp only [maxLen] at m ⊢;omega),pos_succ];have p:(j:Int) < (L.length:Int):=by omega
    simp [zN,p,prevI,aheadI,htt];by_cases hq:(L[j]?.getD default).time=x.time
    ·cases hdl:qD (L[j]?.getD default).dot x.dot <;> simp [hq,hdl]
    ·by_cases hlt:(L[j]?.getD default).time < x.time
     ·simp [hq,hlt,Int.not_le.2 hlt]
     ·simp [hq,hlt,Int.not_lt.1 hlt]
  ·have g:(c==vN x.time)=false:=by simpa using htt
   rw [g];simp [htt]

theorem itemEq (a b:GF):(a.time==b.time&&(a.dot.actor.rep==b.dot.actor.rep&&(a.dot.actor.inc==b.dot.actor.inc&&(a.dot.seq==b.dot.seq&&(a.text==b.text&&true)))))=decide (a=b):=by
 rcases a with ⟨a0,⟨⟨e,a2⟩,a3⟩,a4⟩;rcases b with ⟨b0,⟨⟨c,g⟩,j⟩,h⟩
 rw [uC];simp [rf]
theorem slicesEqualItem_is (L M:List GF):wU L M=some (decide (L=M)):=by
 unfold wU;by_cases hl:L.length=M.length
 ·have e:((L.length:Int) != (M.length:Int))=false:=by simp;omega
  rw [e,same_loop M itemEq L 0 (by omega) (λj x c=>by simp)];by_cases h:L=M <;> simp [h]
 ·have e:((L.length:Int) != (M.length:Int))=true:=by simp;omega
  rw [e,uS (λh=>hl (by rw [h]))];rfl
theorem leafSame_is (a b:GE):wy a b=some (decide (a=b)):=by
 unfold wy;simp only [slicesEqualItem_is,slicesEqualDot_is,dotEq];rcases a with ⟨a0,g,a2,a3,a4,a5,p⟩;rcases b with ⟨b0,c,j,o,m,e,h⟩
 simp only [GE.mk.injEq];by_cases h0:a0=b0 <;> by_cases h1:g=c <;> by_cases h2:a2=j <;> by_cases h3:a3=o <;> by_cases h4:a4=m <;> by_cases h5:a5=e <;> by_cases h6:p=h <;> simp [h0,h1,h2,h3,h4,h5,h6]
def xJ:GC:=⟨⟨0,0⟩,0⟩
def zeroB (l:GE):Bool:=decide (l.time=0)&&decide (l.dot=xJ)&&decide (l.text=[])
def tombsB (l:GE):Bool:=l.tombs.all xw&&rising l.tombs&&l.tombs.all (λd=>!l.items.any λx=>decide (x.dot=d))
def leafB (l:GE):Bool :=
 if l.typ=1 then zeroB l&&decide (l.items=[])&&decide (l.tombs=[])
 else if l.typ=2 then decide (l.n=0)&&decide (l.items=[])&&decide (l.tombs=[])&&(if l.time=0 then decide (l.dot=xJ)&&decide (l.text=[]) else vN l.time&&xw l.dot&&decide (l.text.length<=40))
 else if l.typ=3 then decide (l.n=0)&&zeroB l&&(l.items.all (vr false)&&riseB l.items&&onceB l.items)&&tombsB l
 else if l.typ=4 then decide (l.n=0)&&zeroB l&&decide (l.tombs=[])&&(l.items.all (vr true)&&riseB l.items&&onceB l.items)
 else false
theorem containsItem_is {f:GF->Option Bool} {q:GF->Bool} (p:List GF) (c:∀x ∈ p,f x=some (q x)):yY p f=some (p.any q):=by
 unfold yY wu;rw [first_loop p c,ua,firstI_any]
theorem leafXhas_is (L:List GF) (d:GC):leafXhas L d=some (L.any λx=>decide (x.dot=d)):=by
 unfold leafXhas;rw [containsItem_is (q:=λx=>decide (x.dot=d)) L (λx _=>by unfold leafXhasC1;rw [dotEq]),ua]
theorem rising_allI (c:List GC):rising c=allI (λi x=>wC c i x) c:=by
 have h:=rising_loop c (g:=λi x _=>if (xw x&&wC c i x)=true then some (.nxt ()) else some (.ret false)) (λ_ _ _=>rfl);have key:∀(L pre:List GC),c=pre++L->rising (match pre.getLast? with | some y=>y::L | none=>L)=(L.zipIdx pre.length).all λp=>wC c p.2 p.1:=by
  intro L
  induction L with
  | nil=>intro pre _;cases pre.getLast? <;> simp [rising]
  | cons x t ih =>
   intro pre hd;have e:=ih (pre++[x]) (by rw [hd];simp);simp only [ue,uc,ug,uU,List.getLast?_append,pt,rI] at e;simp only [pn,uY];cases hp:pre.getLast? with
   | none =>
    have j:pre=[]:=pb.1 hp;subst j;simp only [ug,uU] at e ⊢;rw [e];simp [wC]
   | some y =>
    have m:pre ≠ []:=by rintro rfl;simp at hp
    have h0:0 < pre.length:=tK.2 m;have o:c.getD (pre.length - 1) default=y:=by
     rw [uI,hd,uq (by omega)];rw [rj] at hp;rw [hp];rfl
    have s:wC c pre.length x=qD y x:=by
     unfold wC;rw [o,uS (by omega)];rfl
    rw [s,<- e];simp [rising]
 simpa [allI] using key c [] rfl
theorem leafXtombs_is (g:l.tombs.length<=maxLen):leafXtombs l=some (tombsB l):=by
 unfold leafXtombs;rw [qv (r:=false) (λi x=>xw x&&wC l.tombs i x&&!(l.items.any λy=>decide (y.dot=x)))]
 ·have e:allI (λi x=>xw x&&wC l.tombs i x&&!(l.items.any λy=>decide (y.dot=x))) l.tombs=tombsB l:=by
   unfold tombsB;rw [uC,rising_allI,uf,uf,allI_iff,allI_iff,uu,uu];constructor
   ·intro h;refine ⟨⟨λx hx=>?_,λi x hx=>?_⟩,λx hx=>?_⟩
    ·obtain ⟨i,hi⟩:=tn.1 hx;have:=h i x hi;simp only [uf] at this;exact this.1.1
    ·have:=h i x hx;simp only [uf] at this;exact this.1.2
    ·obtain ⟨i,hi⟩:=tn.1 hx;have:=h i x hi;simp only [uf] at this;exact this.2
   ·rintro ⟨⟨p,m⟩,s⟩ i x hx
    have c:=uG hx;simp only [uf];exact ⟨⟨p x c,m i x hx⟩,s x c⟩
  rw [e];cases tombsB l <;> rfl
 ·intro i x hx;have hi:i < l.tombs.length:=(ud.1 hx).1;simp only [dotMay_is,ua,dotCompare_is,leafXhas_is];cases hd:xw x
  ·simp [zN]
  rcases i with _ | j
  ·cases hh:(l.items.any λy=>decide (y.dot=x)) <;> simp [zN,wC]
  ·rw [qf (by simp only [maxLen] at g ⊢;omega),pos_succ];have t:(j:Int) < (l.tombs.length:Int):=by omega
   have o:wC l.tombs (j+1) x=qD (l.tombs.getD j default) x:=by unfold wC;simp
   have e:=dotCmp_lt (l.tombs.getD j default) x;rw [zi (by intro _;omega),o,uz];generalize l.tombs.getD j default=y at e ⊢;simp only [tq,BEq.rfl,u2,ut,ua,e,tD];cases hlt:qD y x
   ·simp
   ·cases hh:(l.items.any λy=>decide (y.dot=x)) <;> simp
theorem leafMay_is (hi:l.items.length<=maxLen) (j:l.tombs.length<=maxLen):leafMay l=some (leafB l):=by
 unfold leafMay leafB;simp only [leafSame_is,leafXisTime_is,dotMay_is,leafXisText_is,leafXitems_is hi,leafXtombs_is j,dotEq,ua];rcases l with ⟨t,n,e,d,g,c,h⟩
 simp only [GE.mk.injEq,zeroB,sf,xJ];by_cases h1:t=1
 ·simp only [h1,ut];congr 1;rw [uC];simp [rf];intros;exact r7.symm
 by_cases h2:t=2
 ·subst h2;by_cases h0:e=0
  ·subst h0;by_cases hd:d=⟨⟨0,0⟩,0⟩
   ·by_cases hx:g=[]
    ·simp [hd,hx];rw [uC];simp [rf]
    ·simp [hd,hx]
   ·have u:((0:Int)==0&&!decide (d=⟨⟨0,0⟩,0⟩))=true:=by simp [hd]
    simp [hd];intro o;rcases d with ⟨⟨s,m⟩,p⟩
    simp_all
  ·cases htt:vN e <;> cases hdd:xw d <;> cases hxx:decide (g.length<=40) <;> simp_all [rf];rw [uC];simp [rf]
 by_cases h3:t=3
 ·subst h3;cases ha:(c.all (vr false)&&riseB c&&onceB c) <;> cases hb:tombsB ⟨3,n,e,d,g,c,h⟩ <;> simp [rf];rw [uC];simp [rf];intros;exact r7.symm
 by_cases h4:t=4
 ·subst h4;cases ha:(c.all (vr true)&&riseB c&&onceB c) <;> simp [rf];rw [uC];simp [rf];intros;exact r7.symm
 simp [h1,h2,h3,h4]

theorem ref05Item_is (L:List GF) (d:GC):ref05Item L d=some (q8 (λx=>decide (x.dot=d)) L):=by
 unfold ref05Item;rw [loopL_first (λx:GF=>decide (x.dot=d)) (λi _=>(i:Int)) _ _ (λi x _=>by rw [dotEq])];unfold q8;cases h:L.findIdx? (λx=>decide (x.dot=d)) with
 | none=>simp
 | some j =>
  obtain ⟨c,_⟩:=sG.1 h;simp [ul c]
theorem ref05Tomb_is (L:List GC) (d:GC):ref05Tomb L d=some (L.any λx=>decide (x=d)):=by
 unfold ref05Tomb;rw [lp_all0 (r:=true) (λx:GC=>!decide (x=d)) (λi x _=>by rw [dotEq];cases decide (x=d) <;> rfl)];have e:L.any (λx=>decide (x=d))=!L.all (λx=>!decide (x=d)):=by rw [uC];simp
 rw [e];cases L.all (λx=>!decide (x=d)) <;> rfl
theorem first_nodup (L:List GF):(∀(i:Nat) (x:GF),L[i]?=some x->q8 (λy:GF=>decide (y.dot=x.dot)) L=(i:Int)) ↔ (L.map (·.dot)).Nodup:=by
 constructor
 ·intro h;rw [r8,tE];intro i j hi c p e;simp only [uD] at hi c;simp only [List.getElem_map] at e;have m:=h i _ (ul hi);have o:=h j _ (ul c);rw [e] at m;rw [m] at o;omega
 ·intro h i x hx;obtain ⟨hi,rfl⟩:=ud.1 hx;unfold q8;have:L.findIdx? (λy=>decide (y.dot=L[i].dot))=some i:=by
   rw [sG];refine ⟨hi,by simp,λj c=>?_⟩;have g:j < L.length:=by omega
   simp only [uh];intro e;rw [r8,tE] at h;exact h j i (by simpa using g) (by simpa using hi) c (by simpa using e)
  rw [this]
def itemR (t:Int) (x:GF):Bool:=xw x.dot&&decide (x.text.length<=40)&&(decide (t ≠ 3) || decide (x.time=0))&&(decide (t ≠ 4) || vN x.time)
def tailB (l:GE):Bool:=l.items.all (itemR l.typ)&&onceB l.items&&l.items.all (λx=>!(l.tombs.any λy=>decide (y=x.dot)))&&riseB l.items&&(l.tombs.all xw&&rising l.tombs)
theorem items_allI (l:GE):allI (λi x=>itemR l.typ x&&(decide (q8 (λy:GF=>decide (y.dot=x.dot)) l.items=(i:Int))&&(!(l.tombs.any λy=>decide (y=x.dot))&&(decide (i=0) || aheadI (prevI l.items i) x)))) l.items =
  (l.items.all (itemR l.typ)&&onceB l.items&&l.items.all (λx=>!(l.tombs.any λy=>decide (y=x.dot)))&&riseB l.items):=by
 rw [uC,allI_iff];simp only [uf,uh,onceB,riseB,allI_iff,uu,<- first_nodup];constructor
 ·intro h;refine ⟨⟨⟨λx hx=>?_,λi x hx=>(h i x hx).2.1⟩,λx hx=>?_⟩,λi x hx=>(h i x hx).2.2.2⟩
  ·obtain ⟨i,hi⟩:=tn.1 hx;exact (h i x hi).1
  ·obtain ⟨i,hi⟩:=tn.1 hx;exact (h i x hi).2.2.1
 ·rintro ⟨⟨⟨j,e⟩,m⟩,g⟩ i x hx
  have c:=uG hx;exact ⟨j x c,e i x hx,m x c,g i x hx⟩
theorem tombs_allI (c:List GC):allI (λi x=>xw x&&wC c i x) c=(c.all xw&&rising c):=by
 rw [uC,allI_iff,rising_allI];simp only [uf,allI_iff,uu];constructor
 ·intro h;exact ⟨λx hx=>by obtain ⟨i,hi⟩:=tn.1 hx;exact (h i x hi).1,λi x hx=>(h i x hx).2⟩
 ·rintro ⟨g,e⟩ i x hx
  exact ⟨g x (uG hx),e i x hx⟩
theorem ref05May_is (hi:l.items.length<=maxLen) (C:l.tombs.length<=maxLen) (h0:0<=l.time):ref05May l=some (leafB l):=by
 unfold ref05May;simp only [ref03May_is,ref05Item_is,ref05Tomb_is,ref05Ahead_is,ref03Less_is,ua,dotEq];generalize hT:lp (zn _ l.items 0 ()) _=T;have J:decide ((l.items.length:Int) > 0)=!decide (l.items=[]):=by cases l.items <;> simp
 have a2:decide ((l.tombs.length:Int) > 0)=!decide (l.tombs=[]):=by cases l.tombs <;> simp
 have p:T=some (tailB l):=by
  rw [<- hT,qv (r:=false) (λi x=>itemR l.typ x&&(decide (q8 (λy:GF=>decide (y.dot=x.dot)) l.items=(i:Int))&&(!(l.tombs.any λy=>decide (y=x.dot))&&(decide (i=0) || aheadI (prevI l.items i) x))))]
  ·rw [qv (r:=false) (λi x=>xw x&&wC l.tombs i x)]
   ·rw [items_allI,tombs_allI];unfold tailB;cases (l.items.all (itemR l.typ)&&onceB l.items&&l.items.all (λx=>!(l.tombs.any λy=>decide (y=x.dot)))&&riseB l.items) <;> cases (l.tombs.all xw&&rising l.tombs) <;> simp
   ·intro i x hx;have u:i < l.tombs.length:=(ud.1 hx).1;have o:l.tombs.getD i default=x:=by rw [uI,hx];rfl
    rcases i with _ | j
    ·cases hd:xw x <;> simp [zN,wC]
    ·rw [qf (by simp only [maxLen] at C ⊢;omega),pos_succ,uz,uz,o];have w:wC l.tombs (j+1) x=qD (l.tombs.getD j default) x:=by unfold wC;simp
     rw [zi (by intro _;omega),zi (by intro _;omega),w];generalize l.tombs.getD j default=y;cases hd:xw x <;> cases m:qD y x <;> simp
  ·intro i x hx;have u:i < l.items.length:=(ud.1 hx).1;have z:decide ((x.text.length:Int) > 40)=!decide (x.text.length<=40):=by rw [uC];simp;omega
   have G:(((l.typ==4)&&(decide (x.time < 1) || decide (x.time > 1099511627776))))=!(decide (l.typ ≠ 4) || vN x.time):=by
    rw [uC];simp [vN]
   have D:((l.typ==3)&&(x.time != 0))=!(decide (l.typ ≠ 3) || decide (x.time=0)):=by rw [uC];simp
   rw [z,G,D];have K:(((!xw x.dot || !decide (x.text.length<=40)) || !(decide (l.typ ≠ 3) || decide (x.time=0))) || !(decide (l.typ ≠ 4) || vN x.time))=!itemR l.typ x:=by unfold itemR;simp only [Bool.not_and]
   rw [K];have H:(q8 (λy:GF=>decide (y.dot=x.dot)) l.items != (i:Int))=!decide (q8 (λy:GF=>decide (y.dot=x.dot)) l.items=(i:Int)):=by rw [uC];simp
   cases hr:itemR l.typ x
   ·simp
   simp only [tq,BEq.rfl,ut,ua,tD];rw [H];cases hf:decide (q8 (λy:GF=>decide (y.dot=x.dot)) l.items=(i:Int))
   ·simp
   cases htb:l.tombs.any λy=>decide (y=x.dot)
   ·rcases i with _ | j
    ·simp [zN]
    ·rw [qf (by simp only [maxLen] at hi ⊢;omega),pos_succ,uz];rw [zi (by intro _;omega),zi (by intro _;omega)];have w:(if (l.items.getD j default).time ≠ x.time then decide ((l.items.getD j default).time < x.time) else qD (l.items.getD j default).dot x.dot)=aheadI (prevI l.items (j+1)) x:=rfl;rw [w];cases aheadI (prevI l.items (j+1)) x <;> simp
   ·simp
 subst p;clear hT;rw [J,a2];have E:(l.time != 0)=!decide (l.time=0):=by rw [uC];simp
 have z2:(l.time==0)=decide (l.time=0):=by rw [uC];simp
 have z3:(l.text==([]:zd))=decide (l.text=[]):=by rw [uC];simp
 have z4:decide (l.time > 1099511627776)=!decide (l.time<=1099511627776):=by rw [uC];simp
 have z5:decide ((l.text.length:Int) > 40)=!decide (l.text.length<=40):=by rw [uC];simp;omega
 have t:zeroB l=(decide (l.time=0)&&decide (l.dot=xJ)&&decide (l.text=[])):=rfl;have F:(l.dot.actor.rep==0&&(l.dot.actor.inc==0&&(l.dot.seq==0&&true)))=decide (l.dot=xJ):=dotEq l.dot xJ;rw [E,z2,z3,z4,z5,F];by_cases h1:l.typ=1
 ·have hi:decide (l.items=[])=true->tailB l=(l.tombs.all xw&&rising l.tombs):=by
   intro h;have:=u9 h;unfold tailB;rw [this];simp [onceB,riseB,allI]
  unfold leafB;simp only [h1,ut,t];cases hi2:decide (l.items=[])
  ·simp
  ·rw [hi hi2];cases ht2:decide (l.tombs=[])
   ·simp
   ·have:=u9 ht2;rw [this];cases decide (l.time=0) <;> cases decide (l.dot=xJ) <;> cases decide (l.text=[]) <;> simp [rising]
 by_cases h2:l.typ=2
 ·have hi:decide (l.items=[])=true->tailB l=(l.tombs.all xw&&rising l.tombs):=by
   intro h;have:=u9 h;unfold tailB;rw [this];simp [onceB,riseB,allI]
  unfold leafB;have g:vN l.time=(!decide (l.time=0)&&decide (l.time<=1099511627776)):=by
   unfold vN;rw [uC];simp;omega
  simp only [h2,ut,g];cases hn:decide (l.n=0)
  ·have:(l.n != 0)=true:=by simpa using hn
   simp [this]
  ·have c:l.n=0:=u9 hn;cases hi2:decide (l.items=[])
   ·simp [c]
   ·rw [hi hi2];cases ht2:decide (l.tombs=[])
    ·simp [c]
    ·have:=u9 ht2;rw [this];by_cases ht0:l.time=0
     ·cases hdd:decide (l.dot=xJ) <;> cases htx:decide (l.text=[]) <;> simp [c,ht0,rising]
     ·cases hm:decide (l.time<=1099511627776) <;> cases hdd:xw l.dot <;> cases htx:decide (l.text.length<=40) <;> simp [c,ht0,rising]
 by_cases h3:l.typ=3
 ·have v:(λx=>itemR 3 x)=vr false:=by
   funext x;unfold itemR vr;simp
  have s:tailB l=(l.items.all (vr false)&&riseB l.items&&onceB l.items&&tombsB l):=by
   unfold tailB tombsB;rw [h3,show itemR 3=vr false from v];have I:l.items.all (λx=>!(l.tombs.any λy=>decide (y=x.dot)))=l.tombs.all (λd=>!l.items.any λx=>decide (x.dot=d)):=by
    rw [uC];simp only [uu,t6,List.any_eq_false,uh];exact ⟨λh d hd x hx e=>h x hx d hd e.symm,λh x hx d hd e=>h d hd x hx e.symm⟩
   rw [I];cases l.items.all (vr false) <;> cases onceB l.items <;> cases riseB l.items <;> cases l.tombs.all xw <;> cases rising l.tombs <;> cases l.tombs.all (λd=>!l.items.any λx=>decide (x.dot=d)) <;> rfl
  unfold leafB;simp only [h3,s,t];cases hn:decide (l.n=0)
  ·have:(l.n != 0)=true:=by simpa using hn
   simp [this]
  ·have c:l.n=0:=u9 hn;cases decide (l.time=0) <;> cases decide (l.dot=xJ) <;> cases decide (l.text=[]) <;> simp [c]
 by_cases h4:l.typ=4
 ·have v:(λx=>itemR 4 x)=vr true:=by
   funext x;unfold itemR vr;simp
  have s:decide (l.tombs=[])=true->tailB l=(l.items.all (vr true)&&riseB l.items&&onceB l.items):=by
   intro h;have:=u9 h;unfold tailB;rw [h4,show itemR 4=vr true from v,this];cases l.items.all (vr true) <;> cases onceB l.items <;> cases riseB l.items <;> simp [rising]
  unfold leafB;simp only [h4,t];cases hn:decide (l.n=0)
  ·have:(l.n != 0)=true:=by simpa using hn
   simp [this]
  ·have c:l.n=0:=u9 hn;cases ht2:decide (l.tombs=[])
   ·simp [c]
   ·rw [s ht2];cases decide (l.time=0) <;> cases decide (l.dot=xJ) <;> cases decide (l.text=[]) <;> simp [c]
 have m:l.typ < 1 \/ 4 < l.typ:=by omega
 have:(decide (l.typ < 1) || decide (l.typ > 4))=true:=by simp;omega
 unfold leafB;rw [this,ur h1,ur h2,ur h3,ur h4];simp

mutual
def GA.dep:GA->Nat
 | ⟨_,_,sb⟩=>GA.deps sb+1
def GA.deps:List GA->Nat
 | []=>0
 | x::r=>max x.dep (GA.deps r)
end
theorem dep_mem {x:GA}:∀{t:List GA},x ∈ t->x.dep<=GA.deps t
 | [],h=>by cases h
 | y::r,h=>by
  simp only [GA.deps];rcases uv.1 h with rfl | h
  ·omega
  ·have:=dep_mem h;omega
theorem wX (x:GA):GA.deps x.subs+1=x.dep:=by cases x;simp [GA.dep]
def Small (t:List GA):Prop:=GA.wfs t/\GA.bks t<=16777216
theorem bk_pos (x:GA):1<=x.bk:=by cases x;simp only [GA.bk];omega
theorem len_bks:∀t:List GA,t.length<=GA.bks t
 | []=>by simp [GA.bks]
 | x::r=>by have:=len_bks r;have:=bk_pos x;simp only [GA.bks,uc];omega
theorem bk_mem {x:GA}:∀{t:List GA},x ∈ t->x.bk<=GA.bks t
 | [],h=>by cases h
 | y::r,h=>by
  simp only [GA.bks];rcases uv.1 h with rfl | h
  ·omega
  ·have:=bk_mem h;omega
theorem sum_len {α:Type} {f:α->Nat} (h:∀x,1<=f x):∀l:List α,l.length<=(l.map f).sum
 | []=>by simp
 | x::r=>by have:=sum_len h r;have:=h x;simp only [uc,ux,tM];omega
theorem sum_mem {α:Type} {f:α->Nat} {x:α}:∀{l:List α},x ∈ l->f x<=(l.map f).sum
 | [],h=>by cases h
 | y::r,h=>by
  simp only [ux,tM];rcases uv.1 h with rfl | h
  ·omega
  ·have:=sum_mem (f:=f) h;omega
theorem bk_node (x:GA):x.name.length+1+((x.leaves.map GE.bk).sum+1)+(GA.bks x.subs+1)<=x.bk:=by cases x;simp only [GA.bk];omega
theorem Small.subs {t:List GA} (h:Small t) {x:GA} (hx:x ∈ t):Small x.subs:=by
 refine ⟨?_,by have:=bk_mem hx;have:=bk_node x;have:=h.2;omega⟩;have:=(GA.wfs_iff t).1 h.1 x hx;cases x;simp only [GA.wf] at this;exact this.2.2
theorem Small.len {t:List GA} (h:Small t):t.length<=16777216:=uE (len_bks t) h.2
structure LeafOk (l:GE):Prop where
 items:l.items.length<=16777216
 tombs:l.tombs.length<=16777216
 time:0<=l.time
theorem Small.leaf {t:List GA} (h:Small t) {x:GA} (hx:x ∈ t) {l:GE} (c:l ∈ x.leaves):LeafOk l:=by
 have m:=bk_mem hx;have g:=bk_node x;have s:=h.2;have j:l.bk<=_:=sum_mem (f:=GE.bk) c;have p:(l.items.map GF.bk).sum+1+((l.tombs.map GC.bk).sum+1)<=l.bk:=by unfold GE.bk;omega
 have e:=sum_len (f:=GF.bk) (λx=>by unfold GF.bk;omega) l.items;have o:=sum_len (f:=GC.bk) (λx=>by unfold GC.bk;omega) l.tombs;refine ⟨by omega,by omega,?_⟩;have:=(GA.wfs_iff t).1 h.1 x hx;cases x;simp only [GA.wf] at this;have:=this.2.1.2 l c;unfold GE.wf at this;have:=this.2.2.1;unfold InK at this;simp [IntKind.min,IntKind.max,IntKind.signed,IntKind.bits] at this;omega
theorem Small.leaves {t:List GA} (h:Small t) {x:GA} (hx:x ∈ t):x.leaves.length<=16777216:=by
 have g:=bk_mem hx;have e:=bk_node x;have j:=h.2;have c:=sum_len (f:=GE.bk) (λx=>by unfold GE.bk;omega) x.leaves;omega
def upB (t:List GA):Bool:=allI (λi x=>decide (i=0) || Op.bytesLess (t.getD (i - 1) default).name x.name) t
def leavesB (ls:List GE):Bool:=allI (λi l=>leafB l&&(decide (i=0) || decide ((ls.getD (i - 1) default).typ < l.typ))) ls
mutual
def nodeB (d:Nat):GA->Bool
 | ⟨nm,ls,sb⟩=>nameB nm&&!(ls.isEmpty&&sb.isEmpty)&&((sb.isEmpty || decide (d+1 < 3))&&upB sb&&xZ (d+1) sb)&&leavesB ls
def xZ (d:Nat):List GA->Bool
 | []=>true
 | x::r=>nodeB d x&&xZ d r
end
def treeB (d:Nat) (t:List GA):Bool:=(t.isEmpty || decide (d < 3))&&upB t&&xZ d t
theorem yK (d:Nat):∀t,xZ d t=t.all (nodeB d)
 | []=>rfl
 | x::r=>by simp only [xZ,uY,yK d r]
theorem nodeB_eq (d:Nat) (x:GA):nodeB d x=(nameB x.name&&!(x.leaves.isEmpty&&x.subs.isEmpty)&&treeB (d+1) x.subs&&leavesB x.leaves):=by cases x;rfl
theorem up_nodes (d:Nat) (t:List GA):allI (λi x=>nodeB d x&&(decide (i=0) || Op.bytesLess (t.getD (i - 1) default).name x.name)) t=(upB t&&xZ d t):=by
 rw [uC,allI_iff,yK];simp only [uf,upB,allI_iff,uu];constructor
 ·intro h;exact ⟨λi x hx=>(h i x hx).2,λx hx=>by obtain ⟨i,hi⟩:=tn.1 hx;exact (h i x hi).1⟩
 ·rintro ⟨e,c⟩ i x hx
  exact ⟨c x (uG hx),e i x hx⟩
theorem lenE {α:Type} (l:List α):((l.length:Int)==0)=l.isEmpty:=by cases l <;> simp;omega
theorem treeXmayN_is:∀(n:Nat) (t:List GA) (d:Nat),GA.deps t < n->d<=3->Small t->qg n t (d:Int)=some (treeB d t)
 | 0,_,_,h,_,_=>by omega
 | n+1,t,d,h,hd,hs=>by
  unfold qg;by_cases hc:(decide ((t.length:Int) > 0)&&((d:Int)==3))=true
  ·rw [um hc];simp only [uf,uh,sf] at hc;have:t.isEmpty=false:=by cases t <;> simp at hc ⊢
   have c:decide (d < 3)=false:=uS (by omega);simp [treeB,this,c]
  ·rw [ur hc];have v:(t.isEmpty || decide (d < 3))=true:=by
    simp only [uf,uh,sf] at hc;cases t with
    | nil=>rfl
    | cons x r=>simp at hc ⊢;omega
   have M:=hs.len;rw [qv (r:=false) (λi x=>nodeB d x&&(decide (i=0) || Op.bytesLess (t.getD (i - 1) default).name x.name)),up_nodes]
   ·unfold treeB;rw [v,u2];cases upB t&&xZ d t <;> rfl
   ·intro i x hx;have hi:i < t.length:=(ud.1 hx).1;have o:=uG hx;have C:=dep_mem o;have F:=wX x;have D:0 < t.length:=by omega
    have c:d < 3:=by
     simp only [uf,uh,sf] at hc;omega
    have I:IntKind.wrap .i64 ((d:Int)+1)=((d+1:Nat):Int):=by rw [wG (by omega)];omega
    have K:=treeXmayN_is n x.subs (d+1) (by omega) (by omega) (hs.subs o);have E:=hs.leaves o;have G:=(hs.subs o).len;have u:IntKind.wrap .i64 ((x.leaves.length:Int)+(x.subs.length:Int))=((x.leaves.length+x.subs.length:Nat):Int):=by rw [wG (by omega)];omega
    have H:((((x.leaves.length+x.subs.length:Nat):Int))==0)=(x.leaves.isEmpty&&x.subs.isEmpty):=by
     cases h1:x.leaves <;> cases h2:x.subs <;> simp <;> omega
    rw [opIsName_is,I,K,u,H,nodeB_eq];have w:lp (zn (λ(s:Nat) (z:GE) (s2:Unit)=>(((leafMay z).bind λm=>(zN ((((!m)==false)&&((decide ((s:Int) > (0:Int)))==true))=true->0<=(IntKind.wrap .i64 ((s:Int) - (1:Int)))/\(IntKind.wrap .i64 ((s:Int) - (1:Int))) < ((x.leaves).length:Int)) ((if ((!m) || ((decide ((s:Int) > (0:Int)))&&(decide (((x.leaves).getD (IntKind.wrap .i64 ((s:Int) - (1:Int))).toNat default).typ >= z.typ))))=true then some (.ret (.ret false)) else some (.nxt ()))))):Option (Out (Out Bool Unit) Unit))) x.leaves 0 ()) (λ(s2:Unit)=>some (.nxt ()))=if leavesB x.leaves=true then some (.nxt ()) else some (.ret false):=by
     rw [qv (r:=.ret false) (λi l=>leafB l&&(decide (i=0) || decide ((x.leaves.getD (i - 1) default).typ < l.typ)))]
     ·rfl
     ·intro j l g;have J:j < x.leaves.length:=(ud.1 g).1;have p:=hs.leaf o (uG g);rw [leafMay_is (by have:=p.items;simp only [maxLen];omega) (by have:=p.tombs;simp only [maxLen];omega)];simp only [ua];rcases j with _ | j
      ·cases leafB l <;> simp [zN]
      ·rw [qf (by simp only [maxLen];omega),pos_succ,uz,zi (by intro _;omega)];have e:decide ((x.leaves.getD j default).typ >= l.typ)=!decide ((x.leaves.getD j default).typ < l.typ):=by rw [uC];simp
       rw [e,sa];generalize (x.leaves.getD j default)=y;cases leafB l <;> cases decide (y.typ < l.typ) <;> simp
    rw [w];simp only [ua];rcases i with _ | j
    ·cases nameB x.name <;> cases (x.leaves.isEmpty&&x.subs.isEmpty) <;> cases treeB (d+1) x.subs <;> cases leavesB x.leaves <;> simp [zN]
    ·rw [qf (by simp only [maxLen];omega),pos_succ,uz,zi (by intro _;omega),sa];generalize (t.getD j default)=y;cases nameB x.name <;> cases (x.leaves.isEmpty&&x.subs.isEmpty) <;> cases treeB (d+1) x.subs <;> cases leavesB x.leaves <;> cases Op.bytesLess y.name x.name <;> simp
theorem treeMay_is {t:List GA} (h:Small t):treeMay t=some (treeB 0 t):=by
 unfold treeMay treeXmay;have:=anyN_of (g:=λn=>qg n t 0) (r:=treeB 0 t) (GA.deps t+1) (λn c=>by have:=treeXmayN_is n t 0 (by omega) (by omega) h;simpa using this);rw [this];rfl
theorem ref07XmayN_is:∀(n:Nat) (t:List GA) (d:Nat),GA.deps t < n->d<=3->Small t->vm n t (d:Int)=some (treeB d t)
 | 0,_,_,h,_,_=>by omega
 | n+1,t,d,h,hd,hs=>by
  unfold vm;have G:=hs.len;rw [qv (r:=false) (λi x=>decide (d < 3)&&(nodeB d x&&(decide (i=0) || Op.bytesLess (t.getD (i - 1) default).name x.name)))]
  ·have e:allI (λi x=>decide (d < 3)&&(nodeB d x&&(decide (i=0) || Op.bytesLess (t.getD (i - 1) default).name x.name))) t=treeB d t:=by
    unfold treeB;rw [Bool.and_assoc,<- up_nodes];cases hd3:decide (d < 3)
    ·cases t with
     | nil=>rfl
     | cons x r=>simp [allI]
    ·simp
   rw [e];cases treeB d t <;> rfl
  ·intro i x hx;have hi:i < t.length:=(ud.1 hx).1;have o:=uG hx;have v:=dep_mem o;have z:=wX x;have p:decide ((d:Int) >= 3)=!decide (d < 3):=by rw [uC];simp;omega
   rw [p];by_cases hd3:d < 3
   ·have C:IntKind.wrap .i64 ((d:Int)+1)=((d+1:Nat):Int):=by rw [wG (by omega)];omega
    have F:=ref07XmayN_is n x.subs (d+1) (by omega) (by omega) (hs.subs o);have w:=hs.leaves o;rw [ref04IsName_is,C,F,nodeB_eq,lenE,lenE];have u:lp (zn (λ(c:Nat) (D:GE) (s2:Unit)=>(((ref05May D).bind λv50=>(zN ((((!v50)==false)&&((decide ((c:Int) > (0:Int)))==true))=true->0<=(IntKind.wrap .i64 ((c:Int) - (1:Int)))/\(IntKind.wrap .i64 ((c:Int) - (1:Int))) < ((x.leaves).length:Int)) ((zN ((((!v50)==false)&&((decide ((c:Int) > (0:Int)))==true))=true->0<=(c:Int)/\(c:Int) < ((x.leaves).length:Int)) ((if ((!v50) || ((decide ((c:Int) > (0:Int)))&&(decide (((x.leaves).getD (IntKind.wrap .i64 ((c:Int) - (1:Int))).toNat default).typ >= ((x.leaves).getD (c:Int).toNat default).typ))))=true then some (.ret (.ret false)) else some (.nxt ()))))))):Option (Out (Out Bool Unit) Unit))) x.leaves 0 ()) (λ(s2:Unit)=>some (.nxt ()))=if leavesB x.leaves=true then some (.nxt ()) else some (.ret false):=by
     rw [qv (r:=.ret false) (λi l=>leafB l&&(decide (i=0) || decide ((x.leaves.getD (i - 1) default).typ < l.typ)))]
     ·rfl
     ·intro j l g;have E:j < x.leaves.length:=(ud.1 g).1;have s:x.leaves.getD j default=l:=by rw [uI,g];rfl
      have m:=hs.leaf o (uG g);rw [ref05May_is (by have:=m.items;simp only [maxLen];omega) (by have:=m.tombs;simp only [maxLen];omega) m.time];simp only [ua];rcases j with _ | j
      ·cases leafB l <;> simp [zN]
      ·rw [qf (by simp only [maxLen];omega),pos_succ,uz,uz,s,zi (by intro _;omega),zi (by intro _;omega)];have e:decide ((x.leaves.getD j default).typ >= l.typ)=!decide ((x.leaves.getD j default).typ < l.typ):=by rw [uC];simp
       rw [e,sa];generalize (x.leaves.getD j default)=y;cases leafB l <;> cases decide (y.typ < l.typ) <;> simp
    rw [u,uN hd3];simp only [ua,tq,tD,u2,BEq.rfl,ut];rcases i with _ | j
    ·cases nameB x.name <;> cases (x.leaves.isEmpty&&x.subs.isEmpty) <;> cases treeB (d+1) x.subs <;> cases leavesB x.leaves <;> simp [zN]
    ·rw [qf (by simp only [maxLen];omega),pos_succ,uz,zi (by intro _;omega),sa];generalize (t.getD j default)=y;cases nameB x.name <;> cases (x.leaves.isEmpty&&x.subs.isEmpty) <;> cases treeB (d+1) x.subs <;> cases leavesB x.leaves <;> cases Op.bytesLess y.name x.name <;> simp
   ·rw [uS hd3];simp [zN]
theorem ref07May_is {t:List GA} (h:Small t):ref07May t=some (treeB 0 t):=by
 unfold ref07May ref07Xmay;have:=anyN_of (g:=λn=>vm n t 0) (r:=treeB 0 t) (GA.deps t+1) (λn c=>by have:=ref07XmayN_is n t 0 (by omega) (by omega) h;simpa using this);rw [this];rfl

def endsB (p:List zd):Bool:=p.getLast?==some [42,42]
def wa (p:List zd):List zd:=if endsB p then p.dropLast else p
def agreeB:List zd->List zd->Bool
 | [],_=>true
 | x::t,y::r=>(x==[42] || x==y)&&agreeB t r
 | _::_,[]=>false
def patB (p:List zd):Bool:=(decide (0 < (wa p).length) || endsB p)&&decide ((wa p).length<=3)&&(wa p).all (λs=>s==[42] || nameB s)
def matchB (p path:List zd):Bool:=patB p&&xA path&&decide ((wa p).length<=path.length)&&(endsB p || decide (path.length<=(wa p).length))&&agreeB (wa p) path
theorem wrapLen (h0:0 < n) (h:n<=maxLen):IntKind.wrap .i64 ((n:Int) - 1)=((n - 1:Nat):Int):=by
 simp only [maxLen] at h;rw [wG (by omega)];omega
theorem last_getD {p:List zd} (h0:0 < p.length):(p.getD (p.length - 1) default==[42,42])=endsB p:=by
 unfold endsB;rw [rj,uI,ul (by omega)];rw [uC];simp
theorem slc_init {p:List zd} (h0:0 < p.length):slc p 0 ((p.length - 1:Nat):Int)=some p.dropLast:=by
 rw [x9 (by omega)];simp [List.dropLast_eq_take]
theorem pathsXparts_is {p:List zd} (h:p.length<=maxLen):qk p=some (wa p,endsB p):=by
 unfold qk wa;by_cases h0:0 < p.length
 ·rw [wrapLen h0 h,zi (by intro _;omega)];have e:decide ((p.length:Int) > 0)=true:=by simpa using h0
  rw [e,uz,last_getD h0,slc_init h0];cases endsB p <;> rfl
 ·have:p=[]:=uQ (by omega);subst this;rfl
theorem pathsMayPattern_is {p:List zd} (h:p.length<=maxLen):wg p=some (patB p):=by
 unfold wg patB;rw [pathsXparts_is h];simp only [ua];rw [contains_is (q:=λs=>!(s==[42] || nameB s)) _ (λx _=>by
  unfold vi;rw [opIsName_is];cases h1:(x==([42]:zd)) <;> simp)]
 have e:(wa p).any (λs=>!(s==[42] || nameB s))=!(wa p).all (λs=>s==[42] || nameB s):=by rw [uC];simp
 have c:decide (((wa p).length:Int) > 0)=decide (0 < (wa p).length):=sn.2 (by omega);rw [e,bnd3,c];cases ((decide (0 < (wa p).length) || endsB p)&&decide ((wa p).length<=3)) <;> simp
theorem agree_loop (path:List zd) {f:Nat->zd->Unit->Option (Out Bool Unit)} (c:∀i x,i < path.length->f i x ()=if (!(x==([42]:zd))&&!(x==path.getD i default))=true then some (.ret false) else some (.nxt ())) :
  ∀(L:List zd) (i:Nat),L.length+i<=path.length->zn f L i ()=if agreeB L (path.drop i)=true then some (.inr ()) else some (.inl false)
 | [],i,_=>by cases path.drop i <;> rfl
 | x::t,i,h=>by
  simp only [uc] at h;have hi:i < path.length:=by omega
  have g:=agree_loop path c t (i+1) (by omega);have e:path.drop i=path[i]::path.drop (i+1):=(sO hi).symm;have j:path.getD i default=path[i]:=by rw [uI,ul hi];rfl
  simp only [zn,c i x hi,e,agreeB,j];cases h1:(x==([42]:zd)) <;> cases h2:(x==path[i]) <;> simp [g]
theorem pathsMatch_is {p path:List zd} (h:p.length<=maxLen):pathsMatch p path=some (matchB p path):=by
 unfold pathsMatch matchB;rw [pathsXparts_is h,pathsMayPattern_is h];simp only [ua,opMayPath_is];cases hp:patB p
 ·simp
 ·cases hq:xA path
  ·simp
  ·by_cases hl:(wa p).length<=path.length
   ·have c:decide ((path.length:Int) < ((wa p).length:Int))=false:=uS (by omega);have e:decide ((path.length:Int) > ((wa p).length:Int))=!decide (path.length<=(wa p).length):=by
     rw [uC];simp
    rw [c,e,agree_loop path (λi x hi=>by rw [zi (by intro _;omega),uz]) _ 0 (by omega)];simp only [sC,uN hl];cases decide (path.length<=(wa p).length) <;> cases endsB p <;> cases agreeB (wa p) path <;> simp
   ·have c:decide ((path.length:Int) < ((wa p).length:Int))=true:=uN (by omega);rw [c,uS hl];simp

section
variable {S X:Type}
def foldF (y:S->X->Option (Bool×S)):List X->S->Option (Bool×S)
 | [],s=>some (true,s)
 | x::r,s=>(y s x).bind λv=>if v.1=true then foldF y r v.2 else some (false,v.2)
theorem foldF_app (y:S->X->Option (Bool×S)):∀(a b:List X) (s:S),foldF y (a++b) s=(foldF y a s).bind λv=>if v.1=true then foldF y b v.2 else some v
 | [],b,s=>by simp [foldF]
 | x::r,b,s=>by
  simp only [tc,foldF];cases y s x with
  | none=>rfl
  | some v =>
   simp only [ua];cases hv:v.1
   ·simp
   ·simp only [ut];exact foldF_app y r b v.2
theorem foldF_stp (y:S->X->Option (Bool×S)):∀(xs:List X) (s:S),
  foldF (stp (λ(e:S) (g:X)=>(((y e g).bind λv=>(if (!v.1)=true then some (false,(v.2,some 0)) else some (true,(v.2,none)))):Option (Bool×(S×Option Nat))))) xs (s,none)=(foldF y xs s).map λv=>(v.1,(v.2,if v.1=true then none else some 0))
 | [],s=>rfl
 | x::r,s=>by
  simp only [foldF,stp];cases y s x with
  | none=>rfl
  | some v =>
   rcases v with ⟨b,c⟩
   cases b
   ·simp
   ·simp only [tq,up,uJ,ua,ut];exact foldF_stp y r c
theorem loop_tell {ρ α:Type} (y:S->X->Option (Bool×S)) (g:α->X) (r:S->ρ) {f:Nat->α->S->Option (Out ρ S)}:∀(L:List α) (i:Nat) (s:S),(∀i x s,x ∈ L->f i x s=(y s (g x)).bind λv=>if (!v.1)=true then some (.ret (r v.2)) else some (.nxt v.2)) ->
  zn f L i s=(foldF y (L.map g) s).map λv=>if v.1=true then .inr v.2 else .inl (r v.2)
 | [],_,_,_=>rfl
 | x::t,i,s,h=>by
  simp only [zn,h i x s (tI ..),ux,foldF];cases y s (g x) with
  | none=>rfl
  | some v =>
   rcases v with ⟨b,c⟩
   cases b
   ·rfl
   ·simp only [tq,up,uJ,ua,ut];exact loop_tell y g r t (i+1) c λi x s hx=>h i x s (tw _ hx)
theorem loop_tells {ρ α:Type} (y:S->X->Option (Bool×S)) (g:α->List X) (r:S->ρ) {f:Nat->α->S->Option (Out ρ S)}:∀(L:List α) (i:Nat) (s:S),(∀i x s,x ∈ L->f i x s=(foldF y (g x) s).map λv=>if v.1=true then .nxt v.2 else .ret (r v.2)) ->
  zn f L i s=(foldF y (L.flatMap g) s).map λv=>if v.1=true then .inr v.2 else .inl (r v.2)
 | [],_,_,_=>rfl
 | x::t,i,s,h=>by
  simp only [zn,h i x s (tI ..),tx,foldF_app];cases foldF y (g x) s with
  | none=>rfl
  | some v =>
   rcases v with ⟨b,c⟩
   cases b
   ·rfl
   ·simp only [uX,ut,ua];exact loop_tells y g r t (i+1) c λi x s hx=>h i x s (tw _ hx)
end
theorem clone_is {α:Type} {L:List α} (h:L.length<=yH):(nilq L λc=>(if c=true then some ([]:List α) else (zN ((([]:List α)).length+L.length<=yH) (some (([]:List α)++L)))))=some L:=by
 refine nilq_of ?_ λe=>by subst e;rfl
 rw [zi (by simpa using h)];simp
theorem cloneString_is {L:List zd} (h:L.length<=yH):xz L=some L:=clone_is h
theorem cloneItem_is (h:L.length<=yH):xG L=some L:=clone_is h
theorem cloneDot_is {L:List GC} (h:L.length<=yH):xW L=some L:=clone_is h
theorem pathsXown_is (h:LeafOk l):pathsXown l=some l:=by
 unfold pathsXown;rw [cloneItem_is (by have:=h.items;unfold yH;omega),cloneDot_is (by have:=h.tombs;unfold yH;omega)];rfl
mutual
def rowsN (a:List zd):GA->List GH
 | ⟨nm,ls,sb⟩=>ls.map (λl=>GH.mk (a++[nm]) l)++zu (a++[nm]) sb
def zu (a:List zd):List GA->List GH
 | []=>[]
 | x::r=>rowsN a x++zu a r
end
mutual
def wW (is:List zd->Bool) (a:List zd):GA->GA
 | ⟨nm,ls,sb⟩=>⟨nm,if is (a++[nm])=true then ls else [],wo is (a++[nm]) sb⟩
def wo (is:List zd->Bool) (a:List zd):List GA->List GA
 | []=>[]
 | x::r=>if (wW is a x).leaves.isEmpty&&(wW is a x).subs.isEmpty then wo is a r else wW is a x::wo is a r
end
theorem yS (a:List zd) (x:GA):rowsN a x=x.leaves.map (λl=>GH.mk (a++[x.name]) l)++zu (a++[x.name]) x.subs:=by cases x;rfl
theorem yF (a:List zd):∀t,zu a t=t.flatMap (rowsN a)
 | []=>rfl
 | x::r=>by simp only [zu,tx,yF a r]
theorem keepN_eq (is:List zd->Bool) (a:List zd) (x:GA):wW is a x=⟨x.name,if is (a++[x.name])=true then x.leaves else [],wo is (a++[x.name]) x.subs⟩:=by cases x;rfl
theorem keepL_filter (is:List zd->Bool) (a:List zd):∀t,wo is a t=(t.map (wW is a)).filter λy=>!(y.leaves.isEmpty&&y.subs.isEmpty)
 | []=>rfl
 | x::r=>by
  simp only [wo,ux,sN,keepL_filter is a r];cases ((wW is a x).leaves.isEmpty&&(wW is a x).subs.isEmpty) <;> simp
theorem rows_is {S:Type}:∀(n:Nat) (S:Type) (y:S->GH->Option (Bool×S)) (t:List GA) (a:List zd) (s:S),GA.deps t < n->Small t->a.length+GA.deps t<=40000000->wm n S y t a s=(foldF y (zu a t) s).map (·.2)
 | 0,_,_,_,_,_,h,_,_=>by omega
 | n+1,S,y,t,a,s,h,hs,ha=>by
  unfold wm;rw [loop_tells y (rowsN a) (λs=>s),<- yF]
  ·cases foldF y (zu a t) s with
   | none=>rfl
   | some v=>rcases v with ⟨b,c⟩;cases b <;> rfl
  ·intro i x o hx;have e:=dep_mem hx;have m:=wX x;rw [cloneString_is (by unfold yH;omega),ua,zi (by simp [yH];omega)];rw [loop_tell y (λl=>GH.mk (a++[x.name]) l) (λs=>Out.ret s)]
   ·rw [yS,foldF_app];cases foldF y (x.leaves.map λl=>GH.mk (a++[x.name]) l) o with
    | none=>rfl
    | some v =>
     rcases v with ⟨b,c⟩
     cases b
     ·rfl
     ·simp only [uX,ut,x4,ua];unfold qU;simp only [ua];rw [rows_is (S:=Unit) n _ _ x.subs (a++[x.name]) (c,none) (by omega) (hs.subs hx) (by simp;omega),foldF_stp];cases foldF y (zu (a++[x.name]) x.subs) c with
      | none=>rfl
      | some v=>rcases v with ⟨b,s2⟩;cases b <;> rfl
   ·intro j l s2 g;rw [cloneString_is (by simp [yH];omega),ua,pathsXown_is (hs.leaf hx g),ua]

theorem loop_keep {α c ρ:Type} (p:α->Bool) (g:α->c) {f:Nat->α->List c->Option (Out ρ (List c))}:∀(L:List α) (i:Nat) (s:List c),s.length+L.length<=yH->(∀i x s,x ∈ L->s.length+1<=yH->f i x s=if p x=true then some (.nxt (s++[g x])) else some (.nxt s)) ->
  zn f L i s=some (.inr (s++(L.filter p).map g))
 | [],_,s,_,_=>by simp [zn]
 | x::t,i,s,hl,h=>by
  simp only [uc] at hl;simp only [zn,h i x s (tI ..) (by omega),sN];cases hp:p x
  ·simp only [up,uJ];exact loop_keep p g t (i+1) s (by omega) λi x s hx=>h i x s (tw _ hx)
  ·simp only [ut];rw [loop_keep p g t (i+1) (s++[g x]) (by simp;omega) λi x s hx=>h i x s (tw _ hx)];simp
theorem keep_len (is:List zd->Bool) (a:List zd) (t:List GA):(wo is a t).length<=t.length:=by
 rw [keepL_filter];exact uE (sF _ _) (by simp)
theorem kept_is (is:List zd->Bool) (f:List zd->Option Bool) (z:∀p,f p=some (is p)):∀(n:Nat) (t:List GA) (a:List zd),GA.deps t < n->Small t->a.length+GA.deps t<=40000000->vn n t a f=some (wo is a t)
 | 0,_,_,h,_,_=>by omega
 | n+1,t,a,h,hs,ha=>by
  unfold vn;have H:=hs.len;have key:∀(L:List GA) (i:Nat) (s:List GA),(∀x ∈ L,x ∈ t)->s.length+L.length<=16777216->∀{F:Nat->GA->List GA->Option (Out (List GA) (List GA))},(∀i x s,x ∈ t->s.length+1<=16777216->F i x s=some (.nxt (if ((wW is a x).leaves.isEmpty&&(wW is a x).subs.isEmpty)=true then s else s++[wW is a x]))) ->
    zn F L i s=some (.inr (s++wo is a L)):=by
   intro L
   induction L with
   | nil=>intro i s _ _ F _;simp [zn,wo]
   | cons x r ih =>
    intro i s w c F o;simp only [uc] at c;simp only [zn,o i x s (w x (by simp)) (by omega),wo];cases he:((wW is a x).leaves.isEmpty&&(wW is a x).subs.isEmpty)
    ·simp only [up,uJ];rw [ih (i+1) _ (λy u=>w y (by simp [u])) (by simp;omega) o];simp
    ·simp only [ut];exact ih (i+1) s (λy u=>w y (by simp [u])) (by omega) o
  rw [key t 0 [] (λ_ h=>h) (by simpa using H)]
  ·simp
  ·intro i x s hx c;have D:=dep_mem hx;have E:=wX x;have e:=hs.leaves hx;have C:=(hs.subs hx).len;rw [cloneString_is (by unfold yH;omega),ua,zi (by simp [yH];omega),kept_is is f z n x.subs (a++[x.name]) (by omega) (hs.subs hx) (by simp;omega),ua];rw [loop_keep (λ_=>is (a++[x.name])) (λl=>l) x.leaves 0 [] (by simp [yH];omega)]
   ·simp only [x4,uT,List.map_id_fun',id];have g:(x.leaves.filter λ_=>is (a++[x.name]))=(if is (a++[x.name])=true then x.leaves else []):=by
     cases is (a++[x.name]) <;> simp
    rw [g,<- keepN_eq];have I:=keep_len is (a++[x.name]) x.subs;have G:decide ((IntKind.wrap .i64 (((if is (a++[x.name])=true then x.leaves else []).length:Int)+((wo is (a++[x.name]) x.subs).length:Int))) > 0)=!((wW is a x).leaves.isEmpty&&(wW is a x).subs.isEmpty):=by
     rw [keepN_eq];have J:(if is (a++[x.name])=true then x.leaves else []).length<=16777216:=by cases is (a++[x.name]) <;> simp [e]
     rw [wG (by omega)];cases hA:(if is (a++[x.name])=true then x.leaves else []) <;> cases hB:wo is (a++[x.name]) x.subs <;> simp <;> omega
    rw [G];cases ((wW is a x).leaves.isEmpty&&(wW is a x).subs.isEmpty)
    ·simp only [tV,ut,up,uJ];rw [zi (by simp [yH];omega)]
    ·simp
   ·intro j l s2 m v;rw [z,ua,pathsXown_is (hs.leaf hx m),ua,zi (by simpa using v)]
theorem deps_bks:∀(n:Nat) (t:List GA),GA.deps t<=n->GA.deps t<=GA.bks t:=by
 intro n
 induction n with
 | zero=>intro t c;omega
 | succ n ih =>
  intro t
  induction t with
  | nil=>intro _;simp [GA.deps]
  | cons x r ihr =>
   intro c;simp only [GA.deps] at c ⊢;simp only [GA.bks];have h:=ihr (by omega);have e:=wX x;have j:=ih x.subs (by omega);have g:=bk_node x;omega
theorem Small.dep {t:List GA} (h:Small t):GA.deps t<=16777216:=uE (deps_bks _ t (uj _)) h.2
theorem keptAll_is (is:List zd->Bool) (f:List zd->Option Bool) (c:∀p,f p=some (is p)) {t:List GA} (h:Small t):pathsXkept t [] f=some (wo is [] t):=by
 unfold pathsXkept;have e:=h.dep;rw [anyN_of (GA.deps t+1) λn g=>kept_is is f c n t [] (by omega) h (by simp;omega)]
theorem rows_len:∀(n:Nat) (t:List GA) (a:List zd),GA.deps t<=n->(zu a t).length<=GA.bks t:=by
 intro n
 induction n with
 | zero =>
  intro t a h;cases t with
  | nil=>simp [zu]
  | cons x r=>simp only [GA.deps] at h;have:=wX x;omega
 | succ n ih =>
  intro t
  induction t with
  | nil=>intro a _;simp [zu]
  | cons x r ihr =>
   intro a c;simp only [GA.deps] at c;simp only [GA.bks,zu,ue];have j:=ihr a (by omega);have e:=wX x;have o:=ih x.subs (a++[x.name]) (by omega);have g:=bk_node x;have m:=sum_len (f:=GE.bk) (λx=>by unfold GE.bk;omega) x.leaves;rw [yS];simp only [ue,uD];omega
theorem fold_app {X:Type}:∀(xs s:List X),s.length+xs.length<=yH->foldF (stp (λ(e:List X) (c:X)=>((zN (e.length+([c]:List X).length<=yH) (some (true,((e++[c]),none)))):Option (Bool×(List X×Option Nat))))) xs (s,none)=some (true,(s++xs,none))
 | [],s,_=>by simp [foldF]
 | x::r,s,h=>by
  simp only [uc] at h;simp only [foldF,stp];rw [zi (by simp;omega)];simp only [ua,ut];rw [fold_app r (s++[x]) (by simp;omega)];simp
theorem pathsRows_is {t:List GA} (h:Small t):pathsRows t=some (if treeB 0 t=true then zu [] t else []):=by
 unfold pathsRows;rw [treeMay_is h,ua];cases treeB 0 t
 ·rfl
 ·have hd:=h.dep;have c:=rows_len _ t [] (uj _);have e:=h.2;simp only [tq,up,uJ,ut,qU,ua,vE,wH,pathsXrowsC1];rw [anyN_of (r:=(zu [] t,none)) (GA.deps t+1) λn g=>by
   rw [rows_is (S:=Unit) n _ _ t [] ([],none) (by omega) h (by simp;omega),fold_app _ _ (by simp [yH];omega)];rfl]
  rfl

theorem wM:∀{a b c:List UInt8},Op.bytesLess a b=true->Op.bytesLess b c=true->Op.bytesLess a c=true
 | _,[],_,h,_=>by cases ‹List UInt8› <;> simp [Op.bytesLess] at h
 | a,b::y,[],_,h=>by simp [Op.bytesLess] at h
 | [],b::y,c::z,_,_=>rfl
 | a::x,b::y,c::z,g,e=>by
  simp only [Op.bytesLess,u5,uh,uf,sf] at g e ⊢;rcases g with g | ⟨rfl,g⟩
  ·rcases e with e | ⟨rfl,e⟩
   ·left;exact UInt8.lt_trans g e
   ·left;exact g
  ·rcases e with e | ⟨rfl,e⟩
   ·left;exact e
   ·right;exact ⟨rfl,wM g e⟩
theorem upB_iff (t:List GA):upB t=true ↔ t.Pairwise (λx y=>Op.bytesLess x.name y.name=true):=by
 unfold upB;rw [allI_iff];constructor
 ·intro h;rw [tE];intro i j hi c e;obtain ⟨k,rfl⟩:∃k,j=i+1+k:=⟨j - i - 1,by omega⟩
  induction k with
  | zero =>
   have:=h (i+1) _ (ul c);simp only [sa,u5,uh] at this;rcases this with h0 | h0
   ·omega
   ·rw [uI,ul hi] at h0;exact h0
  | succ k ih =>
   have g:=ih (by omega) (by omega);have:=h (i+1+(k+1)) _ (ul c);simp only [u5,uh] at this;rcases this with h0 | h0
   ·omega
   ·rw [show i+1+(k+1) - 1=i+1+k by omega,uI,ul (by omega:i+1+k < t.length)] at h0;exact wM g h0
 ·intro h i x hx;rcases i with _ | i
  ·rfl
  ·rw [tE] at h;obtain ⟨hi,rfl⟩:=ud.1 hx;have:=h i (i+1) (by omega) hi (by omega);simp only [sa,u5];right;rw [uI,ul (by omega:i < t.length)];exact this
section
variable (is:List zd->Bool)
theorem keep_up (a:List zd) {t:List GA} (h:upB t=true):upB (wo is a t)=true:=by
 rw [upB_iff] at h ⊢;rw [keepL_filter];refine List.Pairwise.filter _ ?_;rw [pg];exact h.imp λ{x y} h=>by rw [keepN_eq,keepN_eq];exact h
theorem wS {M:List GA->Prop} (h0:M []) (c:∀x r,M x.subs->M r->M (x::r)):∀t,M t:=by
 have key:∀(n:Nat) (t:List GA),GA.deps t<=n->M t:=by
  intro n
  induction n with
  | zero =>
   intro t h;cases t with
   | nil=>exact h0
   | cons x r=>simp only [GA.deps] at h;have:=wX x;omega
  | succ n ih =>
   intro t
   induction t with
   | nil=>intro _;exact h0
   | cons x r ihr =>
    intro h;simp only [GA.deps] at h;have:=wX x;exact c x r (ih x.subs (by omega)) (ihr (by omega))
 exact λt=>key _ t (uj _)
theorem keep_may:∀(t:List GA) (d:Nat) (a:List zd),treeB d t=true->treeB d (wo is a t)=true:=by
 intro t;have key:∀(t:List GA),(∀(d:Nat) (a:List zd),treeB d t=true->treeB d (wo is a t)=true)/\(∀(d:Nat) (a:List zd),xZ d t=true->xZ d (wo is a t)=true):=by
  refine wS ⟨λd a h=>h,λd a h=>h⟩ ?_;intro x r hx g;have e:∀(d:Nat) (a:List zd),xZ d (x::r)=true->xZ d (wo is a (x::r))=true:=by
   intro d a h;simp only [xZ,uf] at h;simp only [wo];cases he:((wW is a x).leaves.isEmpty&&(wW is a x).subs.isEmpty)
   ·simp only [up,uJ,xZ,uf];refine ⟨?_,g.2 d a h.2⟩;have c:=h.1;rw [nodeB_eq] at c ⊢;simp only [uf,t6] at c ⊢;rw [keepN_eq] at he ⊢;refine ⟨⟨⟨c.1.1.1,he⟩,hx.1 (d+1) _ c.1.2⟩,?_⟩;show leavesB (if is (a++[x.name])=true then x.leaves else [])=true;split
    ·exact c.2
    ·rfl
   ·simp only [ut];exact g.2 d a h.2
  refine ⟨λd a h=>?_,e⟩;unfold treeB at h ⊢;simp only [uf] at h ⊢;refine ⟨⟨?_,keep_up is a h.1.2⟩,e d a h.2⟩;have:decide (d < 3)=true:=by simpa using h.1.1
  rw [this];simp
 exact (key t).1
theorem keep_rows:∀(t:List GA) (a:List zd),zu a (wo is a t)=(zu a t).filter λr=>is r.path:=by
 refine wS (λa=>rfl) ?_;intro x r hx c a;have e:rowsN a (wW is a x)=(rowsN a x).filter λr=>is r.path:=by
  rw [keepN_eq,yS,yS,tJ,<- hx];simp only;congr 1;cases h:is (a++[x.name])
  ·simp [h]
  ·simp only [ut];rw [tR.2];intro r c;obtain ⟨l,_,rfl⟩:=tm.1 c;exact h
 simp only [wo,zu,tJ,<- c,<- e];cases he:((wW is a x).leaves.isEmpty&&(wW is a x).subs.isEmpty)
 ·simp [zu]
 ·simp only [ut];simp only [uf,rM] at he;rw [yS,he.1,he.2];simp [zu]
theorem keep_small:∀(t:List GA) (a:List zd),(GA.wfs t->GA.wfs (wo is a t))/\GA.bks (wo is a t)<=GA.bks t:=by
 refine wS (λa=>⟨λh=>h,uj _⟩) ?_;intro x r hx c a;have p:(wW is a x).bk<=x.bk:=by
  have:=(hx (a++[x.name])).2;cases x with
  | mk nm ls sb =>
   simp only [wW,GA.bk] at this ⊢;have e:((if is (a++[nm])=true then ls else []).map GE.bk).sum<=(ls.map GE.bk).sum:=by split <;> simp
   omega
 have g:x.wf->(wW is a x).wf:=by
  have:=(hx (a++[x.name])).1;cases x with
  | mk nm ls sb =>
   simp only [wW,GA.wf] at this ⊢
   rintro ⟨m,e,o⟩
   refine ⟨m,?_,this o⟩;split
   ·exact e
   ·exact ⟨by simp,λy j=>by cases j⟩
 simp only [wo];split
 ·refine ⟨λh=>(c a).1 (by simp only [GA.wfs] at h;exact h.2),?_⟩;have:=(c a).2;simp only [GA.bks];omega
 ·refine ⟨λh=>?_,?_⟩
  ·simp only [GA.wfs] at h ⊢;exact ⟨g h.1,(c a).1 h.2⟩
  ·have:=(c a).2;simp only [GA.bks];omega
theorem Small.keep {t:List GA} (h:Small t) (a:List zd):Small (wo is a t):=⟨(keep_small is t a).1 h.1,uE (keep_small is t a).2 h.2⟩
end
theorem ref05Same_refl (l:GE):vG l l=some true:=by
 unfold vG;simp only [dotEq,itemEq];rw [ur (by simp),qv (r:=false) (λ_ _=>true),qv (r:=false) (λ_ _=>true)]
 ·simp [allI]
 ·intro i x hx;have hi:=(ud.1 hx).1;have c:l.tombs[i]=x:=(ud.1 hx).2;rw [idx_at hi,c];simp
 ·intro i x hx;have hi:=(ud.1 hx).1;have c:l.items[i]=x:=(ud.1 hx).2;rw [idx_at hi,c];simp
theorem ref07SameN_refl:∀(n:Nat) (t:List GA),GA.deps t < n->xX n t t=some true
 | 0,_,h=>by omega
 | n+1,t,h=>by
  unfold xX;rw [ur (by simp),qv (r:=false) (λ_ _=>true)]
  ·simp [allI]
  ·intro i x hx;have hi:=(ud.1 hx).1;have m:t[i]=x:=(ud.1 hx).2;have hd:t.getD i default=x:=by rw [uI,hx];rfl
   have g:=dep_mem (uG hx);have p:=wX x;rw [idx_at hi,m];simp only [ua,uz,hd,ref07SameN_refl n x.subs (by omega)];rw [zi (by intro _;omega),zi (by intro _;omega),zi (by intro _;omega),zi (by intro _;omega)];rw [qv (r:=.ret false) (λ_ _=>true)]
   ·simp [allI]
   ·intro j l e;have o:=(ud.1 e).1;have c:x.leaves[j]=l:=(ud.1 e).2;rw [idx_at o,c];simp [ref05Same_refl]
theorem ref07Same_refl (t:List GA):qS t t=some true:=by
 unfold qS;exact anyN_of (GA.deps t+1) λn c=>ref07SameN_refl n t (by omega)

theorem pathsSelect_is {t:List GA} (h:Small t) {p:List zd} (c:p.length<=maxLen):vp t p=some (if (treeB 0 t&&patB p)=true then (wo (matchB p) [] t,0) else ([],2)):=by
 unfold vp;rw [treeMay_is h,pathsMayPattern_is c,keptAll_is (matchB p) _ (λq=>by unfold pathsSelectC1;rw [pathsMatch_is c];rfl) h];cases treeB 0 t <;> cases patB p <;> rfl
theorem half_mid {lo hi:Nat} (h:lo < hi) (m:hi<=4611686018427387904):IntKind.wrap .i64 (Int.fdiv (IntKind.wrap .u64 (IntKind.wrap .i64 ((lo:Int)+(hi:Int)))) (2 ^ (min (1:Int).toNat (IntKind.bits .u64))))=(((lo+hi) / 2:Nat):Int):=by
 have c:IntKind.wrap .i64 ((lo:Int)+(hi:Int))=((lo+hi:Nat):Int):=by rw [wG (by omega)];omega
 have j:IntKind.wrap .u64 (((lo+hi:Nat):Int))=((lo+hi:Nat):Int):=by rw [IntKind.wrap_u64];omega
 have e:(2:Int) ^ (min (1:Int).toNat (IntKind.bits .u64))=2:=by decide
 rw [c,j,e,Int.fdiv_eq_ediv_of_nonneg _ (by decide)];have g:((lo+hi:Nat):Int) / 2=(((lo+hi) / 2:Nat):Int):=by omega
 rw [g,wG (by omega)]
theorem bs_loop {h:GA->zd->Option Int} {x:List GA} {s:zd} {c:Nat} (hx:x.length<=16777216) (w:∀i n,x[i]?=some n->∃v,h n s=some v/\(i < c->v < 0)/\(c<=i->0<=v)) :
  ∀(k lo hi:Nat),hi - lo<=k->lo<=c->c<=hi->hi<=x.length->zX (ρ:=Int×Bool) (λ(g:Int×Int)=>((if (decide (g.1 < g.2))=true then ((yx x (IntKind.wrap .i64 ((Int.fdiv (IntKind.wrap .u64 ((IntKind.wrap .i64 (g.1+g.2)))) (2 ^ (min (1:Int).toNat (IntKind.bits .u64))))))).bind λz=>((h z s).bind λj=>(if (decide (j < (0:Int)))=true then some (.nxt ((IntKind.wrap .i64 ((IntKind.wrap .i64 ((Int.fdiv (IntKind.wrap .u64 ((IntKind.wrap .i64 (g.1+g.2)))) (2 ^ (min (1:Int).toNat (IntKind.bits .u64))))))+(1:Int))),g.2)) else some (.nxt (g.1,(IntKind.wrap .i64 ((Int.fdiv (IntKind.wrap .u64 ((IntKind.wrap .i64 (g.1+g.2)))) (2 ^ (min (1:Int).toNat (IntKind.bits .u64))))))))))) else some (.brk (g.1,g.2))):Option (Out _ (Int×Int)))) ((lo:Int),(hi:Int))=some (.inr ((c:Int),(c:Int))):=by
 intro k
 induction k with
 | zero =>
  intro lo hi u m p hh;obtain rfl:lo=hi:=by omega
  obtain rfl:lo=c:=by omega
  rw [yk];simp
 | succ k ih =>
  intro lo hi u m p hh;rw [yk];by_cases hlt:lo < hi
  ·have hd:decide ((lo:Int) < (hi:Int))=true:=uN (by omega);simp only [hd,ut,half_mid hlt (by omega)];have o:(lo+hi) / 2 < x.length:=by omega
   rw [idx_at o,ua];obtain ⟨v,C,t,y⟩:=w ((lo+hi) / 2) _ (ul o);rw [C,ua];by_cases hcm:(lo+hi) / 2 < c
   ·rw [uN (t hcm),um rfl];simp only;have e:IntKind.wrap .i64 ((((lo+hi) / 2:Nat):Int)+1)=(((lo+hi) / 2+1:Nat):Int):=by rw [wG (by omega)];omega
    rw [e];exact ih _ _ (by omega) (by omega) p hh
   ·rw [uS (by have:=y (by omega);omega)];simp only [up,uJ];exact ih _ _ (by omega) m (by omega) (by omega)
  ·obtain rfl:lo=hi:=by omega
   obtain rfl:lo=c:=by omega
   simp
theorem bs_is {e:GA->zd->Option Int} {x:List GA} {s:zd} {c:Nat} (hx:x.length<=16777216) (j:c<=x.length) (g:∀i n,x[i]?=some n->∃v,e n s=some v/\(i < c->v < 0)/\(c<=i->0<=v)) :
  zw x s e=(if c < x.length then e (x.getD c default) s else some 1).bind λv=>some ((c:Int),(decide (c < x.length)&&(v==0))):=by
 unfold zw;have:=bs_loop hx g x.length 0 x.length (by omega) (sq _) j (uj _);simp only [Int.natCast_zero] at this;rw [show ((0:Int),(x.length:Int))=(((0:Nat):Int),(x.length:Int)) from rfl] at *;rw [this];simp only [lp];by_cases h:c < x.length
 ·have hd:decide ((c:Int) < (x.length:Int))=true:=uN (by omega);simp only [hd,h,ut,uz,tG,pf,u2];rw [zi (by intro _;omega)]
 ·have hd:decide ((c:Int) < (x.length:Int))=false:=uS (by omega);simp only [hd,h,uJ,pL,rH,ua];rw [zi (by intro hh;cases hh)];simp
theorem cmp_less {b:List UInt8}:Lib.compareBytes a b < 0 ↔ Op.bytesLess a b=true:=by
 induction a generalizing b with
 | nil=>cases b <;> simp [Lib.compareBytes,Op.bytesLess]
 | cons x a ih =>
  cases b with
  | nil=>simp [Lib.compareBytes,Op.bytesLess]
  | cons y b =>
   simp only [Lib.compareBytes,Op.bytesLess];by_cases h1:x < y
   ·simp [h1]
   ·by_cases h2:y < x
    ·have:¬ x=y:=by rintro rfl;exact h1 h2
     simp [h1,h2,this]
    ·have:x=y:=UInt8.le_antisymm (UInt8.not_lt.1 h2) (UInt8.not_lt.1 h1);simp [h1,h2,this,ih]
theorem cmp_self (a:List UInt8):Lib.compareBytes a a=0:=by
 induction a with
 | nil=>rfl
 | cons x a ih=>simp [Lib.compareBytes,ih]
theorem layC1_is (n:GA) (s:zd):xK n s=some (Lib.compareBytes n.name s):=rfl
theorem cloneLeaf_is {L:List GE} (h:L.length<=yH):wV L=some L:=clone_is h
theorem cloneNode_is {L:List GA} (h:L.length<=yH):xN L=some L:=clone_is h
theorem x5 (h:n<=16777217):n<=yH:=uE h (by decide)
theorem own_is (h:LeafOk l):diffXown l=some l:=by
 unfold diffXown;rw [cloneItem_is (x5 (s5 h.items)),ua,cloneDot_is (x5 (s5 h.tombs)),ua]
def preR (a:List zd) (r:GH):GH:=⟨a++r.path,r.leaf⟩
theorem rows_pre:∀(t:List GA) (a b:List zd),zu (a++b) t=(zu b t).map (preR a):=by
 refine wS (λ_ _=>rfl) ?_;intro x r hx c a b;rw [yF,yF,tx,tx,<- yF,<- yF,c,sj];congr 1;rw [yS,yS,uB,hx,sj,rF];rfl
theorem rows_path:∀(t:List GA) (a:List zd) (r:GH),r ∈ zu a t->a.length < r.path.length/\r.path.length<=a.length+GA.deps t:=by
 refine wS (λ_ _ h=>by simp [zu] at h) ?_;intro x r hx e a q c;rw [yF,tx,uA,<- yF] at c;have j:x.dep<=GA.deps (x::r):=dep_mem (by simp);have g:=wX x;have m:GA.deps r<=GA.deps (x::r):=by
  simp only [GA.deps];omega
 rcases c with c | c
 ·rw [yS,uA,tm] at c;rcases c with ⟨l,_,rfl⟩ | c
  ·simp;omega
  ·have:=hx _ _ c;simp only [ue,uc,ug] at this;omega
 ·have:=e _ _ c;omega
theorem leaf_typ (h:leafB l=true):1<=l.typ/\l.typ<=4:=by
 unfold leafB at h;split at h
 ·omega
 split at h
 ·omega
 split at h
 ·omega
 split at h
 ·omega
 ·cases h
theorem leaves_up (h:leavesB ls=true):ls.Pairwise (λx y=>x.typ < y.typ)/\∀l ∈ ls,leafB l=true:=by
 unfold leavesB at h;rw [allI_iff] at h;have p:∀l ∈ ls,leafB l=true:=λl o=>by
  obtain ⟨i,hi⟩:=tn.1 o;have:=h i l hi;simp only [uf] at this;exact this.1
 refine ⟨?_,p⟩;have c:∀i,(hi:i+1 < ls.length)->ls[i].typ < ls[i+1].typ:=λi hi=>by
  have:=h (i+1) _ (ul hi);simp only [Nat.add_eq_zero_iff,rS,and_false,pL,tD,uf,uh,sa] at this;have e:ls.getD i default=ls[i]:=by simp [uI,ul (show i < ls.length by omega)]
  rw [e] at this;exact this.2
 rw [tE];intro i j hi m g;obtain ⟨k,rfl⟩:∃k,j=i+1+k:=⟨j - (i+1),by omega⟩
 clear g
 induction k with
 | zero=>exact c i m
 | succ k ih=>exact Int.lt_trans (ih (by omega)) (c (i+1+k) m)
theorem Small.tail {x:GA} {r:List GA} (h:Small (x::r)):Small r:=by
 refine ⟨(GA.wfs_iff r).2 λy c=>(GA.wfs_iff _).1 h.1 y (by simp [c]),?_⟩;have:=h.2;simp only [GA.bks] at this;omega
def pathLt (a b:List zd):Prop:=(∃y q,b=a++y::q) \/ ∃p x y a' b',a=p++x::a'/\b=p++y::b'/\Op.bytesLess x y=true
theorem vS:∀(a:List UInt8),Op.bytesLess a a=false
 | []=>rfl
 | x::a=>by simp [Op.bytesLess,vS a]
theorem less_ne {b:List UInt8} (h:Op.bytesLess a b=true):a ≠ b:=by
 rintro rfl;rw [vS] at h;cases h
theorem cmpS_self (x:zd):yA x x=some 0:=by
 unfold yA xL;simp [vS]
theorem cmpS_less {x y:zd} (h:Op.bytesLess x y=true):yA x y=some (-1):=by
 unfold yA xL;simp [h]
noncomputable def cmpF (s2:List zd):Nat->zd->Unit->Option (Out Int Unit):=λn x _=>if (decide ((n:Int) >= ((s2).length:Int)))=true then some (.ret (1:Int)) else ((yx s2 (n:Int)).bind λy12=>((yA x y12).bind λv13=>(if (v13 != (0:Int))=true then some (.ret v13) else some (.nxt ()))))
theorem cmpP_eq (a b:List zd):yB a b=lp (zn (cmpF b) a 0 ()) λ_=>(if (decide (((a).length:Int) < ((b).length:Int)))=true then some (-1:Int) else some (0:Int)):=rfl
theorem cmp_pre {s2:List zd}:∀(p a:List zd) (q b:List zd),s2=q++(p++b)->zn (cmpF s2) (p++a) q.length ()=zn (cmpF s2) a (q.length+p.length) ()
 | [],a,q,b,_=>rfl
 | x::p,a,q,b,h=>by
  have c:q.length < s2.length:=by rw [h];simp
  have hx:yx s2 (q.length:Int)=some x:=zG (by rw [h];simp);have e:cmpF s2 q.length x ()=some (.nxt ()):=by
   unfold cmpF;rw [uS (by omega)];simp only [up,uJ,hx,ua,cmpS_self,sI]
  simp only [tc,zn,e];have:=cmp_pre (s2:=s2) p a (q++[x]) b (by rw [h];simp);rw [ue,sS] at this;rw [this];congr 1;simp only [uc];omega
theorem cmpP_lt {a b:List zd} (h:pathLt a b):yB a b=some (-1):=by
 rw [cmpP_eq];rcases h with ⟨y,q,rfl⟩ | ⟨p,x,y,a',c,rfl,rfl,h⟩
 ·have:=cmp_pre (s2:=a++y::q) a [] [] (y::q) rfl;rw [tp,ug] at this;rw [this];simp only [zn,x4];rw [um (uN (by simp only [ue,uc];omega))]
 ·have:=cmp_pre (s2:=p++y::c) p (x::a') [] (y::c) rfl;rw [ug] at this;rw [this];have hx:yx (p++y::c) ((0+p.length:Nat):Int)=some y:=zG (by simp);have e:cmpF (p++y::c) (0+p.length) x ()=some (.ret (-1)):=by
   unfold cmpF;rw [uS (by simp only [ue,uc];omega)];simp only [up,uJ,hx,ua,cmpS_less h];rfl
  simp only [zn,e,lp_inl]
theorem cmpP_self (a:List zd):yB a a=some 0:=by
 rw [cmpP_eq];have:=cmp_pre (s2:=a) a [] [] [] (by simp);rw [tp,ug] at this;rw [this];simp only [zn,x4];rw [ur (by simp)]
def rowLt (r q:GH):Prop:=pathLt r.path q.path \/ (r.path=q.path/\r.leaf.typ < q.leaf.typ)
def leaf0:GE:=GE.mk (0:Int) (0:Int) (0:Int) (GC.mk (GI.mk (0:Int) (0:Int)) (0:Int)) ([]:zd) ([]:List GF) ([]:List GC)
theorem qN {t:List GA} {a:List zd} (h:r ∈ zu a t):∃x ∈ t,∃w,r.path=a++x.name::w:=by
 rw [yF,List.mem_flatMap] at h;obtain ⟨x,hx,h⟩:=h;refine ⟨x,hx,?_⟩;rw [yS,uA,tm] at h;rcases h with ⟨l,_,rfl⟩ | h
 ·exact ⟨[],rfl⟩
 ·have:=rows_pre x.subs (a++[x.name]) [];rw [tp] at this;rw [this,tm] at h;obtain ⟨q,_,rfl⟩:=h;exact ⟨q.path,by simp [preR]⟩
theorem rows_lt:∀(t:List GA) (d:Nat) (a:List zd),upB t=true->xZ d t=true->(zu a t).Pairwise rowLt:=by
 refine wS (λ_ _ _ _=>List.Pairwise.nil) ?_;intro x r hx G d a s C;rw [yF,tx,<- yF];rw [upB_iff,tg] at s;simp only [xZ,uf] at C;obtain ⟨g,p⟩:=C;rw [nodeB_eq] at g;simp only [uf] at g;obtain ⟨⟨⟨_,_⟩,c⟩,u⟩:=g;simp only [treeB,uf] at c;obtain ⟨o,_⟩:=leaves_up u;rw [tr];refine ⟨?_,G d a (upB_iff r |>.2 s.2) p,λq m I j=>?_⟩
 ·rw [yS,tr];refine ⟨?_,hx (d+1) _ c.1.2 c.2,λq m I j=>?_⟩
  ·rw [pg];exact o.imp λh=>.inr ⟨rfl,h⟩
  ·rw [tm] at m;obtain ⟨l,_,rfl⟩:=m;obtain ⟨y,_,w,e⟩:=qN j;exact .inl (.inl ⟨y.name,w,e⟩)
 ·have D:∃w,q.path=a++x.name::w:=by
   have:q ∈ zu a [x]:=by rw [yF];simpa using m
   obtain ⟨z,v,w,e⟩:=qN this;simp only [uw] at v;subst v;exact ⟨w,e⟩
  obtain ⟨w,H⟩:=D;obtain ⟨y,F,w',E⟩:=qN j;exact .inl (.inr ⟨a,x.name,y.name,w,w',H,E,s.1 y F⟩)
structure RowOk' (r:GH):Prop where
 path:xA r.path=true
 leaf:leafB r.leaf=true
 ok:LeafOk r.leaf
theorem rows_ok:∀(t:List GA) (d:Nat) (a:List zd),Small t->treeB d t=true->a.length=d->a.all nameB=true->∀r ∈ zu a t,RowOk' r:=by
 have key:∀(t:List GA),(∀(d:Nat) (a:List zd),Small t->xZ d t=true->d < 3->a.length=d->a.all nameB=true->∀r ∈ zu a t,RowOk' r):=by
  refine wS (λ_ _ _ _ _ _ _ _ h=>by simp [zu] at h) ?_;intro x r hx j d a hs z hd p s q c;rw [yF,tx,uA,<- yF] at c;simp only [xZ,uf] at z;obtain ⟨g,v⟩:=z;rcases c with c | c
  ·rw [nodeB_eq] at g;simp only [uf] at g;obtain ⟨⟨⟨w,_⟩,e⟩,y⟩:=g;have o:(a++[x.name]).all nameB=true:=by rw [tX,s];simpa using w
   rw [yS,uA,tm] at c;rcases c with ⟨l,m,rfl⟩ | c
   ·refine ⟨?_,(leaves_up y).2 l m,hs.leaf (by simp) m⟩;simp only [xA,o,tP,ue,uc,ug,uf,uh];omega
   ·simp only [treeB,uf,u5,rM,uh] at e;rcases e.1.1 with h0 | h0
    ·rw [h0] at c;simp [zu] at c
    ·exact hx (d+1) _ (hs.subs (by simp)) e.2 h0 (by simp [p]) o q c
  ·exact j d a hs.tail v hd p s q c
 intro t d a hs u p s r j;simp only [treeB,uf,u5,rM,uh] at u;rcases u.1.1 with h0 | h0
 ·rw [h0] at j;simp [zu] at j
 ·exact key t d a hs u.2 h0 p s r j
theorem side0 (k:Int):wA false leaf0 k=some true:=by
 unfold wA;simp only [tV,ut];have:=leafSame_is leaf0 leaf0;unfold leaf0 at this ⊢;rw [this];simp
theorem side1 (h:leafB l=true) (c:LeafOk l):wA true l l.typ=some true:=by
 unfold wA;have e:leafMay l=some true:=by
  rw [leafMay_is (uE c.items (by decide)) (uE c.tombs (by decide)),h]
 simp [e]
theorem tree_nil (d:Nat):treeB d []=true:=by simp [treeB,xZ,upB,allI]
theorem leafNew_tot (k:Int):∃v,qw k=some v:=by unfold qw;split <;> exact ⟨_,rfl⟩
theorem pathB_ne {p:List zd} (h:xA p=true):p ≠ []:=by
 rintro rfl
 simp [xA] at h
theorem loopW_inv {ρ:Type} {f:σ->Option (Out ρ σ)} (j g:σ->Prop) (m:σ->Nat) (h:∀s,j s->(∃c,f s=some (.brk c)/\g c) \/ ∃c,f s=some (.nxt c)/\j c/\m c < m s):∀(k:Nat) (s:σ),m s=k->j s->∃c,zX f s=some (.inr c)/\g c:=by
 intro k
 induction k using Nat.strongRecOn with
 | _ k ih =>
  intro s t hi;rw [yk];rcases h s hi with ⟨c,e,o⟩ | ⟨c,e,p,u⟩
  ·exact ⟨c,by rw [e],o⟩
  ·rw [e];exact ih (m c) (by omega) c rfl p
theorem idxF_is {q:GE->Bool} {del:GE->Option Bool}:∀(L:List GE) (n:Nat),(∀x ∈ L,del x=some (q x)) ->
  (zn (λ(g:Nat) (o:GE) (_:Unit)=>(((del o).bind λp=>(if p=true then some (.ret (g:Int)) else some (.nxt ()))):Option (Out Int Unit))) L n ()=some (.inr ())/\∀x ∈ L,q x=false) \/
  ∃A x B,L=A++x::B/\q x=true/\(∀y ∈ A,q y=false)/\zn (λ(g:Nat) (o:GE) (_:Unit)=>(((del o).bind λp=>(if p=true then some (.ret (g:Int)) else some (.nxt ()))):Option (Out Int Unit))) L n ()=some (.inl ((n+A.length:Nat):Int))
 | [],n,_=>.inl ⟨rfl,by simp⟩
 | x::r,n,h=>by
  have hx:=h x (by simp);cases hq:q x with
  | true=>exact .inr ⟨[],x,r,rfl,hq,by simp,by simp [zn,hx,hq]⟩
  | false =>
   rcases idxF_is r (n+1) (λy c=>h y (by simp [c])) with ⟨e,m⟩ | ⟨A,y,B,rfl,s,m,e⟩
   ·refine .inl ⟨by simp only [zn,hx,hq,ua];exact e,?_⟩;intro y c;rcases uv.1 c with rfl | c
    ·exact hq
    ·exact m y c
   ·refine .inr ⟨x::A,y,B,rfl,s,?_,?_⟩
    ·intro z j;rcases uv.1 j with rfl | j
     ·exact hq
     ·exact m z j
    ·simp only [zn,hx,hq,ua];rw [show n+(x::A).length=n+1+A.length by simp only [uc];omega];exact e
theorem wrap_a1 {a:Nat} (h:a<=16777216):IntKind.wrap .i64 ((a:Int)+1)=((a+1:Nat):Int):=wrap_add1 (uE (pr h) (by decide))
noncomputable def delF (del:GE->Option Bool) (n:Nat):Int×Int×(List GE)->Option (Out (List GE) (Int×Int×(List GE))):=λs1=>((zN ((s1.2.2).length=n) ((if (decide (s1.2.1 < ((n:Nat):Int)))=true then ((yx s1.2.2 s1.2.1).bind λy14=>((del y14).bind λv15=>(if (!v15)=true then ((yx s1.2.2 s1.1).bind λy17=>some (.nxt ((IntKind.wrap .i64 (s1.1+(1:Int))),(IntKind.wrap .i64 (s1.2.1+(1:Int))),(s1.2.2.set s1.1.toNat y14)))) else some (.nxt (s1.1,(IntKind.wrap .i64 (s1.2.1+(1:Int))),s1.2.2))))) else some (.brk (s1.1,s1.2.1,s1.2.2))))))
theorem delR_eq (e:List GE) (c:GE->Option Bool):yO e c=((zZ e c).bind λv1=>(if (v1==(-1:Int))=true then some e else (lp (zX (delF c e.length) (v1,(IntKind.wrap .i64 (v1+(1:Int))),e)) λ(g:Int×Int×(List GE))=>(zN (0<=g.1/\g.1<=((e.length:Nat):Int)) (((slc (g.2.2.take g.1.toNat++List.replicate (e.length - g.1.toNat) zLf) (0:Int) g.1).bind λm19=>some m19)))))):=rfl
theorem delF_run (z:L0.length<=16777216) (h:∀x ∈ L0,del x=some (q x)) {a0 b0:Nat} (E:a0 < b0) (D:b0<=L0.length) (G:L0.take a0=(L0.take b0).filter λx=>!q x) :
  ∃o,zX (delF del L0.length) ((a0:Int),(b0:Int),L0)=some (.inr o)/\∃a:Nat,o.1=(a:Int)/\a < L0.length/\o.2.2.length=L0.length/\o.2.2.take a=L0.filter λx=>!q x:=by
 refine loopW_inv (f:=delF del L0.length) (λs=>∃a b:Nat,s.1=(a:Int)/\s.2.1=(b:Int)/\a < b/\b<=L0.length/\s.2.2.length=L0.length/\s.2.2.take a=(L0.take b).filter (λx=>!q x)/\s.2.2.drop b=L0.drop b)
  _ (λs=>L0.length - s.2.1.toNat) ?_ _ _ rfl ⟨a0,b0,rfl,rfl,E,D,rfl,G,rfl⟩
 rintro ⟨i,j,M⟩ ⟨a,b,w,C,H,y,m,t,p⟩
 simp only at w C m t p;subst w C;simp only [delF,zN,m,ut];by_cases hb:b < L0.length
 ·right;have F:M[b]?=L0[b]?:=by
   have:=congrArg (λl=>l[0]?) p;simpa [uO] using this
  have u:L0[b]?=some L0[b]:=ul hb;have hd:=h L0[b] (sA hb);have g:yx M (b:Int)=some L0[b]:=by simp [yx,F]
  have c:yx M (a:Int)=some (M[a]'(by omega)):=by simp [yx]
  rw [um (by simp;omega),g,ua,hd,ua];have e:L0.take (b+1)=L0.take b++[L0[b]]:=by rw [pc,u];rfl
  cases hq:q L0[b] with
  | true =>
   refine ⟨((a:Int),((b+1:Nat):Int),M),by simp [wrap_a1 (uE y z)],⟨a,b+1,rfl,rfl,by omega,by omega,m,?_,?_⟩,by simp;omega⟩
   ·rw [t,e,tJ];simp [hq]
   ·have:=congrArg (λl=>l.drop 1) p;simpa [tN] using this
  | false =>
   refine ⟨(((a+1:Nat):Int),((b+1:Nat):Int),M.set a L0[b]),by simp [c,wrap_a1 (uE y z),wrap_a1 (show a<=16777216 by omega)],⟨a+1,b+1,rfl,rfl,by omega,by omega,by simpa using m,?_,?_⟩,by simp;omega⟩
   ·rw [pc,List.take_set_of_le (uj _),t,e,tJ,uL (by omega)];simp [hq]
   ·have:=congrArg (λl=>l.drop 1) p;rw [List.drop_set_of_lt (by omega)];simpa [tN] using this
 ·left;have v:b=L0.length:=by omega
  rw [ur (by simp;omega)];exact ⟨_,rfl,a,rfl,by omega,m,by rw [t,v,tL]⟩
theorem deleteR_is (t:L0.length<=16777216) (h:∀x ∈ L0,del x=some (q x)):yO L0 del=some (L0.filter λx=>!q x):=by
 rw [delR_eq];unfold zZ;rcases idxF_is L0 0 h with ⟨e,c⟩ | ⟨A,x,B,m,s,c,e⟩
 ·rw [e];simp only [lp,ua,tG,ut];rw [tR.2 (λx hx=>by rw [c x hx];rfl)]
 ·rw [e];have o:L0.length=A.length+1+B.length:=by rw [m];simp;omega
  simp only [lp,ua,uU];rw [ur (by simp <;> omega),wrap_a1 (by omega)];obtain ⟨g,v,a,j,z,w,p⟩:=delF_run t h (a0:=A.length) (b0:=A.length+1) (by omega) (by omega) (by
   rw [m,py,tF,uH (by omega),show A.length+1 - A.length=1 by omega,tJ];simp only [rk,pA,sN,s,List.filter_nil];rw [tR.2 (λy u=>by rw [c y u];rfl)];simp)
  rw [v];simp only [zN];rw [um (by rw [j];omega),j];have hs:slc (g.2.2.take ((a:Int)).toNat++List.replicate (L0.length - ((a:Int)).toNat) zLf) (0:Int) (a:Int)=some (g.2.2.take a):=by
   unfold slc;rw [um (by simp;omega)];simp only [uz,Int.toNat_zero,sC];rw [u7 (by simp;omega),pz,Nat.min_self]
  rw [hs,ua,p]

theorem less_tot:∀(a b:List UInt8),a=b \/ Op.bytesLess a b=true \/ Op.bytesLess b a=true
 | [],[]=>.inl rfl
 | [],_::_=>.inr (.inl rfl)
 | _::_,[]=>.inr (.inr rfl)
 | x::a,y::b=>by
  by_cases h:x=y
  ·subst h;rcases less_tot a b with rfl | h | h
   ·exact .inl rfl
   ·exact .inr (.inl (by simp [Op.bytesLess,h]))
   ·exact .inr (.inr (by simp [Op.bytesLess,h]))
  ·have h':x.toNat ≠ y.toNat:=λe=>h (rT.1 e);rcases Nat.lt_or_gt_of_ne h' with h | h
   ·exact .inr (.inl (by simp [Op.bytesLess,sZ,h]))
   ·exact .inr (.inr (by simp [Op.bytesLess,sZ,h]))
def vL:List zd->List zd->Bool
 | _,[]=>false
 | [],_::_=>true
 | x::a,y::b=>Op.bytesLess x y || (decide (x=y)&&vL a b)
theorem plt_irr:∀a,vL a a=false
 | []=>rfl
 | x::a=>by simp [vL,vS,plt_irr a]
theorem plt_trans:∀{a b c:List zd},vL a b=true->vL b c=true->vL a c=true
 | _,[],_,h,_=>by cases ‹List zd› <;> simp [vL] at h
 | _,_::_,[],_,h=>by simp [vL] at h
 | [],_::_,_::_,_,_=>rfl
 | x::a,y::b,z::c,g,e=>by
  simp only [vL,u5,uf,uh] at *;rcases g with g | ⟨rfl,g⟩
  ·rcases e with e | ⟨rfl,e⟩
   ·exact .inl (wM g e)
   ·exact .inl g
  ·rcases e with e | ⟨rfl,e⟩
   ·exact .inl e
   ·exact .inr ⟨rfl,plt_trans g e⟩
theorem plt_tot:∀(a b:List zd),a=b \/ vL a b=true \/ vL b a=true
 | [],[]=>.inl rfl
 | [],_::_=>.inr (.inl rfl)
 | _::_,[]=>.inr (.inr rfl)
 | x::a,y::b=>by
  rcases less_tot x y with rfl | h | h
  ·rcases plt_tot a b with rfl | h | h
   ·exact .inl rfl
   ·exact .inr (.inl (by simp [vL,h]))
   ·exact .inr (.inr (by simp [vL,h]))
  ·exact .inr (.inl (by simp [vL,h]))
  ·exact .inr (.inr (by simp [vL,h]))
theorem plt_path:∀{a b:List zd},vL a b=true->pathLt a b
 | _,[],h=>by cases ‹List zd› <;> simp [vL] at h
 | [],y::b,_=>.inl ⟨y,b,rfl⟩
 | x::a,y::b,h=>by
  simp only [vL,u5,uf,uh] at h;rcases h with h | ⟨rfl,h⟩
  ·exact .inr ⟨[],x,y,a,b,rfl,rfl,h⟩
  ·rcases plt_path h with ⟨z,q,rfl⟩ | ⟨p,u,v,a',c,rfl,rfl,e⟩
   ·exact .inl ⟨z,q,rfl⟩
   ·exact .inr ⟨x::p,u,v,a',c,rfl,rfl,e⟩
theorem path_plt {a b:List zd} (h:pathLt a b):vL a b=true:=by
 rcases h with ⟨y,q,rfl⟩ | ⟨p,x,y,a',c,rfl,rfl,h⟩
 ·induction a with
  | nil=>rfl
  | cons x a ih=>simp [vL,ih]
 ·induction p with
  | nil=>simp [vL,h]
  | cons x a ih=>simp [vL,ih]
theorem cmpS_gt {x y:zd} (h:Op.bytesLess y x=true):yA x y=some 1:=by
 have c:Op.bytesLess x y=false:=by
  cases e:Op.bytesLess x y
  ·rfl
  ·have:=wM h e;rw [vS] at this;cases this
 unfold yA xL;have g:¬ x=y:=λe=>less_ne h e.symm;simp [h,c,g]
theorem cmpP_gt {a b:List zd} (h:pathLt b a):yB a b=some 1:=by
 rw [cmpP_eq];rcases h with ⟨y,q,rfl⟩ | ⟨p,x,y,a',c,rfl,rfl,h⟩
 ·have:=cmp_pre (s2:=b) b (y::q) [] [] (by simp);rw [ug] at this;rw [this];have e:cmpF b (0+b.length) y ()=some (.ret 1):=by
   unfold cmpF;rw [um (uN (by omega))]
  simp only [zn,e,lp_inl]
 ·have:=cmp_pre (s2:=p++x::a') p (y::c) [] (x::a') rfl;rw [ug] at this;rw [this];have hx:yx (p++x::a') ((0+p.length:Nat):Int)=some x:=zG (by simp);have e:cmpF (p++x::a') (0+p.length) y ()=some (.ret 1):=by
   unfold cmpF;rw [uS (by simp only [ue,uc];omega)];simp only [up,uJ,hx,ua,cmpS_gt h];rfl
  simp only [zn,e,lp_inl]
def Key:=List zd×Int
def kltB (a b:Key):Bool:=vL a.1 b.1 || (decide (a.1=b.1)&&decide (a.2 < b.2))
theorem klt_irr (a:Key):kltB a a=false:=by simp [kltB,plt_irr]
theorem klt_trans {a b c:Key} (g:kltB a b=true) (e:kltB b c=true):kltB a c=true:=by
 simp only [kltB,u5,uf,uh] at *;rcases g with g | ⟨j,g⟩
 ·rcases e with e | ⟨h,e⟩
  ·exact .inl (plt_trans g e)
  ·rw [h] at g;exact .inl g
 ·rcases e with e | ⟨h,e⟩
  ·rw [<- j] at e;exact .inl e
  ·exact .inr ⟨j.trans h,by omega⟩
def ekey (e:GJ):Key:=(e.path,e.typ)
def rkey (r:GH):Key:=(r.path,r.leaf.typ)
def ordI (a b:GJ):Int:=if kltB (ekey a) (ekey b)=true then -1 else if kltB (ekey b) (ekey a)=true then 1 else 0
theorem plt_asym {a b:List zd} (h:vL a b=true):vL b a=false:=by
 cases e:vL b a
 ·rfl
 ·have:=plt_trans h e;rw [plt_irr] at this;cases this
theorem order_is (a b:GJ):diffXorder a b=some (ordI a b):=by
 unfold diffXorder ordI kltB ekey;rcases plt_tot a.path b.path with h | h | h
 ·simp only [h,cmpP_self,cmpU8is,ua,cmpOr2_is,plt_irr,tD,pf,u2,uh,or2,cmpI];simp
 ·have c:a.path ≠ b.path:=λe=>by rw [e,plt_irr] at h;cases h
  simp only [cmpP_lt (plt_path h),cmpU8is,ua,cmpOr2_is,h,or2];simp
 ·have c:a.path ≠ b.path:=λe=>by rw [e,plt_irr] at h;cases h
  simp only [cmpP_gt (plt_path h),cmpU8is,ua,cmpOr2_is,h,plt_asym h,or2];simp [c]
theorem ordI_lt {a b:GJ}:ordI a b < 0 ↔ kltB (ekey a) (ekey b)=true:=by
 unfold ordI;split
 ·rename_i h;simp [h]
 ·rename_i h;split
  ·simp [h]
  ·simp [h]
theorem sortO_lt {α:Type} {c:α->α->Option Int} {cf:α->α->Int} {lt:α->α->Prop} {L R:List α} (H:∀x ∈ L,∀y ∈ L,c x y=some (cf x y)) (w:∀x y,cf x y < 0 ↔ lt x y) (t:∀x,¬ lt x x) (D:∀x y z,lt x y->lt y z->lt x z)
  (s:∀x ∈ L,∀y ∈ L,x=y \/ lt x y \/ lt y x) (u:R.Perm L) (hs:R.Pairwise lt) (J:L.length<=yH):sortO c L=some R:=by
 unfold sortO;rw [um (λx hx y g=>by rw [H x hx y g];rfl)];have hd:∀x ∈ L,∀y ∈ L,(c x y).getD 0 < 0 ↔ lt x y:=λx hx y g=>by rw [H x hx y g];exact w x y
 have m:∀x y,lt x y->¬ lt y x:=λx y o j=>t x (D _ _ _ o j);have G:R.Pairwise λa b=>¬ (c b a).getD 0 < 0:=by
  have:R.Pairwise λa b=>a ∈ L/\b ∈ L/\lt a b:=by
   refine List.Pairwise.imp_of_mem ?_ hs;intro a b F C h;exact ⟨u.subset F,u.subset C,h⟩
  refine this.imp ?_
  rintro a b ⟨F,C,h⟩ j
  exact m _ _ h ((hd b C a F).1 j)
 refine sortF_of ⟨λx hx h=>t x ((hd x hx x hx).1 h),λx y z hx g p o j=>(hd x hx z p).2 (D _ _ _ ((hd x hx y g).1 o) ((hd y g z p).1 j)),λx y z hx g p o j v=>?_⟩ J ⟨u,G⟩ ?_
 ·have v:=(hd x hx z p).1 v;rcases s x hx y g with rfl | h | h
  ·exact j ((hd _ g z p).2 v)
  ·exact o ((hd x hx y g).2 h)
  ·exact j ((hd y g z p).2 (D _ _ _ h v))
 ·rintro M ⟨E,I⟩
  refine sorted_one (E.trans u.symm) I G λx y hx g o j=>?_;have hx:=E.subset hx;have g:=E.subset g;rcases s x hx y g with e | h | h
  ·exact e
  ·exact (o ((hd x hx y g).2 h)).elim
  ·exact (j ((hd y g x hx).2 h)).elim
theorem cmp_pos:∀{a b:List UInt8},Op.bytesLess b a=true->0 < Lib.compareBytes a b
 | [],b,h=>by cases b <;> simp [Op.bytesLess] at h
 | _::_,[],_=>by simp [Lib.compareBytes]
 | x::a,y::b,h=>by
  simp only [Op.bytesLess,u5,uf,uh,sf] at h;rcases h with h | ⟨rfl,h⟩
  ·have h':y.toNat < x.toNat:=sZ.1 h;have c:¬ x < y:=λe=>by have:=sZ.1 e;omega
   simp [Lib.compareBytes,h,c]
  ·have:=cmp_pos h;simp [Lib.compareBytes,this]
def NLt (s:zd) (A:List GA):Prop:=∀y ∈ A,Op.bytesLess y.name s=true
def NGt (s:zd) (B:List GA):Prop:=∀y ∈ B,Op.bytesLess s y.name=true
theorem split_up {t:List GA} (s:zd) (h:upB t=true):(∃A B,t=A++B/\NLt s A/\NGt s B) \/ ∃A x B,t=A++x::B/\x.name=s/\NLt s A/\NGt s B:=by
 rw [upB_iff] at h
 induction t with
 | nil=>exact .inl ⟨[],[],rfl,λ_ h=>by simp at h,λ_ h=>by simp at h⟩
 | cons x t ih =>
  obtain ⟨m,o⟩:=tg.1 h;rcases less_tot x.name s with e | e | e
  ·exact .inr ⟨[],x,t,rfl,e,λ_ h=>by simp at h,λy c=>by rw [<- e];exact m y c⟩
  ·rcases ih o with ⟨A,B,rfl,g,j⟩ | ⟨A,z,B,rfl,p,g,j⟩
   ·refine .inl ⟨x::A,B,rfl,λy c=>?_,j⟩;rcases uv.1 c with rfl | c
    ·exact e
    ·exact g y c
   ·refine .inr ⟨x::A,z,B,rfl,p,λy c=>?_,j⟩;rcases uv.1 c with rfl | c
    ·exact e
    ·exact g y c
  ·refine .inl ⟨[],x::t,rfl,λ_ h=>by simp at h,λy c=>?_⟩;rcases uv.1 c with rfl | c
   ·exact e
   ·exact wM e (m y c)
theorem bs_none {A B:List GA} {s:zd} (hx:(A++B).length<=16777216) (o:NLt s A) (h:NGt s B):zw (A++B) s (λj t=>xK j t)=some ((A.length:Int),false):=by
 rw [bs_is (c:=A.length) hx (by simp) λi m hi=>⟨_,layC1_is m s,λg=>by
   rw [uq g] at hi;exact cmp_less.2 (o m (uG hi)),λg=>by
   rw [un g] at hi;exact Int.le_of_lt (cmp_pos (h m (uG hi)))⟩]
 cases B with
 | nil=>simp
 | cons y B =>
  have e:(A++y::B).getD A.length default=y:=by simp
  have:=cmp_pos (h y (by simp));rw [um (by simp),e,layC1_is];have p:(Lib.compareBytes y.name s==0)=false:=by simp;omega
  simp [p]
theorem bs_some {A B:List GA} {x:GA} {s:zd} (hx:(A++x::B).length<=16777216) (hs:x.name=s) (o:NLt s A) (t:NGt s B):zw (A++x::B) s (λh p=>xK h p)=some ((A.length:Int),true):=by
 subst hs;rw [bs_is (c:=A.length) hx (by simp) λi m hi=>⟨_,layC1_is m x.name,λg=>by
   rw [uq g] at hi;exact cmp_less.2 (o m (uG hi)),λg=>by
   rw [un g] at hi;rcases uv.1 (uG hi) with rfl | j
   ·rw [cmp_self];exact sx _
   ·exact Int.le_of_lt (cmp_pos (t m j))⟩]
 have e:(A++x::B).getD A.length default=x:=by simp
 rw [um (by simp),e,layC1_is,cmp_self];simp
noncomputable def layIn (n:Nat) (path1:List zd) (kind2:Int) (l3:GE) (there4:Bool) (s1:zd×(List GE)×(List GA)):Option (List GA ⊕ ((List GE)×(List GA))):=((if (decide (((path1).length:Int) > (1:Int)))=true then ((slc path1 (1:Int) ((path1).length:Int)).bind λm20=>((xC n s1.2.2 m20 kind2 l3 there4).bind λv21=>some (.inr (s1.2.1,v21)))) else ((wV s1.2.1).bind λv22=>((yO v22 (λx0=>diffXlayC2 x0 kind2)).bind λv23=>(if there4=true then ((diffXown l3).bind λv25=>(zN ((v23).length+(([v25]:List GE)).length<=yH) (((sortO (λx y=>diffXlayC3 x y) (v23++([v25]:List GE))).bind λv27=>some (.inr (v27,s1.2.2)))))) else some (.inr (v23,s1.2.2)))))):Option (_ ⊕ ((List GE)×(List GA))))
noncomputable def layRest (t0:List GA) (i:Int) (f:Bool) (nm:zd) (s2:(List GE)×(List GA)):Option (List GA):=((slc t0 (0:Int) i).bind λm28=>((xN m28).bind λv29=>(if (decide ((IntKind.wrap .i64 (((s2.1).length:Int)+((s2.2).length:Int))) > (0:Int)))=true then (zN ((v29).length+(([(GA.mk nm s2.1 s2.2)]:List GA)).length<=yH) ((if f=true then ((slc t0 (IntKind.wrap .i64 (i+(1:Int))) ((t0).length:Int)).bind λm35=>(zN (((v29++([(GA.mk nm s2.1 s2.2)]:List GA))).length+(m35).length<=yH) (some ((v29++([(GA.mk nm s2.1 s2.2)]:List GA))++m35)))) else ((slc t0 i ((t0).length:Int)).bind λm37=>(zN (((v29++([(GA.mk nm s2.1 s2.2)]:List GA))).length+(m37).length<=yH) (some ((v29++([(GA.mk nm s2.1 s2.2)]:List GA))++m37))))))) else (if f=true then ((slc t0 (IntKind.wrap .i64 (i+(1:Int))) ((t0).length:Int)).bind λm40=>(zN ((v29).length+(m40).length<=yH) (some (v29++m40)))) else ((slc t0 i ((t0).length:Int)).bind λm42=>(zN ((v29).length+(m42).length<=yH) (some (v29++m42))))))))
theorem layN_eq (n:Nat) (t0:List GA) (c:List zd) (g:Int) (m:GE) (e:Bool):xC (n+1) t0 c g m e=((yx c (0:Int)).bind λt=>((zw t0 t (λo s=>xK o s)).bind λv2=>((yx c (0:Int)).bind λp=>(lp ((if v2.2=true then ((yx t0 v2.1).bind λh=>some (.inr (h.name,h.leaves,h.subs))) else some (.inr (p,([]:List GE),([]:List GA)))):Option (_ ⊕ (zd×(List GE)×(List GA)))) λ(j:zd×(List GE)×(List GA))=>(lp (layIn n c g m e j) λ(s2:(List GE)×(List GA))=>layRest t0 v2.1 v2.2 j.1 s2))))):=rfl
def qx (k:Int) (l:GE) (there:Bool) (ls:List GE):List GE:=if there=true then ls.filter (λx=>decide (x.typ < k))++[l]++ls.filter (λx=>decide (k < x.typ)) else ls.filter (λx=>!decide (x.typ=k))
theorem ups_inj (h:ls.Pairwise λx y=>x.typ < y.typ) {x y:GE} (hx:x ∈ ls) (p:y ∈ ls) (e:x.typ=y.typ):x=y:=by
 induction ls with
 | nil=>simp at hx
 | cons z r ih =>
  obtain ⟨o,s⟩:=tg.1 h;rcases uv.1 hx with j | c <;> rcases uv.1 p with m | g
  ·rw [j,m]
  ·have:=o y g;rw [<- j] at this;omega
  ·have:=o x c;rw [<- m] at this;omega
  ·exact ih s c g
theorem layLs_up (e:there=true->l.typ=k) (h:ls.Pairwise λx y=>x.typ < y.typ):(qx k l there ls).Pairwise λx y=>x.typ < y.typ:=by
 unfold qx;split
 ·rename_i g;have e:=e g;rw [tr,tr];refine ⟨⟨h.filter _,by simp,λx hx y c=>?_⟩,h.filter _,λx hx y c=>?_⟩
  ·have hx:=(tj.1 hx).2;simp at hx c;subst c;omega
  ·have c:=(tj.1 c).2;simp at c;rcases uA.1 hx with hx | hx
   ·have hx:=(tj.1 hx).2;simp at hx;omega
   ·simp at hx;subst hx;omega
 ·exact h.filter _
theorem sortLs_is (j:l.typ=k) (o:ls.length<=16777216) (h:ls.Pairwise λx y=>x.typ < y.typ):sortO (λx y=>diffXlayC3 x y) (ls.filter (λx=>!decide (x.typ=k))++[l])=some (qx k l true ls):=by
 have m:=sF (λx:GE=>!decide (x.typ=k)) ls;refine sortO_lt (α:=GE) (cf:=λx y=>cmpI x.typ y.typ) (lt:=λx y=>x.typ < y.typ) (λx _ y _=>by unfold diffXlayC3;rw [cmpU8is];rfl) (λx y=>by unfold cmpI;split <;> (try split) <;> omega) (λx h=>by omega) (λx y z g p=>by omega) ?_ ?_ (layLs_up (λ_=>j) h) (x5 (by simp;omega))
 ·intro x hx y c;rcases Int.lt_trichotomy x.typ y.typ with e | e | e
  ·exact .inr (.inl e)
  ·left;rcases uA.1 hx with hx | hx <;> rcases uA.1 c with c | c
   ·exact ups_inj h (tj.1 hx).1 (tj.1 c).1 e
   ·have hx:=(tj.1 hx).2;simp at hx c;subst c;omega
   ·have c:=(tj.1 c).2;simp at hx c;subst hx;omega
   ·simp at hx c;rw [hx,c]
  ·exact .inr (.inr e)
 ·unfold qx;rw [um rfl];have g:(ls.filter (λx=>decide (x.typ < k))++ls.filter (λx=>decide (k < x.typ))).Perm (ls.filter λx=>!decide (x.typ=k)):=by
   have:=rB (λx:GE=>decide (x.typ < k)) (ls.filter λx=>!decide (x.typ=k));rw [rx,rx] at this;refine List.Perm.trans (.of_eq ?_) this;congr 1 <;> refine ph λx _=>?_ <;> rw [uC] <;> simp <;> omega
  rw [uB];refine List.Perm.trans (List.Perm.append_left _ List.perm_append_comm) ?_;rw [<- uB];exact g.append_right _
theorem layIn_leaf {s:zd} {nm:zd} {sb:List GA} (e:there=true->l.typ=k/\LeafOk l) (c:ls.length<=16777216) (h:ls.Pairwise λx y=>x.typ < y.typ) :
  layIn n [s] k l there (nm,ls,sb)=some (.inr (qx k l there ls,sb)):=by
 unfold layIn;have g:decide (((([s]:List zd).length:Int)) > 1)=false:=rfl;have o:=sF (λx:GE=>!decide (x.typ=k)) ls;simp only [g,up,uJ];rw [cloneLeaf_is (x5 (by omega)),ua,deleteR_is (q:=λx=>decide (x.typ=k)) c (λx _=>by unfold diffXlayC2;rfl),ua];cases there with
 | false=>simp [qx]
 | true =>
  obtain ⟨m,j⟩:=e rfl;simp only [ut];rw [own_is j,ua,zi (x5 (by simp;omega)),sortLs_is m c h,ua]
theorem layIn_sub {s a:zd} {r:List zd} {nm:zd} {sb c:List GA} (j:(s::a::r).length<=16777216) (h:xC n sb (a::r) k l there=some c):layIn n (s::a::r) k l there (nm,ls,sb)=some (.inr (ls,c)):=by
 unfold layIn;have e:decide ((((s::a::r).length:Int)) > 1)=true:=uN (by simp only [uc];omega);simp only [e,ut];rw [x9 ⟨by omega,by simp only [uc];omega,sx _⟩,ua];have g:((s::a::r).take (((s::a::r).length:Int)).toNat).drop (1:Int).toNat=a::r:=by rw [uz,tL];rfl
 rw [g,h,ua]
def fitN (nm:zd) (ls:List GE) (sb:List GA):List GA:=if ls.length+sb.length=0 then [] else [⟨nm,ls,sb⟩]
theorem layRest_is {A B:List GA} {m:List GA} {nm:zd} {sb:List GA} (j:m.length=if f=true then 1 else 0) (t:(A++m++B).length<=16777216) (v:ls.length<=16777216) (u:sb.length<=16777217) :
  layRest (A++m++B) (A.length:Int) f nm (ls,sb)=some (A++fitN nm ls sb++B):=by
 simp only [ue] at t;unfold layRest;rw [x9 ⟨sx _,by omega,by simp;omega⟩,ua];have s:((A++m++B).take ((A.length:Int)).toNat).drop (0:Int).toNat=A:=by simp
 rw [s,cloneNode_is (x5 (by omega)),ua];have o:∀(c:List GA),c.length<=A.length+1->((if f=true then ((slc (A++m++B) (IntKind.wrap .i64 ((A.length:Int)+(1:Int))) ((A++m++B).length:Int)).bind λh=>(zN (c.length+(h).length<=yH) (some (c++h)))) else ((slc (A++m++B) (A.length:Int) ((A++m++B).length:Int)).bind λg=>(zN (c.length+(g).length<=yH) (some (c++g))))):Option (List GA))=some (c++B):=by
  intro c w;cases f with
  | true =>
   simp only [ut] at j ⊢;rw [wG (by omega),x9 ⟨by omega,by simp;omega,sx _⟩,ua];have e:((A++m++B).take (((A++m++B).length:Int)).toNat).drop ((A.length:Int)+1).toNat=B:=by
    rw [uz,tL,show ((A.length:Int)+1).toNat=(A++m).length by simp;omega,sM]
   rw [e,zi (x5 (by omega))]
  | false =>
   simp only [up,uJ] at j ⊢;obtain rfl:=uQ j;rw [x9 ⟨by omega,by simp;omega,sx _⟩,ua];have e:((A++[]++B).take (((A++[]++B).length:Int)).toNat).drop ((A.length:Int)).toNat=B:=by
    simp only [uz];rw [tL,tp,sM]
   rw [e,zi (x5 (by omega))]
 unfold fitN;have p:IntKind.wrap .i64 ((ls.length:Int)+(sb.length:Int))=(ls.length:Int)+(sb.length:Int):=wG (by omega);simp only [p];by_cases h0:ls.length+sb.length=0
 ·rw [um h0,ur (by simp;omega),tp];exact o A (by omega)
 ·rw [ur h0,um (by simp;omega),zi (x5 (by simp;omega))];exact o (A++[⟨nm,ls,sb⟩]) (by simp)

theorem leaves_of (h:ls.Pairwise λx y=>x.typ < y.typ) (e:∀l ∈ ls,leafB l=true):leavesB ls=true:=by
 unfold leavesB;rw [allI_iff];intro i x hx;have c:=e x (uG hx);simp only [c,u2];rcases i with _ | i
 ·rfl
 ·obtain ⟨hi,rfl⟩:=ud.1 hx;have:=tE.1 h i (i+1) (by omega) hi (by omega);simp only [sa,u5,uh];right;rw [uI,ul (by omega:i < ls.length)];exact this
theorem qO (a:List zd) (A B:List GA):zu a (A++B)=zu a A++zu a B:=by rw [yF,yF,yF,rV]
theorem rowsN_mem {a:List zd} {x:GA}:r ∈ rowsN a x ↔ (∃l ∈ x.leaves,r=⟨a++[x.name],l⟩) \/ r ∈ zu (a++[x.name]) x.subs:=by
 rw [yS,uA,tm];constructor
 ·rintro (⟨l,c,rfl⟩ | h)
  ·exact .inl ⟨l,c,rfl⟩
  ·exact .inr h
 ·rintro (⟨l,c,rfl⟩ | h)
  ·exact .inl ⟨l,c,rfl⟩
  ·exact .inr h
theorem rows_one {a:List zd} {x:GA}:zu a [x]=rowsN a x:=by simp [zu]
theorem fit_mem {a:List zd} {nm:zd} {sb:List GA}:r ∈ zu a (fitN nm ls sb) ↔ (∃l ∈ ls,r=⟨a++[nm],l⟩) \/ r ∈ zu (a++[nm]) sb:=by
 unfold fitN;split
 ·rename_i h;have e:ls=[]:=uQ (by omega);have c:sb=[]:=uQ (by omega);subst e c;simp [zu]
 ·rw [rows_one,rowsN_mem]
theorem len_rows (t:List GA) (a b:List zd):(zu a t).length=(zu b t).length:=by
 have e:=rows_pre t a [];have c:=rows_pre t b [];rw [tp] at e c;rw [e,c,uD,uD]
theorem node_row:∀(t:List GA) (d:Nat),xZ d t=true->t.length<=(zu [] t).length:=by
 refine wS (λ_ _=>sq _) ?_;intro x r hx j d e;simp only [xZ,uf] at e;have m:=j d e.2;have c:=e.1;rw [nodeB_eq] at c;simp only [uf,treeB,t6,sY] at c;have g:=hx (d+1) c.1.2.2;rw [show x::r=[x]++r from rfl,qO,rows_one,yS];simp only [ue,uD,uc,ug];rw [len_rows x.subs ([]++[x.name]) []];rcases c.1.1.2 with h | h
 ·cases hl:x.leaves with
  | nil=>rw [hl] at h;cases h
  | cons l ls=>simp only [uc];omega
 ·cases hl:x.subs with
  | nil=>rw [hl] at h;cases h
  | cons l ls=>rw [hl] at g;simp only [uc] at g;omega
theorem mem_rows_len {t:List GA} {x:GA} (hx:x ∈ t):x.leaves.length+(zu [] x.subs).length<=(zu [] t).length:=by
 obtain ⟨A,B,rfl⟩:=List.append_of_mem hx;rw [qO,show x::B=[x]++B from rfl,qO,rows_one,yS];simp only [ue,uD];rw [len_rows x.subs ([]++[x.name]) []];omega
theorem yg {t:List GA} (h:treeB d t=true):upB t=true/\∀x ∈ t,nodeB d x=true:=by
 simp only [treeB,uf,yK,uu] at h;exact ⟨h.1.2,h.2⟩
theorem treeB_of {t:List GA} (hd:d < 3) (e:upB t=true) (c:∀x ∈ t,nodeB d x=true):treeB d t=true:=by
 simp only [treeB,uf,yK,uu,e,hd,pf,pu,rO];exact c
theorem vq {x:GA} (h:nodeB d x=true):nameB x.name=true/\treeB (d+1) x.subs=true/\leavesB x.leaves=true:=by
 rw [nodeB_eq] at h;simp only [uf] at h;exact ⟨h.1.1.1,h.1.2,h.2⟩
theorem find_node {t:List GA} (s:zd) (h:treeB d t=true) (v:(zu [] t).length<=16777215):∃A m B f ls sb,t=A++m++B/\NLt s A/\NGt s B/\m.length=(if f=true then 1 else 0)/\zw t s (λo w=>xK o w)=some ((A.length:Int),f) /\
  ((if f=true then ((yx t (A.length:Int)).bind λg=>some (.inr (g.name,g.leaves,g.subs))) else some (.inr (s,([]:List GE),([]:List GA)))):Option (List GA ⊕ (zd×(List GE)×(List GA))))=some (.inr (s,ls,sb))/\treeB (d+1) sb=true/\leavesB ls=true /\
  ls.length+(zu [] sb).length<=(zu [] t).length/\∀a r,r ∈ zu a m ↔ (∃l ∈ ls,r=⟨a++[s],l⟩) \/ r ∈ zu (a++[s]) sb:=by
 obtain ⟨u,j⟩:=yg h;have z:t.length<=16777215:=uE (node_row t d (by rw [yK];exact uu.2 j)) v;rcases split_up s u with ⟨A,B,rfl,e,c⟩ | ⟨A,x,B,rfl,hx,e,c⟩
 ·refine ⟨A,[],B,false,[],[],by simp,e,c,rfl,bs_none (by omega) e c,rfl,tree_nil _,rfl,by simp [zu],λa r=>by simp [zu]⟩
 ·obtain ⟨C,y,p⟩:=vq (j x (by simp));refine ⟨A,[x],B,true,x.leaves,x.subs,by simp,e,c,rfl,bs_some (by omega) hx e c,?_,y,p,mem_rows_len (by simp),λa r=>?_⟩
  ·rw [um rfl,zG (x:=x) (by simp),ua,hx]
  ·rw [rows_one,rowsN_mem,hx]
theorem rows_off {s:zd} {A:List GA} (h:∀y ∈ A,y.name ≠ s) {a q:List zd} {r:GH} (g:r ∈ zu a A):r.path ≠ a++s::q:=by
 obtain ⟨x,hx,w,e⟩:=qN g;rw [e];intro j;have:=rC j;injection this with c _;exact h x hx c
theorem NLt.ne {s:zd} {A:List GA} (h:NLt s A):∀y ∈ A,y.name ≠ s:=λy c=>less_ne (h y c)
theorem NGt.ne {s:zd} {A:List GA} (h:NGt s A):∀y ∈ A,y.name ≠ s:=λy c=>(less_ne (h y c)).symm
theorem lay_fin {A m B:List GA} {s:zd} {sb:List GA} (hd:d < 3) (h:treeB d (A++m++B)=true) (o:NLt s A) (j:NGt s B) (hs:nameB s=true) (t:leavesB ls=true) (p:treeB (d+1) sb=true):treeB d (A++fitN s ls sb++B)=true:=by
 obtain ⟨u,n⟩:=yg h;rw [upB_iff,tr,tr] at u;have e:∀x ∈ A,∀y ∈ B,Op.bytesLess x.name y.name=true:=λx hx y c=>wM (o x hx) (j y c);have g:∀x ∈ fitN s ls sb,x=⟨s,ls,sb⟩/\¬ ls.length+sb.length=0:=λx hx=>by
  unfold fitN at hx;split at hx
  ·simp at hx
  ·rename_i h0;simp at hx;exact ⟨hx,h0⟩
 refine treeB_of hd ?_ ?_
 ·rw [upB_iff,tr,tr];refine ⟨⟨u.1.1,?_,λx hx y c=>by rw [(g y c).1];exact o x hx⟩,u.2.1,λx hx y c=>?_⟩
  ·unfold fitN;split <;> simp
  ·rcases uA.1 hx with hx | hx
   ·exact e x hx y c
   ·rw [(g x hx).1];exact j y c
 ·intro x hx;rcases uA.1 hx with hx | hx
  ·rcases uA.1 hx with hx | hx
   ·exact n x (by simp [hx])
   ·obtain ⟨rfl,h0⟩:=g x hx;rw [nodeB_eq];simp only [hs,t,p,tP,u2,t6,sY];cases ls with
    | cons _ _=>exact .inl rfl
    | nil=>cases sb with
     | cons _ _=>exact .inr rfl
     | nil=>simp at h0
  ·exact n x (by simp [hx])
theorem fit_len (s:zd) (ls:List GE) (sb:List GA):(fitN s ls sb).length<=1:=by unfold fitN;split <;> simp
theorem layLs_mem:x ∈ qx k l there ls ↔ (x ∈ ls/\x.typ ≠ k) \/ (there=true/\x=l):=by
 unfold qx;cases there with
 | false=>simp
 | true =>
  simp only [ut,uA,tj,uw,uh,rO];constructor
  ·rintro ((⟨h,c⟩ | h) | ⟨h,c⟩)
   ·exact .inl ⟨h,by omega⟩
   ·exact .inr h
   ·exact .inl ⟨h,by omega⟩
  ·rintro (⟨h,c⟩ | h)
   ·rcases Int.lt_or_gt_of_ne c with e | e
    ·exact .inl (.inl ⟨h,e⟩)
    ·exact .inr ⟨h,e⟩
   ·exact .inl (.inr h)
theorem lay_is {k:Int} {l:GE} {there:Bool} (z:there=true->l.typ=k/\leafB l=true/\LeafOk l):∀(p:List zd) (t:List GA) (d n:Nat),p ≠ []->p.all nameB=true->d+p.length<=3->treeB d t=true->(zu [] t).length<=16777215->p.length < n ->
  ∃t',xC n t p k l there=some t'/\treeB d t'=true/\t'.length<=t.length+1/\∀a r,r ∈ zu a t' ↔ (r ∈ zu a t/\rkey r ≠ (a++p,k)) \/ (there=true/\r=⟨a++p,l⟩)
 | [],_,_,_,h,_,_,_,_,_=>absurd rfl h
 | _::_,_,_,0,_,_,_,_,_,h=>by omega
 | s::q,t,d,n+1,_,hp,hd,ht,hw,hn=>by
  simp only [uY,uf,uc] at hp hd hn;obtain ⟨A,m,B,f,ls,sb,rfl,F,E,P,I,J,u,D,O,v⟩:=find_node s ht hw;have H:yx (s::q) (0:Int)=some s:=rfl;obtain ⟨C,N⟩:=leaves_up D;have U:(A++m++B).length<=16777215:=uE (node_row _ d (by rw [yK];exact uu.2 (yg ht).2)) hw;have T:=λj g=>fit_len s j g;have o:∀j g,(A++fitN s j g++B).length<=(A++m++B).length+1:=λj g=>by
   have:=fit_len s j g;simp only [ue];omega
  rw [layN_eq,H,ua,I,ua,ua];simp only [];rw [J,x4];cases q with
  | nil =>
   rw [layIn_leaf (λh=>⟨(z h).1,(z h).2.2⟩) (by omega) C,x4,layRest_is P (by omega) (by
    have:(qx k l there ls).length<=ls.length+1:=by
     unfold qx;split
     ·have y:=rB (λx:GE=>decide (x.typ < k)) ls;have w:=y.length_eq;have h3:(ls.filter λx=>decide (k < x.typ)).length<=(ls.filter λx=>!decide (x.typ < k)).length:=by
       have:(ls.filter λx=>decide (k < x.typ))=(ls.filter λx=>!decide (x.typ < k)).filter (λx=>decide (k < x.typ)):=by
        rw [rx];refine ph λx _=>?_;rw [uC];simp;omega
       rw [this];exact sF _ _
      simp only [ue,uc,ug] at w ⊢;omega
     ·exact s5 (sF _ _)
    omega) (by have:=node_row sb (d+1) (by rw [yK];exact uu.2 (yg u).2);omega)]
   refine ⟨_,rfl,lay_fin (by omega) ht F E hp.1 (leaves_of (layLs_up (λh=>(z h).1) C) λx hx=>?_) u,o _ _,λa r=>?_⟩
   ·rcases layLs_mem.1 hx with h | ⟨h,rfl⟩
    ·exact N x h.1
    ·exact (z h).2.1
   ·simp only [qO,uA,fit_mem,v];have G:r ∈ zu a A->rkey r ≠ (a++[s],k):=λh e=>rows_off F.ne h (congrArg Prod.fst e);have M:r ∈ zu a B->rkey r ≠ (a++[s],k):=λh e=>rows_off E.ne h (congrArg Prod.fst e);have K:r ∈ zu (a++[s]) sb->rkey r ≠ (a++[s],k):=λh e=>by
     have:=(rows_path sb _ r h).1;rw [show r.path=a++[s] from congrArg Prod.fst e] at this;omega
    constructor
    ·rintro ((h | ⟨x,hx,rfl⟩ | h) | h)
     ·exact .inl ⟨.inl (.inl h),G h⟩
     ·rcases layLs_mem.1 hx with ⟨y,w⟩ | ⟨y,rfl⟩
      ·exact .inl ⟨.inl (.inr (.inl ⟨x,y,rfl⟩)),λe=>w (congrArg Prod.snd e)⟩
      ·exact .inr ⟨y,rfl⟩
     ·exact .inl ⟨.inl (.inr (.inr h)),K h⟩
     ·exact .inl ⟨.inr h,M h⟩
    ·rintro (⟨(h | ⟨x,hx,rfl⟩ | h) | h,w⟩ | ⟨y,rfl⟩)
     ·exact .inl (.inl h)
     ·exact .inl (.inr (.inl ⟨x,layLs_mem.2 (.inl ⟨hx,λe=>w (by rw [<- e];rfl)⟩),rfl⟩))
     ·exact .inl (.inr (.inr h))
     ·exact .inr h
     ·exact .inl (.inr (.inl ⟨l,layLs_mem.2 (.inr ⟨y,rfl⟩),rfl⟩))
  | cons c q =>
   obtain ⟨g,V,R,e3,Y⟩:=lay_is z (c::q) sb (d+1) n (by simp) hp.2 (by simp only [uc] at hd ⊢;omega) u (by omega) (by omega);have Q:=node_row sb (d+1) (by rw [yK];exact uu.2 (yg u).2);rw [layIn_sub (by simp only [uc] at hd ⊢;omega) V,x4,layRest_is P (by omega) (by omega) (by omega)];refine ⟨_,rfl,lay_fin (by omega) ht F E hp.1 D R,o _ _,λa r=>?_⟩;simp only [qO,uA,fit_mem,v,Y];have Z:a++[s]++c::q=a++s::c::q:=by simp
   rw [Z];have G:r ∈ zu a A->rkey r ≠ (a++s::c::q,k):=λh e=>rows_off F.ne h (congrArg Prod.fst e);have M:r ∈ zu a B->rkey r ≠ (a++s::c::q,k):=λh e=>rows_off E.ne h (congrArg Prod.fst e);have K:∀x,r=⟨a++[s],x⟩->rkey r ≠ (a++s::c::q,k):=λx h e=>by
    rw [h] at e;have:=congrArg List.length (congrArg Prod.fst e);simp [rkey] at this
   constructor
   ·rintro ((h | ⟨x,hx,h⟩ | (h | h)) | h)
    ·exact .inl ⟨.inl (.inl h),G h⟩
    ·exact .inl ⟨.inl (.inr (.inl ⟨x,hx,h⟩)),K x h⟩
    ·exact .inl ⟨.inl (.inr (.inr h.1)),h.2⟩
    ·exact .inr h
    ·exact .inl ⟨.inr h,M h⟩
   ·rintro (⟨(h | ⟨x,hx,h⟩ | h) | h,w⟩ | h)
    ·exact .inl (.inl h)
    ·exact .inl (.inr (.inl ⟨x,hx,h⟩))
    ·exact .inl (.inr (.inr (.inl ⟨h,w⟩)))
    ·exact .inr h
    ·exact .inl (.inr (.inr (.inr h)))

theorem rowLt_iff {q:GH}:rowLt r q ↔ kltB (rkey r) (rkey q)=true:=by
 unfold rowLt kltB rkey;simp only [u5,uf,uh];constructor
 ·rintro (h | h)
  ·exact .inl (path_plt h)
  ·exact .inr h
 ·rintro (h | h)
  ·exact .inl (plt_path h)
  ·exact .inr h
theorem sorted_ext {α:Type} {lt:α->α->Prop} (c:∀x,¬ lt x x) (m:∀x y z,lt x y->lt y z->lt x z):∀{L M:List α},L.Pairwise lt->M.Pairwise lt->(∀x,x ∈ L ↔ x ∈ M)->L=M
 | [],[],_,_,_=>rfl
 | [],y::M,_,_,h=>by have:=(h y).2 (by simp);simp at this
 | x::L,[],_,_,h=>by have:=(h x).1 (by simp);simp at this
 | x::L,y::M,h1,h2,h=>by
  obtain ⟨p,a2⟩:=tg.1 h1;obtain ⟨o,t⟩:=tg.1 h2;have e:x=y:=by
   rcases uv.1 ((h x).1 (by simp)) with e | hx
   ·exact e
   ·rcases uv.1 ((h y).2 (by simp)) with e | s
    ·exact e.symm
    ·exact (c x (m _ _ _ (p y s) (o x hx))).elim
  subst e;rw [sorted_ext c m a2 t λz=>?_];constructor
  ·intro j;rcases uv.1 ((h z).1 (by simp [j])) with e | g
   ·subst e;exact (c _ (p _ j)).elim
   ·exact g
  ·intro j;rcases uv.1 ((h z).2 (by simp [j])) with e | g
   ·subst e;exact (c _ (o _ j)).elim
   ·exact g
theorem filter_app_left {α:Type} {P:α->Bool} {A B:List α} (e:∀x ∈ A,P x=true) (c:∀x ∈ B,P x=false):(A++B).filter P=A/\(A++B).filter (λx=>!P x)=B:=by
 rw [tJ,tJ,tR.2 e,tZ.2 (λx hx=>by simp [c x hx]),tZ.2 (λx hx=>by simp [e x hx]),tR.2 (λx hx=>by simp [c x hx])];simp
theorem app_split {α:Type} {P:α->Bool} {A B C D:List α} (h:A++B=C++D) (j:∀x ∈ A,P x=true) (e:∀x ∈ B,P x=false) (m:∀x ∈ C,P x=true) (g:∀x ∈ D,P x=false):A=C/\B=D:=by
 obtain ⟨a,b⟩:=filter_app_left j e;obtain ⟨c,d⟩:=filter_app_left m g;exact ⟨by rw [<- a,<- c,h],by rw [<- b,<- d,h]⟩
theorem rowsN_head {a:List zd} {x:GA} (h:r ∈ rowsN a x):∃w,r.path=a++x.name::w:=by
 rw [<- rows_one] at h;obtain ⟨y,c,w,e⟩:=qN h;simp only [uw] at c;subst c;exact ⟨w,e⟩
theorem rowsN_ne {x:GA} (h:nodeB d x=true) (a:List zd):∃r L,rowsN a x=r::L:=by
 have c:=node_row [x] d (by simp [xZ,h]);rw [len_rows [x] [] a,rows_one] at c;cases e:rowsN a x with
 | nil=>rw [e] at c;simp at c
 | cons r L=>exact ⟨r,L,rfl⟩
def hasN (n:Nat) (s:zd) (r:GH):Bool:=decide ((r.path.drop n).head?=some s)
theorem hasN_is (a w:List zd) (s nm:zd) {r:GH} (h:r.path=a++nm::w):hasN a.length s r=decide (nm=s):=by
 unfold hasN;rw [h,sM];simp
theorem rows_inj:∀(t:List GA) (d:Nat) (a:List zd) (t':List GA),treeB d t=true->treeB d t'=true->zu a t=zu a t'->t=t':=by
 have key:∀(t:List GA) (d:Nat) (a:List zd) (t':List GA),(∀x ∈ t,nodeB d x=true)->upB t=true->(∀x ∈ t',nodeB d x=true)->upB t'=true->zu a t=zu a t'->t=t':=by
  refine wS ?_ ?_
  ·intro d a t' _ _ h _ e;cases t' with
   | nil=>rfl
   | cons y r =>
    obtain ⟨q,L,m⟩:=rowsN_ne (h y (by simp)) a;rw [zu,zu,m] at e;simp at e
  ·intro x r hx R d a t' C F G D e;cases t' with
   | nil =>
    obtain ⟨q,L,m⟩:=rowsN_ne (C x (by simp)) a;rw [zu,zu,m] at e;simp at e
   | cons y s =>
    rw [upB_iff,tg] at F D;have e:rowsN a x++zu a r=rowsN a y++zu a s:=e;have g:x.name=y.name:=by
     obtain ⟨q,L,m⟩:=rowsN_ne (C x (by simp)) a;obtain ⟨U,L',J⟩:=rowsN_ne (G y (by simp)) a;have K:=e;rw [m,J] at K;injection K with N _;subst N;obtain ⟨w,v⟩:=rowsN_head (a:=a) (x:=x) (r:=q) (by rw [m];simp);obtain ⟨w',p⟩:=rowsN_head (a:=a) (x:=y) (r:=q) (by rw [J];simp);rw [v] at p;have:=rC p;injection this
    obtain ⟨I,O⟩:=app_split (P:=hasN a.length x.name) e
     (λq c=>by obtain ⟨w,h⟩:=rowsN_head c;rw [hasN_is a w _ _ h];simp)
     (λq c=>by
      obtain ⟨z,j,w,h⟩:=qN c;rw [hasN_is a w _ _ h];exact uS (less_ne (F.1 z j)).symm)
     (λq c=>by obtain ⟨w,h⟩:=rowsN_head c;rw [hasN_is a w _ _ h,g];simp)
     (λq c=>by
      obtain ⟨z,j,w,h⟩:=qN c;rw [hasN_is a w _ _ h,g];exact uS (less_ne (D.1 z j)).symm)
    have T:=R d a s (λz j=>C z (by simp [j])) ((upB_iff r).2 F.2) (λz j=>G z (by simp [j])) ((upB_iff s).2 D.2) O;rw [yS,yS,<- g] at I;obtain ⟨Q,E⟩:=app_split (P:=λq=>decide (q.path.length=a.length+1)) I
     (λq c=>by obtain ⟨l,_,rfl⟩:=tm.1 c;simp)
     (λq c=>by have:=(rows_path _ _ q c).1;simp at this;exact uS (by omega))
     (λq c=>by obtain ⟨l,_,rfl⟩:=tm.1 c;simp)
     (λq c=>by have:=(rows_path _ _ q c).1;simp at this;exact uS (by omega))
    have o:x.leaves=y.leaves:=by
     have:=congrArg (List.map (·.leaf)) Q;simpa [rF,sH] using this
    obtain ⟨_,H,_⟩:=vq (C x (by simp));obtain ⟨_,M,_⟩:=vq (G y (by simp));have u:=hx (d+1) (a++[x.name]) y.subs (yg H).2 (yg H).1 (yg M).2 (yg M).1 E;cases x;cases y;simp only at g o u;rw [g,o,u,T]
 intro t d a t' v p e;exact key t d a t' (yg v).2 (yg v).1 (yg p).2 (yg p).1 e
theorem rows_sorted {t:List GA} (h:treeB d t=true) (a:List zd):(zu a t).Pairwise λr q=>kltB (rkey r) (rkey q)=true:=by
 have:=rows_lt t d a (yg h).1 (by rw [yK];exact uu.2 (yg h).2);exact this.imp λh=>rowLt_iff.1 h
theorem rows_ext {t t':List GA} (e:treeB 0 t=true) (c:treeB 0 t'=true) (h:∀r,r ∈ zu [] t ↔ r ∈ zu [] t'):t=t' :=
 rows_inj t 0 [] t' e c (sorted_ext (lt:=λr q=>kltB (rkey r) (rkey q)=true) (λx h=>by rw [klt_irr] at h;cases h) (λ_ _ _=>klt_trans) (rows_sorted e []) (rows_sorted c []) h)
theorem sorted_key {α:Type} {key:α->Key} {L:List α} (h:L.Pairwise λr q=>kltB (key r) (key q)=true) {x y:α} (hx:x ∈ L) (p:y ∈ L) (e:key x=key y):x=y:=by
 induction L with
 | nil=>simp at hx
 | cons z r ih =>
  obtain ⟨o,s⟩:=tg.1 h;rcases uv.1 hx with j | c <;> rcases uv.1 p with m | g
  ·rw [j,m]
  ·have:=o y g;rw [<- j,e,klt_irr] at this;cases this
  ·have:=o x c;rw [<- m,e,klt_irr] at this;cases this
  ·exact ih s c g

theorem first_is {α:Type} {q:α->Bool} {del:α->Option Bool}:∀(L:List α) (n:Nat),(∀x ∈ L,del x=some (q x)) ->
  (zn (λ(g:Nat) (o:α) (_:Unit)=>(((del o).bind λp=>(if p=true then some (.ret (g:Int)) else some (.nxt ()))):Option (Out Int Unit))) L n ()=some (.inr ())/\∀x ∈ L,q x=false) \/
  ∃A x B,L=A++x::B/\q x=true/\(∀y ∈ A,q y=false)/\zn (λ(g:Nat) (o:α) (_:Unit)=>(((del o).bind λp=>(if p=true then some (.ret (g:Int)) else some (.nxt ()))):Option (Out Int Unit))) L n ()=some (.inl ((n+A.length:Nat):Int))
 | [],n,_=>.inl ⟨rfl,by simp⟩
 | x::r,n,h=>by
  have hx:=h x (by simp);cases hq:q x with
  | true=>exact .inr ⟨[],x,r,rfl,hq,by simp,by simp [zn,hx,hq]⟩
  | false =>
   rcases first_is r (n+1) (λy c=>h y (by simp [c])) with ⟨e,m⟩ | ⟨A,y,B,rfl,s,m,e⟩
   ·refine .inl ⟨by simp only [zn,hx,hq,ua];exact e,?_⟩;intro y c;rcases uv.1 c with rfl | c
    ·exact hq
    ·exact m y c
   ·refine .inr ⟨x::A,y,B,rfl,s,?_,?_⟩
    ·intro z j;rcases uv.1 j with rfl | j
     ·exact hq
     ·exact m z j
    ·simp only [zn,hx,hq,ua];rw [show n+(x::A).length=n+1+A.length by simp only [uc];omega];exact e
def node0:GA:=GA.mk ([]:zd) ([]:List GE) ([]:List GA)
def nodeOf (t:List GA) (s:zd):Option GA:=t.find? λx=>x.name==s
theorem linear_is (t:List GA) (s:zd):qh t s=some (match nodeOf t s with | some x=>(x,true) | none=>(node0,false)):=by
 unfold qh xy;rcases first_is (q:=λx:GA=>x.name==s) (del:=λc=>treeXlinearC1 c s) t 0 (λx _=>rfl) with ⟨e,h⟩ | ⟨A,x,B,rfl,m,j,e⟩
 ·rw [e];have:nodeOf t s=none:=ry.2 λx hx=>by rw [h x hx];simp
  rw [this];rfl
 ·rw [e];have:nodeOf (A++x::B) s=some x:=by
   unfold nodeOf;rw [List.find?_append,ry.2 (λy g=>by rw [j y g];simp),List.find?_cons,m];rfl
  rw [this];simp only [lp,ua,uU];rw [ur (by simp),zG (x:=x) (by simp)];rfl
def nodeAt:List GA->List zd->Option GA
 | _,[]=>none
 | t,[s]=>nodeOf t s
 | t,s::c::q=>(nodeOf t s).bind λx=>nodeAt x.subs (c::q)
noncomputable def tlF:Nat->zd->(List GA)×Bool×zd×(List GE)×(List GA)->Option (Out ((GE×Bool) ⊕ (Bool×zd×(List GE)×(List GA))) ((List GA)×Bool×zd×(List GE)×(List GA))):=(λ(_:Nat) (x2:zd) (s2:(List GA)×Bool×zd×(List GE)×(List GA))=>(((qh s2.1 x2).bind λv47=>(if (!v47.2)=true then some (.brk (s2.1,v47.2,v47.1.name,v47.1.leaves,v47.1.subs)) else some (.nxt (v47.1.subs,v47.2,v47.1.name,v47.1.leaves,v47.1.subs))))))
noncomputable def tlR (kind2:Int) (s1:Bool×zd×(List GE)×(List GA)):Option (GE×Bool):=((zZ s1.2.2.1 (λx0=>treeLeafC1 x0 kind2)).bind λv49=>((if (((!s1.1) || (decide (v49 < (0:Int))))==false)=true then qw kind2 else some default).bind λv50=>(if (((!s1.1) || (decide (v49 < (0:Int)))) || (v50.typ==(0:Int)))=true then ((qw kind2).bind λv52=>some (v52,false)) else ((yx s1.2.2.1 v49).bind λy53=>((xG y53.items).bind λv54=>((xW y53.tombs).bind λv55=>some ((GE.mk y53.typ y53.n y53.time y53.dot y53.text v54 v55),true)))))))
theorem tl_eq (t0:List GA) (c:List zd) (e:Int):treeLeaf t0 c e=(lp ((lp (zn tlF c 0 (t0,(decide (((c).length:Int) > (0:Int))),([]:zd),([]:List GE),([]:List GA))) λ(s2:(List GA)×Bool×zd×(List GE)×(List GA))=>some (.inr (s2.2.1,s2.2.2.1,s2.2.2.2.1,s2.2.2.2.2))):Option ((GE×Bool) ⊕ (Bool×zd×(List GE)×(List GA)))) (tlR e)):=rfl
theorem tl_walk:∀(p:List zd) (n:Nat) (t:List GA) (z:Bool×zd×(List GE)×(List GA)),p ≠ [] ->
  match nodeAt t p with
  | some x=>zn tlF p n (t,z)=some (.inr (x.subs,true,x.name,x.leaves,x.subs))
  | none=>∃u,zn tlF p n (t,z)=some (.inr (u,false,([]:zd),([]:List GE),([]:List GA)))
 | [],_,_,_,h=>absurd rfl h
 | [s],n,t,z,_=>by
  simp only [nodeAt,zn,tlF,linear_is,ua];cases nodeOf t s with
  | none=>exact ⟨t,rfl⟩
  | some x=>rfl
 | s::c::q,n,t,z,_=>by
  have g:=λu z=>tl_walk (c::q) (n+1) u z (by simp);simp only [nodeAt];cases e:nodeOf t s with
  | none=>exact ⟨t,by rw [zn];simp only [tlF,linear_is,e,ua];rfl⟩
  | some x =>
   have j:tlF n s (t,z)=some (.nxt (x.subs,true,x.name,x.leaves,x.subs)):=by simp only [tlF,linear_is,e,ua];rfl
   have:=g x.subs (true,x.name,x.leaves,x.subs);rw [zn,j,ua];exact this
theorem nodeOf_split {t:List GA} (s:zd) (h:upB t=true):(nodeOf t s=none/\∀y ∈ t,y.name ≠ s) \/ ∃A x B,t=A++x::B/\nodeOf t s=some x/\x.name=s/\(∀y ∈ A,y.name ≠ s)/\∀y ∈ B,y.name ≠ s:=by
 rcases split_up s h with ⟨A,B,rfl,e,g⟩ | ⟨A,x,B,rfl,hx,e,g⟩
 ·left;have:∀y ∈ A++B,y.name ≠ s:=λy c=>by
   rcases uA.1 c with c | c
   ·exact e.ne y c
   ·exact g.ne y c
  exact ⟨ry.2 λy c=>by simp [this y c],this⟩
 ·refine .inr ⟨A,x,B,rfl,?_,hx,e.ne,g.ne⟩;unfold nodeOf;rw [List.find?_append,ry.2 (λy c=>by simp [e.ne y c]),List.find?_cons];simp [hx]
theorem row_at:∀(p:List zd) (t:List GA) (d:Nat) (a:List zd) (l:GE),p ≠ []->treeB d t=true->(GH.mk (a++p) l ∈ zu a t ↔ ∃x,nodeAt t p=some x/\l ∈ x.leaves)
 | [],_,_,_,_,h,_=>absurd rfl h
 | s::q,t,d,a,l,_,h=>by
  obtain ⟨G,H⟩:=yg h;rcases nodeOf_split s G with ⟨e,D⟩ | ⟨A,x,B,rfl,e,hx,I,C⟩
  ·have u:nodeAt t (s::q)=none:=by cases q <;> simp [nodeAt,e]
   rw [u];constructor
   ·intro g;exact (rows_off D g rfl).elim
   ·rintro ⟨x,h,_⟩;cases h
  ·rw [qO,show x::B=[x]++B from rfl,qO,rows_one,uA,uA,rowsN_mem,hx];have o:¬ GH.mk (a++s::q) l ∈ zu a A:=λg=>rows_off I g rfl;have z:¬ GH.mk (a++s::q) l ∈ zu a B:=λg=>rows_off C g rfl;have j:=(vq (H x (by simp))).2.1;cases q with
   | nil =>
    have E:¬ GH.mk (a++[s]) l ∈ zu (a++[s]) x.subs:=λg=>by
     have:=(rows_path _ _ _ g).1;simp at this
    have u:nodeAt (A++x::B) [s]=some x:=e;have m:nodeAt (A++([x]++B)) [s]=some x:=e;rw [m];constructor
    ·rintro (h | (⟨y,v,h⟩ | h) | h)
     ·exact (o h).elim
     ·injection h with _ h;subst h;exact ⟨x,rfl,v⟩
     ·exact (E h).elim
     ·exact (z h).elim
    ·rintro ⟨y,h,F⟩
     injection h with h;subst h;exact .inr (.inl (.inl ⟨l,F,rfl⟩))
   | cons c q =>
    have w:=row_at (c::q) x.subs (d+1) (a++[s]) l (by simp) j;have J:a++[s]++c::q=a++s::c::q:=by simp
    rw [J] at w;have m:nodeAt (A++([x]++B)) (s::c::q)=nodeAt x.subs (c::q):=by
     show (nodeOf (A++x::B) s).bind _=_;rw [e];rfl
    rw [m,w];constructor
    ·rintro (h | (⟨y,v,h⟩ | h) | h)
     ·exact (o h).elim
     ·injection h with h _;have:=congrArg List.length h;simp at this
     ·exact h
     ·exact (z h).elim
    ·intro h;exact .inr (.inl (.inr h))
theorem row_mk {p:List zd} (h:rkey r=(p,k)):r=GH.mk ([]++p) r.leaf:=by
 have e:r.path=p:=congrArg Prod.fst h;cases r;simp only at e;rw [e];rfl
theorem leafNew_typ (h:1<=k/\k<=4):∃v,qw k=some v/\v.typ=k:=by
 unfold qw;rw [ur (by simp;omega)];exact ⟨_,rfl,rfl⟩
theorem tlR_none (s:zd):∃v,tlR k (false,s,([]:List GE),([]:List GA))=some (v,false):=by
 obtain ⟨v,e⟩:=leafNew_tot k;refine ⟨v,?_⟩;unfold tlR zZ;simp [zn,lp,e]
theorem treeLeaf_is {t:List GA} (h:treeB 0 t=true) (C:∀r ∈ zu [] t,LeafOk r.leaf) {p:List zd} (F:p ≠ []) {k:Int} (J:1<=k/\k<=4) :
  (∃l,GH.mk p l ∈ zu [] t/\l.typ=k/\treeLeaf t p k=some (l,true)) \/ ((∀r ∈ zu [] t,rkey r ≠ (p,k))/\∃v,treeLeaf t p k=some (v,false)):=by
 have j:=tl_walk p 0 t (decide ((p.length:Int) > 0),([]:zd),([]:List GE),([]:List GA)) F;have z:=λl=>row_at p t 0 [] l F h;rw [tl_eq];cases e:nodeAt t p with
 | none =>
  rw [e] at j;obtain ⟨u,j⟩:=j;right;refine ⟨λr c s=>?_,?_⟩
  ·have:=row_mk s;rw [this] at c;obtain ⟨x,m,_⟩:=(z _).1 c;rw [e] at m;cases m
  ·rw [j];exact tlR_none []
 | some x =>
  rw [e] at j;simp only at j;rw [j];simp only [x4];obtain ⟨v0,H,O⟩:=leafNew_typ J;unfold tlR zZ;rcases first_is (q:=λy:GE=>y.typ==k) (del:=λI=>treeLeafC1 I k) x.leaves 0 (λx _=>rfl) with ⟨D,m⟩ | ⟨A,y,B,o,m,P,D⟩
  ·right;refine ⟨λr c s=>?_,v0,?_⟩
   ·have:=row_mk s;rw [this] at c;obtain ⟨Q,w,K⟩:=(z _).1 c;rw [e] at w;injection w with w;subst w;have:=m _ K;simp only [sL] at this;exact this (congrArg Prod.snd s)
   ·simp only [];rw [D];simp [lp,H]
  ·left;have N:y ∈ x.leaves:=by rw [o];simp
   have g:GH.mk ([]++p) y ∈ zu [] t:=(z y).2 ⟨x,e,N⟩;have E:y.typ=k:=by simpa using m
   have G:=C _ g;refine ⟨y,g,E,?_⟩;simp only [];rw [D];simp only [lp,ua,uU];have M:((!true) || (decide (((A.length:Nat):Int) < (0:Int))))=false:=by simp
   rw [M];simp only [tG,ut,H,ua,tD,O];rw [ur (by simp;omega),o,zG (x:=y) (by simp),ua,cloneItem_is (x5 (s5 G.items)),ua,cloneDot_is (x5 (s5 G.tombs)),ua]

structure EOk (e:GJ):Prop where
 path:xA e.path=true
 typ:1<=e.typ/\e.typ<=4
 any:e.had=true \/ e.has=true
 ne:e.had=true->e.has=true->e.was ≠ e.is
 was1:e.had=true->leafB e.was=true/\LeafOk e.was/\e.was.typ=e.typ
 was0:e.had=false->e.was=leaf0
 is1:e.has=true->leafB e.is=true/\LeafOk e.is/\e.is.typ=e.typ
 is0:e.has=false->e.is=leaf0
def eLt (a b:GJ):Prop:=kltB (ekey a) (ekey b)=true
theorem side_is (c:there=true->leafB l=true/\LeafOk l/\l.typ=k) (h0:there=false->l=leaf0):wA there l k=some true:=by
 cases there with
 | false=>rw [h0 rfl];exact side0 k
 | true=>obtain ⟨a,b,rfl⟩:=c rfl;exact side1 a b
theorem diffMay_is {es:List GJ} (t:es.length<=16777216) (p:∀e ∈ es,EOk e) (g:es.Pairwise eLt):diffMay es=some true:=by
 unfold diffMay;rw [qv (r:=false) (λ_ _=>true) (λi x hx=>?_)]
 ·have:allI (λ_ _=>true) es=true:=allI_iff.2 λ_ _ _=>rfl;rw [um this]
 ·have hi:=(ud.1 hx).1;have c:=p x (uG hx);have J:decide (x.typ >= 1)=true:=uN c.typ.1;have E:decide (x.typ<=4)=true:=uN c.typ.2;have K:ql x.path=some true:=by rw [opMayPath_is,c.path]
  have H:∃v,(if ((decide ((i:Int) > (0:Int)))==true)=true then diffXorder (es.getD (IntKind.wrap .i64 ((i:Int) - (1:Int))).toNat default) x else some default)=some v/\((decide ((i:Int) > 0))&&(decide (v >= 0)))=false:=by
   by_cases h0:0 < i
   ·have y:IntKind.wrap .i64 ((i:Int) - 1)=((i - 1:Nat):Int):=by rw [wG (by omega)];omega
    have F:es[i - 1]?=some es[i - 1]:=ul (by omega);have s:ordI es[i - 1] x < 0:=ordI_lt.2 (by
     have:=tE.1 g (i - 1) i (by omega) hi (by omega)
     rwa [(ud.1 hx).2] at this)
    have C:es.getD (i - 1) default=es[i - 1]:=by
     rw [uI,F];rfl
    rw [uN (by omega:(i:Int) > 0),y,uz,C,order_is];exact ⟨_,rfl,by rw [uS (by omega)];rfl⟩
   ·rw [uS (by omega:¬ (i:Int) > 0)];exact ⟨default,rfl,rfl⟩
  obtain ⟨v,m,o⟩:=H;have u:((decide ((i:Int) > (0:Int)))==true)=true->0<=(IntKind.wrap .i64 ((i:Int) - (1:Int)))/\(IntKind.wrap .i64 ((i:Int) - (1:Int))) < ((es).length:Int):=by
   intro h;simp only [sf,uh] at h;rw [wG (by omega)];omega
  obtain ⟨z,G,j⟩:∃z,(if ((x.had&&x.has)==true)=true then wy x.was x.is else some default)=some z/\((x.had&&x.has)&&z)=false:=by
   cases h1:x.had with
   | false=>exact ⟨default,rfl,rfl⟩
   | true =>
    cases s:x.has with
    | false=>exact ⟨default,rfl,rfl⟩
    | true=>exact ⟨false,by rw [um (by rfl),leafSame_is,uS (c.ne h1 s)],rfl⟩
  have I:wA x.had x.was x.typ=some true:=side_is c.was1 c.was0;have s2:wA x.has x.is x.typ=some true:=side_is c.is1 c.is0;have M:((!x.had)&&(!x.has))=false:=by
   rcases c.any with h | h <;> simp [h]
  rw [G,ua,K,ua,J,E];have w:((((!true) || (!(true&&true))) || ((!x.had)&&(!x.has))) || ((x.had&&x.has)&&z))=false:=by rw [M,j];rfl
  rw [w,um (by rfl),I,ua];have N:((false || (!true))==false)=true:=rfl;rw [um N,s2,ua];have D:((false || (!true)) || (!true))=false:=rfl;rw [D,ur (by decide),zi u,m,ua,o];simp
noncomputable def patF (t0:List GA):Nat->GJ->List GA->Option (Out (List GA×Int) (List GA)):=(λ(n1:Nat) (x1:GJ) (s1:(List GA))=>(((treeLeaf t0 x1.path x1.typ).bind λv14=>((if (((!(v14.2==x1.had))==false)&&(v14.2==true))=true then wy v14.1 x1.was else some default).bind λv15=>(if ((!(v14.2==x1.had)) || (v14.2&&(!v15)))=true then some (.ret (([]:List GA),(16:Int))) else ((diffXlay s1 x1.path x1.typ x1.is x1.has).bind λv17=>some (.nxt v17))))):Option (Out _ (List GA))))
theorem patch_eq (t0:List GA) (c:List GJ):diffPatch t0 c=((treeMay t0).bind λv1=>((if ((!v1)==false)=true then diffMay c else some default).bind λv2=>(if ((!v1) || (!v2))=true then some (([]:List GA),(2:Int)) else ((vp t0 ([([42,42]:zd)]:List zd)).bind λv4=>(lp (zn (patF t0) c 0 v4.1) λ(e:(List GA))=>some (e,(0:Int))))))):=rfl
theorem sub_len {α:Type} {lt:α->α->Prop} (c:∀x,¬ lt x x):∀(L M:List α),L.Pairwise lt->(∀x ∈ L,x ∈ M)->L.length<=M.length
 | [],_,_,_=>sq _
 | x::L,M,h,hs=>by
  obtain ⟨p,o⟩:=tg.1 h;obtain ⟨A,B,rfl⟩:=List.append_of_mem (hs x (by simp));have:=sub_len c L (A++B) o λy m=>by
   have g:=hs y (by simp [m]);have j:y ≠ x:=λe=>c x (by have:=p y m;rwa [e] at this);simp only [uA,uv] at g ⊢;rcases g with h | h | h
   ·exact .inl h
   ·exact (j h).elim
   ·exact .inr h
  simp only [ue,uc] at this ⊢;omega
theorem pathB_parts {p:List zd} (h:xA p=true):p ≠ []/\p.length<=3/\p.all nameB=true:=by
 refine ⟨pathB_ne h,?_⟩;simp only [xA,uf,uh] at h;exact ⟨h.1.2,h.2⟩
theorem lay_all {p:List zd} {t:List GA} (o:there=true->l.typ=k/\leafB l=true/\LeafOk l) (y:xA p=true) (m:treeB 0 t=true) (s:(zu [] t).length<=16777215) :
  ∃t',diffXlay t p k l there=some t'/\treeB 0 t'=true/\(zu [] t').length<=(zu [] t).length+1/\∀r,r ∈ zu [] t' ↔ (r ∈ zu [] t/\rkey r ≠ (p,k)) \/ (there=true/\r=⟨p,l⟩):=by
 obtain ⟨v,D,j⟩:=pathB_parts y;obtain ⟨t',F,g,_,c⟩:=lay_is o p t 0 (p.length+1) v j (by omega) m s (by omega);have c:=c [];simp only [uT] at c;refine ⟨t',anyN_of (p.length+1) λn E=>?_,g,?_,c⟩
 ·obtain ⟨u,w,C,_,e⟩:=lay_is o p t 0 n v j (by omega) m s (by omega);have e:=e [];simp only [uT] at e;rw [w,rows_ext C g λr=>by rw [e,c]]
 ·have:=sub_len (lt:=λr q=>kltB (rkey r) (rkey q)=true) (λx h=>by rw [klt_irr] at h;cases h) (zu [] t') (zu [] t++[⟨p,l⟩]) (rows_sorted g []) λr z=>by
   rcases (c r).1 z with h | h
   ·simp [h.1]
   ·simp [h.2]
  simpa using this
structure EFits (t:List GA) (e:GJ):Prop where
 had:e.had=true->GH.mk e.path e.was ∈ zu [] t
 new:e.had=false->∀r ∈ zu [] t,rkey r ≠ ekey e
theorem patF_is {t s:List GA} {e:GJ} (w:treeB 0 t=true) (o:∀r ∈ zu [] t,LeafOk r.leaf) (c:EOk e) (j:EFits t e) (hs:treeB 0 s=true) (E:(zu [] s).length<=16777215) (n:Nat) :
  ∃u,patF t n e s=some (.nxt u)/\treeB 0 u=true/\(zu [] u).length<=(zu [] s).length+1/\∀r,r ∈ zu [] u ↔ (r ∈ zu [] s/\rkey r ≠ ekey e) \/ (e.has=true/\r=⟨e.path,e.is⟩):=by
 obtain ⟨u,y,z,D,C⟩:=lay_all (k:=e.typ) (l:=e.is) (there:=e.has) (λh=>⟨(c.is1 h).2.2,(c.is1 h).1,(c.is1 h).2.1⟩) c.path hs E;refine ⟨u,?_,z,D,C⟩;unfold patF;rcases treeLeaf_is w o (pathB_parts c.path).1 c.typ with ⟨l,g,p,m⟩ | ⟨g,v,m⟩
 ·have hh:e.had=true:=by
   cases h:e.had with
   | true=>rfl
   | false=>exact (j.new h _ g (by unfold rkey ekey;rw [p])).elim
  have:(GH.mk e.path l)=GH.mk e.path e.was:=sorted_key (rows_sorted w []) g (j.had hh) (by unfold rkey;rw [p,(c.was1 hh).2.2]);injection this with _ F;rw [m,hh,F];simp only [ua,leafSame_is,y];simp
 ·have hh:e.had=false:=by
   cases h:e.had with
   | false=>rfl
   | true=>exact (g _ (j.had h) (by unfold rkey;rw [(c.was1 h).2.2])).elim
  rw [m,hh];simp only [ua,y];simp
theorem pat_loop {t:List GA} (o:treeB 0 t=true) (j:∀r ∈ zu [] t,LeafOk r.leaf):∀(es:List GJ) (n:Nat) (s:List GA),(∀e ∈ es,EOk e/\EFits t e)->es.Pairwise eLt->treeB 0 s=true->(zu [] s).length+es.length<=16777215 ->
  ∃u,zn (patF t) es n s=some (.inr u)/\treeB 0 u=true/\∀r,r ∈ zu [] u ↔ (r ∈ zu [] s/\∀e ∈ es,rkey r ≠ ekey e) \/ ∃e ∈ es,e.has=true/\r=⟨e.path,e.is⟩
 | [],n,s,_,_,hs,_=>⟨s,rfl,hs,λr=>by simp⟩
 | e::es,n,s,h,hp,hs,hw=>by
  obtain ⟨F,w⟩:=tg.1 hp;simp only [uc] at hw;obtain ⟨p,E⟩:=h e (by simp);obtain ⟨D,J,a2,a3,a4⟩:=patF_is o j p E hs (by omega) n;obtain ⟨u,v,H,z⟩:=pat_loop o j es (n+1) D (λx hx=>h x (by simp [hx])) w a2 (by omega);refine ⟨u,by rw [zn,J];exact v,H,λr=>?_⟩;rw [z,a4];have g:e.has=true->∀x ∈ es,rkey ⟨e.path,e.is⟩ ≠ ekey x:=λhh x hx C=>by
   have:=F x hx;unfold eLt at this;rw [<- C] at this;have I:rkey ⟨e.path,e.is⟩=ekey e:=by unfold rkey ekey;rw [(p.is1 hh).2.2]
   rw [I,klt_irr] at this;cases this
  constructor
  ·rintro (⟨c | c,m⟩ | ⟨x,hx,c⟩)
   ·refine .inl ⟨c.1,λx hx=>?_⟩;rcases uv.1 hx with rfl | hx
    ·exact c.2
    ·exact m x hx
   ·exact .inr ⟨e,by simp,c⟩
   ·exact .inr ⟨x,by simp [hx],c⟩
  ·rintro (⟨c,m⟩ | ⟨x,hx,c⟩)
   ·exact .inl ⟨.inl ⟨c,m e (by simp)⟩,λx hx=>m x (by simp [hx])⟩
   ·rcases uv.1 hx with rfl | hx
    ·exact .inl ⟨.inr c,λy G=>by rw [c.2];exact g c.1 y G⟩
    ·exact .inr ⟨x,hx,c⟩
theorem select_all {t:List GA} (hs:Small t) (c:treeB 0 t=true):vp t [[42,42]]=some (t,0):=by
 have e:patB [[42,42]]=true:=by decide
 rw [pathsSelect_is hs (by simp [maxLen]),c,e];have:wo (matchB [[42,42]]) [] t=t:=by
  refine rows_ext (keep_may _ t 0 [] c) c λr=>?_;rw [keep_rows,tj];refine ⟨λh=>h.1,λh=>⟨h,?_⟩⟩;have g:=(rows_ok t 0 [] hs c rfl rfl r h).path;unfold matchB;rw [g,e];simp [wa,endsB,agreeB]
 simp [this]
theorem patch_is {t:List GA} (hs:Small t) (c:treeB 0 t=true) {es:List GJ} (m:(zu [] t).length+es.length<=16777215) (h:∀e ∈ es,EOk e/\EFits t e) (j:es.Pairwise eLt) :
  ∃u,diffPatch t es=some (u,0)/\treeB 0 u=true/\∀r,r ∈ zu [] u ↔ (r ∈ zu [] t/\∀e ∈ es,rkey r ≠ ekey e) \/ ∃e ∈ es,e.has=true/\r=⟨e.path,e.is⟩:=by
 have g:=λr s=>(rows_ok t 0 [] hs c rfl rfl r s).ok;obtain ⟨u,p,a2,a3⟩:=pat_loop c g es 0 t h j c m;refine ⟨u,?_,a2,a3⟩;rw [patch_eq,treeMay_is hs,c,ua,um (show ((!true)==false)=true from rfl),diffMay_is (by omega) (λe o=>(h e o).1) j,ua,ur (by decide),select_all hs c,ua,p,x4]

def keyS (p:List zd) (k:Int):zd:=p.flatMap (λs=>s++[0])++[UInt8.ofNat k.toNat]
theorem name_len {s:zd} (h:nameB s=true):s.length<=12/\∀b ∈ s,b ≠ 0:=by
 simp only [nameB,uf,uh,uu] at h;refine ⟨h.1.2,λb c e=>?_⟩;have:=h.2 b c;rw [e] at this;revert this;decide
theorem flat_inj:∀(p q:List zd),p.all nameB=true->q.all nameB=true->p.flatMap (λs=>s++[(0:UInt8)])=q.flatMap (λs=>s++[0])->p=q
 | [],[],_,_,_=>rfl
 | [],s::q,_,_,h=>by simp at h
 | s::p,[],_,_,h=>by simp at h
 | s::p,c::q,h1,h2,h=>by
  simp only [uY,uf] at h1 h2;simp only [tx,uB,List.singleton_append] at h;have j:=(name_len h1.1).2;have a2:=(name_len h2.1).2;have g:∀(s:zd) (r:List UInt8),(∀b ∈ s,b ≠ 0)->(s++0::r).takeWhile (λb=>decide (b ≠ 0))=s:=λs r hs=>by
   rw [List.takeWhile_append_of_pos (λb m=>by simp [hs b m])];simp
  have e:s=c:=by rw [<- g s _ j,<- g c _ a2,h]
  subst e;have h:=rC h;injection h with _ h;rw [flat_inj p q h1.2 h2.2 h]
theorem key_inj {p q:List zd} {j:Int} (e:xA p=true) (g:xA q=true) (o:1<=k/\k<=4) (s:1<=j/\j<=4) (h:keyS p k=keyS q j):p=q/\k=j:=by
 unfold keyS at h;have m:=List.append_inj_left' h rfl;have c:=List.append_inj_right' h rfl;refine ⟨flat_inj p q (pathB_parts e).2.2 (pathB_parts g).2.2 m,?_⟩;injection c with c _;have:=congrArg UInt8.toNat c;simp at this;omega
section
variable {W:Type}
def mnd (m:List (zd×W)):Prop:=m.Pairwise λx y=>x.1 ≠ y.1
end
structure Side (rs:List GH) (p:List zd) (k:Int) (there:Bool) (l:GE):Prop where
 on:there=true->GH.mk p l ∈ rs/\l.typ=k
 off:there=false->l=leaf0/\∀r ∈ rs,rkey r ≠ (p,k)
structure EdOf (ra rb:List GH) (e:GJ):Prop where
 any:e.had=true \/ e.has=true
 a:Side ra e.path e.typ e.had e.was
 b:Side rb e.path e.typ e.has e.is
theorem Side.one (h:rs.Pairwise λr q=>kltB (rkey r) (rkey q)=true) {p:List zd} {k:Int} {x y:Bool} {l m:GE} (g:Side rs p k x l) (s2:Side rs p k y m):x=y/\l=m:=by
 cases x with
 | true =>
  obtain ⟨o,a2⟩:=g.on rfl;cases y with
  | true =>
   obtain ⟨c,j⟩:=s2.on rfl;have:=sorted_key h o c (by unfold rkey;rw [a2,j]);injection this with _ e;exact ⟨rfl,e⟩
  | false=>exact ((s2.off rfl).2 _ o (by unfold rkey;rw [a2])).elim
 | false =>
  cases y with
  | true =>
   obtain ⟨c,j⟩:=s2.on rfl;exact ((g.off rfl).2 _ c (by unfold rkey;rw [j])).elim
  | false=>exact ⟨rfl,(g.off rfl).1.trans (s2.off rfl).1.symm⟩
theorem EdOf.one {m j:List GH} (v:m.Pairwise λr q=>kltB (rkey r) (rkey q)=true) (w:j.Pairwise λr q=>kltB (rkey r) (rkey q)=true) {e f:GJ} (t:EdOf m j e) (p:EdOf m j f) (h:ekey e=ekey f):e=f:=by
 have c:e.path=f.path:=congrArg Prod.fst h;have g:e.typ=f.typ:=congrArg Prod.snd h;obtain ⟨s,a2⟩:=t.a.one v (by rw [c,g];exact p.a);obtain ⟨o,u⟩:=t.b.one w (by rw [c,g];exact p.b);cases e;cases f;simp only at c g s a2 o u;subst c g s a2 o u;rfl
def RKey (r:GH):Prop:=xA r.path=true/\1<=r.leaf.typ/\r.leaf.typ<=4
structure MInv (ra rb:List GH) (m:List (zd×GJ)):Prop where
 nd:mnd m
 ed:∀x ∈ m,EdOf ra rb x.2/\x.1=keyS x.2.path x.2.typ/\xA x.2.path=true/\1<=x.2.typ/\x.2.typ<=4
 ca:∀r ∈ ra,∃x ∈ m,ekey x.2=rkey r
 cb:∀r ∈ rb,∃x ∈ m,ekey x.2=rkey r
theorem MInv.nil:MInv [] [] []:=⟨List.Pairwise.nil,by simp,by simp,by simp⟩
theorem MInv.key {t s:List GH} {m:List (zd×GJ)} (h:MInv t s m) {r:GH} (j:RKey r) {x:zd×GJ} (hx:x ∈ m):x.1=keyS r.path r.leaf.typ ↔ ekey x.2=rkey r:=by
 obtain ⟨_,o,p,u⟩:=h.ed x hx;constructor
 ·intro e;rw [o] at e;obtain ⟨c,g⟩:=key_inj p j.1 u j.2 e;unfold ekey rkey;rw [c,g]
 ·intro e;have c:x.2.path=r.path:=congrArg Prod.fst e;have g:x.2.typ=r.leaf.typ:=congrArg Prod.snd e;rw [o,c,g]
theorem rows_key {t:List GA} (hs:Small t) (e:treeB 0 t=true):∀r ∈ zu [] t,RKey r:=λr c=>by
 have:=rows_ok t 0 [] hs e rfl rfl r c;exact ⟨this.path,leaf_typ this.leaf⟩
theorem loop_ex {α ρ:Type} {f:Nat->α->Unit->Option (Out ρ Unit)} {r:ρ} {P:Nat->α->Prop}:∀(L:List α) (k:Nat),(∀i x,L[i]?=some x->∃v:Bool,f (k+i) x ()=(if v=true then some (.nxt ()) else some (.ret r))/\(v=true->P (k+i) x)) ->
  (zn f L k ()=some (.inr ())/\∀i x,L[i]?=some x->P (k+i) x) \/ zn f L k ()=some (.inl r)
 | [],k,_=>.inl ⟨rfl,by simp⟩
 | x::L,k,h=>by
  obtain ⟨v,e,g⟩:=h 0 x rfl;cases v with
  | false =>
   right;rw [tA] at e;rw [zn,e];rfl
  | true =>
   rw [tA] at e;rw [zn,e];rcases loop_ex L (k+1) (λi y c=>by
    have:=h (i+1) y (by simpa using c)
    rwa [show k+(i+1)=k+1+i by omega] at this) with ⟨h1,h2⟩ | h1
   ·refine .inl ⟨h1,λi y c=>?_⟩;rcases i with _ | i
    ·simp at c;subst c;exact g rfl
    ·have:=h2 i y (by simpa using c)
     rwa [show k+1+i=k+(i+1) by omega] at this
   ·exact .inr h1
theorem same_list {α:Type} {a b:List α} (c:a.length=b.length) (h:∀(i:Nat) (x:α),a[i]?=some x->b[i]?=some x):a=b:=by
 refine u6 λi=>?_;by_cases hi:i < a.length
 ·have:=ul hi;rw [this,h i _ this]
 ·rw [tB (by omega),tB (by omega)]
theorem same5_is (a b:GE):∃v,vG a b=some v/\(v=true->a=b):=by
 unfold vG;simp only [dotEq,itemEq];split
 ·exact ⟨false,rfl,λh=>by cases h⟩
 ·rename_i s;simp only [u5,pE,ne_eq,t6,sL,rA,sU,Classical.not_not] at s;obtain ⟨⟨⟨⟨⟨⟨o,c2⟩,c3⟩,c4⟩,c5⟩,w⟩,u⟩:=s;have g:a.items.length=b.items.length:=by omega
  have e:a.tombs.length=b.tombs.length:=by omega
  rcases loop_ex (r:=false) (P:=λi x=>b.items[i]?=some x) (f:=(λ(j:Nat) (m:GF) (t:Unit)=>(((yx b.items (j:Int)).bind λc=>(if (!decide (m=c))=true then some (.ret false) else some (.nxt ()))):Option (Out Bool Unit)))) a.items 0 (λi x hx=>by
   have hi:=(ud.1 hx).1;refine ⟨decide (x=b.items[i]'(by omega)),?_,λh=>?_⟩
   ·rw [uU,idx_at (by omega:i < b.items.length),ua];cases decide (x=b.items[i]) <;> rfl
   ·rw [uU,ul (by omega),u9 h]) with ⟨e1,h1⟩ | e1
  ·rw [e1,x4];rcases loop_ex (r:=false) (P:=λi x=>b.tombs[i]?=some x) (f:=(λ(j:Nat) (m:GC) (t:Unit)=>(((yx b.tombs (j:Int)).bind λc=>(if (!decide (m=c))=true then some (.ret false) else some (.nxt ()))):Option (Out Bool Unit)))) a.tombs 0 (λi x hx=>by
    have hi:=(ud.1 hx).1;refine ⟨decide (x=b.tombs[i]'(by omega)),?_,λh=>?_⟩
    ·rw [uU,idx_at (by omega:i < b.tombs.length),ua];cases decide (x=b.tombs[i]) <;> rfl
    ·rw [uU,ul (by omega),u9 h]) with ⟨e2,h2⟩ | e2
   ·rw [e2,x4];refine ⟨true,rfl,λ_=>?_⟩;have p:=same_list g λi x hx=>by have:=h1 i x hx;rwa [uU] at this
    have i2:=same_list e λi x hx=>by have:=h2 i x hx;rwa [uU] at this
    cases a;cases b;simp only at o c2 c3 c4 c5 p i2;subst o c2 c3 c4 c5 p i2;rfl
   ·rw [e2];exact ⟨false,rfl,λh=>by cases h⟩
  ·rw [e1];exact ⟨false,rfl,λh=>by cases h⟩
noncomputable def s7F (n:Nat) (t u:List GA):Nat->GA->Unit->Option (Out Bool Unit):=(λ(n1:Nat) (x1:GA) (s1:Unit)=>(((yx u (n1:Int)).bind λy41=>(zN (((!(x1.name==y41.name))==false)=true->0<=(n1:Int)/\(n1:Int) < ((t).length:Int)) ((zN (((!(x1.name==y41.name))==false)=true->0<=(n1:Int)/\(n1:Int) < ((u).length:Int)) ((zN ((((!(x1.name==y41.name)) || (((((t).getD (n1:Int).toNat default).leaves).length:Int) != ((((u).getD (n1:Int).toNat default).leaves).length:Int)))==false)=true->0<=(n1:Int)/\(n1:Int) < ((t).length:Int)) ((zN ((((!(x1.name==y41.name)) || (((((t).getD (n1:Int).toNat default).leaves).length:Int) != ((((u).getD (n1:Int).toNat default).leaves).length:Int)))==false)=true->0<=(n1:Int)/\(n1:Int) < ((u).length:Int)) (((if (((!(x1.name==y41.name)) || (((((t).getD (n1:Int).toNat default).leaves).length:Int) != ((((u).getD (n1:Int).toNat default).leaves).length:Int)))==false)=true then xX n (((t).getD (n1:Int).toNat default).subs) (((u).getD (n1:Int).toNat default).subs) else some default).bind λv48=>(if (((!(x1.name==y41.name)) || (((((t).getD (n1:Int).toNat default).leaves).length:Int) != ((((u).getD (n1:Int).toNat default).leaves).length:Int))) || (!v48))=true then some (.ret false) else (lp (zn (λ(n2:Nat) (x2:GE) (s2:Unit)=>(((yx u (n1:Int)).bind λy60=>((yx y60.leaves (n2:Int)).bind λy61=>((vG x2 y61).bind λv62=>(if (!v62)=true then some (.ret (.ret false)) else some (.nxt ()))))):Option (Out (Out Bool Unit) Unit))) x1.leaves 0 ()) λ(s2:Unit)=>some (.nxt ()))))))))))))):Option (Out Bool Unit)))
theorem s7_eq (n:Nat) (t u:List GA):xX (n+1) t u=(if (((t).length:Int) != ((u).length:Int))=true then some false else lp (zn (s7F n t u) t 0 ()) λ_=>some true):=rfl
theorem s7F_is {t u:List GA} (J:∀(t u:List GA),GA.deps t < n->∃v,xX n t u=some v/\(v=true->t=u)) (h:GA.deps t < n+1) (M:t.length=u.length) (i:Nat) (x:GA) (hx:t[i]?=some x) :
  ∃v:Bool,s7F n t u (0+i) x ()=(if v=true then some (.nxt ()) else some (.ret false))/\(v=true->u[0+i]?=some x):=by
 unfold s7F;have hi:=(ud.1 hx).1;have e:u[i]?=some (u[i]'(by omega)):=ul (by omega);generalize u[i]'(by omega)=y at e;have o:yx u (i:Int)=some y:=zG e;have hd:t.getD i default=x:=by rw [uI,hx];rfl
 have g:u.getD i default=y:=by rw [uI,e];rfl
 have D:=dep_mem (uG hx);have E:=wX x;obtain ⟨v,ev,K⟩:=J x.subs y.subs (by omega);simp only [uU];rw [o];simp only [ua,uz,hd,g];rw [zi (by intro _;omega),zi (by intro _;omega),zi (by intro _;omega),zi (by intro _;omega)];by_cases hn:x.name=y.name
 ·by_cases hll:x.leaves.length=y.leaves.length
  ·have c:((!(x.name==y.name)) || ((x.leaves.length:Int) != (y.leaves.length:Int)))=false:=by simp [hn,hll]
   rw [c,um (by rfl),ev,ua];cases v with
   | false=>exact ⟨false,by simp,λh=>by cases h⟩
   | true =>
    simp only [tq,pk,up,uJ];rcases loop_ex (r:=Out.ret false) (P:=λj l=>y.leaves[j]?=some l) (f:=(λ(F:Nat) (I:GE) (s2:Unit)=>((((yx y.leaves (F:Int)).bind λp=>((vG I p).bind λs=>(if (!s)=true then some (.ret (.ret false)) else some (.nxt ()))))):Option (Out (Out Bool Unit) Unit)))) x.leaves 0 (λj l m=>by
     have C:=(ud.1 m).1;obtain ⟨w,G,H⟩:=same5_is l (y.leaves[j]'(by omega));refine ⟨w,?_,λh=>?_⟩
     ·rw [uU,idx_at (by omega:j < y.leaves.length),ua,G,ua];cases w <;> rfl
     ·rw [uU,ul (by omega),H h]) with ⟨e1,h1⟩ | e1
    ·rw [e1,x4];refine ⟨true,rfl,λ_=>?_⟩;have z:=same_list hll λj l C=>by have:=h1 j l C;rwa [uU] at this
     have i2:=K rfl;rw [e];cases x;cases y;simp only at hn z i2;rw [hn,z,i2]
    ·rw [e1];exact ⟨false,rfl,λh=>by cases h⟩
  ·have c:((!(x.name==y.name)) || ((x.leaves.length:Int) != (y.leaves.length:Int)))=true:=by
    simp [hn];omega
   rw [c];exact ⟨false,rfl,λh=>by cases h⟩
 ·have c:((!(x.name==y.name)) || ((x.leaves.length:Int) != (y.leaves.length:Int)))=true:=by simp [hn]
  rw [c];exact ⟨false,rfl,λh=>by cases h⟩
theorem same7N_is:∀(n:Nat) (t u:List GA),GA.deps t < n->∃v,xX n t u=some v/\(v=true->t=u)
 | 0,_,_,h=>by omega
 | n+1,t,u,h=>by
  rw [s7_eq];split
  ·exact ⟨false,rfl,λh=>by cases h⟩
  ·rename_i c;have c:t.length=u.length:=by simp at c;omega
   rcases loop_ex (r:=false) (P:=λ(i:Nat) (x:GA)=>u[i]?=some x) t 0 (s7F_is (same7N_is n) h c) with ⟨e,g⟩ | e
   ·rw [e,x4];exact ⟨true,rfl,λ_=>same_list c λi x hx=>by have:=g i x hx;rwa [uU] at this⟩
   ·rw [e];exact ⟨false,rfl,λh=>by cases h⟩
theorem same7_ne {t u:List GA} (h:t ≠ u):qS t u=some false:=anyN_of (GA.deps t+1) λn g=>by
 obtain ⟨v,e,c⟩:=same7N_is n t u (by omega);cases v with
 | true=>exact (h (c rfl)).elim
 | false=>exact e

theorem same7_is (t u:List GA):∃v,qS t u=some v/\(v=true ↔ t=u):=by
 by_cases h:t=u
 ·subst h;exact ⟨true,ref07Same_refl t,by simp⟩
 ·exact ⟨false,same7_ne h,by simp [h]⟩
theorem Side.ok {t:List GA} (hs:Small t) (g:treeB 0 t=true) {p:List zd} {k:Int} {there:Bool} {l:GE} (h:Side (zu [] t) p k there l):there=true->leafB l=true/\LeafOk l/\l.typ=k:=λe=>by
 obtain ⟨c,a2⟩:=h.on e;have:=rows_ok t 0 [] hs g rfl rfl _ c;exact ⟨this.leaf,this.ok,a2⟩
theorem Side.rkey {t:List GA} (hs:Small t) (e:treeB 0 t=true) {p:List zd} {k:Int} {l:GE} (h:Side (zu [] t) p k true l):xA p=true/\1<=k/\k<=4:=by
 obtain ⟨c,a2⟩:=h.on rfl;have:=rows_key hs e _ c;unfold RKey at this;rw [a2] at this;exact this
theorem split_typ (k:Int) (h:ls.Pairwise λx y=>x.typ < y.typ):(∃A B,ls=A++B/\(∀y ∈ A,y.typ < k)/\∀y ∈ B,k < y.typ) \/ ∃A x B,ls=A++x::B/\x.typ=k/\(∀y ∈ A,y.typ < k)/\∀y ∈ B,k < y.typ:=by
 induction ls with
 | nil=>exact .inl ⟨[],[],rfl,λ_ h=>by simp at h,λ_ h=>by simp at h⟩
 | cons x t ih =>
  obtain ⟨j,g⟩:=tg.1 h;rcases Int.lt_trichotomy x.typ k with e | e | e
  ·grind
  ·exact .inr ⟨[],x,t,rfl,e,λ_ h=>by simp at h,λy c=>by simp_all⟩
  ·refine .inl ⟨[],x::t,rfl,λ_ h=>by simp at h,λy c=>?_⟩
   grind
theorem layLs_none (e:∀y ∈ A,y.typ < l.typ) (g:∀y ∈ B,l.typ < y.typ):qx l.typ l true (A++B)=A++l::B:=by
 unfold qx;rw [um rfl,tJ,tJ];rw [tR.2 (λy c=>uN (e y c)),tZ.2 (λy c=>by grind),
  tZ.2 (λy c=>by grind),tR.2 (λy c=>uN (g y c))]
 simp
theorem layLs_some (hx:x.typ=l.typ) (e:∀y ∈ A,y.typ < l.typ) (g:∀y ∈ B,l.typ < y.typ):qx l.typ l true (A++x::B)=A++l::B:=by
 unfold qx;rw [um rfl,tJ,tJ,sN,sN];rw [ur (by simp;omega),ur (by simp;omega)];rw [tR.2 (λy c=>uN (e y c)),tZ.2 (λy c=>by grind),
  tZ.2 (λy c=>by grind),tR.2 (λy c=>uN (g y c))]
 simp
theorem layLs_len:(qx k l there ls).length<=ls.length+1:=by
 unfold qx;split
 ·have c:=rB (λx:GE=>decide (x.typ < k)) ls;have e:=c.length_eq;have g:(ls.filter λx=>decide (k < x.typ)).length<=(ls.filter λx=>!decide (x.typ < k)).length:=by
   have:(ls.filter λx=>decide (k < x.typ))=(ls.filter λx=>!decide (x.typ < k)).filter (λx=>decide (k < x.typ)):=by
    rw [rx];refine ph λx _=>?_;rw [uC];simp;omega
   grind
  grind
 ·grind
theorem lay_leaf {s:zd} {A m B:List GA} {sb:List GA} (t:LeafOk l) (p:m.length=if f=true then 1 else 0) (h:zw (A++m++B) s (λo u=>xK o u)=some ((A.length:Int),f))
  (c:((if f=true then ((yx (A++m++B) (A.length:Int)).bind λg=>some (.inr (g.name,g.leaves,g.subs))) else some (.inr (s,([]:List GE),([]:List GA)))):Option (List GA ⊕ (zd×(List GE)×(List GA))))=some (.inr (s,ls,sb)))
  (z:(A++m++B).length<=16777216) (w:ls.length<=16777215) (v:sb.length<=16777217) (e:ls.Pairwise λx y=>x.typ < y.typ) :
  xC (n+1) (A++m++B) [s] l.typ l true=some (A++fitN s (qx l.typ l true ls) sb++B):=by
 have j:yx [s] (0:Int)=some s:=rfl;have:=layLs_len (k:=l.typ) (l:=l) (there:=true) (ls:=ls);rw [layN_eq,j,ua,h,ua,ua];simp only [];rw [c,x4,layIn_leaf (λ_=>⟨rfl,t⟩) (by omega) e,x4,layRest_is p (by omega) (by omega) (by omega)]
theorem lay_sub {s a:zd} {r:List zd} {A m B:List GA} {sb c:List GA} (t:m.length=if f=true then 1 else 0) (o:zw (A++m++B) s (λp v=>xK p v)=some ((A.length:Int),f))
  (e:((if f=true then ((yx (A++m++B) (A.length:Int)).bind λg=>some (.inr (g.name,g.leaves,g.subs))) else some (.inr (s,([]:List GE),([]:List GA)))):Option (List GA ⊕ (zd×(List GE)×(List GA))))=some (.inr (s,ls,sb)))
  (z:(A++m++B).length<=16777216) (y:ls.length<=16777215) (w:c.length<=16777217) (u:(s::a::r).length<=16777216) (h:xC n sb (a::r) k l there=some c) :
  xC (n+1) (A++m++B) (s::a::r) k l there=some (A++fitN s ls c++B):=by
 have j:yx (s::a::r) (0:Int)=some s:=rfl;rw [layN_eq,j,ua,o,ua,ua];simp only [];rw [e,x4,layIn_sub u h,x4,layRest_is t (by omega) (by omega) (by omega)]
theorem fit_one {nm:zd} {sb:List GA} (h:ls ≠ [] \/ sb ≠ []):fitN nm ls sb=[⟨nm,ls,sb⟩]:=by
 unfold fitN;rw [ur];rcases h with h | h
 ·simp_all
 ·simp_all
theorem layLs_ne:qx l.typ l true ls ≠ []:=List.ne_nil_of_mem (layLs_mem.2 (.inr ⟨rfl,rfl⟩))
noncomputable def l7A (t0:List GA) (path1:List zd):(List GA)×Int->Option (Out (List GA) ((List GA)×Int)):=(λ(s1:(List GA)×Int)=>((zN (((decide (s1.2 < ((t0).length:Int)))==true)=true->0<=s1.2/\s1.2 < ((t0).length:Int)) ((zN (((decide (s1.2 < ((t0).length:Int)))==true)=true->0<=(0:Int)/\(0:Int) < ((path1).length:Int)) ((if ((decide (s1.2 < ((t0).length:Int)))&&(Op.bytesLess (((t0).getD s1.2.toNat default).name) ((path1).getD (0:Int).toNat default)))=true then ((yx t0 s1.2).bind λy22=>(zN ((s1.1).length+(([y22]:List GA)).length<=yH) (some (.nxt ((s1.1++([y22]:List GA)),(IntKind.wrap .i64 (s1.2+(1:Int)))))))) else some (.brk (s1.1,s1.2))))))):Option (Out _ ((List GA)×Int))))
noncomputable def l7B (ls:List GE) (l2:GE):(List GE)×Int->Option (Out (List GA) ((List GE)×Int)):=(λ(sd62:(List GE)×Int)=>((zN (((decide (sd62.2 < ((ls).length:Int)))==true)=true->0<=sd62.2/\sd62.2 < ((ls).length:Int)) ((if ((decide (sd62.2 < ((ls).length:Int)))&&(decide (((ls).getD sd62.2.toNat default).typ < l2.typ)))=true then ((yx ls sd62.2).bind λy66=>(zN ((sd62.1).length+(([y66]:List GE)).length<=yH) (some (.nxt ((sd62.1++([y66]:List GE)),(IntKind.wrap .i64 (sd62.2+(1:Int)))))))) else some (.brk (sd62.1,sd62.2))))):Option (Out _ ((List GE)×Int))))
theorem l7A_is {t:List GA} {s:zd} {q:List zd} (p:t.length<=16777216) (a b:List GA) (e:t=a++b) (o:∀y ∈ a,Op.bytesLess y.name s=true) (u:∀y r,b=y::r->Op.bytesLess y.name s=false) :
  ∀(k i:Nat),a.length - i<=k->i<=a.length->zX (l7A t (s::q)) (a.take i,(i:Int))=some (.inr (a,(a.length:Int))):=by
 have v:t.length=a.length+b.length:=by rw [e];simp
 intro k
 induction k with
 | zero =>
  intro i c hi;obtain rfl:i=a.length:=by omega
  rw [yk];have:l7A t (s::q) (a.take a.length,(a.length:Int))=some (.brk (a,(a.length:Int))):=by
   unfold l7A;simp only [tL];rw [zi (by simp_all),zi (by intro h;simp)];cases hbb:b with
   | nil =>
    simp_all
   | cons y r =>
    simp_all
  rw [this]
 | succ k ih =>
  intro i c hi;rcases se i a.length with h | h
  ·rw [yk];have j:t[i]?=some a[i]:=by grind
   have hd:t.getD i default=a[i]:=by simp_all
   have:l7A t (s::q) (a.take i,(i:Int))=some (.nxt (a.take (i+1),((i+1:Nat):Int))):=by
    unfold l7A;simp only;rw [zi (by omega),zi (by intro h;simp)];have g:(s::q).getD (0:Int).toNat default=s:=rfl;have m:IntKind.wrap .i64 ((i:Int)+1)=((i+1:Nat):Int):=by rw [wG (by omega)];omega
    rw [uz,hd,g,o _ (sA h),uN (by omega),uW,um rfl,zG j,ua,zi (x5 (by simp;omega)),m]
    simp_all
   grind
  ·grind

theorem l7B_at (p:ls.length<=16777216) (a b:List GE) (e:ls=a++b) (j:∀y ∈ a,y.typ < l.typ) (s:∀y r,b=y::r->¬ y.typ < l.typ) :
  ∀(k i:Nat),a.length - i<=k->i<=a.length->zX (l7B ls l) (a.take i,(i:Int))=some (.inr (a,(a.length:Int))):=by
 have o:ls.length=a.length+b.length:=by rw [e];simp
 intro k
 induction k with
 | zero =>
  intro i c hi;obtain rfl:i=a.length:=by omega
  rw [yk];have:l7B ls l (a.take a.length,(a.length:Int))=some (.brk (a,(a.length:Int))):=by
   unfold l7B;simp only [tL];rw [zi (by simp_all)];cases hbb:b with
   | nil =>
    simp_all
   | cons y r =>
    grind
  rw [this]
 | succ k ih =>
  intro i c hi;rcases se i a.length with h | h
  ·rw [yk];have m:ls[i]?=some a[i]:=by grind
   have hd:ls.getD i default=a[i]:=by simp_all
   have:l7B ls l (a.take i,(i:Int))=some (.nxt (a.take (i+1),((i+1:Nat):Int))):=by
    unfold l7B;simp only;have g:IntKind.wrap .i64 ((i:Int)+1)=((i+1:Nat):Int):=by rw [wG (by omega)];omega
    rw [zi (by omega),uz,hd,uN (j _ (sA h)),uN (by omega),uW,um rfl,zG m,ua,zi (x5 (by simp;omega)),g]
    simp_all
   grind
  ·grind

noncomputable def l7R (n:Nat) (t0:List GA) (path1:List zd) (l2:GE) (A:List GA) (sd30:Int×zd×(List GE)×(List GA)):Option (List GA):=(if (decide (((path1).length:Int) > (1:Int)))=true then ((slc path1 (1:Int) ((path1).length:Int)).bind λm38=>((we n sd30.2.2.2 m38 l2).bind λv39=>(zN ((A).length+(([(GA.mk sd30.2.1 sd30.2.2.1 v39)]:List GA)).length<=yH) (((slc t0 sd30.1 ((t0).length:Int)).bind λm41=>(zN (((A++([(GA.mk sd30.2.1 sd30.2.2.1 v39)]:List GA))).length+(m41).length<=yH) (some ((A++([(GA.mk sd30.2.1 sd30.2.2.1 v39)]:List GA))++m41)))))))) else (lp (zX (l7B sd30.2.2.1 l2) (([]:List GE),(0:Int))) λ(sd62:(List GE)×Int)=>(zN (((decide (sd62.2 < ((sd30.2.2.1).length:Int)))==true)=true->0<=sd62.2/\sd62.2 < ((sd30.2.2.1).length:Int)) ((if ((decide (sd62.2 < ((sd30.2.2.1).length:Int)))&&(((sd30.2.2.1).getD sd62.2.toNat default).typ==l2.typ))=true then (zN ((sd62.1).length+(([l2]:List GE)).length<=yH) (((slc sd30.2.2.1 (IntKind.wrap .i64 (sd62.2+(1:Int))) ((sd30.2.2.1).length:Int)).bind λm72=>(zN (((sd62.1++([l2]:List GE))).length+(m72).length<=yH) ((zN ((A).length+(([(GA.mk sd30.2.1 ((sd62.1++([l2]:List GE))++m72) sd30.2.2.2)]:List GA)).length<=yH) (((slc t0 sd30.1 ((t0).length:Int)).bind λm75=>(zN (((A++([(GA.mk sd30.2.1 ((sd62.1++([l2]:List GE))++m72) sd30.2.2.2)]:List GA))).length+(m75).length<=yH) (some ((A++([(GA.mk sd30.2.1 ((sd62.1++([l2]:List GE))++m72) sd30.2.2.2)]:List GA))++m75))))))))))) else (zN ((sd62.1).length+(([l2]:List GE)).length<=yH) (((slc sd30.2.2.1 sd62.2 ((sd30.2.2.1).length:Int)).bind λm78=>(zN (((sd62.1++([l2]:List GE))).length+(m78).length<=yH) ((zN ((A).length+(([(GA.mk sd30.2.1 ((sd62.1++([l2]:List GE))++m78) sd30.2.2.2)]:List GA)).length<=yH) (((slc t0 sd30.1 ((t0).length:Int)).bind λm81=>(zN (((A++([(GA.mk sd30.2.1 ((sd62.1++([l2]:List GE))++m78) sd30.2.2.2)]:List GA))).length+(m81).length<=yH) (some ((A++([(GA.mk sd30.2.1 ((sd62.1++([l2]:List GE))++m78) sd30.2.2.2)]:List GA))++m81))))))))))))))))
theorem lay7_eq2 (n:Nat) (t0:List GA) (c:List zd) (m:GE):we (n+1) t0 c m=(lp (zX (l7A t0 c) (([]:List GA),(0:Int))) λ(e:(List GA)×Int)=>((yx c (0:Int)).bind λj=>(lp ((zN (((decide (e.2 < ((t0).length:Int)))==true)=true->0<=e.2/\e.2 < ((t0).length:Int)) ((zN (((decide (e.2 < ((t0).length:Int)))==true)=true->0<=(0:Int)/\(0:Int) < ((c).length:Int)) ((if ((decide (e.2 < ((t0).length:Int)))&&(((t0).getD e.2.toNat default).name==((c).getD (0:Int).toNat default)))=true then ((yx t0 e.2).bind λg=>some (.inr ((IntKind.wrap .i64 (e.2+(1:Int))),g.name,g.leaves,g.subs))) else some (.inr (e.2,j,([]:List GE),([]:List GA)))))))):Option (_ ⊕ (Int×zd×(List GE)×(List GA)))) λh=>l7R n t0 c m e.1 h))):=rfl

theorem vO {α:Type} (L:List α) (i:Nat):((L.take ((L.length:Int)).toNat).drop ((i:Int)).toNat)=L.drop i:=by simp
theorem l7R_sub {t A:List GA} {s a:zd} {r:List zd} {nm:zd} {sb u:List GA} (hi:i<=t.length) (m:t.length<=16777215) (o:A.length<=8388608) (g:t.length<=8388607) (j:(s::a::r).length<=16777216) (h:we n sb (a::r) l=some u) :
  l7R n t (s::a::r) l A ((i:Int),nm,ls,sb)=some (A++[⟨nm,ls,u⟩]++t.drop i):=by
 unfold l7R;have c:decide ((((s::a::r).length:Int)) > 1)=true:=uN (by grind);simp only [c,ut];rw [x9 ⟨by omega,by grind,sx _⟩,ua];have e:((s::a::r).take (((s::a::r).length:Int)).toNat).drop (1:Int).toNat=a::r:=by rw [uz,tL];rfl
 rw [e,h,ua,zi (x5 (by simp;omega)),x9 ⟨by omega,by omega,sx _⟩,ua,vO,zi (x5 (by simp;omega))]
theorem l7R_leaf {t A:List GA} {s:zd} {nm:zd} {sb:List GA} (hi:i<=t.length) (F:A.length<=8388608) (v:t.length<=8388607) (j:ls.length<=8388607) (m:ls.Pairwise λx y=>x.typ < y.typ) :
  l7R n t [s] l A ((i:Int),nm,ls,sb)=some (A++[⟨nm,qx l.typ l true ls,sb⟩]++t.drop i):=by
 unfold l7R;have p:decide (((([s]:List zd).length:Int)) > 1)=false:=rfl;simp only [p,up,uJ];rcases split_typ l.typ m with ⟨C,D,e,g,hd⟩ | ⟨C,z,D,e,u,g,hd⟩
 ·have o:=l7B_at (ls:=ls) (l:=l) (by omega) C D e g (λy r h=>by grind) C.length 0 (by omega) (by omega);rw [show (([]:List GE),(0:Int))=(C.take 0,((0:Nat):Int)) from rfl,o,x4,e,layLs_none g hd];rw [e] at j;simp only [ue] at j;simp only [];rw [zi (by simp_all)];have c:((decide (((C.length:Nat):Int) < ((C++D).length:Int)))&&(((C++D).getD ((C.length:Nat):Int).toNat default).typ==l.typ))=false:=by
   grind
  rw [c];simp only [up,uJ];rw [zi (x5 (by simp;omega)),x9 ⟨by omega,by grind,sx _⟩,ua,vO,sM,zi (x5 (by simp;omega)),zi (x5 (by simp;omega)),x9 ⟨by omega,by omega,sx _⟩,ua,vO,zi (x5 (by simp;omega))];simp
 ·have o:=l7B_at (ls:=ls) (l:=l) (by omega) C (z::D) e g (λy r h=>by simp_all) C.length 0 (by omega) (by omega);rw [show (([]:List GE),(0:Int))=(C.take 0,((0:Nat):Int)) from rfl,o,x4,e,layLs_some u g hd];rw [e] at j;simp only [ue,uc] at j;simp only [];rw [zi (by simp_all)];have c:((decide (((C.length:Nat):Int) < ((C++z::D).length:Int)))&&(((C++z::D).getD ((C.length:Nat):Int).toNat default).typ==l.typ))=true:=by
   grind
  rw [c];simp only [ut];have w:IntKind.wrap .i64 ((C.length:Int)+1)=((C.length+1:Nat):Int):=by rw [wG (by omega)];omega
  have E:(C++z::D).drop (C.length+1)=D:=by
   simp_all
  rw [zi (x5 (by simp;omega)),w,x9 ⟨by omega,by grind,sx _⟩,ua,vO,E,zi (x5 (by simp;omega)),zi (x5 (by simp;omega)),x9 ⟨by omega,by omega,sx _⟩,ua,vO,zi (x5 (by simp;omega))];simp
theorem lay7_none {s:zd} {q:List zd} {A B:List GA} (h:(A++B).length<=16777215) (g:NLt s A) (e:NGt s B):we (n+1) (A++B) (s::q) l=l7R n (A++B) (s::q) l A ((A.length:Int),s,[],[]):=by
 have j:=l7A_is (t:=A++B) (s:=s) (q:=q) (by omega) A B rfl g (λy r hh=>by
  have:=e y (by rw [hh];simp);rcases hx:Op.bytesLess y.name s with _ | _
  ·rfl
  ·have:=wM this hx;rw [vS] at this;cases this) A.length 0 (by omega) (by omega)
 rw [lay7_eq2,show (([]:List GA),(0:Int))=(A.take 0,((0:Nat):Int)) from rfl,j,x4];have i0:yx (s::q) (0:Int)=some s:=rfl;simp only [i0,ua];rw [zi (by simp_all),zi (by intro h;simp)];have c:((decide (((A.length:Nat):Int) < ((A++B).length:Int)))&&(((A++B).getD ((A.length:Nat):Int).toNat default).name==((s::q).getD (0:Int).toNat default)))=false:=by
  cases B with
  | nil=>simp
  | cons y B =>
   have:=less_ne (e y (by simp))
   grind
 rw [c];rfl
theorem lay7_some {s:zd} {q:List zd} {A B:List GA} {x:GA} (hx:x.name=s) (h:(A++x::B).length<=16777215) (e:NLt s A) (o:NGt s B):we (n+1) (A++x::B) (s::q) l=l7R n (A++x::B) (s::q) l A (((A.length+1:Nat):Int),s,x.leaves,x.subs):=by
 have m:=l7A_is (t:=A++x::B) (s:=s) (q:=q) (by omega) A (x::B) rfl e (λy r hh=>by
  injection hh with j _;rw [<- j,hx,vS]) A.length 0 (by omega) (by omega)
 rw [lay7_eq2,show (([]:List GA),(0:Int))=(A.take 0,((0:Nat):Int)) from rfl,m,x4];have i0:yx (s::q) (0:Int)=some s:=rfl;simp only [i0,ua];rw [zi (by simp_all),zi (by intro h;simp)];have c:((decide (((A.length:Nat):Int) < ((A++x::B).length:Int)))&&(((A++x::B).getD ((A.length:Nat):Int).toNat default).name==((s::q).getD (0:Int).toNat default)))=true:=by
  grind
 rw [c];simp only [ue,uc] at h;have g:IntKind.wrap .i64 ((A.length:Int)+1)=((A.length+1:Nat):Int):=by rw [wG (by omega)];omega
 simp only [ut];rw [zG (x:=x) (by simp),ua,x4,g,hx]

theorem lay7_lay {l:GE} (T:leafB l=true) (G:LeafOk l):∀(p:List zd) (t:List GA) (d n:Nat),p ≠ []->p.all nameB=true->d+p.length<=3->treeB d t=true->(zu [] t).length<=8388606->p.length < n ->
  we n t p l=xC n t p l.typ l true
 | [],_,_,_,h,_,_,_,_,_=>absurd rfl h
 | _::_,_,_,0,_,_,_,_,_,h=>by omega
 | s::q,t,d,n+1,_,hp,hd,ht,hw,hn=>by
  simp only [uY,uf,uc] at hp hd hn;obtain ⟨Z,R⟩:=yg ht;have C:t.length<=8388606:=uE (node_row _ d (by rw [yK];exact uu.2 R)) hw;have below:∀(sb:List GA) (c:zd) (o:List zd),q=c::o->treeB (d+1) sb=true->(zu [] sb).length<=8388606->∃g,we n sb q l=some g/\xC n sb q l.typ l true=some g/\g ≠ []/\g.length<=16777215:=by
   intro sb c o u v M;subst u;obtain ⟨g,Y,e2,e3,e4⟩:=lay_is (k:=l.typ) (l:=l) (there:=true) (λ_=>⟨rfl,T,G⟩) (c::o) sb (d+1) n (by simp) hp.2 (by omega) v (by omega) (by omega);have N:=node_row sb (d+1) (by rw [yK];exact uu.2 (yg v).2);refine ⟨g,?_,Y,?_,by omega⟩
   ·rw [<- Y];exact lay7_lay T G (c::o) sb (d+1) n (by simp) hp.2 (by omega) v M (by omega)
   ·intro e;have:=(e4 [] ⟨[]++(c::o),l⟩).2 (.inr ⟨rfl,rfl⟩);rw [e] at this;simp [zu] at this
  rcases split_up s Z with ⟨A,B,e,F,m⟩ | ⟨A,x,B,e,hx,F,m⟩
  ·have O:(A++B).length<=8388606:=by rw [<- e];exact C
   have P:A.length<=8388606:=by grind
   have J:=bs_none (by omega) F m;have j:zw (A++[]++B) s (λH Q=>xK H Q)=some ((A.length:Int),false):=by simp_all
   have w:A++B=A++[]++B:=by simp
   rw [e,lay7_none (by omega) F m];cases u:q with
   | nil =>
    rw [l7R_leaf (by simp) (by omega) (by omega) (by simp) (by simp),w,lay_leaf (ls:=[]) (sb:=[]) G (by simp) j rfl (by grind) (by simp) (by simp) (by simp),fit_one (.inl layLs_ne)];simp
   | cons c o =>
    obtain ⟨g,y,D,K,b4⟩:=below [] c o u (tree_nil _) (by simp [zu]);rw [u] at y D;rw [l7R_sub (by simp) (by omega) (by omega) (by omega) (by grind) y,w,lay_sub (ls:=[]) (sb:=[]) (f:=false) (by simp) j rfl (by grind) (by simp) (by omega) (by grind) D,fit_one (.inr K)];simp
  ·have O:(A++x::B).length<=8388606:=by rw [<- e];exact C
   have P:A.length+1<=8388606:=by grind
   have J:=bs_some (by omega) hx F m;have j:zw (A++[x]++B) s (λH Q=>xK H Q)=some ((A.length:Int),true):=by simp_all
   have w:A++x::B=A++[x]++B:=by simp
   have E:x ∈ t:=by rw [e];simp
   obtain ⟨n1,V,U⟩:=vq (R x E);have hml:=mem_rows_len E;have N:=node_row x.subs (d+1) (by rw [yK];exact uu.2 (yg V).2);have z:((if true=true then ((yx (A++[x]++B) (A.length:Int)).bind λI=>some (.inr (I.name,I.leaves,I.subs))) else some (.inr (s,([]:List GE),([]:List GA)))):Option (List GA ⊕ (zd×(List GE)×(List GA))))=some (.inr (s,x.leaves,x.subs)):=by
    rw [um rfl,zG (x:=x) (by simp),ua,hx]
   have ed:(A++x::B).drop (A.length+1)=B:=by rw [<- tN,sM];rfl
   rw [e,lay7_some hx (by omega) F m];cases u:q with
   | nil =>
    rw [l7R_leaf (by simp) (by omega) (by omega) (by omega) (leaves_up U).1,ed,w,lay_leaf (ls:=x.leaves) (sb:=x.subs) G (by simp) j z (by grind) (by omega) (by omega) (leaves_up U).1,fit_one (.inl layLs_ne)]
   | cons c o =>
    obtain ⟨g,y,D,K,b4⟩:=below x.subs c o u V (by omega);rw [u] at y D;rw [l7R_sub (by simp) (by omega) (by omega) (by omega) (by grind) y,ed,w,lay_sub (ls:=x.leaves) (sb:=x.subs) (f:=true) (by simp) j z (by grind) (by omega) (by omega) (by grind) D,fit_one (.inr K)]

theorem pathAll {p:List zd} {f:zd->Option Bool} (c:∀x,f x=some (nameB x)):(lp (zn (λ(_:Nat) (e:zd) (_:Unit)=>(((f e).bind λv9=>(if (!v9)=true then some (.ret false) else some (.nxt ()))):Option (Out _ Unit))) p 0 ()) λ(_:Unit)=>some ((decide (((p).length:Int) >= (1:Int)))&&(decide (((p).length:Int)<=(3:Int)))))=some (xA p):=by
 rw [loopL_all nameB false _ _ (λi x _=>by rw [c];cases nameB x <;> rfl),bnd1,bnd3];unfold xA;cases h:p.all nameB <;> simp
theorem ref04MayPath_is (p:List zd):ref04MayPath p=some (xA p):=pathAll ref04IsName_is
abbrev LyR:=List GA->List zd->GE->List GA->Prop
structure LyOk (Ly:LyR):Prop where
 qw:∀{t:List GA} {s:zd} {l:GE},t.length+1<=16777216->(∀y ∈ t,Op.bytesLess y.name s=true)->LeafOk l->Ly t [s] l (t++[⟨s,[l],[]⟩])
 leafOld:∀{t:List GA} {s:zd} {l:GE} {ls:List GE},t.length+1<=16777216->(∀y ∈ t,Op.bytesLess y.name s=true)->LeafOk l->ls.length<=11->(ls++[l]).Pairwise (λx y=>x.typ < y.typ)->Ly (t++[⟨s,ls,[]⟩]) [s] l (t++[⟨s,ls++[l],[]⟩])
 subOld:∀{t:List GA} {s a:zd} {q:List zd} {l:GE} {ls:List GE} {sb u:List GA},t.length+1<=16777216->(∀y ∈ t,Op.bytesLess y.name s=true)->ls.length<=16777216->0 < u.length->u.length<=16777216->(a::q).length+1<=16777216->Ly sb (a::q) l u->Ly (t++[⟨s,ls,sb⟩]) (s::a::q) l (t++[⟨s,ls,u⟩])
 subNew:∀{t:List GA} {s a:zd} {q:List zd} {l:GE} {u:List GA},t.length+1<=16777216->(∀y ∈ t,Op.bytesLess y.name s=true)->0 < u.length->u.length<=16777216->(a::q).length+1<=16777216->Ly [] (a::q) l u->Ly t (s::a::q) l (t++[⟨s,[],u⟩])
def LaysG (Ly:LyR):List GA->List GH->List GA->Prop
 | t,[],t'=>t'=t
 | t,r::rs,t'=>∃t1,Ly t r.path r.leaf t1/\(0 < t1.length/\t1.length<=16777216)/\LaysG Ly t1 rs t'
section
variable {Ly:LyR}
theorem LaysG.app:∀{a b:List GH} {t c t2:List GA},LaysG Ly t a c->LaysG Ly c b t2->LaysG Ly t (a++b) t2
 | [],_,_,_,_,h,k=>by cases h;exact k
 | _::_,_,_,_,_,⟨u,h1,h0,h2⟩,k=>⟨u,h1,h0,h2.app k⟩
theorem LaysG.below (ok:LyOk Ly) {t:List GA} {s:zd} {ls:List GE} (j:t.length+1<=16777216) (o:∀y ∈ t,Op.bytesLess y.name s=true) (m:ls.length<=16777216) :
  ∀{rs:List GH} {sb c:List GA},LaysG Ly sb rs c->(∀r ∈ rs,0 < r.path.length/\r.path.length+1<=16777216)->LaysG Ly (t++[⟨s,ls,sb⟩]) (rs.map (preR [s])) (t++[⟨s,ls,c⟩])
 | [],_,_,h,_=>by cases h;rfl
 | r::rs,sb,c,⟨u,hu,⟨u0,u1⟩,h⟩,hp=>by
  obtain ⟨h0,g⟩:=hp r (by simp);obtain ⟨a,q,e⟩:∃a q,r.path=a::q:=by
   cases hq:r.path with
   | nil=>rw [hq] at h0;simp at h0
   | cons a q=>exact ⟨a,q,rfl⟩
  refine ⟨t++[⟨s,ls,u⟩],?_,by simp;omega,LaysG.below ok j o m h (λx hx=>hp x (by simp [hx]))⟩;simp only [preR,e,List.singleton_append];rw [e] at hu g;exact ok.subOld j o m u0 u1 g hu
theorem LaysG.leaves (ok:LyOk Ly) {t:List GA} {s:zd} (h:t.length+1<=16777216) (j:∀y ∈ t,Op.bytesLess y.name s=true) :
  ∀{ls c:List GE},(∀l ∈ ls,LeafOk l)->(c++ls).length<=12->(c++ls).Pairwise (λx y=>x.typ < y.typ)->LaysG Ly (t++[⟨s,c,[]⟩]) (ls.map λl=>⟨[s],l⟩) (t++[⟨s,c++ls,[]⟩])
 | [],c,_,_,_=>by rw [tp];rfl
 | l::ls,c,hl,hs,hp=>by
  have e:c++l::ls=(c++[l])++ls:=by simp
  rw [e] at hs hp ⊢;have g:=hs;simp only [ue,uc,ug] at g;refine ⟨t++[⟨s,c++[l],[]⟩],?_,by simp;omega,LaysG.leaves ok h j (λx hx=>hl x (by simp [hx])) hs hp⟩;refine ok.leafOld h j (hl l (by simp)) (by omega) ?_;rw [tr] at hp;exact hp.1
end
theorem lay7_all {p:List zd} {t:List GA} (j:leafB l=true) (w:LeafOk l) (s:xA p=true) (e:treeB 0 t=true) (z:(zu [] t).length<=8388606) :
  ∃t',ref07Lay t p l=some t'/\treeB 0 t'=true/\(zu [] t').length<=(zu [] t).length+1/\∀r,r ∈ zu [] t' ↔ (r ∈ zu [] t/\rkey r ≠ (p,l.typ)) \/ r=⟨p,l⟩:=by
 obtain ⟨v,E,h⟩:=pathB_parts s;have m:true=true->l.typ=l.typ/\leafB l=true/\LeafOk l:=λ_=>⟨rfl,j,w⟩
 obtain ⟨t',_,o,D,g⟩:=lay_all m s e (by omega);simp only [rO] at g;refine ⟨t',anyN_of (p.length+1) λn F=>?_,o,D,g⟩;obtain ⟨u,y,C,_,c⟩:=lay_is m p t 0 n v h (by omega) e (by omega) (by omega);have c:=c [];simp only [uT,rO] at c;rw [lay7_lay j w p t 0 n v h (by omega) e z (by omega),y,rows_ext C o λr=>by rw [c,g]]
structure ROk (r:GH):Prop where
 path:xA r.path=true
 leaf:leafB r.leaf=true
 ok:LeafOk r.leaf
def keyNe (L:List GH):Prop:=L.Pairwise λr q=>rkey r ≠ rkey q
theorem made_loop:∀(rs:List GH) (n:Nat) (s:List GA),(∀r ∈ rs,ROk r)->keyNe rs->treeB 0 s=true->(zu [] s).length+rs.length<=8388606 ->
  ∃u,zn (λ(E:Nat) (o:GH) (m:(List GA))=>(((ref07Lay m o.path o.leaf).bind λg=>some (.nxt g)):Option (Out (List GA) (List GA)))) rs n s=some (.inr u)/\treeB 0 u=true/\∀r,r ∈ zu [] u ↔ (r ∈ zu [] s/\∀q ∈ rs,rkey r ≠ rkey q) \/ r ∈ rs
 | [],n,s,_,_,hs,_=>⟨s,rfl,hs,λr=>by simp⟩
 | q::rs,n,s,h,hk,hs,hw=>by
  obtain ⟨p,C⟩:=tg.1 hk;simp only [uc] at hw;have j:=h q (by simp);obtain ⟨m,D,a2,a3,a4⟩:=lay7_all j.leaf j.ok j.path hs (by omega);obtain ⟨u,t,z,v⟩:=made_loop rs (n+1) m (λr w=>h r (by simp [w])) C a2 (by omega);refine ⟨u,by rw [zn,D];exact t,z,λr=>?_⟩;rw [v,a4];have eq:(GH.mk q.path q.leaf)=q:=rfl;rw [eq,show (q.path,q.leaf.typ)=rkey q from rfl];constructor
  ·rintro (⟨⟨c,e⟩ | rfl,y⟩ | c)
   ·refine .inl ⟨c,λx hx=>?_⟩;rcases uv.1 hx with rfl | hx
    ·exact e
    ·exact y x hx
   ·exact .inr (by simp)
   ·exact .inr (by simp [c])
  ·rintro (⟨c,e⟩ | c)
   ·exact .inl ⟨.inl ⟨c,e q (by simp)⟩,λx hx=>e x (by simp [hx])⟩
   ·rcases uv.1 c with rfl | c
    ·exact .inl ⟨.inr rfl,p⟩
    ·exact .inr c
theorem made31_is (h:∀r ∈ rs,ROk r) (e:keyNe rs) (c:rs.length<=8388606):∃u,ref30Made rs=some u/\treeB 0 u=true/\∀r,r ∈ zu [] u ↔ r ∈ rs:=by
 obtain ⟨u,j,g,m⟩:=made_loop rs 0 [] h e (by rfl) (by simpa [zu] using c);refine ⟨u,?_,g,λr=>?_⟩
 ·unfold ref30Made;rw [j];rfl
 ·rw [m];simp [zu]
end Go.Vv
