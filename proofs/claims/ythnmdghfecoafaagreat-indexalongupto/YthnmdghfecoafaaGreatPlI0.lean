/- Plain laws, as far as they are leaned on. -/
import Derived.Test.YthnmdghfecoafaaGreatD
import Derived.Test.YthnmdghfecoafaaGreatVvMr
set_option linter.all false
namespace Go.Vv
open Go
variable {b:UInt8} {σ:Type} {L:List GI} {q:GE->Bool} {l:GE} {n d:Nat} {a:List UInt8} {ls L0:List GE} {r:GJ} {k:Int} {there:Bool} {e:GH} {rs ra rb:List GJ}
def alnum (b:UInt8):Bool:=(decide (97<=b.toNat)&&decide (b.toNat<=122)) || (decide (65<=b.toNat)&&decide (b.toNat<=90)) || (decide (48<=b.toNat)&&decide (b.toNat<=57))
def other (r:Int):Bool:=!((decide (97<=r)&&decide (r<=122)) || (decide (65<=r)&&decide (r<=90)) || (decide (48<=r)&&decide (r<=57)))
def runeIdx (q:Int->Bool) (s:List UInt8) (i:Nat):Int :=
 if h:i < s.length then (if q (dec s i).1 then i else if (dec s i).2=0 then -1 else runeIdx q s (i+(dec s i).2)) else -1
termination_by s.length - i
decreasing_by omega
theorem dec_width (s:List UInt8) (i:Nat) (h:i < s.length):1<=(dec s i).2:=by
 have hs:i < (⟨s.toArray⟩:ByteArray).size:=by simpa [ByteArray.size] using h
 by_cases ha:((⟨s.toArray⟩:ByteArray)[i]'hs).toNat < 128
 ·unfold dec;rw [decode_ascii _ i hs ha];exact ue _
 ·exact (decode_high _ i hs (by omega)).2
theorem dec_low {s:List UInt8} {i:Nat} (c:s[i]?=some b) (h:b.toNat < 128):dec s i=(b.toNat,1):=by
 have f:i < s.length:=(ua.1 c).1;have hs:i < (⟨s.toArray⟩:ByteArray).size:=by simpa [ByteArray.size] using f
 have e:((⟨s.toArray⟩:ByteArray)[i]'hs)=b:=by
  have g:((⟨s.toArray⟩:ByteArray)[i]'hs)=s[i]:=rfl;rw [g];rw [ui f] at c;injection c
 unfold dec;rw [decode_ascii _ i hs (by rw [e];exact h),e]
theorem dec_hi {s:List UInt8} {i:Nat} (c:s[i]?=some b) (h:128<=b.toNat):128<=(dec s i).1:=by
 have f:i < s.length:=(ua.1 c).1;have hs:i < (⟨s.toArray⟩:ByteArray).size:=by simpa [ByteArray.size] using f
 have e:((⟨s.toArray⟩:ByteArray)[i]'hs)=b:=by
  have g:((⟨s.toArray⟩:ByteArray)[i]'hs)=s[i]:=rfl;rw [g];rw [ui f] at c;injection c
 exact (decode_high _ i hs (by rw [e];exact h)).1
theorem other_alnum:other (b.toNat:Int)=!alnum b:=by
 unfold other alnum;congr 1;rw [uA];simp;omega
theorem rune_all {s:List UInt8} (h:s.all alnum=true):∀(n i:Nat),s.length - i=n->runeIdx other s i=-1
 | n,i,hn=>by
  rw [runeIdx.eq_def];by_cases hi:i < s.length
  ·rw [pE hi];have g:s[i]?=some s[i]:=ui hi;have f:alnum s[i]=true:=by rw [uv] at h;exact h _ (px hi)
   have c:s[i].toNat < 128:=by
    unfold alnum at f;simp only [tc,ud,uk] at f;omega
   rw [dec_low g c];simp only [other_alnum,f,sd,um,uJ,pJ];exact rune_all h (s.length - (i+1)) (i+1) rfl
  ·rw [dif_neg hi]
 termination_by n=>n
 decreasing_by omega
theorem rune_some {s:List UInt8} {k:Nat} {b:UInt8} (c:s[k]?=some b) (h:alnum b=false):∀(n i:Nat),k - i=n->i<=k->0<=runeIdx other s i
 | n,i,hn,hik=>by
  have m:k < s.length:=(ua.1 c).1;have hi:i < s.length:=by omega
  rw [runeIdx.eq_def,pE hi];by_cases ho:other ((dec s i).1:Nat)=true
  ·rw [uG ho];omega
  ·rw [te ho];have g:s[i]?=some s[i]:=ui hi;have f:s[i].toNat < 128:=by
    refine Decidable.byContradiction λhh=>ho ?_;have:=dec_hi g (by omega);unfold other;simp;omega
   rw [dec_low g f] at ho ⊢;rw [other_alnum] at ho;have j:i ≠ k:=by
    rintro rfl
    rw [g] at c;injection c with c;subst c;rw [h] at ho;exact ho rfl
   simp only [pJ,uJ];exact rune_some c h (k - (i+1)) (i+1) rfl (by omega)
 termination_by n=>n
 decreasing_by omega

def nameB (s:zi):Bool:=decide (1<=s.length)&&decide (s.length<=12)&&s.all alnum
def qn (p:List zi):Bool:=decide (1<=p.length)&&decide (p.length<=3)&&p.all nameB
theorem bnd1 (n:Nat):decide ((n:Int) >= 1)=decide (1<=n):=sK.2 (by omega)
theorem bnd12 (n:Nat):decide ((n:Int)<=12)=decide (n<=12):=sK.2 (by omega)
theorem bnd3 (n:Nat):decide ((n:Int)<=3)=decide (n<=3):=sK.2 (by omega)
theorem ref04IsName_is (s:zi):ref04IsName s=some (nameB s):=by
 unfold ref04IsName nameB;rw [loopL_all alnum false]
 ·split
  ·rename_i h;simp only [tc,uk] at h;congr 1;rw [eq_comm,sS,sS];left;rcases h with h | h
   ·exact .inl (uS (by omega))
   ·exact .inr (uS (by omega))
  ·rename_i h;simp only [tc,uk] at h;have f:1<=s.length:=by omega
   have c:s.length<=12:=by omega
   cases ha:s.all alnum <;> simp [f,c]
 ·intro i x _;unfold alnum;have e:(((decide ((x.toNat:Int) >= 97))&&(decide ((x.toNat:Int)<=122)) || (decide ((x.toNat:Int) >= 65))&&(decide ((x.toNat:Int)<=90))) || (decide ((x.toNat:Int) >= 48))&&(decide ((x.toNat:Int)<=57))) =
    (decide (97<=x.toNat)&&decide (x.toNat<=122) || decide (65<=x.toNat)&&decide (x.toNat<=90) || decide (48<=x.toNat)&&decide (x.toNat<=57)):=by
   rw [uA];simp;omega
  rw [e];generalize (decide (97<=x.toNat)&&decide (x.toNat<=122) || decide (65<=x.toNat)&&decide (x.toNat<=90) || decide (48<=x.toNat)&&decide (x.toNat<=57))=b;cases b <;> rfl
theorem rune_loop (q:Int->Bool) (s:zi) {f:Nat->Option (Out Int Nat)} (c:∀i,f i=if i < s.length then (if q (dec s i).1=true then some (.ret (i:Int)) else some (.nxt (i+(dec s i).2))) else some (.brk i)) :
  ∀(k i:Nat),s.length - i=k->lp (vP f i) (λ_=>some (-1:Int))=some (runeIdx q s i)
 | k,i,hk=>by
  rw [loopW_eq,runeIdx.eq_def,c];by_cases h:i < s.length
  ·have g:=dec_width s i h;rw [uG h,pE h];by_cases hq:q (dec s i).1=true
   ·simp [hq]
   ·have h0:¬ (dec s i).2=0:=by omega
    simp only [te hq,te h0];exact rune_loop q s c (s.length - (i+(dec s i).2)) _ rfl
  ·rw [te h,dif_neg h];rfl
 termination_by k=>k
 decreasing_by omega
theorem stringsContains_other (s:zi):xJ s (λx=>opIsNameC1 x)=some (!s.all alnum):=by
 have e:(λx=>opIsNameC1 x)=λx=>some (other x):=by
  funext x;unfold opIsNameC1 other;congr 1;rw [uA];simp
 unfold xJ vC ve;rw [e,rune_loop other s (λi=>by simp) _ 0 rfl];simp only [uc];congr 1;cases h:s.all alnum with
 | true=>rw [rune_all h _ 0 rfl];rfl
 | false =>
  rw [List.all_eq_false] at h;obtain ⟨b,f,g⟩:=h;obtain ⟨k,c,rfl⟩:=List.getElem_of_mem f;have:=rune_some (ui c) (by simpa using g) _ 0 rfl (tU _);simp [this]
theorem opIsName_is (s:zi):opIsName s=some (nameB s):=by
 unfold opIsName nameB;rw [stringsContains_other,bnd1,bnd12];cases h1:decide (1<=s.length) <;> cases h2:decide (s.length<=12) <;> simp
theorem contains_is {f:zi->Option Bool} {q:zi->Bool} (p:List zi) (c:∀x ∈ p,f x=some (q x)):yL p f=some (p.any q):=by
 unfold yL x4;rw [first_loop p c];simp only [uc,firstI_any]
theorem opMayPath_is (p:List zi):opMayPath p=some (qn p):=by
 unfold opMayPath qn;rw [contains_is (q:=λs=>!nameB s) p (λx _=>by unfold opMayPathC1;rw [opIsName_is];rfl),bnd1,bnd3];have e:p.any (λs=>!nameB s)=!p.all nameB:=by rw [uA];simp
 rw [e];cases h1:decide (1<=p.length) <;> cases h2:decide (p.length<=3) <;> simp
def actorB (a:GK):Bool:=decide (a.rep < 16)&&decide (a.inc >= 1)&&decide (a.inc<=4)
def qu (d:GF):Bool:=actorB d.actor&&decide (d.seq >= 1)&&decide (d.seq<=1048576)
theorem dotMay_is (d:GF):dotMay d=some (qu d):=rfl
theorem ref03MayActor_is (a:GK):vX a=some (actorB a):=by
 unfold vX actorB;have:decide (a.rep<=15)=decide (a.rep < 16):=sK.2 (by omega);rw [this]
theorem ref03May_is (d:GF):ref03May d=some (qu d):=by unfold ref03May;rw [ref03MayActor_is];rfl
def qM (a b:GF):Bool:=if a.actor.rep ≠ b.actor.rep then decide (a.actor.rep < b.actor.rep) else if a.actor.inc ≠ b.actor.inc then decide (a.actor.inc < b.actor.inc) else decide (a.seq < b.seq)
theorem ref03Less_is (a b:GF):ref03Less a b=some (qM a b):=by
 unfold ref03Less qM;by_cases h1:a.actor.rep=b.actor.rep <;> by_cases h2:a.actor.inc=b.actor.inc <;> simp [h1,h2]
def cmpI (a b:Int):Int:=if a < b then -1 else if b < a then 1 else 0
theorem cmpU8is (a b:Int):xi a b=some (cmpI a b):=by
 unfold xi vz cmpI;simp only [sB,uc,um,uJ,uk,gt_iff_lt];split <;> (try split) <;> rfl
theorem cmpU32is (a b:Int):wE a b=some (cmpI a b):=by
 unfold wE w8 cmpI;simp only [sB,uc,um,uJ,uk,gt_iff_lt];split <;> (try split) <;> rfl
theorem cmpU64is (a b:Int):xV a b=some (cmpI a b):=by
 unfold xV w7 cmpI;simp only [sB,uc,um,uJ,uk,gt_iff_lt];split <;> (try split) <;> rfl
def or2 (a b:Int):Int:=if a ≠ 0 then a else b
theorem vM (a b:Int):qN [a,b]=some (or2 a b):=by
 unfold qN or2;by_cases h1:a=0 <;> by_cases h2:b=0 <;> simp [zx,h1,h2]
def actorCmp (a b:GK):Int:=or2 (cmpI a.rep b.rep) (cmpI a.inc b.inc)
def dotCmp (a b:GF):Int:=or2 (actorCmp a.actor b.actor) (cmpI a.seq b.seq)
theorem dotXcompare_is (a b:GK):dotXcompare a b=some (actorCmp a b):=by
 unfold dotXcompare;rw [cmpU8is,cmpU32is];simp only [uc];rw [vM];rfl
theorem dotCompare_is (a b:GF):dotCompare a b=some (dotCmp a b):=by
 unfold dotCompare;rw [dotXcompare_is,cmpU64is];simp only [uc];rw [vM];rfl
theorem dotCmp_lt (a b:GF):decide (dotCmp a b >= 0)=!qM a b:=by
 unfold dotCmp actorCmp qM cmpI or2
 grind

def rising:List GF->Bool
 | a::b::r=>qM a b&&rising (b::r)
 | _=>true
def wG (ds:List GF) (i:Nat) (x:GF):Bool:=decide (i=0) || qM (ds.getD (i - 1) default) x
theorem rising_loop (ds:List GF) {g:Nat->GF->Unit->Option (Out Bool Unit)}
  (p:∀i x,ds[i]?=some x->g i x ()=if (qu x&&wG ds i x)=true then some (.nxt ()) else some (.ret false)) :
  lp (zx g ds 0 ()) (λ_=>some true)=some (ds.all qu&&rising ds):=by
 have key:∀(L pre:List GF),ds=pre++L->lp (zx g L pre.length ()) (λ_=>some true)=some (L.all qu&&rising (match pre.getLast? with | some y=>y::L | none=>L)):=by
  intro L
  induction L with
  | nil=>intro pre h;cases hp:pre.getLast? <;> simp [zx,rising]
  | cons x t ih =>
   intro pre h;have s:ds[pre.length]?=some x:=by rw [h];simp
   have c:=ih (pre++[x]) (by rw [h];simp);simp only [uq,ul,uE,u5,List.getLast?_append,py,rF] at c;simp only [zx,p _ _ s];cases hp:pre.getLast? with
   | none =>
    have f:pre=[]:=pf.1 hp;subst f;simp only [uE,u5] at c ⊢;cases hd:qu x <;> simp [wG,hd,c]
   | some y =>
    have j:pre ≠ []:=by rintro rfl;simp at hp
    have h0:0 < pre.length:=rW.2 j;have m:ds.getD (pre.length - 1) default=y:=by
     rw [uP,h,uo (by omega)];rw [rf] at hp;rw [hp];rfl
    have o:wG ds pre.length x=qM y x:=by
     unfold wG;rw [m];have:decide (pre.length=0)=false:=uS (by omega);rw [this];rfl
    rw [o];cases hd:qu x <;> cases hlt:qM y x <;> simp [hd,hlt,c,rising]
 have:=key ds [] rfl;simpa using this
theorem same_loop {α:Type} [DecidableEq α] (M:List α) {eq:α->α->Bool} (g:∀a b,eq a b=decide (a=b)) {f:Nat->α->Unit->Option (Out Bool Unit)} :
  ∀(L:List α) (i:Nat),L.length+i=M.length->(∀j x,L[j]?=some x->f (i+j) x ()=(qO M ((i+j:Nat):Int)).bind λy=>if (!eq x y)=true then some (.ret false) else some (.nxt ())) ->
  zx f L i ()=if L=M.drop i then some (.inr ()) else some (.inl false)
 | [],i,hl,_=>by
  rw [tq (by simp at hl;omega)];rfl
 | x::t,i,hl,h=>by
  simp only [ul] at hl;have hi:i < M.length:=by omega
  have h0:=h 0 x rfl;simp only [tB] at h0;rw [idx_at hi] at h0;have o:=same_loop M g (f:=f) t (i+1) (by omega) (λj y m=>by have:=h (j+1) y m;rw [show i+1+j=i+(j+1) by omega];exact this);have e:M.drop i=M[i]::M.drop (i+1):=(sN hi).symm;simp only [zx,h0,uc,g,e];by_cases hx:x=M[i]
  ·simp only [hx,rA,sd,um,uJ,o,rp,pR]
  ·have c:¬ (x::t=M[i]::M.drop (i+1)):=λhh=>hx (List.cons.inj hh).1;simp only [uS hx,tX,ur,te c]
theorem dotEq (a b:GF):(a.actor.rep==b.actor.rep&&(a.actor.inc==b.actor.inc&&(a.seq==b.seq&&true)))=decide (a=b):=by
 rcases a with ⟨⟨g,f⟩,a3⟩;rcases b with ⟨⟨c,h⟩,i⟩
 rw [uA];simp [sg]
theorem slicesEqualDot_is (L M:List GF):vm L M=some (decide (L=M)):=by
 unfold vm;by_cases hl:L.length=M.length
 ·have e:((L.length:Int) != (M.length:Int))=false:=by simp;omega
  rw [e,same_loop M dotEq L 0 (by omega) (λj x c=>by simp)];by_cases h:L=M <;> simp [h]
 ·have e:((L.length:Int) != (M.length:Int))=true:=by simp;omega
  rw [e,uS (λh=>hl (by rw [h]))];rfl
section
variable {α ρ:Type}
def allI (g:Nat->α->Bool) (L:List α):Bool:=L.zipIdx.all λp=>g p.2 p.1
theorem allI_iff {g:Nat->α->Bool} {L:List α}:allI g L=true ↔ ∀i x,L[i]?=some x->g i x=true:=by
 unfold allI;rw [uv];constructor
 ·intro h i x c;exact h (x,i) (tH.2 c)
 ·rintro h ⟨x,i⟩ c
  exact h i x (tH.1 c)
theorem loopL_allI (g:Nat->α->Bool) {r:ρ} {f:Nat->α->Unit->Option (Out ρ Unit)}:∀(L:List α) (k:Nat),(∀i x,L[i]?=some x->f (k+i) x ()=if g (k+i) x=true then some (.nxt ()) else some (.ret r)) ->
  zx f L k ()=if ((L.zipIdx k).all λp=>g p.2 p.1)=true then some (.inr ()) else some (.inl r)
 | [],_,_=>rfl
 | x::t,k,h=>by
  have h0:=h 0 x rfl;simp only [tB] at h0;have c:=loopL_allI g (f:=f) (r:=r) t (k+1) (λi y j=>by have:=h (i+1) y (by simpa using j);rw [show k+1+i=k+(i+1) by omega];exact this);simp only [zx,h0,sG,uZ];by_cases hg:g k x=true
  ·simp only [hg,ur,c,uX]
  ·simp only [hg,um,uJ,rE]
theorem lp_all (g:Nat->α->Bool) {r:σ} {L:List α} {f:Nat->α->Unit->Option (Out σ Unit)} {rest:Unit->Option σ} (c:∀i x,L[i]?=some x->f i x ()=if g i x=true then some (.nxt ()) else some (.ret r)) :
  lp (zx f L 0 ()) rest=if allI g L=true then rest () else some r:=by
 rw [loopL_allI g L 0 (λi x h=>by simpa using c i x h)];unfold allI;split <;> rfl
theorem lp_all0 (g:α->Bool) {r:σ} {L:List α} {f:Nat->α->Unit->Option (Out σ Unit)} {rest:Unit->Option σ} (j:∀i x,L[i]?=some x->f i x ()=if g x=true then some (.nxt ()) else some (.ret r)) :
  lp (zx f L 0 ()) rest=if L.all g=true then rest () else some r:=by
 rw [lp_all (λ_=>g) j];have:allI (λ_=>g) L=L.all g:=by
  rw [uA,allI_iff,uv];exact ⟨λh x c=>by obtain ⟨i,hi⟩:=tb.1 c;exact h i x hi,λh i x c=>h x (uF c)⟩
 rw [this]
end
theorem qi {j:Nat} (c:j+1<=maxLen):IntKind.wrap .i64 (((j+1:Nat):Int) - 1)=(j:Int):=by
 simp only [maxLen] at c;rw [w64n (by omega)];omega
theorem wrap_add1 {j:Nat} (c:j+1<=maxLen):IntKind.wrap .i64 ((j:Int)+1)=((j+1:Nat):Int):=by
 simp only [maxLen] at c;rw [w64n (by omega)];omega
theorem pos_succ (j:Nat):decide (((j+1:Nat):Int) > 0)=true:=tx (by omega)
def timeB (n:Int):Bool:=decide (n >= 1)&&decide (n<=1099511627776)
def aheadI (a b:GI):Bool:=if a.time ≠ b.time then decide (a.time < b.time) else qM a.dot b.dot
theorem leafXisTime_is (n:Int):leafXisTime n=some (timeB n):=rfl
theorem leafXisText_is (s:zi):qq s=some (decide (s.length<=40)):=by unfold qq;rw [sK.2 (show ((s.length:Int)<=40) ↔ s.length<=40 by omega)]
theorem dotCmp_neg (a b:GF):decide (dotCmp a b < 0)=qM a b:=by
 have h:=dotCmp_lt a b;have:decide (dotCmp a b < 0)=!decide (dotCmp a b >= 0):=by rw [uA];simp
 rw [this,h,Bool.not_not]
theorem leafAhead_is (a:Int) (d:GF) (b:Int) (o:GF):leafAhead a d b o=some (if a ≠ b then decide (a < b) else qM d o):=by
 unfold leafAhead leafXcompare;rw [cmpU64is,dotCompare_is];simp only [uc,vM];congr 1;by_cases h:a=b
 ·subst h;have:cmpI a a=0:=by unfold cmpI;simp
  simp [or2,this,dotCmp_neg]
 ·have:cmpI a b ≠ 0:=by unfold cmpI;split <;> (try split) <;> omega
  simp only [or2,this,ne_eq,not_false_eq_true,ur,h];unfold cmpI;rw [uA];simp only [uk];split <;> (try split) <;> omega
theorem ref05Ahead_is (a:Int) (d:GF) (b:Int) (o:GF):ref05Ahead a d b o=some (if a ≠ b then decide (a < b) else qM d o):=by
 unfold ref05Ahead;by_cases h:a=b <;> simp [h,ref03Less_is]
def prevI {α:Type} [Inhabited α] (L:List α) (i:Nat):α:=L.getD (i - 1) default
def qa (timed:Bool) (x:GI):Bool:=qu x.dot&&decide (x.text.length<=40)&&(if timed then timeB x.time else decide (x.time=0))
def riseB (L:List GI):Bool:=allI (λi x=>decide (i=0) || aheadI (prevI L i) x) L
def onceB (L:List GI):Bool:=decide ((L.map (·.dot)).Nodup)
theorem eqb_iff (a b:GF):GF.eqb a b=decide (a=b):=by unfold GF.eqb;exact dotEq a b
def qH (m:List (GF×Int)):List GF:=m.map (·.1)
theorem mput_keys (m:List (GF×Int)) (k:GF) (v:Int):qH (mput GF.eqb m k v)=if k ∈ qH m then qH m else qH m++[k]:=by
 induction m with
 | nil=>simp [mput,qH]
 | cons e r ih =>
  simp only [mput,eqb_iff];by_cases h:k=e.1
  ·simp [h,qH]
  ·simp only [uS h,um,uJ,qH,uw,ux] at ih ⊢;rw [ih];by_cases h2:k ∈ r.map (·.1) <;> simp [h,h2]
theorem twice_fold:∀(L:List GI) (m:List (GF×Int)),(qH m).Nodup ->
  (L.foldl (λs x=>mput GF.eqb s x.dot (IntKind.wrap .i64 ((zz GF.eqb 0 s x.dot)+1))) m).length<=m.length+L.length /\
  ((L.foldl (λs x=>mput GF.eqb s x.dot (IntKind.wrap .i64 ((zz GF.eqb 0 s x.dot)+1))) m).length=m.length+L.length ↔ (qH m++L.map (·.dot)).Nodup)
 | [],m,h=>by simp [h]
 | x::t,m,h=>by
  simp only [sy];have c:=mput_keys m x.dot (IntKind.wrap .i64 ((zz GF.eqb 0 m x.dot)+1));generalize hm:mput GF.eqb m x.dot (IntKind.wrap .i64 ((zz GF.eqb 0 m x.dot)+1))=m' at c;have g:m'.length=(qH m').length:=by simp [qH]
  have v:m.length=(qH m).length:=by simp [qH]
  by_cases hx:x.dot ∈ qH m
  ·rw [uG hx] at c;have f:=twice_fold t m' (by rw [c];exact h);rw [c] at f g;refine ⟨by simp only [ul];omega,?_⟩;constructor
   ·intro p;simp only [ul] at p;omega
   ·intro o;rw [List.nodup_append] at o;exact absurd rfl (o.2.2 _ hx _ (by simp))
  ·rw [te hx] at c;have i:(qH m++[x.dot]).Nodup:=by
    rw [List.nodup_append];refine ⟨h,by simp,λa u b j=>?_⟩;simp at j;subst j;rintro rfl;exact hx u
   have f:=twice_fold t m' (by rw [c];exact i);rw [c] at f g;simp only [uq,ul,uE] at g;refine ⟨by simp only [ul];omega,?_⟩;have e:qH m++[x.dot]++t.map (·.dot)=qH m++(x::t).map (·.dot):=by simp
   rw [<- e,<- f.2];simp only [ul];omega
theorem leafXtwice_is (L:List GI):leafXtwice L=some (!onceB L):=by
 unfold leafXtwice;rw [loopL_fold (λs x=>mput GF.eqb s x.dot (IntKind.wrap .i64 ((zz GF.eqb 0 s x.dot)+1))) L 0 [] (λ_ _ _ _=>rfl)];have h:=twice_fold L [] (by simp [qH]);simp only [uE,u5,qH,tR,uV] at h;simp only [qE,onceB];congr 1;generalize List.length (List.foldl _ _ _)=n at h ⊢;by_cases hn:(L.map (·.dot)).Nodup
 ·have:=h.2.2 hn;rw [tx hn,uS (by omega)];rfl
 ·have c:n ≠ L.length:=λe=>hn (h.2.1 e);rw [uS hn,tx (by omega)];rfl
theorem leafXitems_is (m:L.length<=maxLen) (c:Bool):leafXitems L c=some (L.all (qa c)&&riseB L&&onceB L):=by
 unfold leafXitems;rw [lp_all (r:=false) (λi x=>qa c x&&(decide (i=0) || aheadI (prevI L i) x))]
 ·rw [leafXtwice_is];have e:allI (λi x=>qa c x&&(decide (i=0) || aheadI (prevI L i) x)) L=(L.all (qa c)&&riseB L):=by
   rw [uA,ud,riseB,allI_iff,allI_iff,uv];constructor
   ·intro h;exact ⟨λx f=>by obtain ⟨i,hi⟩:=tb.1 f;have:=h i x hi;simp only [ud] at this;exact this.1,λi x f=>by have:=h i x f;simp only [ud] at this;exact this.2⟩
   ·rintro ⟨s,o⟩ i x f
    simp only [ud];exact ⟨s x (uF f),o i x f⟩
  rw [e];simp only [uc,Bool.not_not];cases L.all (qa c)&&riseB L <;> simp
 ·intro i x f;have hi:i < L.length:=(ua.1 f).1;simp only [dotMay_is,leafXisText_is,leafXisTime_is,uc,leafAhead_is];have t:qa c x=(qu x.dot&&decide (x.text.length<=40)&&(c==timeB x.time)&&(c || decide (x.time=0))):=by
   unfold qa;cases c
   ·by_cases h0:x.time=0
    ·simp [h0,show timeB 0=false from rfl]
    ·simp [h0]
   ·simp
  rw [t];cases hd:qu x.dot
  ·simp
  cases ht:decide (x.text.length<=40)
  ·simp
  by_cases htt:c=timeB x.time
  ·have u:(x.time != 0)=!decide (x.time=0):=by rw [uA];simp
   have g:(c==timeB x.time)=true:=by simpa using htt
   rw [u,g];cases hzz:(c || decide (x.time=0))
   ·have:(!c&&!decide (x.time=0))=true:=by rw [<- Bool.not_or,hzz];rfl
    simp [this]
   have:(!c&&!decide (x.time=0))=false:=by rw [<- Bool.not_or,hzz];rfl
   rw [this];rcases i with _ | j
   ·simp [x6,htt]
   ·rw [qi (by simp only [maxLen] at m ⊢;omega),pos_succ];have p:(j:Int) < (L.length:Int):=by omega
    simp [x6,p,prevI,aheadI,htt];by_cases hq:(L[j]?.getD default).time=x.time
    ·cases hdl:qM (L[j]?.getD default).dot x.dot <;> simp [hq,hdl]
    ·by_cases hlt:(L[j]?.getD default).time < x.time
     ·simp [hq,hlt,Int.not_le.2 hlt]
     ·simp [hq,hlt,Int.not_lt.1 hlt]
  ·have g:(c==timeB x.time)=false:=by simpa using htt
   rw [g];simp [htt]

theorem itemEq (a b:GI):(a.time==b.time&&(a.dot.actor.rep==b.dot.actor.rep&&(a.dot.actor.inc==b.dot.actor.inc&&(a.dot.seq==b.dot.seq&&(a.text==b.text&&true)))))=decide (a=b):=by
 rcases a with ⟨a0,⟨⟨g,f⟩,a3⟩,a4⟩;rcases b with ⟨b0,⟨⟨c,h⟩,j⟩,i⟩
 rw [uA];simp [sg]
theorem slicesEqualItem_is (L M:List GI):wW L M=some (decide (L=M)):=by
 unfold wW;by_cases hl:L.length=M.length
 ·have e:((L.length:Int) != (M.length:Int))=false:=by simp;omega
  rw [e,same_loop M itemEq L 0 (by omega) (λj x c=>by simp)];by_cases h:L=M <;> simp [h]
 ·have e:((L.length:Int) != (M.length:Int))=true:=by simp;omega
  rw [e,uS (λh=>hl (by rw [h]))];rfl
theorem leafSame_is (a b:GE):xZ a b=some (decide (a=b)):=by
 unfold xZ;simp only [slicesEqualItem_is,slicesEqualDot_is,dotEq];rcases a with ⟨a0,h,g,a3,a4,a5,p⟩;rcases b with ⟨b0,c,j,o,m,f,i⟩
 simp only [GE.mk.injEq];by_cases h0:a0=b0 <;> by_cases h1:h=c <;> by_cases h2:g=j <;> by_cases h3:a3=o <;> by_cases h4:a4=m <;> by_cases h5:a5=f <;> by_cases h6:p=i <;> simp [h0,h1,h2,h3,h4,h5,h6]
def dot0:GF:=⟨⟨0,0⟩,0⟩
def zeroB (l:GE):Bool:=decide (l.time=0)&&decide (l.dot=dot0)&&decide (l.text=[])
def tombsB (l:GE):Bool:=l.tombs.all qu&&rising l.tombs&&l.tombs.all (λd=>!l.items.any λx=>decide (x.dot=d))
def leafB (l:GE):Bool :=
 if l.typ=1 then zeroB l&&decide (l.items=[])&&decide (l.tombs=[])
 else if l.typ=2 then decide (l.n=0)&&decide (l.items=[])&&decide (l.tombs=[])&&(if l.time=0 then decide (l.dot=dot0)&&decide (l.text=[]) else timeB l.time&&qu l.dot&&decide (l.text.length<=40))
 else if l.typ=3 then decide (l.n=0)&&zeroB l&&(l.items.all (qa false)&&riseB l.items&&onceB l.items)&&tombsB l
 else if l.typ=4 then decide (l.n=0)&&zeroB l&&decide (l.tombs=[])&&(l.items.all (qa true)&&riseB l.items&&onceB l.items)
 else false
theorem containsItem_is {f:GI->Option Bool} {q:GI->Bool} (p:List GI) (c:∀x ∈ p,f x=some (q x)):xf p f=some (p.any q):=by
 unfold xf wx;rw [first_loop p c,uc,firstI_any]
theorem leafXhas_is (L:List GI) (d:GF):leafXhas L d=some (L.any λx=>decide (x.dot=d)):=by
 unfold leafXhas;rw [containsItem_is (q:=λx=>decide (x.dot=d)) L (λx _=>by unfold leafXhasC1;rw [dotEq]),uc]
theorem rising_allI (ds:List GF):rising ds=allI (λi x=>wG ds i x) ds:=by
 have h:=rising_loop ds (g:=λi x _=>if (qu x&&wG ds i x)=true then some (.nxt ()) else some (.ret false)) (λ_ _ _=>rfl);have key:∀(L pre:List GF),ds=pre++L->rising (match pre.getLast? with | some y=>y::L | none=>L)=(L.zipIdx pre.length).all λp=>wG ds p.2 p.1:=by
  intro L
  induction L with
  | nil=>intro pre _;cases pre.getLast? <;> simp [rising]
  | cons x t ih =>
   intro pre hd;have c:=ih (pre++[x]) (by rw [hd];simp);simp only [uq,ul,uE,u5,List.getLast?_append,py,rF] at c;simp only [sG,uZ];cases hp:pre.getLast? with
   | none =>
    have f:pre=[]:=pf.1 hp;subst f;simp only [uE,u5] at c ⊢;rw [c];simp [wG]
   | some y =>
    have j:pre ≠ []:=by rintro rfl;simp at hp
    have h0:0 < pre.length:=rW.2 j;have m:ds.getD (pre.length - 1) default=y:=by
     rw [uP,hd,uo (by omega)];rw [rf] at hp;rw [hp];rfl
    have o:wG ds pre.length x=qM y x:=by
     unfold wG;rw [m,uS (by omega)];rfl
    rw [o,<- c];simp [rising]
 simpa [allI] using key ds [] rfl
theorem leafXtombs_is (g:l.tombs.length<=maxLen):leafXtombs l=some (tombsB l):=by
 unfold leafXtombs;rw [lp_all (r:=false) (λi x=>qu x&&wG l.tombs i x&&!(l.items.any λy=>decide (y.dot=x)))]
 ·have e:allI (λi x=>qu x&&wG l.tombs i x&&!(l.items.any λy=>decide (y.dot=x))) l.tombs=tombsB l:=by
   unfold tombsB;rw [uA,rising_allI,ud,ud,allI_iff,allI_iff,uv,uv];constructor
   ·intro h;refine ⟨⟨λx c=>?_,λi x c=>?_⟩,λx c=>?_⟩
    ·obtain ⟨i,hi⟩:=tb.1 c;have:=h i x hi;simp only [ud] at this;exact this.1.1
    ·have:=h i x c;simp only [ud] at this;exact this.1.2
    ·obtain ⟨i,hi⟩:=tb.1 c;have:=h i x hi;simp only [ud] at this;exact this.2
   ·rintro ⟨⟨p,m⟩,s⟩ i x c
    have f:=uF c;simp only [ud];exact ⟨⟨p x f,m i x c⟩,s x f⟩
  rw [e];cases tombsB l <;> rfl
 ·intro i x c;have hi:i < l.tombs.length:=(ua.1 c).1;simp only [dotMay_is,uc,dotCompare_is,leafXhas_is];cases hd:qu x
  ·simp [x6]
  rcases i with _ | j
  ·cases hh:(l.items.any λy=>decide (y.dot=x)) <;> simp [x6,wG]
  ·rw [qi (by simp only [maxLen] at g ⊢;omega),pos_succ];have t:(j:Int) < (l.tombs.length:Int):=by omega
   have o:wG l.tombs (j+1) x=qM (l.tombs.getD j default) x:=by unfold wG;simp
   have e:=dotCmp_lt (l.tombs.getD j default) x;rw [ye (by intro _;omega),o,uU];generalize l.tombs.getD j default=y at e ⊢;simp only [sd,BEq.rfl,uX,ur,uc,e,tv];cases hlt:qM y x
   ·simp
   ·cases hh:(l.items.any λy=>decide (y.dot=x)) <;> simp
theorem leafMay_is (hi:l.items.length<=maxLen) (i:l.tombs.length<=maxLen):leafMay l=some (leafB l):=by
 unfold leafMay leafB;simp only [leafSame_is,leafXisTime_is,dotMay_is,leafXisText_is,leafXitems_is hi,leafXtombs_is i,dotEq,uc];rcases l with ⟨t,n,f,d,g,c,h⟩
 simp only [GE.mk.injEq,zeroB,sM,dot0];by_cases h1:t=1
 ·simp only [h1,ur];congr 1;rw [uA];simp [sg];intros;exact pb.symm
 by_cases h2:t=2
 ·subst h2;by_cases h0:f=0
  ·subst h0;by_cases hd:d=⟨⟨0,0⟩,0⟩
   ·by_cases hx:g=[]
    ·simp [hd,hx];rw [uA];simp [sg]
    ·simp [hd,hx]
   ·have s:((0:Int)==0&&!decide (d=⟨⟨0,0⟩,0⟩))=true:=by simp [hd]
    simp [hd];intro m;rcases d with ⟨⟨p,j⟩,o⟩
    simp_all
  ·cases htt:timeB f <;> cases hdd:qu d <;> cases hxx:decide (g.length<=40) <;> simp_all [sg];rw [uA];simp [sg]
 by_cases h3:t=3
 ·subst h3;cases ha:(c.all (qa false)&&riseB c&&onceB c) <;> cases hb:tombsB ⟨3,n,f,d,g,c,h⟩ <;> simp [sg];rw [uA];simp [sg];intros;exact pb.symm
 by_cases h4:t=4
 ·subst h4;cases ha:(c.all (qa true)&&riseB c&&onceB c) <;> simp [sg];rw [uA];simp [sg];intros;exact pb.symm
 simp [h1,h2,h3,h4]

theorem ref05Item_is (L:List GI) (d:GF):ref05Item L d=some (firstI (λx=>decide (x.dot=d)) L):=by
 unfold ref05Item;rw [loopL_first (λx:GI=>decide (x.dot=d)) (λi _=>(i:Int)) _ _ (λi x _=>by rw [dotEq])];unfold firstI;cases h:L.findIdx? (λx=>decide (x.dot=d)) with
 | none=>simp
 | some j =>
  obtain ⟨c,_⟩:=sx.1 h;simp [ui c]
theorem ref05Tomb_is (L:List GF) (d:GF):ref05Tomb L d=some (L.any λx=>decide (x=d)):=by
 unfold ref05Tomb;rw [lp_all0 (r:=true) (λx:GF=>!decide (x=d)) (λi x _=>by rw [dotEq];cases decide (x=d) <;> rfl)];have e:L.any (λx=>decide (x=d))=!L.all (λx=>!decide (x=d)):=by rw [uA];simp
 rw [e];cases L.all (λx=>!decide (x=d)) <;> rfl
theorem first_nodup (L:List GI):(∀(i:Nat) (x:GI),L[i]?=some x->firstI (λy:GI=>decide (y.dot=x.dot)) L=(i:Int)) ↔ (L.map (·.dot)).Nodup:=by
 constructor
 ·intro h;rw [pc,tw];intro i j hi c o e;simp only [ut] at hi c;simp only [List.getElem_map] at e;have g:=h i _ (ui hi);have m:=h j _ (ui c);rw [e] at g;rw [g] at m;omega
 ·intro h i x p;obtain ⟨hi,rfl⟩:=ua.1 p;unfold firstI;have:L.findIdx? (λy=>decide (y.dot=L[i].dot))=some i:=by
   rw [sx];refine ⟨hi,by simp,λj c=>?_⟩;have f:j < L.length:=by omega
   simp only [uk];intro e;rw [pc,tw] at h;exact h j i (by simpa using f) (by simpa using hi) c (by simpa using e)
  rw [this]
def itemR (t:Int) (x:GI):Bool:=qu x.dot&&decide (x.text.length<=40)&&(decide (t ≠ 3) || decide (x.time=0))&&(decide (t ≠ 4) || timeB x.time)
def tailB (l:GE):Bool:=l.items.all (itemR l.typ)&&onceB l.items&&l.items.all (λx=>!(l.tombs.any λy=>decide (y=x.dot)))&&riseB l.items&&(l.tombs.all qu&&rising l.tombs)
theorem items_allI (l:GE):allI (λi x=>itemR l.typ x&&(decide (firstI (λy:GI=>decide (y.dot=x.dot)) l.items=(i:Int))&&(!(l.tombs.any λy=>decide (y=x.dot))&&(decide (i=0) || aheadI (prevI l.items i) x)))) l.items =
  (l.items.all (itemR l.typ)&&onceB l.items&&l.items.all (λx=>!(l.tombs.any λy=>decide (y=x.dot)))&&riseB l.items):=by
 rw [uA,allI_iff];simp only [ud,uk,onceB,riseB,allI_iff,uv,<- first_nodup];constructor
 ·intro h;refine ⟨⟨⟨λx c=>?_,λi x c=>(h i x c).2.1⟩,λx c=>?_⟩,λi x c=>(h i x c).2.2.2⟩
  ·obtain ⟨i,hi⟩:=tb.1 c;exact (h i x hi).1
  ·obtain ⟨i,hi⟩:=tb.1 c;exact (h i x hi).2.2.1
 ·rintro ⟨⟨⟨m,g⟩,o⟩,j⟩ i x c
  have f:=uF c;exact ⟨m x f,g i x c,o x f,j i x c⟩
theorem tombs_allI (ds:List GF):allI (λi x=>qu x&&wG ds i x) ds=(ds.all qu&&rising ds):=by
 rw [uA,allI_iff,rising_allI];simp only [ud,allI_iff,uv];constructor
 ·intro h;exact ⟨λx c=>by obtain ⟨i,hi⟩:=tb.1 c;exact (h i x hi).1,λi x c=>(h i x c).2⟩
 ·rintro ⟨g,f⟩ i x c
  exact ⟨g x (uF c),f i x c⟩
theorem ref05May_is (hi:l.items.length<=maxLen) (A:l.tombs.length<=maxLen) (h0:0<=l.time):ref05May l=some (leafB l):=by
 unfold ref05May;simp only [ref03May_is,ref05Item_is,ref05Tomb_is,ref05Ahead_is,ref03Less_is,uc,dotEq];generalize hT:lp (zx _ l.items 0 ()) _=T;have I:decide ((l.items.length:Int) > 0)=!decide (l.items=[]):=by cases l.items <;> simp
 have J:decide ((l.tombs.length:Int) > 0)=!decide (l.tombs=[]):=by cases l.tombs <;> simp
 have p:T=some (tailB l):=by
  rw [<- hT,lp_all (r:=false) (λi x=>itemR l.typ x&&(decide (firstI (λy:GI=>decide (y.dot=x.dot)) l.items=(i:Int))&&(!(l.tombs.any λy=>decide (y=x.dot))&&(decide (i=0) || aheadI (prevI l.items i) x))))]
  ·rw [lp_all (r:=false) (λi x=>qu x&&wG l.tombs i x)]
   ·rw [items_allI,tombs_allI];unfold tailB;cases (l.items.all (itemR l.typ)&&onceB l.items&&l.items.all (λx=>!(l.tombs.any λy=>decide (y=x.dot)))&&riseB l.items) <;> cases (l.tombs.all qu&&rising l.tombs) <;> simp
   ·intro i x f;have u:i < l.tombs.length:=(ua.1 f).1;have o:l.tombs.getD i default=x:=by rw [uP,f];rfl
    rcases i with _ | j
    ·cases hd:qu x <;> simp [x6,wG]
    ·rw [qi (by simp only [maxLen] at A ⊢;omega),pos_succ,uU,uU,o];have w:wG l.tombs (j+1) x=qM (l.tombs.getD j default) x:=by unfold wG;simp
     rw [ye (by intro _;omega),ye (by intro _;omega),w];generalize l.tombs.getD j default=y;cases hd:qu x <;> cases m:qM y x <;> simp
  ·intro i x f;have u:i < l.items.length:=(ua.1 f).1;have z:decide ((x.text.length:Int) > 40)=!decide (x.text.length<=40):=by rw [uA];simp;omega
   have F:(((l.typ==4)&&(decide (x.time < 1) || decide (x.time > 1099511627776))))=!(decide (l.typ ≠ 4) || timeB x.time):=by
    rw [uA];simp [timeB]
   have B:((l.typ==3)&&(x.time != 0))=!(decide (l.typ ≠ 3) || decide (x.time=0)):=by rw [uA];simp
   rw [z,F,B];have K:(((!qu x.dot || !decide (x.text.length<=40)) || !(decide (l.typ ≠ 3) || decide (x.time=0))) || !(decide (l.typ ≠ 4) || timeB x.time))=!itemR l.typ x:=by unfold itemR;simp only [Bool.not_and]
   rw [K];have G:(firstI (λy:GI=>decide (y.dot=x.dot)) l.items != (i:Int))=!decide (firstI (λy:GI=>decide (y.dot=x.dot)) l.items=(i:Int)):=by rw [uA];simp
   cases hr:itemR l.typ x
   ·simp
   simp only [sd,BEq.rfl,ur,uc,tv];rw [G];cases hf:decide (firstI (λy:GI=>decide (y.dot=x.dot)) l.items=(i:Int))
   ·simp
   cases htb:l.tombs.any λy=>decide (y=x.dot)
   ·rcases i with _ | j
    ·simp [x6]
    ·rw [qi (by simp only [maxLen] at hi ⊢;omega),pos_succ,uU];rw [ye (by intro _;omega),ye (by intro _;omega)];have w:(if (l.items.getD j default).time ≠ x.time then decide ((l.items.getD j default).time < x.time) else qM (l.items.getD j default).dot x.dot)=aheadI (prevI l.items (j+1)) x:=rfl;rw [w];cases aheadI (prevI l.items (j+1)) x <;> simp
   ·simp
 subst p;clear hT;rw [I,J];have D:(l.time != 0)=!decide (l.time=0):=by rw [uA];simp
 have C:(l.time==0)=decide (l.time=0):=by rw [uA];simp
 have z3:(l.text==([]:zi))=decide (l.text=[]):=by rw [uA];simp
 have z4:decide (l.time > 1099511627776)=!decide (l.time<=1099511627776):=by rw [uA];simp
 have z5:decide ((l.text.length:Int) > 40)=!decide (l.text.length<=40):=by rw [uA];simp;omega
 have t:zeroB l=(decide (l.time=0)&&decide (l.dot=dot0)&&decide (l.text=[])):=rfl;have E:(l.dot.actor.rep==0&&(l.dot.actor.inc==0&&(l.dot.seq==0&&true)))=decide (l.dot=dot0):=dotEq l.dot dot0;rw [D,C,z3,z4,z5,E];by_cases h1:l.typ=1
 ·have hi:decide (l.items=[])=true->tailB l=(l.tombs.all qu&&rising l.tombs):=by
   intro h;have:=tm h;unfold tailB;rw [this];simp [onceB,riseB,allI]
  unfold leafB;simp only [h1,ur,t];cases hi2:decide (l.items=[])
  ·simp
  ·rw [hi hi2];cases ht2:decide (l.tombs=[])
   ·simp
   ·have:=tm ht2;rw [this];cases decide (l.time=0) <;> cases decide (l.dot=dot0) <;> cases decide (l.text=[]) <;> simp [rising]
 by_cases h2:l.typ=2
 ·have hi:decide (l.items=[])=true->tailB l=(l.tombs.all qu&&rising l.tombs):=by
   intro h;have:=tm h;unfold tailB;rw [this];simp [onceB,riseB,allI]
  unfold leafB;have g:timeB l.time=(!decide (l.time=0)&&decide (l.time<=1099511627776)):=by
   unfold timeB;rw [uA];simp;omega
  simp only [h2,ur,g];cases hn:decide (l.n=0)
  ·have:(l.n != 0)=true:=by simpa using hn
   simp [this]
  ·have c:l.n=0:=tm hn;cases hi2:decide (l.items=[])
   ·simp [c]
   ·rw [hi hi2];cases ht2:decide (l.tombs=[])
    ·simp [c]
    ·have:=tm ht2;rw [this];by_cases ht0:l.time=0
     ·cases hdd:decide (l.dot=dot0) <;> cases htx:decide (l.text=[]) <;> simp [c,ht0,rising]
     ·cases hm:decide (l.time<=1099511627776) <;> cases hdd:qu l.dot <;> cases htx:decide (l.text.length<=40) <;> simp [c,ht0,rising]
 by_cases h3:l.typ=3
 ·have v:(λx=>itemR 3 x)=qa false:=by
   funext x;unfold itemR qa;simp
  have s:tailB l=(l.items.all (qa false)&&riseB l.items&&onceB l.items&&tombsB l):=by
   unfold tailB tombsB;rw [h3,show itemR 3=qa false from v];have H:l.items.all (λx=>!(l.tombs.any λy=>decide (y=x.dot)))=l.tombs.all (λd=>!l.items.any λx=>decide (x.dot=d)):=by
    rw [uA];simp only [uv,tP,List.any_eq_false,uk];exact ⟨λh d hd x f e=>h x f d hd e.symm,λh x f d hd e=>h d hd x f e.symm⟩
   rw [H];cases l.items.all (qa false) <;> cases onceB l.items <;> cases riseB l.items <;> cases l.tombs.all qu <;> cases rising l.tombs <;> cases l.tombs.all (λd=>!l.items.any λx=>decide (x.dot=d)) <;> rfl
  unfold leafB;simp only [h3,s,t];cases hn:decide (l.n=0)
  ·have:(l.n != 0)=true:=by simpa using hn
   simp [this]
  ·have c:l.n=0:=tm hn;cases decide (l.time=0) <;> cases decide (l.dot=dot0) <;> cases decide (l.text=[]) <;> simp [c]
 by_cases h4:l.typ=4
 ·have v:(λx=>itemR 4 x)=qa true:=by
   funext x;unfold itemR qa;simp
  have s:decide (l.tombs=[])=true->tailB l=(l.items.all (qa true)&&riseB l.items&&onceB l.items):=by
   intro h;have:=tm h;unfold tailB;rw [h4,show itemR 4=qa true from v,this];cases l.items.all (qa true) <;> cases onceB l.items <;> cases riseB l.items <;> simp [rising]
  unfold leafB;simp only [h4,t];cases hn:decide (l.n=0)
  ·have:(l.n != 0)=true:=by simpa using hn
   simp [this]
  ·have c:l.n=0:=tm hn;cases ht2:decide (l.tombs=[])
   ·simp [c]
   ·rw [s ht2];cases decide (l.time=0) <;> cases decide (l.dot=dot0) <;> cases decide (l.text=[]) <;> simp [c]
 have m:l.typ < 1 \/ 4 < l.typ:=by omega
 have:(decide (l.typ < 1) || decide (l.typ > 4))=true:=by simp;omega
 unfold leafB;rw [this,te h1,te h2,te h3,te h4];simp

mutual
def GA.dep:GA->Nat
 | ⟨_,_,sb⟩=>GA.deps sb+1
def GA.deps:List GA->Nat
 | []=>0
 | x::r=>max x.dep (GA.deps r)
end
theorem dep_mem {x:GA}:∀{t:List GA},x ∈ t->x.dep<=GA.deps t
 | [],h=>by cases h
 | y::r,h=>by
  simp only [GA.deps];rcases ux.1 h with rfl | h
  ·omega
  ·have:=dep_mem h;omega
theorem w6 (x:GA):GA.deps x.subs+1=x.dep:=by cases x;simp [GA.dep]
def Small (t:List GA):Prop:=GA.wfs t/\GA.bks t<=16777216
theorem bk_pos (x:GA):1<=x.bk:=by cases x;simp only [GA.bk];omega
theorem len_bks:∀t:List GA,t.length<=GA.bks t
 | []=>by simp [GA.bks]
 | x::r=>by have:=len_bks r;have:=bk_pos x;simp only [GA.bks,ul];omega
theorem bk_mem {x:GA}:∀{t:List GA},x ∈ t->x.bk<=GA.bks t
 | [],h=>by cases h
 | y::r,h=>by
  simp only [GA.bks];rcases ux.1 h with rfl | h
  ·omega
  ·have:=bk_mem h;omega
theorem sum_len {α:Type} {f:α->Nat} (h:∀x,1<=f x):∀l:List α,l.length<=(l.map f).sum
 | []=>by simp
 | x::r=>by have:=sum_len h r;have:=h x;simp only [ul,uw,sD];omega
theorem sum_mem {α:Type} {f:α->Nat} {x:α}:∀{l:List α},x ∈ l->f x<=(l.map f).sum
 | [],h=>by cases h
 | y::r,h=>by
  simp only [uw,sD];rcases ux.1 h with rfl | h
  ·omega
  ·have:=sum_mem (f:=f) h;omega
theorem bk_node (x:GA):x.name.length+1+((x.leaves.map GE.bk).sum+1)+(GA.bks x.subs+1)<=x.bk:=by cases x;simp only [GA.bk];omega
theorem Small.subs {t:List GA} (h:Small t) {x:GA} (c:x ∈ t):Small x.subs:=by
 refine ⟨?_,by have:=bk_mem c;have:=bk_node x;have:=h.2;omega⟩;have:=(GA.wfs_iff t).1 h.1 x c;cases x;simp only [GA.wf] at this;exact this.2.2
theorem Small.len {t:List GA} (h:Small t):t.length<=16777216:=uN (len_bks t) h.2
structure LeafOk (l:GE):Prop where
 items:l.items.length<=16777216
 tombs:l.tombs.length<=16777216
 time:0<=l.time
theorem Small.leaf {t:List GA} (h:Small t) {x:GA} (g:x ∈ t) {l:GE} (c:l ∈ x.leaves):LeafOk l:=by
 have o:=bk_mem g;have j:=bk_node x;have u:=h.2;have m:l.bk<=_:=sum_mem (f:=GE.bk) c;have s:(l.items.map GI.bk).sum+1+((l.tombs.map GF.bk).sum+1)<=l.bk:=by unfold GE.bk;omega
 have i:=sum_len (f:=GI.bk) (λx=>by unfold GI.bk;omega) l.items;have p:=sum_len (f:=GF.bk) (λx=>by unfold GF.bk;omega) l.tombs;refine ⟨by omega,by omega,?_⟩;have:=(GA.wfs_iff t).1 h.1 x g;cases x;simp only [GA.wf] at this;have:=this.2.1.2 l c;unfold GE.wf at this;have:=this.2.2.1;unfold InK at this;simp [IntKind.min,IntKind.max,IntKind.signed,IntKind.bits] at this;omega
theorem Small.leaves {t:List GA} (h:Small t) {x:GA} (c:x ∈ t):x.leaves.length<=16777216:=by
 have j:=bk_mem c;have i:=bk_node x;have m:=h.2;have g:=sum_len (f:=GE.bk) (λx=>by unfold GE.bk;omega) x.leaves;omega
def upB (t:List GA):Bool:=allI (λi x=>decide (i=0) || Op.bytesLess (t.getD (i - 1) default).name x.name) t
def leavesB (ls:List GE):Bool:=allI (λi l=>leafB l&&(decide (i=0) || decide ((ls.getD (i - 1) default).typ < l.typ))) ls
mutual
def nodeB (d:Nat):GA->Bool
 | ⟨nm,ls,sb⟩=>nameB nm&&!(ls.isEmpty&&sb.isEmpty)&&((sb.isEmpty || decide (d+1 < 3))&&upB sb&&x9 (d+1) sb)&&leavesB ls
def x9 (d:Nat):List GA->Bool
 | []=>true
 | x::r=>nodeB d x&&x9 d r
end
def treeB (d:Nat) (t:List GA):Bool:=(t.isEmpty || decide (d < 3))&&upB t&&x9 d t
theorem wQ (d:Nat):∀t,x9 d t=t.all (nodeB d)
 | []=>rfl
 | x::r=>by simp only [x9,uZ,wQ d r]
theorem nodeB_eq (d:Nat) (x:GA):nodeB d x=(nameB x.name&&!(x.leaves.isEmpty&&x.subs.isEmpty)&&treeB (d+1) x.subs&&leavesB x.leaves):=by cases x;rfl
theorem up_nodes (d:Nat) (t:List GA):allI (λi x=>nodeB d x&&(decide (i=0) || Op.bytesLess (t.getD (i - 1) default).name x.name)) t=(upB t&&x9 d t):=by
 rw [uA,allI_iff,wQ];simp only [ud,upB,allI_iff,uv];constructor
 ·intro h;exact ⟨λi x c=>(h i x c).2,λx c=>by obtain ⟨i,hi⟩:=tb.1 c;exact (h i x hi).1⟩
 ·rintro ⟨g,f⟩ i x c
  exact ⟨f x (uF c),g i x c⟩
theorem lenE {α:Type} (l:List α):((l.length:Int)==0)=l.isEmpty:=by cases l <;> simp;omega
theorem treeXmayN_is:∀(n:Nat) (t:List GA) (d:Nat),GA.deps t < n->d<=3->Small t->qj n t (d:Int)=some (treeB d t)
 | 0,_,_,h,_,_=>by omega
 | n+1,t,d,h,hd,hs=>by
  unfold qj;by_cases hc:(decide ((t.length:Int) > 0)&&((d:Int)==3))=true
  ·rw [uG hc];simp only [ud,uk,sM] at hc;have:t.isEmpty=false:=by cases t <;> simp at hc ⊢
   have c:decide (d < 3)=false:=uS (by omega);simp [treeB,this,c]
  ·rw [te hc];have u:(t.isEmpty || decide (d < 3))=true:=by
    simp only [ud,uk,sM] at hc;cases t with
    | nil=>rfl
    | cons x r=>simp at hc ⊢;omega
   have J:=hs.len;rw [lp_all (r:=false) (λi x=>nodeB d x&&(decide (i=0) || Op.bytesLess (t.getD (i - 1) default).name x.name)),up_nodes]
   ·unfold treeB;rw [u,uX];cases upB t&&x9 d t <;> rfl
   ·intro i x z;have hi:i < t.length:=(ua.1 z).1;have m:=uF z;have A:=dep_mem m;have D:=w6 x;have B:0 < t.length:=by omega
    have c:d < 3:=by
     simp only [ud,uk,sM] at hc;omega
    have G:IntKind.wrap .i64 ((d:Int)+1)=((d+1:Nat):Int):=by rw [w64n (by omega)];omega
    have I:=treeXmayN_is n x.subs (d+1) (by omega) (by omega) (hs.subs m);have C:=hs.leaves m;have E:=(hs.subs m).len;have s:IntKind.wrap .i64 ((x.leaves.length:Int)+(x.subs.length:Int))=((x.leaves.length+x.subs.length:Nat):Int):=by rw [w64n (by omega)];omega
    have F:((((x.leaves.length+x.subs.length:Nat):Int))==0)=(x.leaves.isEmpty&&x.subs.isEmpty):=by
     cases h1:x.leaves <;> cases h2:x.subs <;> simp <;> omega
    rw [opIsName_is,G,I,s,F,nodeB_eq];have v:lp (zx (λ(p:Nat) (w:GE) (s2:Unit)=>(((leafMay w).bind λg=>(x6 ((((!g)==false)&&((decide ((p:Int) > (0:Int)))==true))=true->0<=(IntKind.wrap .i64 ((p:Int) - (1:Int)))/\(IntKind.wrap .i64 ((p:Int) - (1:Int))) < ((x.leaves).length:Int)) ((if ((!g) || ((decide ((p:Int) > (0:Int)))&&(decide (((x.leaves).getD (IntKind.wrap .i64 ((p:Int) - (1:Int))).toNat default).typ >= w.typ))))=true then some (.ret (.ret false)) else some (.nxt ()))))):Option (Out (Out Bool Unit) Unit))) x.leaves 0 ()) (λ(s2:Unit)=>some (.nxt ()))=if leavesB x.leaves=true then some (.nxt ()) else some (.ret false):=by
     rw [lp_all (r:=.ret false) (λi l=>leafB l&&(decide (i=0) || decide ((x.leaves.getD (i - 1) default).typ < l.typ)))]
     ·rfl
     ·intro j l f;have H:j < x.leaves.length:=(ua.1 f).1;have o:=hs.leaf m (uF f);rw [leafMay_is (by have:=o.items;simp only [maxLen];omega) (by have:=o.tombs;simp only [maxLen];omega)];simp only [uc];rcases j with _ | j
      ·cases leafB l <;> simp [x6]
      ·rw [qi (by simp only [maxLen];omega),pos_succ,uU,ye (by intro _;omega)];have e:decide ((x.leaves.getD j default).typ >= l.typ)=!decide ((x.leaves.getD j default).typ < l.typ):=by rw [uA];simp
       rw [e,tS];generalize (x.leaves.getD j default)=y;cases leafB l <;> cases decide (y.typ < l.typ) <;> simp
    rw [v];simp only [uc];rcases i with _ | j
    ·cases nameB x.name <;> cases (x.leaves.isEmpty&&x.subs.isEmpty) <;> cases treeB (d+1) x.subs <;> cases leavesB x.leaves <;> simp [x6]
    ·rw [qi (by simp only [maxLen];omega),pos_succ,uU,ye (by intro _;omega),tS];generalize (t.getD j default)=y;cases nameB x.name <;> cases (x.leaves.isEmpty&&x.subs.isEmpty) <;> cases treeB (d+1) x.subs <;> cases leavesB x.leaves <;> cases Op.bytesLess y.name x.name <;> simp
theorem qW {t:List GA} (h:Small t):ww t=some (treeB 0 t):=by
 unfold ww treeXmay;have:=anyN_of (g:=λn=>qj n t 0) (r:=treeB 0 t) (GA.deps t+1) (λn c=>by have:=treeXmayN_is n t 0 (by omega) (by omega) h;simpa using this);rw [this];rfl
theorem ref07XmayN_is:∀(n:Nat) (t:List GA) (d:Nat),GA.deps t < n->d<=3->Small t->vn n t (d:Int)=some (treeB d t)
 | 0,_,_,h,_,_=>by omega
 | n+1,t,d,h,hd,hs=>by
  unfold vn;have E:=hs.len;rw [lp_all (r:=false) (λi x=>decide (d < 3)&&(nodeB d x&&(decide (i=0) || Op.bytesLess (t.getD (i - 1) default).name x.name)))]
  ·have e:allI (λi x=>decide (d < 3)&&(nodeB d x&&(decide (i=0) || Op.bytesLess (t.getD (i - 1) default).name x.name))) t=treeB d t:=by
    unfold treeB;rw [Bool.and_assoc,<- up_nodes];cases hd3:decide (d < 3)
    ·cases t with
     | nil=>rfl
     | cons x r=>simp [allI]
    ·simp
   rw [e];cases treeB d t <;> rfl
  ·intro i x u;have hi:i < t.length:=(ua.1 u).1;have m:=uF u;have v:=dep_mem m;have z:=w6 x;have o:decide ((d:Int) >= 3)=!decide (d < 3):=by rw [uA];simp;omega
   rw [o];by_cases hd3:d < 3
   ·have A:IntKind.wrap .i64 ((d:Int)+1)=((d+1:Nat):Int):=by rw [w64n (by omega)];omega
    have D:=ref07XmayN_is n x.subs (d+1) (by omega) (by omega) (hs.subs m);have w:=hs.leaves m;rw [ref04IsName_is,A,D,nodeB_eq,lenE,lenE];have s:lp (zx (λ(c:Nat) (B:GE) (s2:Unit)=>(((ref05May B).bind λv50=>(x6 ((((!v50)==false)&&((decide ((c:Int) > (0:Int)))==true))=true->0<=(IntKind.wrap .i64 ((c:Int) - (1:Int)))/\(IntKind.wrap .i64 ((c:Int) - (1:Int))) < ((x.leaves).length:Int)) ((x6 ((((!v50)==false)&&((decide ((c:Int) > (0:Int)))==true))=true->0<=(c:Int)/\(c:Int) < ((x.leaves).length:Int)) ((if ((!v50) || ((decide ((c:Int) > (0:Int)))&&(decide (((x.leaves).getD (IntKind.wrap .i64 ((c:Int) - (1:Int))).toNat default).typ >= ((x.leaves).getD (c:Int).toNat default).typ))))=true then some (.ret (.ret false)) else some (.nxt ()))))))):Option (Out (Out Bool Unit) Unit))) x.leaves 0 ()) (λ(s2:Unit)=>some (.nxt ()))=if leavesB x.leaves=true then some (.nxt ()) else some (.ret false):=by
     rw [lp_all (r:=.ret false) (λi l=>leafB l&&(decide (i=0) || decide ((x.leaves.getD (i - 1) default).typ < l.typ)))]
     ·rfl
     ·intro j l f;have C:j < x.leaves.length:=(ua.1 f).1;have p:x.leaves.getD j default=l:=by rw [uP,f];rfl
      have g:=hs.leaf m (uF f);rw [ref05May_is (by have:=g.items;simp only [maxLen];omega) (by have:=g.tombs;simp only [maxLen];omega) g.time];simp only [uc];rcases j with _ | j
      ·cases leafB l <;> simp [x6]
      ·rw [qi (by simp only [maxLen];omega),pos_succ,uU,uU,p,ye (by intro _;omega),ye (by intro _;omega)];have e:decide ((x.leaves.getD j default).typ >= l.typ)=!decide ((x.leaves.getD j default).typ < l.typ):=by rw [uA];simp
       rw [e,tS];generalize (x.leaves.getD j default)=y;cases leafB l <;> cases decide (y.typ < l.typ) <;> simp
    rw [s,tx hd3];simp only [uc,sd,tv,uX,BEq.rfl,ur];rcases i with _ | j
    ·cases nameB x.name <;> cases (x.leaves.isEmpty&&x.subs.isEmpty) <;> cases treeB (d+1) x.subs <;> cases leavesB x.leaves <;> simp [x6]
    ·rw [qi (by simp only [maxLen];omega),pos_succ,uU,ye (by intro _;omega),tS];generalize (t.getD j default)=y;cases nameB x.name <;> cases (x.leaves.isEmpty&&x.subs.isEmpty) <;> cases treeB (d+1) x.subs <;> cases leavesB x.leaves <;> cases Op.bytesLess y.name x.name <;> simp
   ·rw [uS hd3];simp [x6]
theorem ref07May_is {t:List GA} (h:Small t):vW t=some (treeB 0 t):=by
 unfold vW ref07Xmay;have:=anyN_of (g:=λn=>vn n t 0) (r:=treeB 0 t) (GA.deps t+1) (λn c=>by have:=ref07XmayN_is n t 0 (by omega) (by omega) h;simpa using this);rw [this];rfl

theorem loopW_end {ρ:Type} {f:σ->Option (Out ρ σ)} (g:σ->Prop) (i:σ->Nat) (h:∀s,g s->(∃c,f s=some (.brk c)) \/ ∃c,f s=some (.nxt c)/\g c/\i c < i s):∀(k:Nat) (s:σ),i s=k->g s->∃c,vP f s=some (.inr c):=by
 intro k
 induction k using Nat.strongRecOn with
 | _ k ih =>
  intro s m hi;rw [loopW_eq];rcases h s hi with ⟨c,e⟩ | ⟨c,e,j,o⟩
  ·exact ⟨c,by rw [e]⟩
  ·rw [e];exact ih (i c) (by omega) c rfl j
theorem lpW_end {ρ:Type} {f:σ->Option (Out ρ σ)} {rest:σ->Option ρ} (c:σ->Prop) (i:σ->Nat) (m:∀s,∃v,rest s=some v) (j:σ) (hi:c j) (h:∀s,c s->(∃g,f s=some (.brk g)) \/ ∃g,f s=some (.nxt g)/\c g/\i g < i s):∃v,lp (vP f j) rest=some v:=by
 obtain ⟨g,e⟩:=loopW_end c i h _ j rfl hi;rw [e];exact m g
theorem idx_mem {α:Type} {L:List α} {i:Int} {x:α} (h:qO L i=some x):x ∈ L:=by
 unfold qO at h;split at h
 ·exact uF h
 ·cases h
theorem size_tot:∀(n:Nat) (t:List GA) (d:Int),GA.deps t < n->Small t->∃v,xy n t d=some v
 | 0,_,_,h,_=>by omega
 | n+1,t,d,h,hs=>by
  unfold xy;have D:=hs.len;refine lpW_end (λs=>0<=s.2/\s.2<=(t.length:Int)) (λs=>(t.length - s.2.toNat)) (λ_=>⟨_,rfl⟩) _ ⟨by simp,by simp⟩ (λs hi=>?_);rcases s with ⟨a,i⟩
  obtain ⟨k,rfl⟩:∃k:Nat,i=(k:Int):=⟨i.toNat,by have:=hi.1;simp at this;omega⟩
  by_cases hc:(decide ((k:Int) < (t.length:Int))&&decide (d < 10))=true
  ·right;simp only [ud,uk] at hc;have p:k < t.length:=by omega
   have w:t[k] ∈ t:=px p;have y:=dep_mem w;have A:=w6 t[k];obtain ⟨v,B⟩:=size_tot n t[k].subs (IntKind.wrap .i64 (d+1)) (by omega) (hs.subs w);have z:=hs.leaves w;obtain ⟨s2,x⟩:=loopW_end (ρ:=Out Int (Int×Int)) (σ:=Int×Int) (f:=λs2:Int×Int=>(((qO t (k:Int)).bind λo=>(if decide (s2.2 < ((o.leaves).length:Int))=true then ((qO t (k:Int)).bind λj=>((qO j.leaves s2.2).bind λc=>(lp (zx (λ(C:Nat) (u:GI) (m:Int)=>(some (.nxt (IntKind.wrap .i64 ((IntKind.wrap .i64 (m+(1:Int)))+((u.text).length:Int)))):Option (Out _ Int))) c.items 0 (IntKind.wrap .i64 ((IntKind.wrap .i64 ((IntKind.wrap .i64 (s2.1+(1:Int)))+((c.text).length:Int)))+((c.tombs).length:Int)))) λ(m:Int)=>some (.nxt (m,(IntKind.wrap .i64 (s2.2+(1:Int)))))))) else some (.brk (s2.1,s2.2)))):Option (Out (Out Int (Int×Int)) (Int×Int))))
    (λs=>0<=s.2/\s.2<=(t[k].leaves.length:Int)) (λs=>(t[k].leaves.length - s.2.toNat)) (λs hi=>by
     rcases s with ⟨b,i⟩
     obtain ⟨q,rfl⟩:∃q:Nat,i=(q:Int):=⟨i.toNat,by have:=hi.1;simp at this;omega⟩
     simp only [idx_at p,uc];by_cases hq:q < t[k].leaves.length
     ·right;have g:decide ((q:Int) < (t[k].leaves.length:Int))=true:=by simpa using hq
      simp only [g,ur,idx_at hq,uc];rw [loopL_fold (λ(m:Int) (u:GI)=>IntKind.wrap .i64 ((IntKind.wrap .i64 (m+(1:Int)))+((u.text).length:Int))) _ 0 _ (λ_ _ _ _=>rfl),qE];refine ⟨_,rfl,?_,?_⟩
      ·simp only;rw [w64n (by omega)];omega
      ·simp only;rw [w64n (by omega)];omega
     ·left;have g:decide ((q:Int) < (t[k].leaves.length:Int))=false:=by simp;omega
      simp only [g];exact ⟨_,rfl⟩) _ ((IntKind.wrap .i64 ((IntKind.wrap .i64 ((IntKind.wrap .i64 (a+(1:Int)))+((t[k].name).length:Int)))+v)),(0:Int)) rfl ⟨by simp,by simp⟩
   refine ⟨(s2.1,IntKind.wrap .i64 ((k:Int)+1)),?_,?_,?_⟩
   ·simp only [hc,rA,uW,ur,idx_at p,uc,B];simp only [idx_at p,uc] at x;rw [x];rfl
   ·simp only;rw [w64n (by omega)];omega
   ·simp only;rw [w64n (by omega)];omega
  ·left;refine ⟨(a,(k:Int)),?_⟩;simp only at hc ⊢;rw [te hc]
theorem size_fuel:∀(n m:Nat) (t:List GA) (d:Int),GA.deps t < n->GA.deps t < m->xy n t d=xy m t d
 | 0,_,_,_,h,_=>by omega
 | _+1,0,_,_,_,h=>by omega
 | n+1,m+1,t,d,h1,h2=>by
  unfold xy;congr 2;funext s;split
  ·cases hx:qO t s.2 with
   | none=>rfl
   | some y =>
    have c:=dep_mem (idx_mem hx);have f:=w6 y;simp only [uc];rw [size_fuel n m y.subs _ (by omega) (by omega)]
  ·rfl
theorem ref07Great_tot {t:List GA} (h:Small t):∃b,wJ t=some b:=by
 unfold wJ ref07Xsize;obtain ⟨v,c⟩:∃v,∀n,GA.deps t+1<=n->xy n t 0=some v:=by
  obtain ⟨v,c⟩:=size_tot (GA.deps t+1) t 0 (by omega) h;exact ⟨v,λn f=>by rw [size_fuel n (GA.deps t+1) t 0 (by omega) (by omega)];exact c⟩
 rw [anyN_of (GA.deps t+1) c];exact ⟨_,rfl⟩

def endsB (p:List zi):Bool:=p.getLast?==some [42,42]
def x8 (p:List zi):List zi:=if endsB p then p.dropLast else p
def agreeB:List zi->List zi->Bool
 | [],_=>true
 | x::t,y::r=>(x==[42] || x==y)&&agreeB t r
 | _::_,[]=>false
def patB (p:List zi):Bool:=(decide (0 < (x8 p).length) || endsB p)&&decide ((x8 p).length<=3)&&(x8 p).all (λs=>s==[42] || nameB s)
def matchB (p path:List zi):Bool:=patB p&&qn path&&decide ((x8 p).length<=path.length)&&(endsB p || decide (path.length<=(x8 p).length))&&agreeB (x8 p) path
theorem wrapLen (h0:0 < n) (h:n<=maxLen):IntKind.wrap .i64 ((n:Int) - 1)=((n - 1:Nat):Int):=by
 simp only [maxLen] at h;rw [w64n (by omega)];omega
theorem last_getD {p:List zi} (h0:0 < p.length):(p.getD (p.length - 1) default==[42,42])=endsB p:=by
 unfold endsB;rw [rf,uP,ui (by omega)];rw [uA];simp
theorem slc_init {p:List zi} (h0:0 < p.length):slc p 0 ((p.length - 1:Nat):Int)=some p.dropLast:=by
 rw [slc_at (by omega)];simp [List.dropLast_eq_take]
theorem pathsXparts_is {p:List zi} (h:p.length<=maxLen):qm p=some (x8 p,endsB p):=by
 unfold qm x8;by_cases h0:0 < p.length
 ·rw [wrapLen h0 h,ye (by intro _;omega)];have e:decide ((p.length:Int) > 0)=true:=by simpa using h0
  rw [e,uU,last_getD h0,slc_init h0];cases endsB p <;> rfl
 ·have:p=[]:=uD (by omega);subst this;rfl
theorem pathsMayPattern_is {p:List zi} (h:p.length<=maxLen):wd p=some (patB p):=by
 unfold wd patB;rw [pathsXparts_is h];simp only [uc];rw [contains_is (q:=λs=>!(s==[42] || nameB s)) _ (λx _=>by
  unfold vf;rw [opIsName_is];cases h1:(x==([42]:zi)) <;> simp)]
 have e:(x8 p).any (λs=>!(s==[42] || nameB s))=!(x8 p).all (λs=>s==[42] || nameB s):=by rw [uA];simp
 have c:decide (((x8 p).length:Int) > 0)=decide (0 < (x8 p).length):=sK.2 (by omega);rw [e,bnd3,c];cases ((decide (0 < (x8 p).length) || endsB p)&&decide ((x8 p).length<=3)) <;> simp
theorem agree_loop (path:List zi) {f:Nat->zi->Unit->Option (Out Bool Unit)} (c:∀i x,i < path.length->f i x ()=if (!(x==([42]:zi))&&!(x==path.getD i default))=true then some (.ret false) else some (.nxt ())) :
  ∀(L:List zi) (i:Nat),L.length+i<=path.length->zx f L i ()=if agreeB L (path.drop i)=true then some (.inr ()) else some (.inl false)
 | [],i,_=>by cases path.drop i <;> rfl
 | x::t,i,h=>by
  simp only [ul] at h;have hi:i < path.length:=by omega
  have g:=agree_loop path c t (i+1) (by omega);have e:path.drop i=path[i]::path.drop (i+1):=(sN hi).symm;have j:path.getD i default=path[i]:=by rw [uP,ui hi];rfl
  simp only [zx,c i x hi,e,agreeB,j];cases h1:(x==([42]:zi)) <;> cases h2:(x==path[i]) <;> simp [g]
theorem pathsMatch_is {p path:List zi} (h:p.length<=maxLen):pathsMatch p path=some (matchB p path):=by
 unfold pathsMatch matchB;rw [pathsXparts_is h,pathsMayPattern_is h];simp only [uc,opMayPath_is];cases hp:patB p
 ·simp
 ·cases hq:qn path
  ·simp
  ·by_cases hl:(x8 p).length<=path.length
   ·have c:decide ((path.length:Int) < ((x8 p).length:Int))=false:=uS (by omega);have f:decide ((path.length:Int) > ((x8 p).length:Int))=!decide (path.length<=(x8 p).length):=by
     rw [uA];simp
    rw [c,f,agree_loop path (λi x hi=>by rw [ye (by intro _;omega),uU]) _ 0 (by omega)];simp only [sq,tx hl];cases decide (path.length<=(x8 p).length) <;> cases endsB p <;> cases agreeB (x8 p) path <;> simp
   ·have c:decide ((path.length:Int) < ((x8 p).length:Int))=true:=tx (by omega);rw [c,uS hl];simp

section
variable {S X:Type}
def foldF (y:S->X->Option (Bool×S)):List X->S->Option (Bool×S)
 | [],s=>some (true,s)
 | x::r,s=>(y s x).bind λv=>if v.1=true then foldF y r v.2 else some (false,v.2)
theorem foldF_app (y:S->X->Option (Bool×S)):∀(a b:List X) (s:S),foldF y (a++b) s=(foldF y a s).bind λv=>if v.1=true then foldF y b v.2 else some v
 | [],b,s=>by simp [foldF]
 | x::r,b,s=>by
  simp only [tj,foldF];cases y s x with
  | none=>rfl
  | some v =>
   simp only [uc];cases hv:v.1
   ·simp
   ·simp only [ur];exact foldF_app y r b v.2
theorem foldF_stp (y:S->X->Option (Bool×S)):∀(xs:List X) (s:S),
  foldF (stp (λ(f:S) (g:X)=>(((y f g).bind λv=>(if (!v.1)=true then some (false,(v.2,some 0)) else some (true,(v.2,none)))):Option (Bool×(S×Option Nat))))) xs (s,none)=(foldF y xs s).map λv=>(v.1,(v.2,if v.1=true then none else some 0))
 | [],s=>rfl
 | x::r,s=>by
  simp only [foldF,stp];cases y s x with
  | none=>rfl
  | some v =>
   rcases v with ⟨b,c⟩
   cases b
   ·simp
   ·simp only [sd,um,uJ,uc,ur];exact foldF_stp y r c
theorem loop_tell {ρ α:Type} (y:S->X->Option (Bool×S)) (g:α->X) (r:S->ρ) {f:Nat->α->S->Option (Out ρ S)}:∀(L:List α) (i:Nat) (s:S),(∀i x s,x ∈ L->f i x s=(y s (g x)).bind λv=>if (!v.1)=true then some (.ret (r v.2)) else some (.nxt v.2)) ->
  zx f L i s=(foldF y (L.map g) s).map λv=>if v.1=true then .inr v.2 else .inl (r v.2)
 | [],_,_,_=>rfl
 | x::t,i,s,h=>by
  simp only [zx,h i x s (tz ..),uw,foldF];cases y s (g x) with
  | none=>rfl
  | some v =>
   rcases v with ⟨b,c⟩
   cases b
   ·rfl
   ·simp only [sd,um,uJ,uc,ur];exact loop_tell y g r t (i+1) c λi x s j=>h i x s (tr _ j)
theorem loop_tells {ρ α:Type} (y:S->X->Option (Bool×S)) (g:α->List X) (r:S->ρ) {f:Nat->α->S->Option (Out ρ S)}:∀(L:List α) (i:Nat) (s:S),(∀i x s,x ∈ L->f i x s=(foldF y (g x) s).map λv=>if v.1=true then .nxt v.2 else .ret (r v.2)) ->
  zx f L i s=(foldF y (L.flatMap g) s).map λv=>if v.1=true then .inr v.2 else .inl (r v.2)
 | [],_,_,_=>rfl
 | x::t,i,s,h=>by
  simp only [zx,h i x s (tz ..),tn,foldF_app];cases foldF y (g x) s with
  | none=>rfl
  | some v =>
   rcases v with ⟨b,c⟩
   cases b
   ·rfl
   ·simp only [uB,ur,uc];exact loop_tells y g r t (i+1) c λi x s j=>h i x s (tr _ j)
end
theorem clone_is {α:Type} {L:List α} (h:L.length<=xe):(nilq L λc=>(if c=true then some ([]:List α) else (x6 ((([]:List α)).length+L.length<=xe) (some (([]:List α)++L)))))=some L:=by
 refine nilq_of ?_ λe=>by subst e;rfl
 rw [ye (by simpa using h)];simp
theorem wF {L:List zi} (h:L.length<=xe):zV L=some L:=clone_is h
theorem cloneItem_is (h:L.length<=xe):xG L=some L:=clone_is h
theorem cloneDot_is {L:List GF} (h:L.length<=xe):xY L=some L:=clone_is h
theorem pathsXown_is (h:LeafOk l):pathsXown l=some l:=by
 unfold pathsXown;rw [cloneItem_is (by have:=h.items;unfold xe;omega),cloneDot_is (by have:=h.tombs;unfold xe;omega)];rfl
mutual
def rowsN (a:List zi):GA->List GJ
 | ⟨nm,ls,sb⟩=>ls.map (λl=>GJ.mk (a++[nm]) l)++zF (a++[nm]) sb
def zF (a:List zi):List GA->List GJ
 | []=>[]
 | x::r=>rowsN a x++zF a r
end
mutual
def wZ (is:List zi->Bool) (a:List zi):GA->GA
 | ⟨nm,ls,sb⟩=>⟨nm,if is (a++[nm])=true then ls else [],wu is (a++[nm]) sb⟩
def wu (is:List zi->Bool) (a:List zi):List GA->List GA
 | []=>[]
 | x::r=>if (wZ is a x).leaves.isEmpty&&(wZ is a x).subs.isEmpty then wu is a r else wZ is a x::wu is a r
end
theorem xk (a:List zi) (x:GA):rowsN a x=x.leaves.map (λl=>GJ.mk (a++[x.name]) l)++zF (a++[x.name]) x.subs:=by cases x;rfl
theorem yS (a:List zi):∀t,zF a t=t.flatMap (rowsN a)
 | []=>rfl
 | x::r=>by simp only [zF,tn,yS a r]
theorem keepN_eq (is:List zi->Bool) (a:List zi) (x:GA):wZ is a x=⟨x.name,if is (a++[x.name])=true then x.leaves else [],wu is (a++[x.name]) x.subs⟩:=by cases x;rfl
theorem keepL_filter (is:List zi->Bool) (a:List zi):∀t,wu is a t=(t.map (wZ is a)).filter λy=>!(y.leaves.isEmpty&&y.subs.isEmpty)
 | []=>rfl
 | x::r=>by
  simp only [wu,uw,rJ,keepL_filter is a r];cases ((wZ is a x).leaves.isEmpty&&(wZ is a x).subs.isEmpty) <;> simp
theorem rows_is {S:Type}:∀(n:Nat) (S:Type) (y:S->GJ->Option (Bool×S)) (t:List GA) (a:List zi) (s:S),GA.deps t < n->Small t->a.length+GA.deps t<=40000000->wo n S y t a s=(foldF y (zF a t) s).map (·.2)
 | 0,_,_,_,_,_,h,_,_=>by omega
 | n+1,S,y,t,a,s,h,hs,ha=>by
  unfold wo;rw [loop_tells y (rowsN a) (λs=>s),<- yS]
  ·cases foldF y (zF a t) s with
   | none=>rfl
   | some v=>rcases v with ⟨b,c⟩;cases b <;> rfl
  ·intro i x p f;have g:=dep_mem f;have o:=w6 x;rw [wF (by unfold xe;omega),uc,ye (by simp [xe];omega)];rw [loop_tell y (λl=>GJ.mk (a++[x.name]) l) (λs=>Out.ret s)]
   ·rw [xk,foldF_app];cases foldF y (x.leaves.map λl=>GJ.mk (a++[x.name]) l) p with
    | none=>rfl
    | some v =>
     rcases v with ⟨b,c⟩
     cases b
     ·rfl
     ·simp only [uB,ur,qE,uc];unfold pathsXrows;simp only [uc];rw [rows_is (S:=Unit) n _ _ x.subs (a++[x.name]) (c,none) (by omega) (hs.subs f) (by simp;omega),foldF_stp];cases foldF y (zF (a++[x.name]) x.subs) c with
      | none=>rfl
      | some v=>rcases v with ⟨b,s2⟩;cases b <;> rfl
   ·intro j l s2 m;rw [wF (by simp [xe];omega),uc,pathsXown_is (hs.leaf f m),uc]

theorem loop_keep {α c ρ:Type} (p:α->Bool) (g:α->c) {f:Nat->α->List c->Option (Out ρ (List c))}:∀(L:List α) (i:Nat) (s:List c),s.length+L.length<=xe->(∀i x s,x ∈ L->s.length+1<=xe->f i x s=if p x=true then some (.nxt (s++[g x])) else some (.nxt s)) ->
  zx f L i s=some (.inr (s++(L.filter p).map g))
 | [],_,s,_,_=>by simp [zx]
 | x::t,i,s,hl,h=>by
  simp only [ul] at hl;simp only [zx,h i x s (tz ..) (by omega),rJ];cases hp:p x
  ·simp only [um,uJ];exact loop_keep p g t (i+1) s (by omega) λi x s j=>h i x s (tr _ j)
  ·simp only [ur];rw [loop_keep p g t (i+1) (s++[g x]) (by simp;omega) λi x s j=>h i x s (tr _ j)];simp
theorem keep_len (is:List zi->Bool) (a:List zi) (t:List GA):(wu is a t).length<=t.length:=by
 rw [keepL_filter];exact uN (tM _ _) (by simp)
theorem kept_is (is:List zi->Bool) (f:List zi->Option Bool) (B:∀p,f p=some (is p)):∀(n:Nat) (t:List GA) (a:List zi),GA.deps t < n->Small t->a.length+GA.deps t<=40000000->vp n t a f=some (wu is a t)
 | 0,_,_,h,_,_=>by omega
 | n+1,t,a,h,hs,ha=>by
  unfold vp;have H:=hs.len;have key:∀(L:List GA) (i:Nat) (s:List GA),(∀x ∈ L,x ∈ t)->s.length+L.length<=16777216->∀{F:Nat->GA->List GA->Option (Out (List GA) (List GA))},(∀i x s,x ∈ t->s.length+1<=16777216->F i x s=some (.nxt (if ((wZ is a x).leaves.isEmpty&&(wZ is a x).subs.isEmpty)=true then s else s++[wZ is a x]))) ->
    zx F L i s=some (.inr (s++wu is a L)):=by
   intro L
   induction L with
   | nil=>intro i s _ _ F _;simp [zx,wu]
   | cons x r ih =>
    intro i s A c F v;simp only [ul] at c;simp only [zx,v i x s (A x (by simp)) (by omega),wu];cases he:((wZ is a x).leaves.isEmpty&&(wZ is a x).subs.isEmpty)
    ·simp only [um,uJ];rw [ih (i+1) _ (λy w=>A y (by simp [w])) (by simp;omega) v];simp
    ·simp only [ur];exact ih (i+1) s (λy w=>A y (by simp [w])) (by omega) v
  rw [key t 0 [] (λ_ h=>h) (by simpa using H)]
  ·simp
  ·intro i x s g c;have D:=dep_mem g;have E:=w6 x;have m:=hs.leaves g;have C:=(hs.subs g).len;rw [wF (by unfold xe;omega),uc,ye (by simp [xe];omega),kept_is is f B n x.subs (a++[x.name]) (by omega) (hs.subs g) (by simp;omega),uc];rw [loop_keep (λ_=>is (a++[x.name])) (λl=>l) x.leaves 0 [] (by simp [xe];omega)]
   ·simp only [qE,uV,List.map_id_fun',id];have o:(x.leaves.filter λ_=>is (a++[x.name]))=(if is (a++[x.name])=true then x.leaves else []):=by
     cases is (a++[x.name]) <;> simp
    rw [o,<- keepN_eq];have I:=keep_len is (a++[x.name]) x.subs;have G:decide ((IntKind.wrap .i64 (((if is (a++[x.name])=true then x.leaves else []).length:Int)+((wu is (a++[x.name]) x.subs).length:Int))) > 0)=!((wZ is a x).leaves.isEmpty&&(wZ is a x).subs.isEmpty):=by
     rw [keepN_eq];have J:(if is (a++[x.name])=true then x.leaves else []).length<=16777216:=by cases is (a++[x.name]) <;> simp [m]
     rw [w64n (by omega)];cases hA:(if is (a++[x.name])=true then x.leaves else []) <;> cases hB:wu is (a++[x.name]) x.subs <;> simp <;> omega
    rw [G];cases ((wZ is a x).leaves.isEmpty&&(wZ is a x).subs.isEmpty)
    ·simp only [tX,ur,um,uJ];rw [ye (by simp [xe];omega)]
    ·simp
   ·intro j l s2 u z;rw [B,uc,pathsXown_is (hs.leaf g u),uc,ye (by simpa using z)]
theorem deps_bks:∀(n:Nat) (t:List GA),GA.deps t<=n->GA.deps t<=GA.bks t:=by
 intro n
 induction n with
 | zero=>intro t c;omega
 | succ n ih =>
  intro t
  induction t with
  | nil=>intro _;simp [GA.deps]
  | cons x r ihr =>
   intro c;simp only [GA.deps] at c ⊢;simp only [GA.bks];have h:=ihr (by omega);have f:=w6 x;have i:=ih x.subs (by omega);have g:=bk_node x;omega
theorem Small.dep {t:List GA} (h:Small t):GA.deps t<=16777216:=uN (deps_bks _ t (ue _)) h.2
theorem keptAll_is (is:List zi->Bool) (f:List zi->Option Bool) (c:∀p,f p=some (is p)) {t:List GA} (h:Small t):pathsXkept t [] f=some (wu is [] t):=by
 unfold pathsXkept;have g:=h.dep;rw [anyN_of (GA.deps t+1) λn i=>kept_is is f c n t [] (by omega) h (by simp;omega)]
theorem rows_len:∀(n:Nat) (t:List GA) (a:List zi),GA.deps t<=n->(zF a t).length<=GA.bks t:=by
 intro n
 induction n with
 | zero =>
  intro t a h;cases t with
  | nil=>simp [zF]
  | cons x r=>simp only [GA.deps] at h;have:=w6 x;omega
 | succ n ih =>
  intro t
  induction t with
  | nil=>intro a _;simp [zF]
  | cons x r ihr =>
   intro a c;simp only [GA.deps] at c;simp only [GA.bks,zF,uq];have j:=ihr a (by omega);have g:=w6 x;have o:=ih x.subs (a++[x.name]) (by omega);have i:=bk_node x;have m:=sum_len (f:=GE.bk) (λx=>by unfold GE.bk;omega) x.leaves;rw [xk];simp only [uq,ut];omega
theorem fold_app {X:Type}:∀(xs s:List X),s.length+xs.length<=xe->foldF (stp (λ(f:List X) (c:X)=>((x6 (f.length+([c]:List X).length<=xe) (some (true,((f++[c]),none)))):Option (Bool×(List X×Option Nat))))) xs (s,none)=some (true,(s++xs,none))
 | [],s,_=>by simp [foldF]
 | x::r,s,h=>by
  simp only [ul] at h;simp only [foldF,stp];rw [ye (by simp;omega)];simp only [uc,ur];rw [fold_app r (s++[x]) (by simp;omega)];simp
theorem pathsRows_is {t:List GA} (h:Small t):wc t=some (if treeB 0 t=true then zF [] t else []):=by
 unfold wc;rw [qW h,uc];cases treeB 0 t
 ·rfl
 ·have hd:=h.dep;have c:=rows_len _ t [] (ue _);have f:=h.2;simp only [sd,um,uJ,ur,pathsXrows,uc,vF,wI,pathsXrowsC1];rw [anyN_of (r:=(zF [] t,none)) (GA.deps t+1) λn g=>by
   rw [rows_is (S:=Unit) n _ _ t [] ([],none) (by omega) h (by simp;omega),fold_app _ _ (by simp [xe];omega)];rfl]
  rfl

theorem vq:∀{a b c:List UInt8},Op.bytesLess a b=true->Op.bytesLess b c=true->Op.bytesLess a c=true
 | _,[],_,h,_=>by cases ‹List UInt8› <;> simp [Op.bytesLess] at h
 | a,b::y,[],_,h=>by simp [Op.bytesLess] at h
 | [],b::y,c::z,_,_=>rfl
 | a::x,b::y,c::z,g,f=>by
  simp only [Op.bytesLess,tc,uk,ud,sM] at g f ⊢;rcases g with g | ⟨rfl,g⟩
  ·rcases f with f | ⟨rfl,f⟩
   ·left;exact UInt8.lt_trans g f
   ·left;exact g
  ·rcases f with f | ⟨rfl,f⟩
   ·left;exact f
   ·right;exact ⟨rfl,vq g f⟩
theorem upB_iff (t:List GA):upB t=true ↔ t.Pairwise (λx y=>Op.bytesLess x.name y.name=true):=by
 unfold upB;rw [allI_iff];constructor
 ·intro h;rw [tw];intro i j hi c f;obtain ⟨k,rfl⟩:∃k,j=i+1+k:=⟨j - i - 1,by omega⟩
  induction k with
  | zero =>
   have:=h (i+1) _ (ui c);simp only [tS,tc,uk] at this;rcases this with h0 | h0
   ·omega
   ·rw [uP,ui hi] at h0;exact h0
  | succ k ih =>
   have g:=ih (by omega) (by omega);have:=h (i+1+(k+1)) _ (ui c);simp only [tc,uk] at this;rcases this with h0 | h0
   ·omega
   ·rw [show i+1+(k+1) - 1=i+1+k by omega,uP,ui (by omega:i+1+k < t.length)] at h0;exact vq g h0
 ·intro h i x m;rcases i with _ | i
  ·rfl
  ·rw [tw] at h;obtain ⟨hi,rfl⟩:=ua.1 m;have:=h i (i+1) (by omega) hi (by omega);simp only [tS,tc];right;rw [uP,ui (by omega:i < t.length)];exact this
section
variable (is:List zi->Bool)
theorem keep_up (a:List zi) {t:List GA} (h:upB t=true):upB (wu is a t)=true:=by
 rw [upB_iff] at h ⊢;rw [keepL_filter];refine List.Pairwise.filter _ ?_;rw [sW];exact h.imp λ{x y} h=>by rw [keepN_eq,keepN_eq];exact h
theorem vk {M:List GA->Prop} (h0:M []) (c:∀x r,M x.subs->M r->M (x::r)):∀t,M t:=by
 have key:∀(n:Nat) (t:List GA),GA.deps t<=n->M t:=by
  intro n
  induction n with
  | zero =>
   intro t h;cases t with
   | nil=>exact h0
   | cons x r=>simp only [GA.deps] at h;have:=w6 x;omega
  | succ n ih =>
   intro t
   induction t with
   | nil=>intro _;exact h0
   | cons x r ihr =>
    intro h;simp only [GA.deps] at h;have:=w6 x;exact c x r (ih x.subs (by omega)) (ihr (by omega))
 exact λt=>key _ t (ue _)
theorem keep_may:∀(t:List GA) (d:Nat) (a:List zi),treeB d t=true->treeB d (wu is a t)=true:=by
 intro t;have key:∀(t:List GA),(∀(d:Nat) (a:List zi),treeB d t=true->treeB d (wu is a t)=true)/\(∀(d:Nat) (a:List zi),x9 d t=true->x9 d (wu is a t)=true):=by
  refine vk ⟨λd a h=>h,λd a h=>h⟩ ?_;intro x r i g;have f:∀(d:Nat) (a:List zi),x9 d (x::r)=true->x9 d (wu is a (x::r))=true:=by
   intro d a h;simp only [x9,ud] at h;simp only [wu];cases he:((wZ is a x).leaves.isEmpty&&(wZ is a x).subs.isEmpty)
   ·simp only [um,uJ,x9,ud];refine ⟨?_,g.2 d a h.2⟩;have c:=h.1;rw [nodeB_eq] at c ⊢;simp only [ud,tP] at c ⊢;rw [keepN_eq] at he ⊢;refine ⟨⟨⟨c.1.1.1,he⟩,i.1 (d+1) _ c.1.2⟩,?_⟩;show leavesB (if is (a++[x.name])=true then x.leaves else [])=true;split
    ·exact c.2
    ·rfl
   ·simp only [ur];exact g.2 d a h.2
  refine ⟨λd a h=>?_,f⟩;unfold treeB at h ⊢;simp only [ud] at h ⊢;refine ⟨⟨?_,keep_up is a h.1.2⟩,f d a h.2⟩;have:decide (d < 3)=true:=by simpa using h.1.1
  rw [this];simp
 exact (key t).1
theorem keep_rows:∀(t:List GA) (a:List zi),zF a (wu is a t)=(zF a t).filter λr=>is r.path:=by
 refine vk (λa=>rfl) ?_;intro x r g c a;have f:rowsN a (wZ is a x)=(rowsN a x).filter λr=>is r.path:=by
  rw [keepN_eq,xk,xk,t7,<- g];simp only;congr 1;cases h:is (a++[x.name])
  ·simp [h]
  ·simp only [ur];rw [tZ.2];intro r c;obtain ⟨l,_,rfl⟩:=u6.1 c;exact h
 simp only [wu,zF,t7,<- c,<- f];cases he:((wZ is a x).leaves.isEmpty&&(wZ is a x).subs.isEmpty)
 ·simp [zF]
 ·simp only [ur];simp only [ud,pz] at he;rw [xk,he.1,he.2];simp [zF]
theorem keep_small:∀(t:List GA) (a:List zi),(GA.wfs t->GA.wfs (wu is a t))/\GA.bks (wu is a t)<=GA.bks t:=by
 refine vk (λa=>⟨λh=>h,ue _⟩) ?_;intro x r g c a;have p:(wZ is a x).bk<=x.bk:=by
  have:=(g (a++[x.name])).2;cases x with
  | mk nm ls sb =>
   simp only [wZ,GA.bk] at this ⊢;have f:((if is (a++[nm])=true then ls else []).map GE.bk).sum<=(ls.map GE.bk).sum:=by split <;> simp
   omega
 have i:x.wf->(wZ is a x).wf:=by
  have:=(g (a++[x.name])).1;cases x with
  | mk nm ls sb =>
   simp only [wZ,GA.wf] at this ⊢
   rintro ⟨m,f,o⟩
   refine ⟨m,?_,this o⟩;split
   ·exact f
   ·exact ⟨by simp,λy j=>by cases j⟩
 simp only [wu];split
 ·refine ⟨λh=>(c a).1 (by simp only [GA.wfs] at h;exact h.2),?_⟩;have:=(c a).2;simp only [GA.bks];omega
 ·refine ⟨λh=>?_,?_⟩
  ·simp only [GA.wfs] at h ⊢;exact ⟨i h.1,(c a).1 h.2⟩
  ·have:=(c a).2;simp only [GA.bks];omega
theorem Small.keep {t:List GA} (h:Small t) (a:List zi):Small (wu is a t):=⟨(keep_small is t a).1 h.1,uN (keep_small is t a).2 h.2⟩
end
theorem pathsSelect_is {t:List GA} (h:Small t) {p:List zi} (c:p.length<=maxLen):xz t p=some (if (treeB 0 t&&patB p)=true then (wu (matchB p) [] t,0) else ([],2)):=by
 unfold xz;rw [qW h,pathsMayPattern_is c,keptAll_is (matchB p) _ (λq=>by unfold pathsSelectC1;rw [pathsMatch_is c];rfl) h];cases treeB 0 t <;> cases patB p <;> rfl
theorem small_of {t:List GA} (h:t.length<=maxLen/\∀y ∈ t,GA.wf y) (c:(t.map GA.bk).sum<=16777216):Small t:=⟨(GA.wfs_iff t).2 h.2,by rw [GA.bks_eq];exact c⟩
theorem half_mid {lo hi:Nat} (h:lo < hi) (j:hi<=4611686018427387904):IntKind.wrap .i64 (Int.fdiv (IntKind.wrap .u64 (IntKind.wrap .i64 ((lo:Int)+(hi:Int)))) (2 ^ (min (1:Int).toNat (IntKind.bits .u64))))=(((lo+hi) / 2:Nat):Int):=by
 have c:IntKind.wrap .i64 ((lo:Int)+(hi:Int))=((lo+hi:Nat):Int):=by rw [w64n (by omega)];omega
 have i:IntKind.wrap .u64 (((lo+hi:Nat):Int))=((lo+hi:Nat):Int):=by rw [IntKind.wrap_u64];omega
 have f:(2:Int) ^ (min (1:Int).toNat (IntKind.bits .u64))=2:=by decide
 rw [c,i,f,Int.fdiv_eq_ediv_of_nonneg _ (by decide)];have g:((lo+hi:Nat):Int) / 2=(((lo+hi) / 2:Nat):Int):=by omega
 rw [g,w64n (by omega)]
theorem bs_loop {g:GA->zi->Option Int} {x:List GA} {s:zi} {c:Nat} (A:x.length<=16777216) (u:∀i n,x[i]?=some n->∃v,g n s=some v/\(i < c->v < 0)/\(c<=i->0<=v)) :
  ∀(k lo hi:Nat),hi - lo<=k->lo<=c->c<=hi->hi<=x.length->vP (ρ:=Int×Bool) (λ(f:Int×Int)=>((if (decide (f.1 < f.2))=true then ((qO x (IntKind.wrap .i64 ((Int.fdiv (IntKind.wrap .u64 ((IntKind.wrap .i64 (f.1+f.2)))) (2 ^ (min (1:Int).toNat (IntKind.bits .u64))))))).bind λy=>((g y s).bind λh=>(if (decide (h < (0:Int)))=true then some (.nxt ((IntKind.wrap .i64 ((IntKind.wrap .i64 ((Int.fdiv (IntKind.wrap .u64 ((IntKind.wrap .i64 (f.1+f.2)))) (2 ^ (min (1:Int).toNat (IntKind.bits .u64))))))+(1:Int))),f.2)) else some (.nxt (f.1,(IntKind.wrap .i64 ((Int.fdiv (IntKind.wrap .u64 ((IntKind.wrap .i64 (f.1+f.2)))) (2 ^ (min (1:Int).toNat (IntKind.bits .u64))))))))))) else some (.brk (f.1,f.2))):Option (Out _ (Int×Int)))) ((lo:Int),(hi:Int))=some (.inr ((c:Int),(c:Int))):=by
 intro k
 induction k with
 | zero =>
  intro lo hi t j o hh;obtain rfl:lo=hi:=by omega
  obtain rfl:lo=c:=by omega
  rw [loopW_eq];simp
 | succ k ih =>
  intro lo hi t j o hh;rw [loopW_eq];by_cases hlt:lo < hi
  ·have hd:decide ((lo:Int) < (hi:Int))=true:=tx (by omega);simp only [hd,ur,half_mid hlt (by omega)];have m:(lo+hi) / 2 < x.length:=by omega
   rw [idx_at m,uc];obtain ⟨v,z,p,w⟩:=u ((lo+hi) / 2) _ (ui m);rw [z,uc];by_cases hcm:(lo+hi) / 2 < c
   ·rw [tx (p hcm),uG rfl];simp only;have e:IntKind.wrap .i64 ((((lo+hi) / 2:Nat):Int)+1)=(((lo+hi) / 2+1:Nat):Int):=by rw [w64n (by omega)];omega
    rw [e];exact ih _ _ (by omega) (by omega) o hh
   ·rw [uS (by have:=w (by omega);omega)];simp only [um,uJ];exact ih _ _ (by omega) j (by omega) (by omega)
  ·obtain rfl:lo=hi:=by omega
   obtain rfl:lo=c:=by omega
   simp
theorem bs_is {f:GA->zi->Option Int} {x:List GA} {s:zi} {c:Nat} (m:x.length<=16777216) (j:c<=x.length) (g:∀i n,x[i]?=some n->∃v,f n s=some v/\(i < c->v < 0)/\(c<=i->0<=v)) :
  zQ x s f=(if c < x.length then f (x.getD c default) s else some 1).bind λv=>some ((c:Int),(decide (c < x.length)&&(v==0))):=by
 unfold zQ;have:=bs_loop m g x.length 0 x.length (by omega) (tU _) j (ue _);simp only [Int.natCast_zero] at this;rw [show ((0:Int),(x.length:Int))=(((0:Nat):Int),(x.length:Int)) from rfl] at *;rw [this];simp only [lp];by_cases h:c < x.length
 ·have hd:decide ((c:Int) < (x.length:Int))=true:=tx (by omega);simp only [hd,h,ur,uU,tJ,rA,uX];rw [ye (by intro _;omega)]
 ·have hd:decide ((c:Int) < (x.length:Int))=false:=uS (by omega);simp only [hd,h,uJ,decide_false,rE,uc];rw [ye (by intro hh;cases hh)];simp
theorem cmp_less {b:List UInt8}:Lib.compareBytes a b < 0 ↔ Op.bytesLess a b=true:=by
 induction a generalizing b with
 | nil=>cases b <;> simp [Lib.compareBytes,Op.bytesLess]
 | cons x a ih =>
  cases b with
  | nil=>simp [Lib.compareBytes,Op.bytesLess]
  | cons y b =>
   simp only [Lib.compareBytes,Op.bytesLess];by_cases h1:x < y
   ·simp [h1]
   ·by_cases h2:y < x
    ·have:¬ x=y:=by rintro rfl;exact h1 h2
     simp [h1,h2,this]
    ·have:x=y:=UInt8.le_antisymm (UInt8.not_lt.1 h2) (UInt8.not_lt.1 h1);simp [h1,h2,this,ih]
theorem cmp_self (a:List UInt8):Lib.compareBytes a a=0:=by
 induction a with
 | nil=>rfl
 | cons x a ih=>simp [Lib.compareBytes,ih]
theorem layC1_is (n:GA) (s:zi):vw n s=some (Lib.compareBytes n.name s):=rfl
theorem cloneLeaf_is {L:List GE} (h:L.length<=xe):wX L=some L:=clone_is h
theorem cloneNode_is {L:List GA} (h:L.length<=xe):xK L=some L:=clone_is h
theorem qg (h:n<=16777217):n<=xe:=uN h (by decide)
theorem own_is (h:LeafOk l):diffXown l=some l:=by
 unfold diffXown;rw [cloneItem_is (qg (sC h.items)),uc,cloneDot_is (qg (sC h.tombs)),uc]
def preR (a:List zi) (r:GJ):GJ:=⟨a++r.path,r.leaf⟩
theorem rows_pre:∀(t:List GA) (a b:List zi),zF (a++b) t=(zF b t).map (preR a):=by
 refine vk (λ_ _=>rfl) ?_;intro x r f c a b;rw [yS,yS,tn,tn,<- yS,<- yS,c,si];congr 1;rw [xk,xk,uy,f,si,s8];rfl
theorem rows_path:∀(t:List GA) (a:List zi) (r:GJ),r ∈ zF a t->a.length < r.path.length/\r.path.length<=a.length+GA.deps t:=by
 refine vk (λ_ _ h=>by simp [zF] at h) ?_;intro x r g f a q c;rw [yS,tn,uK,<- yS] at c;have j:x.dep<=GA.deps (x::r):=dep_mem (by simp);have i:=w6 x;have m:GA.deps r<=GA.deps (x::r):=by
  simp only [GA.deps];omega
 rcases c with c | c
 ·rw [xk,uK,u6] at c;rcases c with ⟨l,_,rfl⟩ | c
  ·simp;omega
  ·have:=g _ _ c;simp only [uq,ul,uE] at this;omega
 ·have:=f _ _ c;omega
theorem leaf_typ (h:leafB l=true):1<=l.typ/\l.typ<=4:=by
 unfold leafB at h;split at h
 ·omega
 split at h
 ·omega
 split at h
 ·omega
 split at h
 ·omega
 ·cases h
theorem leaves_up (h:leavesB ls=true):ls.Pairwise (λx y=>x.typ < y.typ)/\∀l ∈ ls,leafB l=true:=by
 unfold leavesB at h;rw [allI_iff] at h;have o:∀l ∈ ls,leafB l=true:=λl m=>by
  obtain ⟨i,hi⟩:=tb.1 m;have:=h i l hi;simp only [ud] at this;exact this.1
 refine ⟨?_,o⟩;have c:∀i,(hi:i+1 < ls.length)->ls[i].typ < ls[i+1].typ:=λi hi=>by
  have:=h (i+1) _ (ui hi);simp only [Nat.add_eq_zero_iff,pJ,and_false,decide_false,tv,ud,uk,tS] at this;have e:ls.getD i default=ls[i]:=by simp [uP,ui (show i < ls.length by omega)]
  rw [e] at this;exact this.2
 rw [tw];intro i j hi g f;obtain ⟨k,rfl⟩:∃k,j=i+1+k:=⟨j - (i+1),by omega⟩
 clear f
 induction k with
 | zero=>exact c i g
 | succ k ih=>exact Int.lt_trans (ih (by omega)) (c (i+1+k) g)
theorem Small.tail {x:GA} {r:List GA} (h:Small (x::r)):Small r:=by
 refine ⟨(GA.wfs_iff r).2 λy c=>(GA.wfs_iff _).1 h.1 y (by simp [c]),?_⟩;have:=h.2;simp only [GA.bks] at this;omega
def pathLt (a b:List zi):Prop:=(∃y q,b=a++y::q) \/ ∃p x y a' b',a=p++x::a'/\b=p++y::b'/\Op.bytesLess x y=true
theorem less_irr:∀(a:List UInt8),Op.bytesLess a a=false
 | []=>rfl
 | x::a=>by simp [Op.bytesLess,less_irr a]
theorem less_ne {b:List UInt8} (h:Op.bytesLess a b=true):a ≠ b:=by
 rintro rfl;rw [less_irr] at h;cases h
theorem cmpS_self (x:zi):yM x x=some 0:=by
 unfold yM xI;simp [less_irr]
theorem cmpS_less {x y:zi} (h:Op.bytesLess x y=true):yM x y=some (-1):=by
 unfold yM xI;simp [h]
noncomputable def cmpF (s2:List zi):Nat->zi->Unit->Option (Out Int Unit):=λn x _=>if (decide ((n:Int) >= ((s2).length:Int)))=true then some (.ret (1:Int)) else ((qO s2 (n:Int)).bind λy12=>((yM x y12).bind λv13=>(if (v13 != (0:Int))=true then some (.ret v13) else some (.nxt ()))))
theorem cmpP_eq (a b:List zi):yO a b=lp (zx (cmpF b) a 0 ()) λ_=>(if (decide (((a).length:Int) < ((b).length:Int)))=true then some (-1:Int) else some (0:Int)):=rfl
theorem cmp_pre {s2:List zi}:∀(p a:List zi) (q b:List zi),s2=q++(p++b)->zx (cmpF s2) (p++a) q.length ()=zx (cmpF s2) a (q.length+p.length) ()
 | [],a,q,b,_=>rfl
 | x::p,a,q,b,h=>by
  have f:q.length < s2.length:=by rw [h];simp
  have c:qO s2 (q.length:Int)=some x:=yd (by rw [h];simp);have e:cmpF s2 q.length x ()=some (.nxt ()):=by
   unfold cmpF;rw [uS (by omega)];simp only [um,uJ,c,uc,cmpS_self,sB]
  simp only [tj,zx,e];have:=cmp_pre (s2:=s2) p a (q++[x]) b (by rw [h];simp);rw [uq,rG] at this;rw [this];congr 1;simp only [ul];omega
theorem cmpP_lt {a b:List zi} (h:pathLt a b):yO a b=some (-1):=by
 rw [cmpP_eq];rcases h with ⟨y,q,rfl⟩ | ⟨p,x,y,a',c,rfl,rfl,h⟩
 ·have:=cmp_pre (s2:=a++y::q) a [] [] (y::q) rfl;rw [tC,uE] at this;rw [this];simp only [zx,qE];rw [uG (tx (by simp only [uq,ul];omega))]
 ·have:=cmp_pre (s2:=p++y::c) p (x::a') [] (y::c) rfl;rw [uE] at this;rw [this];have f:qO (p++y::c) ((0+p.length:Nat):Int)=some y:=yd (by simp);have e:cmpF (p++y::c) (0+p.length) x ()=some (.ret (-1)):=by
   unfold cmpF;rw [uS (by simp only [uq,ul];omega)];simp only [um,uJ,f,uc,cmpS_less h];rfl
  simp only [zx,e,lp_inl]
theorem cmpP_self (a:List zi):yO a a=some 0:=by
 rw [cmpP_eq];have:=cmp_pre (s2:=a) a [] [] [] (by simp);rw [tC,uE] at this;rw [this];simp only [zx,qE];rw [te (by simp)]
def rowLt (r q:GJ):Prop:=pathLt r.path q.path \/ (r.path=q.path/\r.leaf.typ < q.leaf.typ)
def qF:GE:=GE.mk (0:Int) (0:Int) (0:Int) (GF.mk (GK.mk (0:Int) (0:Int)) (0:Int)) ([]:zi) ([]:List GI) ([]:List GF)
theorem q9 {t:List GA} {a:List zi} (h:r ∈ zF a t):∃x ∈ t,∃w,r.path=a++x.name::w:=by
 rw [yS,List.mem_flatMap] at h;obtain ⟨x,c,h⟩:=h;refine ⟨x,c,?_⟩;rw [xk,uK,u6] at h;rcases h with ⟨l,_,rfl⟩ | h
 ·exact ⟨[],rfl⟩
 ·have:=rows_pre x.subs (a++[x.name]) [];rw [tC] at this;rw [this,u6] at h;obtain ⟨q,_,rfl⟩:=h;exact ⟨q.path,by simp [preR]⟩
theorem rows_lt:∀(t:List GA) (d:Nat) (a:List zi),upB t=true->x9 d t=true->(zF a t).Pairwise rowLt:=by
 refine vk (λ_ _ _ _=>List.Pairwise.nil) ?_;intro x r D C d a o u;rw [yS,tn,<- yS];rw [upB_iff,uL] at o;simp only [x9,ud] at u;obtain ⟨f,m⟩:=u;rw [nodeB_eq] at f;simp only [ud] at f;obtain ⟨⟨⟨_,_⟩,c⟩,p⟩:=f;simp only [treeB,ud] at c;obtain ⟨j,_⟩:=leaves_up p;rw [tF];refine ⟨?_,C d a (upB_iff r |>.2 o.2) m,λq i F g=>?_⟩
 ·rw [xk,tF];refine ⟨?_,D (d+1) _ c.1.2 c.2,λq i F g=>?_⟩
  ·rw [sW];exact j.imp λh=>.inr ⟨rfl,h⟩
  ·rw [u6] at i;obtain ⟨l,_,rfl⟩:=i;obtain ⟨y,_,w,e⟩:=q9 g;exact .inl (.inl ⟨y.name,w,e⟩)
 ·have v:∃w,q.path=a++x.name::w:=by
   have:q ∈ zF a [x]:=by rw [yS];simpa using i
   obtain ⟨z,s,w,e⟩:=q9 this;simp only [up] at s;subst s;exact ⟨w,e⟩
  obtain ⟨w,E⟩:=v;obtain ⟨y,B,w',A⟩:=q9 g;exact .inl (.inr ⟨a,x.name,y.name,w,w',E,A,o.1 y B⟩)
structure RowOk' (r:GJ):Prop where
 path:qn r.path=true
 leaf:leafB r.leaf=true
 ok:LeafOk r.leaf
theorem rows_ok:∀(t:List GA) (d:Nat) (a:List zi),Small t->treeB d t=true->a.length=d->a.all nameB=true->∀r ∈ zF a t,RowOk' r:=by
 have key:∀(t:List GA),(∀(d:Nat) (a:List zi),Small t->x9 d t=true->d < 3->a.length=d->a.all nameB=true->∀r ∈ zF a t,RowOk' r):=by
  refine vk (λ_ _ _ _ _ _ _ _ h=>by simp [zF] at h) ?_;intro x r z i d a hs y hd o p q c;rw [yS,tn,uK,<- yS] at c;simp only [x9,ud] at y;obtain ⟨g,u⟩:=y;rcases c with c | c
  ·rw [nodeB_eq] at g;simp only [ud] at g;obtain ⟨⟨⟨v,_⟩,f⟩,w⟩:=g;have m:(a++[x.name]).all nameB=true:=by rw [t6,p];simpa using v
   rw [xk,uK,u6] at c;rcases c with ⟨l,j,rfl⟩ | c
   ·refine ⟨?_,(leaves_up w).2 l j,hs.leaf (by simp) j⟩;simp only [qn,m,tQ,uq,ul,uE,ud,uk];omega
   ·simp only [treeB,ud,tc,pz,uk] at f;rcases f.1.1 with h0 | h0
    ·rw [h0] at c;simp [zF] at c
    ·exact z (d+1) _ (hs.subs (by simp)) f.2 h0 (by simp [o]) m q c
  ·exact i d a hs.tail u hd o p q c
 intro t d a hs s o p r i;simp only [treeB,ud,tc,pz,uk] at s;rcases s.1.1 with h0 | h0
 ·rw [h0] at i;simp [zF] at i
 ·exact key t d a hs s.2 h0 o p r i
theorem side0 (k:Int):wD false qF k=some true:=by
 unfold wD;simp only [tX,ur];have:=leafSame_is qF qF;unfold qF at this ⊢;rw [this];simp
theorem side1 (h:leafB l=true) (c:LeafOk l):wD true l l.typ=some true:=by
 unfold wD;have f:leafMay l=some true:=by
  rw [leafMay_is (uN c.items (by decide)) (uN c.tombs (by decide)),h]
 simp [f]
theorem tree_nil (d:Nat):treeB d []=true:=by simp [treeB,x9,upB,allI]
theorem leafNew_tot (k:Int):∃v,leafNew k=some v:=by unfold leafNew;split <;> exact ⟨_,rfl⟩
theorem pathB_ne {p:List zi} (h:qn p=true):p ≠ []:=by
 rintro rfl
 simp [qn] at h
theorem loopW_inv {ρ:Type} {f:σ->Option (Out ρ σ)} (i g:σ->Prop) (j:σ->Nat) (h:∀s,i s->(∃c,f s=some (.brk c)/\g c) \/ ∃c,f s=some (.nxt c)/\i c/\j c < j s):∀(k:Nat) (s:σ),j s=k->i s->∃c,vP f s=some (.inr c)/\g c:=by
 intro k
 induction k using Nat.strongRecOn with
 | _ k ih =>
  intro s p hi;rw [loopW_eq];rcases h s hi with ⟨c,e,m⟩ | ⟨c,e,o,t⟩
  ·exact ⟨c,by rw [e],m⟩
  ·rw [e];exact ih (j c) (by omega) c rfl o
theorem idxF_is {q:GE->Bool} {del:GE->Option Bool}:∀(L:List GE) (n:Nat),(∀x ∈ L,del x=some (q x)) ->
  (zx (λ(f:Nat) (j:GE) (_:Unit)=>(((del j).bind λo=>(if o=true then some (.ret (f:Int)) else some (.nxt ()))):Option (Out Int Unit))) L n ()=some (.inr ())/\∀x ∈ L,q x=false) \/
  ∃A x B,L=A++x::B/\q x=true/\(∀y ∈ A,q y=false)/\zx (λ(f:Nat) (j:GE) (_:Unit)=>(((del j).bind λo=>(if o=true then some (.ret (f:Int)) else some (.nxt ()))):Option (Out Int Unit))) L n ()=some (.inl ((n+A.length:Nat):Int))
 | [],n,_=>.inl ⟨rfl,by simp⟩
 | x::r,n,h=>by
  have m:=h x (by simp);cases hq:q x with
  | true=>exact .inr ⟨[],x,r,rfl,hq,by simp,by simp [zx,m,hq]⟩
  | false =>
   rcases idxF_is r (n+1) (λy c=>h y (by simp [c])) with ⟨e,i⟩ | ⟨A,y,B,rfl,p,i,e⟩
   ·refine .inl ⟨by simp only [zx,m,hq,uc];exact e,?_⟩;intro y c;rcases ux.1 c with rfl | c
    ·exact hq
    ·exact i y c
   ·refine .inr ⟨x::A,y,B,rfl,p,?_,?_⟩
    ·intro z g;rcases ux.1 g with rfl | g
     ·exact hq
     ·exact i z g
    ·simp only [zx,m,hq,uc];rw [show n+(x::A).length=n+1+A.length by simp only [ul];omega];exact e
theorem wrap_a1 {a:Nat} (h:a<=16777216):IntKind.wrap .i64 ((a:Int)+1)=((a+1:Nat):Int):=wrap_add1 (uN (pu h) (by decide))
noncomputable def delF (del:GE->Option Bool) (n:Nat):Int×Int×(List GE)->Option (Out (List GE) (Int×Int×(List GE))):=λs1=>((x6 ((s1.2.2).length=n) ((if (decide (s1.2.1 < ((n:Nat):Int)))=true then ((qO s1.2.2 s1.2.1).bind λy14=>((del y14).bind λv15=>(if (!v15)=true then ((qO s1.2.2 s1.1).bind λy17=>some (.nxt ((IntKind.wrap .i64 (s1.1+(1:Int))),(IntKind.wrap .i64 (s1.2.1+(1:Int))),(s1.2.2.set s1.1.toNat y14)))) else some (.nxt (s1.1,(IntKind.wrap .i64 (s1.2.1+(1:Int))),s1.2.2))))) else some (.brk (s1.1,s1.2.1,s1.2.2))))))
theorem delR_eq (f:List GE) (c:GE->Option Bool):yX f c=((yj f c).bind λi=>(if (i==(-1:Int))=true then some f else (lp (vP (delF c f.length) (i,(IntKind.wrap .i64 (i+(1:Int))),f)) λ(g:Int×Int×(List GE))=>(x6 (0<=g.1/\g.1<=((f.length:Nat):Int)) (((slc (g.2.2.take g.1.toNat++List.replicate (f.length - g.1.toNat) yv) (0:Int) g.1).bind λh=>some h)))))):=rfl
theorem delF_run {del:GE->Option Bool} (A:L0.length<=16777216) (h:∀x ∈ L0,del x=some (q x)) {a0 b0:Nat} (D:a0 < b0) (C:b0<=L0.length) (F:L0.take a0=(L0.take b0).filter λx=>!q x) :
  ∃p,vP (delF del L0.length) ((a0:Int),(b0:Int),L0)=some (.inr p)/\∃a:Nat,p.1=(a:Int)/\a < L0.length/\p.2.2.length=L0.length/\p.2.2.take a=L0.filter λx=>!q x:=by
 refine loopW_inv (f:=delF del L0.length) (λs=>∃a b:Nat,s.1=(a:Int)/\s.2.1=(b:Int)/\a < b/\b<=L0.length/\s.2.2.length=L0.length/\s.2.2.take a=(L0.take b).filter (λx=>!q x)/\s.2.2.drop b=L0.drop b)
  _ (λs=>L0.length - s.2.1.toNat) ?_ _ _ rfl ⟨a0,b0,rfl,rfl,D,C,rfl,F,rfl⟩
 rintro ⟨i,j,M⟩ ⟨a,b,y,B,G,z,o,u,t⟩
 simp only at y B o u t;subst y B;simp only [delF,x6,o,ur];by_cases hb:b < L0.length
 ·right;have E:M[b]?=L0[b]?:=by
   have:=congrArg (λl=>l[0]?) t;simpa [uH] using this
  have v:L0[b]?=some L0[b]:=ui hb;have hd:=h L0[b] (px hb);have m:qO M (b:Int)=some L0[b]:=by simp [qO,E]
  have c:qO M (a:Int)=some (M[a]'(by omega)):=by simp [qO]
  rw [uG (by simp;omega),m,uc,hd,uc];have g:L0.take (b+1)=L0.take b++[L0[b]]:=by rw [pg,v];rfl
  cases hq:q L0[b] with
  | true =>
   refine ⟨((a:Int),((b+1:Nat):Int),M),by simp [wrap_a1 (uN z A)],⟨a,b+1,rfl,rfl,by omega,by omega,o,?_,?_⟩,by simp;omega⟩
   ·rw [u,g,t7];simp [hq]
   ·have:=congrArg (λl=>l.drop 1) t;simpa [tG] using this
  | false =>
   refine ⟨(((a+1:Nat):Int),((b+1:Nat):Int),M.set a L0[b]),by simp [c,wrap_a1 (uN z A),wrap_a1 (show a<=16777216 by omega)],⟨a+1,b+1,rfl,rfl,by omega,by omega,by simpa using o,?_,?_⟩,by simp;omega⟩
   ·rw [pg,List.take_set_of_le (ue _),u,g,t7,uz (by omega)];simp [hq]
   ·have:=congrArg (λl=>l.drop 1) t;rw [List.drop_set_of_lt (by omega)];simpa [tG] using this
 ·left;have w:b=L0.length:=by omega
  rw [te (by simp;omega)];exact ⟨_,rfl,a,rfl,by omega,o,by rw [u,w,rK]⟩
theorem deleteR_is {del:GE->Option Bool} (p:L0.length<=16777216) (h:∀x ∈ L0,del x=some (q x)):yX L0 del=some (L0.filter λx=>!q x):=by
 rw [delR_eq];unfold yj;rcases idxF_is L0 0 h with ⟨e,c⟩ | ⟨A,x,B,i,o,c,e⟩
 ·rw [e];simp only [lp,uc,tJ,ur];rw [tZ.2 (λx t=>by rw [c x t];rfl)]
 ·rw [e];have j:L0.length=A.length+1+B.length:=by rw [i];simp;omega
  simp only [lp,uc,u5];rw [te (by simp <;> omega),wrap_a1 (by omega)];obtain ⟨f,u,a,g,w,v,m⟩:=delF_run p h (a0:=A.length) (b0:=A.length+1) (by omega) (by omega) (by
   rw [i,pK,tN,uO (by omega),show A.length+1 - A.length=1 by omega,t7];simp only [rg,List.take_zero,rJ,o,List.filter_nil];rw [tZ.2 (λy s=>by rw [c y s];rfl)];simp)
  rw [u];simp only [x6];rw [uG (by rw [g];omega),g];have hs:slc (f.2.2.take ((a:Int)).toNat++List.replicate (L0.length - ((a:Int)).toNat) yv) (0:Int) (a:Int)=some (f.2.2.take a):=by
   unfold slc;rw [uG (by simp;omega)];simp only [uU,Int.toNat_zero,sq];rw [u2 (by simp;omega),pL,Nat.min_self]
  rw [hs,uc,m]

theorem less_tot:∀(a b:List UInt8),a=b \/ Op.bytesLess a b=true \/ Op.bytesLess b a=true
 | [],[]=>.inl rfl
 | [],_::_=>.inr (.inl rfl)
 | _::_,[]=>.inr (.inr rfl)
 | x::a,y::b=>by
  by_cases h:x=y
  ·subst h;rcases less_tot a b with rfl | h | h
   ·exact .inl rfl
   ·exact .inr (.inl (by simp [Op.bytesLess,h]))
   ·exact .inr (.inr (by simp [Op.bytesLess,h]))
  ·have h':x.toNat ≠ y.toNat:=λe=>h (UInt8.toNat_inj.1 e);rcases Nat.lt_or_gt_of_ne h' with h | h
   ·exact .inr (.inl (by simp [Op.bytesLess,sU,h]))
   ·exact .inr (.inr (by simp [Op.bytesLess,sU,h]))
def pltB:List zi->List zi->Bool
 | _,[]=>false
 | [],_::_=>true
 | x::a,y::b=>Op.bytesLess x y || (decide (x=y)&&pltB a b)
theorem plt_irr:∀a,pltB a a=false
 | []=>rfl
 | x::a=>by simp [pltB,less_irr,plt_irr a]
theorem plt_trans:∀{a b c:List zi},pltB a b=true->pltB b c=true->pltB a c=true
 | _,[],_,h,_=>by cases ‹List zi› <;> simp [pltB] at h
 | _,_::_,[],_,h=>by simp [pltB] at h
 | [],_::_,_::_,_,_=>rfl
 | x::a,y::b,z::c,g,f=>by
  simp only [pltB,tc,ud,uk] at *;rcases g with g | ⟨rfl,g⟩
  ·rcases f with f | ⟨rfl,f⟩
   ·exact .inl (vq g f)
   ·exact .inl g
  ·rcases f with f | ⟨rfl,f⟩
   ·exact .inl f
   ·exact .inr ⟨rfl,plt_trans g f⟩
theorem plt_tot:∀(a b:List zi),a=b \/ pltB a b=true \/ pltB b a=true
 | [],[]=>.inl rfl
 | [],_::_=>.inr (.inl rfl)
 | _::_,[]=>.inr (.inr rfl)
 | x::a,y::b=>by
  rcases less_tot x y with rfl | h | h
  ·rcases plt_tot a b with rfl | h | h
   ·exact .inl rfl
   ·exact .inr (.inl (by simp [pltB,h]))
   ·exact .inr (.inr (by simp [pltB,h]))
  ·exact .inr (.inl (by simp [pltB,h]))
  ·exact .inr (.inr (by simp [pltB,h]))
theorem plt_path:∀{a b:List zi},pltB a b=true->pathLt a b
 | _,[],h=>by cases ‹List zi› <;> simp [pltB] at h
 | [],y::b,_=>.inl ⟨y,b,rfl⟩
 | x::a,y::b,h=>by
  simp only [pltB,tc,ud,uk] at h;rcases h with h | ⟨rfl,h⟩
  ·exact .inr ⟨[],x,y,a,b,rfl,rfl,h⟩
  ·rcases plt_path h with ⟨z,q,rfl⟩ | ⟨p,u,v,a',c,rfl,rfl,f⟩
   ·exact .inl ⟨z,q,rfl⟩
   ·exact .inr ⟨x::p,u,v,a',c,rfl,rfl,f⟩
theorem path_plt {a b:List zi} (h:pathLt a b):pltB a b=true:=by
 rcases h with ⟨y,q,rfl⟩ | ⟨p,x,y,a',c,rfl,rfl,h⟩
 ·induction a with
  | nil=>rfl
  | cons x a ih=>simp [pltB,ih]
 ·induction p with
  | nil=>simp [pltB,h]
  | cons x a ih=>simp [pltB,ih]
theorem cmpS_gt {x y:zi} (h:Op.bytesLess y x=true):yM x y=some 1:=by
 have c:Op.bytesLess x y=false:=by
  cases e:Op.bytesLess x y
  ·rfl
  ·have:=vq h e;rw [less_irr] at this;cases this
 unfold yM xI;have f:¬ x=y:=λe=>less_ne h e.symm;simp [h,c,f]
theorem cmpP_gt {a b:List zi} (h:pathLt b a):yO a b=some 1:=by
 rw [cmpP_eq];rcases h with ⟨y,q,rfl⟩ | ⟨p,x,y,a',c,rfl,rfl,h⟩
 ·have:=cmp_pre (s2:=b) b (y::q) [] [] (by simp);rw [uE] at this;rw [this];have e:cmpF b (0+b.length) y ()=some (.ret 1):=by
   unfold cmpF;rw [uG (tx (by omega))]
  simp only [zx,e,lp_inl]
 ·have:=cmp_pre (s2:=p++x::a') p (y::c) [] (x::a') rfl;rw [uE] at this;rw [this];have f:qO (p++x::a') ((0+p.length:Nat):Int)=some x:=yd (by simp);have e:cmpF (p++x::a') (0+p.length) y ()=some (.ret 1):=by
   unfold cmpF;rw [uS (by simp only [uq,ul];omega)];simp only [um,uJ,f,uc,cmpS_gt h];rfl
  simp only [zx,e,lp_inl]
def Key:=List zi×Int
def vZ (a b:Key):Bool:=pltB a.1 b.1 || (decide (a.1=b.1)&&decide (a.2 < b.2))
theorem klt_irr (a:Key):vZ a a=false:=by simp [vZ,plt_irr]
theorem klt_trans {a b c:Key} (g:vZ a b=true) (f:vZ b c=true):vZ a c=true:=by
 simp only [vZ,tc,ud,uk] at *;rcases g with g | ⟨i,g⟩
 ·rcases f with f | ⟨h,f⟩
  ·exact .inl (plt_trans g f)
  ·rw [h] at g;exact .inl g
 ·rcases f with f | ⟨h,f⟩
  ·rw [<- i] at f;exact .inl f
  ·exact .inr ⟨i.trans h,by omega⟩
theorem klt_tot (a b:Key):a=b \/ vZ a b=true \/ vZ b a=true:=by
 obtain ⟨p,k⟩:=a;obtain ⟨q,j⟩:=b;rcases plt_tot p q with rfl | h | h
 ·rcases Int.lt_trichotomy k j with h | rfl | h
  ·exact .inr (.inl (by simp [vZ,h]))
  ·exact .inl rfl
  ·exact .inr (.inr (by simp [vZ,h]))
 ·exact .inr (.inl (by simp [vZ,h]))
 ·exact .inr (.inr (by simp [vZ,h]))
def wj (e:GH):Key:=(e.path,e.typ)
def rkey (r:GJ):Key:=(r.path,r.leaf.typ)
def ordI (a b:GH):Int:=if vZ (wj a) (wj b)=true then -1 else if vZ (wj b) (wj a)=true then 1 else 0
theorem plt_asym {a b:List zi} (h:pltB a b=true):pltB b a=false:=by
 cases e:pltB b a
 ·rfl
 ·have:=plt_trans h e;rw [plt_irr] at this;cases this
theorem order_is (a b:GH):vu a b=some (ordI a b):=by
 unfold vu ordI vZ wj;rcases plt_tot a.path b.path with h | h | h
 ·simp only [h,cmpP_self,cmpU8is,uc,vM,plt_irr,tv,rA,uX,uk,or2,cmpI];simp
 ·have c:a.path ≠ b.path:=λe=>by rw [e,plt_irr] at h;cases h
  simp only [cmpP_lt (plt_path h),cmpU8is,uc,vM,h,or2];simp
 ·have c:a.path ≠ b.path:=λe=>by rw [e,plt_irr] at h;cases h
  simp only [cmpP_gt (plt_path h),cmpU8is,uc,vM,h,plt_asym h,or2];simp [c]
theorem ordI_lt {a b:GH}:ordI a b < 0 ↔ vZ (wj a) (wj b)=true:=by
 unfold ordI;split
 ·rename_i h;simp [h]
 ·rename_i h;split
  ·simp [h]
  ·simp [h]
theorem sortO_lt {α:Type} {c:α->α->Option Int} {cf:α->α->Int} {lt:α->α->Prop} {L R:List α} (E:∀x ∈ L,∀y ∈ L,c x y=some (cf x y)) (v:∀x y,cf x y < 0 ↔ lt x y) (s:∀x,¬ lt x x) (A:∀x y z,lt x y->lt y z->lt x z)
  (p:∀x ∈ L,∀y ∈ L,x=y \/ lt x y \/ lt y x) (t:R.Perm L) (hs:R.Pairwise lt) (G:L.length<=xe):qv c L=some R:=by
 unfold qv;rw [uG (λx f y g=>by rw [E x f y g];rfl)];have hd:∀x ∈ L,∀y ∈ L,(c x y).getD 0 < 0 ↔ lt x y:=λx f y g=>by rw [E x f y g];exact v x y
 have j:∀x y,lt x y->¬ lt y x:=λx y m i=>s x (A _ _ _ m i);have D:R.Pairwise λa b=>¬ (c b a).getD 0 < 0:=by
  have:R.Pairwise λa b=>a ∈ L/\b ∈ L/\lt a b:=by
   refine rm ?_ hs;intro a b C w h;exact ⟨t.subset C,t.subset w,h⟩
  refine this.imp ?_
  rintro a b ⟨C,w,h⟩ i
  exact j _ _ h ((hd b w a C).1 i)
 refine sortF_of ⟨λx f h=>s x ((hd x f x f).1 h),λx y z f g o m i=>(hd x f z o).2 (A _ _ _ ((hd x f y g).1 m) ((hd y g z o).1 i)),λx y z f g o m i u=>?_⟩ G ⟨t,D⟩ ?_
 ·have u:=(hd x f z o).1 u;rcases p x f y g with rfl | h | h
  ·exact i ((hd _ g z o).2 u)
  ·exact m ((hd x f y g).2 h)
  ·exact i ((hd y g z o).2 (A _ _ _ h u))
 ·rintro M ⟨B,F⟩
  refine sorted_one (B.trans t.symm) F D λx y f g m i=>?_;have f:=B.subset f;have g:=B.subset g;rcases p x f y g with e | h | h
  ·exact e
  ·exact (m ((hd x f y g).2 h)).elim
  ·exact (i ((hd y g x f).2 h)).elim
theorem exists_sorted {α:Type} {lt:α->α->Prop} (j:∀x y z,lt x y->lt y z->lt x z):∀(L:List α),L.Pairwise (λx y=>lt x y \/ lt y x)->∃R:List α,R.Perm L/\R.Pairwise lt
 | [],_=>⟨[],.refl _,.nil⟩
 | x::L,h=>by
  obtain ⟨t,s⟩:=uL.1 h;obtain ⟨R,m,hs⟩:=exists_sorted j L s;have g:∀(R:List α),R.Pairwise lt->(∀y ∈ R,lt x y \/ lt y x)->∃Q:List α,Q.Perm (x::R)/\Q.Pairwise lt:=by
   intro R
   induction R with
   | nil=>exact λ_ _=>⟨[x],.refl _,by simp⟩
   | cons y R ih =>
    intro hs p;obtain ⟨o,s2⟩:=uL.1 hs;rcases p y (by simp) with h | h
    ·refine ⟨x::y::R,.refl _,uL.2 ⟨λz c=>?_,hs⟩⟩;rcases ux.1 c with rfl | c
     ·exact h
     ·exact j _ _ _ h (o z c)
    ·obtain ⟨Q,f,i⟩:=ih s2 λz c=>p z (by simp [c]);refine ⟨y::Q,((pM y).2 f).trans (.swap _ _ _),uL.2 ⟨λz c=>?_,i⟩⟩;rcases ux.1 (f.subset c) with rfl | c
     ·exact h
     ·exact o z c
  obtain ⟨Q,f,i⟩:=g R hs λy u=>t y (m.subset u);exact ⟨Q,f.trans ((pM x).2 m),i⟩

theorem cmp_pos:∀{a b:List UInt8},Op.bytesLess b a=true->0 < Lib.compareBytes a b
 | [],b,h=>by cases b <;> simp [Op.bytesLess] at h
 | _::_,[],_=>by simp [Lib.compareBytes]
 | x::a,y::b,h=>by
  simp only [Op.bytesLess,tc,ud,uk,sM] at h;rcases h with h | ⟨rfl,h⟩
  ·have h':y.toNat < x.toNat:=sU.1 h;have c:¬ x < y:=λe=>by have:=sU.1 e;omega
   simp [Lib.compareBytes,h,c]
  ·have:=cmp_pos h;simp [Lib.compareBytes,this]
def NLt (s:zi) (A:List GA):Prop:=∀y ∈ A,Op.bytesLess y.name s=true
def NGt (s:zi) (B:List GA):Prop:=∀y ∈ B,Op.bytesLess s y.name=true
theorem split_up {t:List GA} (s:zi) (h:upB t=true):(∃A B,t=A++B/\NLt s A/\NGt s B) \/ ∃A x B,t=A++x::B/\x.name=s/\NLt s A/\NGt s B:=by
 rw [upB_iff] at h
 induction t with
 | nil=>exact .inl ⟨[],[],rfl,λ_ h=>by simp at h,λ_ h=>by simp at h⟩
 | cons x t ih =>
  obtain ⟨i,j⟩:=uL.1 h;rcases less_tot x.name s with e | e | e
  ·exact .inr ⟨[],x,t,rfl,e,λ_ h=>by simp at h,λy c=>by rw [<- e];exact i y c⟩
  ·rcases ih j with ⟨A,B,rfl,f,g⟩ | ⟨A,z,B,rfl,m,f,g⟩
   ·refine .inl ⟨x::A,B,rfl,λy c=>?_,g⟩;rcases ux.1 c with rfl | c
    ·exact e
    ·exact f y c
   ·refine .inr ⟨x::A,z,B,rfl,m,λy c=>?_,g⟩;rcases ux.1 c with rfl | c
    ·exact e
    ·exact f y c
  ·refine .inl ⟨[],x::t,rfl,λ_ h=>by simp at h,λy c=>?_⟩;rcases ux.1 c with rfl | c
   ·exact e
   ·exact vq e (i y c)
theorem bs_none {A B:List GA} {s:zi} (t:(A++B).length<=16777216) (j:NLt s A) (g:NGt s B):zQ (A++B) s (λh p=>vw h p)=some ((A.length:Int),false):=by
 rw [bs_is (c:=A.length) t (by simp) λi m hi=>⟨_,layC1_is m s,λf=>by
   rw [uo f] at hi;exact cmp_less.2 (j m (uF hi)),λf=>by
   rw [un f] at hi;exact Int.le_of_lt (cmp_pos (g m (uF hi)))⟩]
 cases B with
 | nil=>simp
 | cons y B =>
  have e:(A++y::B).getD A.length default=y:=by simp
  have:=cmp_pos (g y (by simp));rw [uG (by simp),e,layC1_is];have o:(Lib.compareBytes y.name s==0)=false:=by simp;omega
  simp [o]
theorem bs_some {A B:List GA} {x:GA} {s:zi} (t:(A++x::B).length<=16777216) (hs:x.name=s) (j:NLt s A) (p:NGt s B):zQ (A++x::B) s (λg o=>vw g o)=some ((A.length:Int),true):=by
 subst hs;rw [bs_is (c:=A.length) t (by simp) λi m hi=>⟨_,layC1_is m x.name,λf=>by
   rw [uo f] at hi;exact cmp_less.2 (j m (uF hi)),λf=>by
   rw [un f] at hi;rcases ux.1 (uF hi) with rfl | h
   ·rw [cmp_self];exact pm _
   ·exact Int.le_of_lt (cmp_pos (p m h))⟩]
 have e:(A++x::B).getD A.length default=x:=by simp
 rw [uG (by simp),e,layC1_is,cmp_self];simp
noncomputable def layIn (n:Nat) (path1:List zi) (kind2:Int) (l3:GE) (there4:Bool) (s1:zi×(List GE)×(List GA)):Option (List GA ⊕ ((List GE)×(List GA))):=((if (decide (((path1).length:Int) > (1:Int)))=true then ((slc path1 (1:Int) ((path1).length:Int)).bind λm20=>((vL n s1.2.2 m20 kind2 l3 there4).bind λv21=>some (.inr (s1.2.1,v21)))) else ((wX s1.2.1).bind λv22=>((yX v22 (λx0=>diffXlayC2 x0 kind2)).bind λv23=>(if there4=true then ((diffXown l3).bind λv25=>(x6 ((v23).length+(([v25]:List GE)).length<=xe) (((qv (λx y=>diffXlayC3 x y) (v23++([v25]:List GE))).bind λv27=>some (.inr (v27,s1.2.2)))))) else some (.inr (v23,s1.2.2)))))):Option (_ ⊕ ((List GE)×(List GA))))
noncomputable def layRest (t0:List GA) (i:Int) (f:Bool) (nm:zi) (s2:(List GE)×(List GA)):Option (List GA):=((slc t0 (0:Int) i).bind λm28=>((xK m28).bind λv29=>(if (decide ((IntKind.wrap .i64 (((s2.1).length:Int)+((s2.2).length:Int))) > (0:Int)))=true then (x6 ((v29).length+(([(GA.mk nm s2.1 s2.2)]:List GA)).length<=xe) ((if f=true then ((slc t0 (IntKind.wrap .i64 (i+(1:Int))) ((t0).length:Int)).bind λm35=>(x6 (((v29++([(GA.mk nm s2.1 s2.2)]:List GA))).length+(m35).length<=xe) (some ((v29++([(GA.mk nm s2.1 s2.2)]:List GA))++m35)))) else ((slc t0 i ((t0).length:Int)).bind λm37=>(x6 (((v29++([(GA.mk nm s2.1 s2.2)]:List GA))).length+(m37).length<=xe) (some ((v29++([(GA.mk nm s2.1 s2.2)]:List GA))++m37))))))) else (if f=true then ((slc t0 (IntKind.wrap .i64 (i+(1:Int))) ((t0).length:Int)).bind λm40=>(x6 ((v29).length+(m40).length<=xe) (some (v29++m40)))) else ((slc t0 i ((t0).length:Int)).bind λm42=>(x6 ((v29).length+(m42).length<=xe) (some (v29++m42))))))))
theorem layN_eq (n:Nat) (t0:List GA) (c:List zi) (g:Int) (m:GE) (f:Bool):vL (n+1) t0 c g m f=((qO c (0:Int)).bind λt=>((zQ t0 t (λo s=>vw o s)).bind λh=>((qO c (0:Int)).bind λp=>(lp ((if h.2=true then ((qO t0 h.1).bind λi=>some (.inr (i.name,i.leaves,i.subs))) else some (.inr (p,([]:List GE),([]:List GA)))):Option (_ ⊕ (zi×(List GE)×(List GA)))) λ(j:zi×(List GE)×(List GA))=>(lp (layIn n c g m f j) λ(s2:(List GE)×(List GA))=>layRest t0 h.1 h.2 j.1 s2))))):=rfl
def layLs (k:Int) (l:GE) (there:Bool) (ls:List GE):List GE:=if there=true then ls.filter (λx=>decide (x.typ < k))++[l]++ls.filter (λx=>decide (k < x.typ)) else ls.filter (λx=>!decide (x.typ=k))
theorem ups_inj (h:ls.Pairwise λx y=>x.typ < y.typ) {x y:GE} (j:x ∈ ls) (m:y ∈ ls) (e:x.typ=y.typ):x=y:=by
 induction ls with
 | nil=>simp at j
 | cons z r ih =>
  obtain ⟨i,o⟩:=uL.1 h;rcases ux.1 j with ex | c <;> rcases ux.1 m with g | f
  ·rw [ex,g]
  ·have:=i y f;rw [<- ex] at this;omega
  ·have:=i x c;rw [<- g] at this;omega
  ·exact ih o c f
theorem layLs_up (g:there=true->l.typ=k) (h:ls.Pairwise λx y=>x.typ < y.typ):(layLs k l there ls).Pairwise λx y=>x.typ < y.typ:=by
 unfold layLs;split
 ·rename_i i;have g:=g i;rw [tF,tF];refine ⟨⟨h.filter _,by simp,λx c y f=>?_⟩,h.filter _,λx c y f=>?_⟩
  ·have c:=(u7.1 c).2;simp at c f;subst f;omega
  ·have f:=(u7.1 f).2;simp at f;rcases uK.1 c with c | c
   ·have c:=(u7.1 c).2;simp at c;omega
   ·simp at c;subst c;omega
 ·exact h.filter _
theorem sortLs_is (i:l.typ=k) (m:ls.length<=16777216) (h:ls.Pairwise λx y=>x.typ < y.typ):qv (λx y=>diffXlayC3 x y) (ls.filter (λx=>!decide (x.typ=k))++[l])=some (layLs k l true ls):=by
 have j:=tM (λx:GE=>!decide (x.typ=k)) ls;refine sortO_lt (α:=GE) (cf:=λx y=>cmpI x.typ y.typ) (lt:=λx y=>x.typ < y.typ) (λx _ y _=>by unfold diffXlayC3;rw [cmpU8is];rfl) (λx y=>by unfold cmpI;split <;> (try split) <;> omega) (λx h=>by omega) (λx y z g o=>by omega) ?_ ?_ (layLs_up (λ_=>i) h) (qg (by simp;omega))
 ·intro x f y c;rcases Int.lt_trichotomy x.typ y.typ with e | e | e
  ·exact .inr (.inl e)
  ·left;rcases uK.1 f with f | f <;> rcases uK.1 c with c | c
   ·exact ups_inj h (u7.1 f).1 (u7.1 c).1 e
   ·have f:=(u7.1 f).2;simp at f c;subst c;omega
   ·have c:=(u7.1 c).2;simp at f c;subst f;omega
   ·simp at f c;rw [f,c]
  ·exact .inr (.inr e)
 ·unfold layLs;rw [uG rfl];have g:(ls.filter (λx=>decide (x.typ < k))++ls.filter (λx=>decide (k < x.typ))).Perm (ls.filter λx=>!decide (x.typ=k)):=by
   have:=pA (λx:GE=>decide (x.typ < k)) (ls.filter λx=>!decide (x.typ=k));rw [pd,pd] at this;refine List.Perm.trans (.of_eq ?_) this;congr 1 <;> refine pk λx _=>?_ <;> rw [uA] <;> simp <;> omega
  rw [uy];refine List.Perm.trans (List.Perm.append_left _ List.perm_append_comm) ?_;rw [<- uy];exact g.append_right _
theorem layIn_leaf {s:zi} {i:zi} {f:List GA} (g:there=true->l.typ=k/\LeafOk l) (c:ls.length<=16777216) (h:ls.Pairwise λx y=>x.typ < y.typ) :
  layIn n [s] k l there (i,ls,f)=some (.inr (layLs k l there ls,f)):=by
 unfold layIn;have j:decide (((([s]:List zi).length:Int)) > 1)=false:=rfl;have p:=tM (λx:GE=>!decide (x.typ=k)) ls;simp only [j,um,uJ];rw [cloneLeaf_is (qg (by omega)),uc,deleteR_is (q:=λx=>decide (x.typ=k)) c (λx _=>by unfold diffXlayC2;rfl),uc];cases there with
 | false=>simp [layLs]
 | true =>
  obtain ⟨o,m⟩:=g rfl;simp only [ur];rw [own_is m,uc,ye (qg (by simp;omega)),sortLs_is o c h,uc]
theorem layIn_sub {s a:zi} {r:List zi} {g:zi} {f c:List GA} (m:(s::a::r).length<=16777216) (h:vL n f (a::r) k l there=some c):layIn n (s::a::r) k l there (g,ls,f)=some (.inr (ls,c)):=by
 unfold layIn;have i:decide ((((s::a::r).length:Int)) > 1)=true:=tx (by simp only [ul];omega);simp only [i,ur];rw [slc_at ⟨by omega,by simp only [ul];omega,pm _⟩,uc];have j:((s::a::r).take (((s::a::r).length:Int)).toNat).drop (1:Int).toNat=a::r:=by rw [uU,rK];rfl
 rw [j,h,uc]
def fitN (nm:zi) (ls:List GE) (sb:List GA):List GA:=if ls.length+sb.length=0 then [] else [⟨nm,ls,sb⟩]
theorem layRest_is {A B:List GA} {m:List GA} {o:zi} {g:List GA} {f:Bool} (j:m.length=if f=true then 1 else 0) (u:(A++m++B).length<=16777216) (w:ls.length<=16777216) (v:g.length<=16777217) :
  layRest (A++m++B) (A.length:Int) f o (ls,g)=some (A++fitN o ls g++B):=by
 simp only [uq] at u;unfold layRest;rw [slc_at ⟨pm _,by omega,by simp;omega⟩,uc];have t:((A++m++B).take ((A.length:Int)).toNat).drop (0:Int).toNat=A:=by simp
 rw [t,cloneNode_is (qg (by omega)),uc];have p:∀(c:List GA),c.length<=A.length+1->((if f=true then ((slc (A++m++B) (IntKind.wrap .i64 ((A.length:Int)+(1:Int))) ((A++m++B).length:Int)).bind λi=>(x6 (c.length+(i).length<=xe) (some (c++i)))) else ((slc (A++m++B) (A.length:Int) ((A++m++B).length:Int)).bind λh=>(x6 (c.length+(h).length<=xe) (some (c++h))))):Option (List GA))=some (c++B):=by
  intro c x;cases f with
  | true =>
   simp only [ur] at j ⊢;rw [w64n (by omega),slc_at ⟨by omega,by simp;omega,pm _⟩,uc];have e:((A++m++B).take (((A++m++B).length:Int)).toNat).drop ((A.length:Int)+1).toNat=B:=by
    rw [uU,rK,show ((A.length:Int)+1).toNat=(A++m).length by simp;omega,rB]
   rw [e,ye (qg (by omega))]
  | false =>
   simp only [um,uJ] at j ⊢;obtain rfl:=uD j;rw [slc_at ⟨by omega,by simp;omega,pm _⟩,uc];have e:((A++[]++B).take (((A++[]++B).length:Int)).toNat).drop ((A.length:Int)).toNat=B:=by
    simp only [uU];rw [rK,tC,rB]
   rw [e,ye (qg (by omega))]
 unfold fitN;have s:IntKind.wrap .i64 ((ls.length:Int)+(g.length:Int))=(ls.length:Int)+(g.length:Int):=w64n (by omega);simp only [s];by_cases h0:ls.length+g.length=0
 ·rw [uG h0,te (by simp;omega),tC];exact p A (by omega)
 ·rw [te h0,uG (by simp;omega),ye (qg (by simp;omega))];exact p (A++[⟨o,ls,g⟩]) (by simp)

theorem leaves_of (h:ls.Pairwise λx y=>x.typ < y.typ) (g:∀l ∈ ls,leafB l=true):leavesB ls=true:=by
 unfold leavesB;rw [allI_iff];intro i x c;have f:=g x (uF c);simp only [f,uX];rcases i with _ | i
 ·rfl
 ·obtain ⟨hi,rfl⟩:=ua.1 c;have:=tw.1 h i (i+1) (by omega) hi (by omega);simp only [tS,tc,uk];right;rw [uP,ui (by omega:i < ls.length)];exact this
theorem vG (a:List zi) (A B:List GA):zF a (A++B)=zF a A++zF a B:=by rw [yS,yS,yS,List.flatMap_append]
theorem rowsN_mem {a:List zi} {x:GA}:r ∈ rowsN a x ↔ (∃l ∈ x.leaves,r=⟨a++[x.name],l⟩) \/ r ∈ zF (a++[x.name]) x.subs:=by
 rw [xk,uK,u6];constructor
 ·rintro (⟨l,c,rfl⟩ | h)
  ·exact .inl ⟨l,c,rfl⟩
  ·exact .inr h
 ·rintro (⟨l,c,rfl⟩ | h)
  ·exact .inl ⟨l,c,rfl⟩
  ·exact .inr h
theorem qz {a:List zi} {x:GA}:zF a [x]=rowsN a x:=by simp [zF]
theorem fit_mem {a:List zi} {c:zi} {f:List GA}:r ∈ zF a (fitN c ls f) ↔ (∃l ∈ ls,r=⟨a++[c],l⟩) \/ r ∈ zF (a++[c]) f:=by
 unfold fitN;split
 ·rename_i h;have i:ls=[]:=uD (by omega);have g:f=[]:=uD (by omega);subst i g;simp [zF]
 ·rw [qz,rowsN_mem]
theorem len_rows (t:List GA) (a b:List zi):(zF a t).length=(zF b t).length:=by
 have f:=rows_pre t a [];have c:=rows_pre t b [];rw [tC] at f c;rw [f,c,ut,ut]
theorem node_row:∀(t:List GA) (d:Nat),x9 d t=true->t.length<=(zF [] t).length:=by
 refine vk (λ_ _=>tU _) ?_;intro x r j i d f;simp only [x9,ud] at f;have m:=i d f.2;have c:=f.1;rw [nodeB_eq] at c;simp only [ud,treeB,tP,sS] at c;have g:=j (d+1) c.1.2.2;rw [show x::r=[x]++r from rfl,vG,qz,xk];simp only [uq,ut,ul,uE];rw [len_rows x.subs ([]++[x.name]) []];rcases c.1.1.2 with h | h
 ·cases hl:x.leaves with
  | nil=>rw [hl] at h;cases h
  | cons l ls=>simp only [ul];omega
 ·cases hl:x.subs with
  | nil=>rw [hl] at h;cases h
  | cons l ls=>rw [hl] at g;simp only [ul] at g;omega
theorem mem_rows_len {t:List GA} {x:GA} (c:x ∈ t):x.leaves.length+(zF [] x.subs).length<=(zF [] t).length:=by
 obtain ⟨A,B,rfl⟩:=List.append_of_mem c;rw [vG,show x::B=[x]++B from rfl,vG,qz,xk];simp only [uq,ut];rw [len_rows x.subs ([]++[x.name]) []];omega
theorem yN {t:List GA} (h:treeB d t=true):upB t=true/\∀x ∈ t,nodeB d x=true:=by
 simp only [treeB,ud,wQ,uv] at h;exact ⟨h.1.2,h.2⟩
theorem treeB_of {t:List GA} (hd:d < 3) (f:upB t=true) (c:∀x ∈ t,nodeB d x=true):treeB d t=true:=by
 simp only [treeB,ud,wQ,uv,f,hd,rA,pF,pR];exact c
theorem nodeB_parts {x:GA} (h:nodeB d x=true):nameB x.name=true/\treeB (d+1) x.subs=true/\leavesB x.leaves=true:=by
 rw [nodeB_eq] at h;simp only [ud] at h;exact ⟨h.1.1.1,h.1.2,h.2⟩
theorem find_node {t:List GA} (s:zi) (h:treeB d t=true) (y:(zF [] t).length<=16777215):∃A m B f ls i,t=A++m++B/\NLt s A/\NGt s B/\m.length=(if f=true then 1 else 0)/\zQ t s (λu z=>vw u z)=some ((A.length:Int),f) /\
  ((if f=true then ((qO t (A.length:Int)).bind λj=>some (.inr (j.name,j.leaves,j.subs))) else some (.inr (s,([]:List GE),([]:List GA)))):Option (List GA ⊕ (zi×(List GE)×(List GA))))=some (.inr (s,ls,i))/\treeB (d+1) i=true/\leavesB ls=true /\
  ls.length+(zF [] i).length<=(zF [] t).length/\∀a r,r ∈ zF a m ↔ (∃l ∈ ls,r=⟨a++[s],l⟩) \/ r ∈ zF (a++[s]) i:=by
 obtain ⟨w,p⟩:=yN h;have D:t.length<=16777215:=uN (node_row t d (by rw [wQ];exact uv.2 p)) y;rcases split_up s w with ⟨A,B,rfl,g,c⟩ | ⟨A,x,B,rfl,o,g,c⟩
 ·refine ⟨A,[],B,false,[],[],by simp,g,c,rfl,bs_none (by omega) g c,rfl,tree_nil _,rfl,by simp [zF],λa r=>by simp [zF]⟩
 ·obtain ⟨E,C,v⟩:=nodeB_parts (p x (by simp));refine ⟨A,[x],B,true,x.leaves,x.subs,by simp,g,c,rfl,bs_some (by omega) o g c,?_,C,v,mem_rows_len (by simp),λa r=>?_⟩
  ·rw [uG rfl,yd (x:=x) (by simp),uc,o]
  ·rw [qz,rowsN_mem,o]
theorem rows_off {s:zi} {A:List GA} (h:∀y ∈ A,y.name ≠ s) {a q:List zi} {r:GJ} (f:r ∈ zF a A):r.path ≠ a++s::q:=by
 obtain ⟨x,i,w,e⟩:=q9 f;rw [e];intro g;have:=sL g;injection this with c _;exact h x i c
theorem NLt.ne {s:zi} {A:List GA} (h:NLt s A):∀y ∈ A,y.name ≠ s:=λy c=>less_ne (h y c)
theorem NGt.ne {s:zi} {A:List GA} (h:NGt s A):∀y ∈ A,y.name ≠ s:=λy c=>(less_ne (h y c)).symm
theorem lay_fin {A m B:List GA} {s:zi} {g:List GA} (hd:d < 3) (h:treeB d (A++m++B)=true) (p:NLt s A) (o:NGt s B) (hs:nameB s=true) (v:leavesB ls=true) (t:treeB (d+1) g=true):treeB d (A++fitN s ls g++B)=true:=by
 obtain ⟨u,n⟩:=yN h;rw [upB_iff,tF,tF] at u;have i:∀x ∈ A,∀y ∈ B,Op.bytesLess x.name y.name=true:=λx c y f=>vq (p x c) (o y f);have j:∀x ∈ fitN s ls g,x=⟨s,ls,g⟩/\¬ ls.length+g.length=0:=λx c=>by
  unfold fitN at c;split at c
  ·simp at c
  ·rename_i h0;simp at c;exact ⟨c,h0⟩
 refine treeB_of hd ?_ ?_
 ·rw [upB_iff,tF,tF];refine ⟨⟨u.1.1,?_,λx c y f=>by rw [(j y f).1];exact p x c⟩,u.2.1,λx c y f=>?_⟩
  ·unfold fitN;split <;> simp
  ·rcases uK.1 c with c | c
   ·exact i x c y f
   ·rw [(j x c).1];exact o y f
 ·intro x c;rcases uK.1 c with c | c
  ·rcases uK.1 c with c | c
   ·exact n x (by simp [c])
   ·obtain ⟨rfl,h0⟩:=j x c;rw [nodeB_eq];simp only [hs,v,t,tQ,uX,tP,sS];cases ls with
    | cons _ _=>exact .inl rfl
    | nil=>cases g with
     | cons _ _=>exact .inr rfl
     | nil=>simp at h0
  ·exact n x (by simp [c])
theorem fit_len (s:zi) (ls:List GE) (c:List GA):(fitN s ls c).length<=1:=by unfold fitN;split <;> simp
theorem layLs_mem {x:GE}:x ∈ layLs k l there ls ↔ (x ∈ ls/\x.typ ≠ k) \/ (there=true/\x=l):=by
 unfold layLs;cases there with
 | false=>simp
 | true =>
  simp only [ur,uK,u7,up,uk,pR];constructor
  ·rintro ((⟨h,c⟩ | h) | ⟨h,c⟩)
   ·exact .inl ⟨h,by omega⟩
   ·exact .inr h
   ·exact .inl ⟨h,by omega⟩
  ·rintro (⟨h,c⟩ | h)
   ·rcases Int.lt_or_gt_of_ne c with f | f
    ·exact .inl (.inl ⟨h,f⟩)
    ·exact .inr ⟨h,f⟩
   ·exact .inl (.inr h)
theorem lay_is {k:Int} {l:GE} {there:Bool} (z:there=true->l.typ=k/\leafB l=true/\LeafOk l):∀(p:List zi) (t:List GA) (d n:Nat),p ≠ []->p.all nameB=true->d+p.length<=3->treeB d t=true->(zF [] t).length<=16777215->p.length < n ->
  ∃t',vL n t p k l there=some t'/\treeB d t'=true/\t'.length<=t.length+1/\∀a r,r ∈ zF a t' ↔ (r ∈ zF a t/\rkey r ≠ (a++p,k)) \/ (there=true/\r=⟨a++p,l⟩)
 | [],_,_,_,h,_,_,_,_,_=>absurd rfl h
 | _::_,_,_,0,_,_,_,_,_,h=>by omega
 | s::q,t,d,n+1,_,hp,hd,ht,hw,hn=>by
  simp only [uZ,ud,ul] at hp hd hn;obtain ⟨A,m,B,f,ls,D,rfl,G,F,Q,J,K,o,E,P,v⟩:=find_node s ht hw;have I:qO (s::q) (0:Int)=some s:=rfl;obtain ⟨C,O⟩:=leaves_up E;have V:(A++m++B).length<=16777215:=uN (node_row _ d (by rw [wQ];exact uv.2 (yN ht).2)) hw;have U:=λi g=>fit_len s i g;have j:∀i g,(A++fitN s i g++B).length<=(A++m++B).length+1:=λi g=>by
   have:=fit_len s i g;simp only [uq];omega
  rw [layN_eq,I,uc,J,uc,uc];simp only [];rw [K,qE];cases q with
  | nil =>
   rw [layIn_leaf (λh=>⟨(z h).1,(z h).2.2⟩) (by omega) C,qE,layRest_is Q (by omega) (by
    have:(layLs k l there ls).length<=ls.length+1:=by
     unfold layLs;split
     ·have y:=pA (λx:GE=>decide (x.typ < k)) ls;have w:=y.length_eq;have h3:(ls.filter λx=>decide (k < x.typ)).length<=(ls.filter λx=>!decide (x.typ < k)).length:=by
       have:(ls.filter λx=>decide (k < x.typ))=(ls.filter λx=>!decide (x.typ < k)).filter (λx=>decide (k < x.typ)):=by
        rw [pd];refine pk λx _=>?_;rw [uA];simp;omega
       rw [this];exact tM _ _
      simp only [uq,ul,uE] at w ⊢;omega
     ·exact sC (tM _ _)
    omega) (by have:=node_row D (d+1) (by rw [wQ];exact uv.2 (yN o).2);omega)]
   refine ⟨_,rfl,lay_fin (by omega) ht G F hp.1 (leaves_of (layLs_up (λh=>(z h).1) C) λx u=>?_) o,j _ _,λa r=>?_⟩
   ·rcases layLs_mem.1 u with h | ⟨h,rfl⟩
    ·exact O x h.1
    ·exact (z h).2.1
   ·simp only [vG,uK,fit_mem,v];have H:r ∈ zF a A->rkey r ≠ (a++[s],k):=λh e=>rows_off G.ne h (congrArg Prod.fst e);have N:r ∈ zF a B->rkey r ≠ (a++[s],k):=λh e=>rows_off F.ne h (congrArg Prod.fst e);have M:r ∈ zF (a++[s]) D->rkey r ≠ (a++[s],k):=λh e=>by
     have:=(rows_path D _ r h).1;rw [show r.path=a++[s] from congrArg Prod.fst e] at this;omega
    constructor
    ·rintro ((h | ⟨x,u,rfl⟩ | h) | h)
     ·exact .inl ⟨.inl (.inl h),H h⟩
     ·rcases layLs_mem.1 u with ⟨y,w⟩ | ⟨y,rfl⟩
      ·exact .inl ⟨.inl (.inr (.inl ⟨x,y,rfl⟩)),λe=>w (congrArg Prod.snd e)⟩
      ·exact .inr ⟨y,rfl⟩
     ·exact .inl ⟨.inl (.inr (.inr h)),M h⟩
     ·exact .inl ⟨.inr h,N h⟩
    ·rintro (⟨(h | ⟨x,u,rfl⟩ | h) | h,w⟩ | ⟨y,rfl⟩)
     ·exact .inl (.inl h)
     ·exact .inl (.inr (.inl ⟨x,layLs_mem.2 (.inl ⟨u,λe=>w (by rw [<- e];rfl)⟩),rfl⟩))
     ·exact .inl (.inr (.inr h))
     ·exact .inr h
     ·exact .inl (.inr (.inl ⟨l,layLs_mem.2 (.inr ⟨y,rfl⟩),rfl⟩))
  | cons c q =>
   obtain ⟨g,Y,T,e3,Z⟩:=lay_is z (c::q) D (d+1) n (by simp) hp.2 (by simp only [ul] at hd ⊢;omega) o (by omega) (by omega);have R:=node_row D (d+1) (by rw [wQ];exact uv.2 (yN o).2);rw [layIn_sub (by simp only [ul] at hd ⊢;omega) Y,qE,layRest_is Q (by omega) (by omega) (by omega)];refine ⟨_,rfl,lay_fin (by omega) ht G F hp.1 E T,j _ _,λa r=>?_⟩;simp only [vG,uK,fit_mem,v,Z];have ea:a++[s]++c::q=a++s::c::q:=by simp
   rw [ea];have H:r ∈ zF a A->rkey r ≠ (a++s::c::q,k):=λh e=>rows_off G.ne h (congrArg Prod.fst e);have N:r ∈ zF a B->rkey r ≠ (a++s::c::q,k):=λh e=>rows_off F.ne h (congrArg Prod.fst e);have M:∀x,r=⟨a++[s],x⟩->rkey r ≠ (a++s::c::q,k):=λx h e=>by
    rw [h] at e;have:=congrArg List.length (congrArg Prod.fst e);simp [rkey] at this
   constructor
   ·rintro ((h | ⟨x,u,h⟩ | (h | h)) | h)
    ·exact .inl ⟨.inl (.inl h),H h⟩
    ·exact .inl ⟨.inl (.inr (.inl ⟨x,u,h⟩)),M x h⟩
    ·exact .inl ⟨.inl (.inr (.inr h.1)),h.2⟩
    ·exact .inr h
    ·exact .inl ⟨.inr h,N h⟩
   ·rintro (⟨(h | ⟨x,u,h⟩ | h) | h,w⟩ | h)
    ·exact .inl (.inl h)
    ·exact .inl (.inr (.inl ⟨x,u,h⟩))
    ·exact .inl (.inr (.inr (.inl ⟨h,w⟩)))
    ·exact .inr h
    ·exact .inl (.inr (.inr (.inr h)))

theorem rowLt_iff {q:GJ}:rowLt r q ↔ vZ (rkey r) (rkey q)=true:=by
 unfold rowLt vZ rkey;simp only [tc,ud,uk];constructor
 ·rintro (h | h)
  ·exact .inl (path_plt h)
  ·exact .inr h
 ·rintro (h | h)
  ·exact .inl (plt_path h)
  ·exact .inr h
theorem sorted_ext {α:Type} {lt:α->α->Prop} (c:∀x,¬ lt x x) (i:∀x y z,lt x y->lt y z->lt x z):∀{L M:List α},L.Pairwise lt->M.Pairwise lt->(∀x,x ∈ L ↔ x ∈ M)->L=M
 | [],[],_,_,_=>rfl
 | [],y::M,_,_,h=>by have:=(h y).2 (by simp);simp at this
 | x::L,[],_,_,h=>by have:=(h x).1 (by simp);simp at this
 | x::L,y::M,h1,h2,h=>by
  obtain ⟨m,o⟩:=uL.1 h1;obtain ⟨j,s⟩:=uL.1 h2;have e:x=y:=by
   rcases ux.1 ((h x).1 (by simp)) with e | t
   ·exact e
   ·rcases ux.1 ((h y).2 (by simp)) with e | p
    ·exact e.symm
    ·exact (c x (i _ _ _ (m y p) (j x t))).elim
  subst e;rw [sorted_ext c i o s λz=>?_];constructor
  ·intro g;rcases ux.1 ((h z).1 (by simp [g])) with e | f
   ·subst e;exact (c _ (m _ g)).elim
   ·exact f
  ·intro g;rcases ux.1 ((h z).2 (by simp [g])) with e | f
   ·subst e;exact (c _ (j _ g)).elim
   ·exact f
theorem filter_app_left {α:Type} {P:α->Bool} {A B:List α} (g:∀x ∈ A,P x=true) (f:∀x ∈ B,P x=false):(A++B).filter P=A/\(A++B).filter (λx=>!P x)=B:=by
 rw [t7,t7,tZ.2 g,rD.2 (λx c=>by simp [f x c]),rD.2 (λx c=>by simp [g x c]),tZ.2 (λx c=>by simp [f x c])];simp
theorem app_split {α:Type} {P:α->Bool} {A B C D:List α} (h:A++B=C++D) (i:∀x ∈ A,P x=true) (f:∀x ∈ B,P x=false) (j:∀x ∈ C,P x=true) (g:∀x ∈ D,P x=false):A=C/\B=D:=by
 obtain ⟨a,b⟩:=filter_app_left i f;obtain ⟨c,d⟩:=filter_app_left j g;exact ⟨by rw [<- a,<- c,h],by rw [<- b,<- d,h]⟩
theorem rowsN_head {a:List zi} {x:GA} (h:r ∈ rowsN a x):∃w,r.path=a++x.name::w:=by
 rw [<- qz] at h;obtain ⟨y,c,w,e⟩:=q9 h;simp only [up] at c;subst c;exact ⟨w,e⟩
theorem rowsN_ne {x:GA} (h:nodeB d x=true) (a:List zi):∃r L,rowsN a x=r::L:=by
 have c:=node_row [x] d (by simp [x9,h]);rw [len_rows [x] [] a,qz] at c;cases e:rowsN a x with
 | nil=>rw [e] at c;simp at c
 | cons r L=>exact ⟨r,L,rfl⟩
def hasN (n:Nat) (s:zi) (r:GJ):Bool:=decide ((r.path.drop n).head?=some s)
theorem hasN_is (a w:List zi) (s c:zi) {r:GJ} (h:r.path=a++c::w):hasN a.length s r=decide (c=s):=by
 unfold hasN;rw [h,rB];simp
theorem rows_inj:∀(t:List GA) (d:Nat) (a:List zi) (t':List GA),treeB d t=true->treeB d t'=true->zF a t=zF a t'->t=t':=by
 have key:∀(t:List GA) (d:Nat) (a:List zi) (t':List GA),(∀x ∈ t,nodeB d x=true)->upB t=true->(∀x ∈ t',nodeB d x=true)->upB t'=true->zF a t=zF a t'->t=t':=by
  refine vk ?_ ?_
  ·intro d a t' _ _ h _ e;cases t' with
   | nil=>rfl
   | cons y r =>
    obtain ⟨q,L,i⟩:=rowsN_ne (h y (by simp)) a;rw [zF,zF,i] at e;simp at e
  ·intro x r O M d a t' u B C v e;cases t' with
   | nil =>
    obtain ⟨q,L,i⟩:=rowsN_ne (u x (by simp)) a;rw [zF,zF,i] at e;simp at e
   | cons y s =>
    rw [upB_iff,uL] at B v;have e:rowsN a x++zF a r=rowsN a y++zF a s:=e;have f:x.name=y.name:=by
     obtain ⟨q,L,i⟩:=rowsN_ne (u x (by simp)) a;obtain ⟨Q,L',F⟩:=rowsN_ne (C y (by simp)) a;have G:=e;rw [i,F] at G;injection G with I _;subst I;obtain ⟨w,p⟩:=rowsN_head (a:=a) (x:=x) (r:=q) (by rw [i];simp);obtain ⟨w',m⟩:=rowsN_head (a:=a) (x:=y) (r:=q) (by rw [F];simp);rw [p] at m;have:=sL m;injection this
    obtain ⟨E,J⟩:=app_split (P:=hasN a.length x.name) e
     (λq c=>by obtain ⟨w,h⟩:=rowsN_head c;rw [hasN_is a w _ _ h];simp)
     (λq c=>by
      obtain ⟨z,g,w,h⟩:=q9 c;rw [hasN_is a w _ _ h];exact uS (less_ne (B.1 z g)).symm)
     (λq c=>by obtain ⟨w,h⟩:=rowsN_head c;rw [hasN_is a w _ _ h,f];simp)
     (λq c=>by
      obtain ⟨z,g,w,h⟩:=q9 c;rw [hasN_is a w _ _ h,f];exact uS (less_ne (v.1 z g)).symm)
    have N:=M d a s (λz g=>u z (by simp [g])) ((upB_iff r).2 B.2) (λz g=>C z (by simp [g])) ((upB_iff s).2 v.2) J;rw [xk,xk,<- f] at E;obtain ⟨K,A⟩:=app_split (P:=λq=>decide (q.path.length=a.length+1)) E
     (λq c=>by obtain ⟨l,_,rfl⟩:=u6.1 c;simp)
     (λq c=>by have:=(rows_path _ _ q c).1;simp at this;exact uS (by omega))
     (λq c=>by obtain ⟨l,_,rfl⟩:=u6.1 c;simp)
     (λq c=>by have:=(rows_path _ _ q c).1;simp at this;exact uS (by omega))
    have j:x.leaves=y.leaves:=by
     have:=congrArg (List.map (·.leaf)) K;simpa [s8,sA] using this
    obtain ⟨_,D,_⟩:=nodeB_parts (u x (by simp));obtain ⟨_,H,_⟩:=nodeB_parts (C y (by simp));have o:=O (d+1) (a++[x.name]) y.subs (yN D).2 (yN D).1 (yN H).2 (yN H).1 A;cases x;cases y;simp only at f j o;rw [f,j,o,N]
 intro t d a t' p m e;exact key t d a t' (yN p).2 (yN p).1 (yN m).2 (yN m).1 e
theorem wg {t:List GA} (h:treeB d t=true) (a:List zi):(zF a t).Pairwise λr q=>vZ (rkey r) (rkey q)=true:=by
 have:=rows_lt t d a (yN h).1 (by rw [wQ];exact uv.2 (yN h).2);exact this.imp λh=>rowLt_iff.1 h
theorem rows_ext {t t':List GA} (f:treeB 0 t=true) (c:treeB 0 t'=true) (h:∀r,r ∈ zF [] t ↔ r ∈ zF [] t'):t=t' :=
 rows_inj t 0 [] t' f c (sorted_ext (lt:=λr q=>vZ (rkey r) (rkey q)=true) (λx h=>by rw [klt_irr] at h;cases h) (λ_ _ _=>klt_trans) (wg f []) (wg c []) h)
theorem sorted_key {α:Type} {key:α->Key} {L:List α} (h:L.Pairwise λr q=>vZ (key r) (key q)=true) {x y:α} (j:x ∈ L) (m:y ∈ L) (e:key x=key y):x=y:=by
 induction L with
 | nil=>simp at j
 | cons z r ih =>
  obtain ⟨i,o⟩:=uL.1 h;rcases ux.1 j with ex | c <;> rcases ux.1 m with g | f
  ·rw [ex,g]
  ·have:=i y f;rw [<- ex,e,klt_irr] at this;cases this
  ·have:=i x c;rw [<- g,e,klt_irr] at this;cases this
  ·exact ih o c f

theorem first_is {α:Type} {q:α->Bool} {del:α->Option Bool}:∀(L:List α) (n:Nat),(∀x ∈ L,del x=some (q x)) ->
  (zx (λ(f:Nat) (j:α) (_:Unit)=>(((del j).bind λo=>(if o=true then some (.ret (f:Int)) else some (.nxt ()))):Option (Out Int Unit))) L n ()=some (.inr ())/\∀x ∈ L,q x=false) \/
  ∃A x B,L=A++x::B/\q x=true/\(∀y ∈ A,q y=false)/\zx (λ(f:Nat) (j:α) (_:Unit)=>(((del j).bind λo=>(if o=true then some (.ret (f:Int)) else some (.nxt ()))):Option (Out Int Unit))) L n ()=some (.inl ((n+A.length:Nat):Int))
 | [],n,_=>.inl ⟨rfl,by simp⟩
 | x::r,n,h=>by
  have m:=h x (by simp);cases hq:q x with
  | true=>exact .inr ⟨[],x,r,rfl,hq,by simp,by simp [zx,m,hq]⟩
  | false =>
   rcases first_is r (n+1) (λy c=>h y (by simp [c])) with ⟨e,i⟩ | ⟨A,y,B,rfl,p,i,e⟩
   ·refine .inl ⟨by simp only [zx,m,hq,uc];exact e,?_⟩;intro y c;rcases ux.1 c with rfl | c
    ·exact hq
    ·exact i y c
   ·refine .inr ⟨x::A,y,B,rfl,p,?_,?_⟩
    ·intro z g;rcases ux.1 g with rfl | g
     ·exact hq
     ·exact i z g
    ·simp only [zx,m,hq,uc];rw [show n+(x::A).length=n+1+A.length by simp only [ul];omega];exact e
def node0:GA:=GA.mk ([]:zi) ([]:List GE) ([]:List GA)
def nodeOf (t:List GA) (s:zi):Option GA:=t.find? λx=>x.name==s
theorem linear_is (t:List GA) (s:zi):qk t s=some (match nodeOf t s with | some x=>(x,true) | none=>(node0,false)):=by
 unfold qk xC;rcases first_is (q:=λx:GA=>x.name==s) (del:=λc=>treeXlinearC1 c s) t 0 (λx _=>rfl) with ⟨e,h⟩ | ⟨A,x,B,rfl,i,g,e⟩
 ·rw [e];have:nodeOf t s=none:=ry.2 λx j=>by rw [h x j];simp
  rw [this];rfl
 ·rw [e];have:nodeOf (A++x::B) s=some x:=by
   unfold nodeOf;rw [List.find?_append,ry.2 (λy f=>by rw [g y f];simp),List.find?_cons,i];rfl
  rw [this];simp only [lp,uc,u5];rw [te (by simp),yd (x:=x) (by simp)];rfl
def nodeAt:List GA->List zi->Option GA
 | _,[]=>none
 | t,[s]=>nodeOf t s
 | t,s::c::q=>(nodeOf t s).bind λx=>nodeAt x.subs (c::q)
noncomputable def tlF:Nat->zi->(List GA)×Bool×zi×(List GE)×(List GA)->Option (Out ((GE×Bool) ⊕ (Bool×zi×(List GE)×(List GA))) ((List GA)×Bool×zi×(List GE)×(List GA))):=(λ(_:Nat) (x2:zi) (s2:(List GA)×Bool×zi×(List GE)×(List GA))=>(((qk s2.1 x2).bind λv47=>(if (!v47.2)=true then some (.brk (s2.1,v47.2,v47.1.name,v47.1.leaves,v47.1.subs)) else some (.nxt (v47.1.subs,v47.2,v47.1.name,v47.1.leaves,v47.1.subs))))))
noncomputable def tlR (kind2:Int) (s1:Bool×zi×(List GE)×(List GA)):Option (GE×Bool):=((yj s1.2.2.1 (λx0=>treeLeafC1 x0 kind2)).bind λv49=>((if (((!s1.1) || (decide (v49 < (0:Int))))==false)=true then leafNew kind2 else some default).bind λv50=>(if (((!s1.1) || (decide (v49 < (0:Int)))) || (v50.typ==(0:Int)))=true then ((leafNew kind2).bind λv52=>some (v52,false)) else ((qO s1.2.2.1 v49).bind λy53=>((xG y53.items).bind λv54=>((xY y53.tombs).bind λv55=>some ((GE.mk y53.typ y53.n y53.time y53.dot y53.text v54 v55),true)))))))
theorem tl_eq (t0:List GA) (c:List zi) (f:Int):treeLeaf t0 c f=(lp ((lp (zx tlF c 0 (t0,(decide (((c).length:Int) > (0:Int))),([]:zi),([]:List GE),([]:List GA))) λ(s2:(List GA)×Bool×zi×(List GE)×(List GA))=>some (.inr (s2.2.1,s2.2.2.1,s2.2.2.2.1,s2.2.2.2.2))):Option ((GE×Bool) ⊕ (Bool×zi×(List GE)×(List GA)))) (tlR f)):=rfl
theorem tl_walk:∀(p:List zi) (n:Nat) (t:List GA) (z:Bool×zi×(List GE)×(List GA)),p ≠ [] ->
  match nodeAt t p with
  | some x=>zx tlF p n (t,z)=some (.inr (x.subs,true,x.name,x.leaves,x.subs))
  | none=>∃u,zx tlF p n (t,z)=some (.inr (u,false,([]:zi),([]:List GE),([]:List GA)))
 | [],_,_,_,h=>absurd rfl h
 | [s],n,t,z,_=>by
  simp only [nodeAt,zx,tlF,linear_is,uc];cases nodeOf t s with
  | none=>exact ⟨t,rfl⟩
  | some x=>rfl
 | s::c::q,n,t,z,_=>by
  have f:=λu z=>tl_walk (c::q) (n+1) u z (by simp);simp only [nodeAt];cases e:nodeOf t s with
  | none=>exact ⟨t,by rw [zx];simp only [tlF,linear_is,e,uc];rfl⟩
  | some x =>
   have g:tlF n s (t,z)=some (.nxt (x.subs,true,x.name,x.leaves,x.subs)):=by simp only [tlF,linear_is,e,uc];rfl
   have:=f x.subs (true,x.name,x.leaves,x.subs);rw [zx,g,uc];exact this
theorem nodeOf_split {t:List GA} (s:zi) (h:upB t=true):(nodeOf t s=none/\∀y ∈ t,y.name ≠ s) \/ ∃A x B,t=A++x::B/\nodeOf t s=some x/\x.name=s/\(∀y ∈ A,y.name ≠ s)/\∀y ∈ B,y.name ≠ s:=by
 rcases split_up s h with ⟨A,B,rfl,f,g⟩ | ⟨A,x,B,rfl,i,f,g⟩
 ·left;have:∀y ∈ A++B,y.name ≠ s:=λy c=>by
   rcases uK.1 c with c | c
   ·exact f.ne y c
   ·exact g.ne y c
  exact ⟨ry.2 λy c=>by simp [this y c],this⟩
 ·refine .inr ⟨A,x,B,rfl,?_,i,f.ne,g.ne⟩;unfold nodeOf;rw [List.find?_append,ry.2 (λy c=>by simp [f.ne y c]),List.find?_cons];simp [i]
theorem row_at:∀(p:List zi) (t:List GA) (d:Nat) (a:List zi) (l:GE),p ≠ []->treeB d t=true->(GJ.mk (a++p) l ∈ zF a t ↔ ∃x,nodeAt t p=some x/\l ∈ x.leaves)
 | [],_,_,_,_,h,_=>absurd rfl h
 | s::q,t,d,a,l,_,h=>by
  obtain ⟨E,G⟩:=yN h;rcases nodeOf_split s E with ⟨e,z⟩ | ⟨A,x,B,rfl,e,F,H,w⟩
  ·have m:nodeAt t (s::q)=none:=by cases q <;> simp [nodeAt,e]
   rw [m];constructor
   ·intro f;exact (rows_off z f rfl).elim
   ·rintro ⟨x,h,_⟩;cases h
  ·rw [vG,show x::B=[x]++B from rfl,vG,qz,uK,uK,rowsN_mem,F];have j:¬ GJ.mk (a++s::q) l ∈ zF a A:=λf=>rows_off H f rfl;have v:¬ GJ.mk (a++s::q) l ∈ zF a B:=λf=>rows_off w f rfl;have g:=(nodeB_parts (G x (by simp))).2.1;cases q with
   | nil =>
    have C:¬ GJ.mk (a++[s]) l ∈ zF (a++[s]) x.subs:=λf=>by
     have:=(rows_path _ _ _ f).1;simp at this
    have m:nodeAt (A++x::B) [s]=some x:=e;have i:nodeAt (A++([x]++B)) [s]=some x:=e;rw [i];constructor
    ·rintro (h | (⟨y,o,h⟩ | h) | h)
     ·exact (j h).elim
     ·injection h with _ h;subst h;exact ⟨x,rfl,o⟩
     ·exact (C h).elim
     ·exact (v h).elim
    ·rintro ⟨y,h,D⟩
     injection h with h;subst h;exact .inr (.inl (.inl ⟨l,D,rfl⟩))
   | cons c q =>
    have u:=row_at (c::q) x.subs (d+1) (a++[s]) l (by simp) g;have I:a++[s]++c::q=a++s::c::q:=by simp
    rw [I] at u;have i:nodeAt (A++([x]++B)) (s::c::q)=nodeAt x.subs (c::q):=by
     show (nodeOf (A++x::B) s).bind _=_;rw [e];rfl
    rw [i,u];constructor
    ·rintro (h | (⟨y,o,h⟩ | h) | h)
     ·exact (j h).elim
     ·injection h with h _;have:=congrArg List.length h;simp at this
     ·exact h
     ·exact (v h).elim
    ·intro h;exact .inr (.inl (.inr h))
theorem row_mk {p:List zi} (h:rkey r=(p,k)):r=GJ.mk ([]++p) r.leaf:=by
 have e:r.path=p:=congrArg Prod.fst h;cases r;simp only at e;rw [e];rfl
theorem leafNew_typ (h:1<=k/\k<=4):∃v,leafNew k=some v/\v.typ=k:=by
 unfold leafNew;rw [te (by simp;omega)];exact ⟨_,rfl,rfl⟩
theorem tlR_none (s:zi):∃v,tlR k (false,s,([]:List GE),([]:List GA))=some (v,false):=by
 obtain ⟨v,e⟩:=leafNew_tot k;refine ⟨v,?_⟩;unfold tlR yj;simp [zx,lp,e]
theorem treeLeaf_is {t:List GA} (h:treeB 0 t=true) (w:∀r ∈ zF [] t,LeafOk r.leaf) {p:List zi} (D:p ≠ []) {k:Int} (H:1<=k/\k<=4) :
  (∃l,GJ.mk p l ∈ zF [] t/\l.typ=k/\treeLeaf t p k=some (l,true)) \/ ((∀r ∈ zF [] t,rkey r ≠ (p,k))/\∃v,treeLeaf t p k=some (v,false)):=by
 have g:=tl_walk p 0 t (decide ((p.length:Int) > 0),([]:zi),([]:List GE),([]:List GA)) D;have s:=λl=>row_at p t 0 [] l D h;rw [tl_eq];cases e:nodeAt t p with
 | none =>
  rw [e] at g;obtain ⟨u,g⟩:=g;right;refine ⟨λr c m=>?_,?_⟩
  ·have:=row_mk m;rw [this] at c;obtain ⟨x,i,_⟩:=(s _).1 c;rw [e] at i;cases i
  ·rw [g];exact tlR_none []
 | some x =>
  rw [e] at g;simp only at g;rw [g];simp only [qE];obtain ⟨v0,F,M⟩:=leafNew_typ H;unfold tlR yj;rcases first_is (q:=λy:GE=>y.typ==k) (del:=λG=>treeLeafC1 G k) x.leaves 0 (λx _=>rfl) with ⟨z,i⟩ | ⟨A,y,B,j,i,N,z⟩
  ·right;refine ⟨λr c m=>?_,v0,?_⟩
   ·have:=row_mk m;rw [this] at c;obtain ⟨O,o,I⟩:=(s _).1 c;rw [e] at o;injection o with o;subst o;have:=i _ I;simp only [rX] at this;exact this (congrArg Prod.snd m)
   ·simp only [];rw [z];simp [lp,F]
  ·left;have K:y ∈ x.leaves:=by rw [j];simp
   have f:GJ.mk ([]++p) y ∈ zF [] t:=(s y).2 ⟨x,e,K⟩;have C:y.typ=k:=by simpa using i
   have E:=w _ f;refine ⟨y,f,C,?_⟩;simp only [];rw [z];simp only [lp,uc,u5];have J:((!true) || (decide (((A.length:Nat):Int) < (0:Int))))=false:=by simp
   rw [J];simp only [tJ,ur,F,uc,tv,M];rw [te (by simp;omega),j,yd (x:=y) (by simp),uc,cloneItem_is (qg (sC E.items)),uc,cloneDot_is (qg (sC E.tombs)),uc]

structure EOk (e:GH):Prop where
 path:qn e.path=true
 typ:1<=e.typ/\e.typ<=4
 any:e.had=true \/ e.has=true
 ne:e.had=true->e.has=true->e.was ≠ e.is
 was1:e.had=true->leafB e.was=true/\LeafOk e.was/\e.was.typ=e.typ
 was0:e.had=false->e.was=qF
 is1:e.has=true->leafB e.is=true/\LeafOk e.is/\e.is.typ=e.typ
 is0:e.has=false->e.is=qF
def eLt (a b:GH):Prop:=vZ (wj a) (wj b)=true
theorem side_is (c:there=true->leafB l=true/\LeafOk l/\l.typ=k) (h0:there=false->l=qF):wD there l k=some true:=by
 cases there with
 | false=>rw [h0 rfl];exact side0 k
 | true=>obtain ⟨a,b,rfl⟩:=c rfl;exact side1 a b
theorem diffMay_is {es:List GH} (t:es.length<=16777216) (p:∀e ∈ es,EOk e) (f:es.Pairwise eLt):diffMay es=some true:=by
 unfold diffMay;rw [lp_all (r:=false) (λ_ _=>true) (λi x o=>?_)]
 ·have:allI (λ_ _=>true) es=true:=allI_iff.2 λ_ _ _=>rfl;rw [uG this]
 ·have hi:=(ua.1 o).1;have c:=p x (uF o);have H:decide (x.typ >= 1)=true:=tx c.typ.1;have C:decide (x.typ<=4)=true:=tx c.typ.2;have I:opMayPath x.path=some true:=by rw [opMayPath_is,c.path]
  have F:∃v,(if ((decide ((i:Int) > (0:Int)))==true)=true then vu (es.getD (IntKind.wrap .i64 ((i:Int) - (1:Int))).toNat default) x else some default)=some v/\((decide ((i:Int) > 0))&&(decide (v >= 0)))=false:=by
   by_cases h0:0 < i
   ·have y:IntKind.wrap .i64 ((i:Int) - 1)=((i - 1:Nat):Int):=by rw [w64n (by omega)];omega
    have D:es[i - 1]?=some es[i - 1]:=ui (by omega);have s:ordI es[i - 1] x < 0:=ordI_lt.2 (by
     have:=tw.1 f (i - 1) i (by omega) hi (by omega)
     rwa [(ua.1 o).2] at this)
    have A:es.getD (i - 1) default=es[i - 1]:=by
     rw [uP,D];rfl
    rw [tx (by omega:(i:Int) > 0),y,uU,A,order_is];exact ⟨_,rfl,by rw [uS (by omega)];rfl⟩
   ·rw [uS (by omega:¬ (i:Int) > 0)];exact ⟨default,rfl,rfl⟩
  obtain ⟨v,j,m⟩:=F;have u:((decide ((i:Int) > (0:Int)))==true)=true->0<=(IntKind.wrap .i64 ((i:Int) - (1:Int)))/\(IntKind.wrap .i64 ((i:Int) - (1:Int))) < ((es).length:Int):=by
   intro h;simp only [sM,uk] at h;rw [w64n (by omega)];omega
  obtain ⟨z,E,g⟩:∃z,(if ((x.had&&x.has)==true)=true then xZ x.was x.is else some default)=some z/\((x.had&&x.has)&&z)=false:=by
   cases h1:x.had with
   | false=>exact ⟨default,rfl,rfl⟩
   | true =>
    cases s:x.has with
    | false=>exact ⟨default,rfl,rfl⟩
    | true=>exact ⟨false,by rw [uG (by rfl),leafSame_is,uS (c.ne h1 s)],rfl⟩
  have G:wD x.had x.was x.typ=some true:=side_is c.was1 c.was0;have s2:wD x.has x.is x.typ=some true:=side_is c.is1 c.is0;have J:((!x.had)&&(!x.has))=false:=by
   rcases c.any with h | h <;> simp [h]
  rw [E,uc,I,uc,H,C];have w:((((!true) || (!(true&&true))) || ((!x.had)&&(!x.has))) || ((x.had&&x.has)&&z))=false:=by rw [J,g];rfl
  rw [w,uG (by rfl),G,uc];have K:((false || (!true))==false)=true:=rfl;rw [uG K,s2,uc];have B:((false || (!true)) || (!true))=false:=rfl;rw [B,te (by decide),ye u,j,uc,m];simp
noncomputable def patF (t0:List GA):Nat->GH->List GA->Option (Out (List GA×Int) (List GA)):=(λ(n1:Nat) (x1:GH) (s1:(List GA))=>(((treeLeaf t0 x1.path x1.typ).bind λv14=>((if (((!(v14.2==x1.had))==false)&&(v14.2==true))=true then xZ v14.1 x1.was else some default).bind λv15=>(if ((!(v14.2==x1.had)) || (v14.2&&(!v15)))=true then some (.ret (([]:List GA),(16:Int))) else ((diffXlay s1 x1.path x1.typ x1.is x1.has).bind λv17=>some (.nxt v17))))):Option (Out _ (List GA))))
theorem patch_eq (t0:List GA) (c:List GH):diffPatch t0 c=((ww t0).bind λf=>((if ((!f)==false)=true then diffMay c else some default).bind λg=>(if ((!f) || (!g))=true then some (([]:List GA),(2:Int)) else ((xz t0 ([([42,42]:zi)]:List zi)).bind λv4=>(lp (zx (patF t0) c 0 v4.1) λ(h:(List GA))=>some (h,(0:Int))))))):=rfl
theorem sub_len {α:Type} {lt:α->α->Prop} (c:∀x,¬ lt x x):∀(L M:List α),L.Pairwise lt->(∀x ∈ L,x ∈ M)->L.length<=M.length
 | [],_,_,_=>tU _
 | x::L,M,h,hs=>by
  obtain ⟨m,j⟩:=uL.1 h;obtain ⟨A,B,rfl⟩:=List.append_of_mem (hs x (by simp));have:=sub_len c L (A++B) j λy i=>by
   have f:=hs y (by simp [i]);have g:y ≠ x:=λe=>c x (by have:=m y i;rwa [e] at this);simp only [uK,ux] at f ⊢;rcases f with h | h | h
   ·exact .inl h
   ·exact (g h).elim
   ·exact .inr h
  simp only [uq,ul] at this ⊢;omega
theorem xA {p:List zi} (h:qn p=true):p ≠ []/\p.length<=3/\p.all nameB=true:=by
 refine ⟨pathB_ne h,?_⟩;simp only [qn,ud,uk] at h;exact ⟨h.1.2,h.2⟩
theorem lay_all {p:List zi} {t:List GA} (m:there=true->l.typ=k/\leafB l=true/\LeafOk l) (w:qn p=true) (j:treeB 0 t=true) (o:(zF [] t).length<=16777215) :
  ∃t',diffXlay t p k l there=some t'/\treeB 0 t'=true/\(zF [] t').length<=(zF [] t).length+1/\∀r,r ∈ zF [] t' ↔ (r ∈ zF [] t/\rkey r ≠ (p,k)) \/ (there=true/\r=⟨p,l⟩):=by
 obtain ⟨s,A,i⟩:=xA w;obtain ⟨t',C,g,_,c⟩:=lay_is m p t 0 (p.length+1) s i (by omega) j o (by omega);have c:=c [];simp only [uV] at c;refine ⟨t',anyN_of (p.length+1) λn B=>?_,g,?_,c⟩
 ·obtain ⟨u,v,z,_,f⟩:=lay_is m p t 0 n s i (by omega) j o (by omega);have f:=f [];simp only [uV] at f;rw [v,rows_ext z g λr=>by rw [f,c]]
 ·have:=sub_len (lt:=λr q=>vZ (rkey r) (rkey q)=true) (λx h=>by rw [klt_irr] at h;cases h) (zF [] t') (zF [] t++[⟨p,l⟩]) (wg g []) λr y=>by
   rcases (c r).1 y with h | h
   ·simp [h.1]
   ·simp [h.2]
  simpa using this
structure EFits (t:List GA) (e:GH):Prop where
 had:e.had=true->GJ.mk e.path e.was ∈ zF [] t
 new:e.had=false->∀r ∈ zF [] t,rkey r ≠ wj e
theorem patF_is {t s:List GA} (o:treeB 0 t=true) (j:∀r ∈ zF [] t,LeafOk r.leaf) (c:EOk e) (g:EFits t e) (hs:treeB 0 s=true) (z:(zF [] s).length<=16777215) (n:Nat) :
  ∃u,patF t n e s=some (.nxt u)/\treeB 0 u=true/\(zF [] u).length<=(zF [] s).length+1/\∀r,r ∈ zF [] u ↔ (r ∈ zF [] s/\rkey r ≠ wj e) \/ (e.has=true/\r=⟨e.path,e.is⟩):=by
 obtain ⟨u,p,w,y,x⟩:=lay_all (k:=e.typ) (l:=e.is) (there:=e.has) (λh=>⟨(c.is1 h).2.2,(c.is1 h).1,(c.is1 h).2.1⟩) c.path hs z;refine ⟨u,?_,w,y,x⟩;unfold patF;rcases treeLeaf_is o j (xA c.path).1 c.typ with ⟨l,f,m,i⟩ | ⟨f,v,i⟩
 ·have hh:e.had=true:=by
   cases h:e.had with
   | true=>rfl
   | false=>exact (g.new h _ f (by unfold rkey wj;rw [m])).elim
  have:(GJ.mk e.path l)=GJ.mk e.path e.was:=sorted_key (wg o []) f (g.had hh) (by unfold rkey;rw [m,(c.was1 hh).2.2]);injection this with _ A;rw [i,hh,A];simp only [uc,leafSame_is,p];simp
 ·have hh:e.had=false:=by
   cases h:e.had with
   | false=>rfl
   | true=>exact (f _ (g.had h) (by unfold rkey;rw [(c.was1 h).2.2])).elim
  rw [i,hh];simp only [uc,p];simp
theorem pat_loop {t:List GA} (m:treeB 0 t=true) (i:∀r ∈ zF [] t,LeafOk r.leaf):∀(es:List GH) (n:Nat) (s:List GA),(∀e ∈ es,EOk e/\EFits t e)->es.Pairwise eLt->treeB 0 s=true->(zF [] s).length+es.length<=16777215 ->
  ∃u,zx (patF t) es n s=some (.inr u)/\treeB 0 u=true/\∀r,r ∈ zF [] u ↔ (r ∈ zF [] s/\∀e ∈ es,rkey r ≠ wj e) \/ ∃e ∈ es,e.has=true/\r=⟨e.path,e.is⟩
 | [],n,s,_,_,hs,_=>⟨s,rfl,hs,λr=>by simp⟩
 | e::es,n,s,h,hp,hs,hw=>by
  obtain ⟨C,v⟩:=uL.1 hp;simp only [ul] at hw;obtain ⟨o,B⟩:=h e (by simp);obtain ⟨A,G,H,a3,a4⟩:=patF_is m i o B hs (by omega) n;obtain ⟨u,p,E,w⟩:=pat_loop m i es (n+1) A (λx c=>h x (by simp [c])) v H (by omega);refine ⟨u,by rw [zx,G];exact p,E,λr=>?_⟩;rw [w,a4];have g:e.has=true->∀x ∈ es,rkey ⟨e.path,e.is⟩ ≠ wj x:=λhh x c z=>by
   have:=C x c;unfold eLt at this;rw [<- z] at this;have F:rkey ⟨e.path,e.is⟩=wj e:=by unfold rkey wj;rw [(o.is1 hh).2.2]
   rw [F,klt_irr] at this;cases this
  constructor
  ·rintro (⟨f | f,j⟩ | ⟨x,c,f⟩)
   ·refine .inl ⟨f.1,λx c=>?_⟩;rcases ux.1 c with rfl | c
    ·exact f.2
    ·exact j x c
   ·exact .inr ⟨e,by simp,f⟩
   ·exact .inr ⟨x,by simp [c],f⟩
  ·rintro (⟨f,j⟩ | ⟨x,c,f⟩)
   ·exact .inl ⟨.inl ⟨f,j e (by simp)⟩,λx c=>j x (by simp [c])⟩
   ·rcases ux.1 c with rfl | c
    ·exact .inl ⟨.inr f,λy D=>by rw [f.2];exact g f.1 y D⟩
    ·exact .inr ⟨x,c,f⟩
theorem select_all {t:List GA} (hs:Small t) (c:treeB 0 t=true):xz t [[42,42]]=some (t,0):=by
 have f:patB [[42,42]]=true:=by decide
 rw [pathsSelect_is hs (by simp [maxLen]),c,f];have:wu (matchB [[42,42]]) [] t=t:=by
  refine rows_ext (keep_may _ t 0 [] c) c λr=>?_;rw [keep_rows,u7];refine ⟨λh=>h.1,λh=>⟨h,?_⟩⟩;have g:=(rows_ok t 0 [] hs c rfl rfl r h).path;unfold matchB;rw [g,f];simp [x8,endsB,agreeB]
 simp [this]
theorem patch_is {t:List GA} (hs:Small t) (c:treeB 0 t=true) {es:List GH} (i:(zF [] t).length+es.length<=16777215) (h:∀e ∈ es,EOk e/\EFits t e) (g:es.Pairwise eLt) :
  ∃u,diffPatch t es=some (u,0)/\treeB 0 u=true/\∀r,r ∈ zF [] u ↔ (r ∈ zF [] t/\∀e ∈ es,rkey r ≠ wj e) \/ ∃e ∈ es,e.has=true/\r=⟨e.path,e.is⟩:=by
 have f:=λr p=>(rows_ok t 0 [] hs c rfl rfl r p).ok;obtain ⟨u,m,o,a3⟩:=pat_loop c f es 0 t h g c i;refine ⟨u,?_,o,a3⟩;rw [patch_eq,qW hs,c,uc,uG (show ((!true)==false)=true from rfl),diffMay_is (by omega) (λe j=>(h e j).1) g,uc,te (by decide),select_all hs c,uc,m,qE]

def qQ (p:List zi) (k:Int):zi:=p.flatMap (λs=>s++[0])++[UInt8.ofNat k.toNat]
theorem inter_flat:∀(p:List zi),p ≠ []->([0]:List UInt8).intercalate p++[0]=p.flatMap (λs=>s++[0])
 | [],h=>absurd rfl h
 | [s],_=>by simp [List.intercalate]
 | s::c::q,_=>by
  have f:=inter_flat (c::q) (by simp)
  simp only [List.intercalate,List.intersperse] at f ⊢;rw [tn,<- f];simp [uy]
theorem name_len {s:zi} (h:nameB s=true):s.length<=12/\∀b ∈ s,b ≠ 0:=by
 simp only [nameB,ud,uk,uv] at h;refine ⟨h.1.2,λb c e=>?_⟩;have:=h.2 b c;rw [e] at this;revert this;decide
theorem flatS_len:∀(p:List zi),p.all nameB=true->(p.flatMap (λs=>s++[0])).length<=13 * p.length
 | [],_=>by simp
 | s::p,h=>by
  simp only [uZ,ud] at h;have:=flatS_len p h.2;have:=(name_len h.1).1;simp only [tn,uq,ul,uE];omega
theorem key_is {p:List zi} (f:qn p=true) (i:1<=k/\k<=4):qb p k=some (qQ p k):=by
 obtain ⟨h,m,g⟩:=xA f;have c:=inter_flat p h;have j:=flatS_len p g;have o:(([0]:List UInt8).intercalate p).length<=40:=by
  have:=congrArg List.length c;simp only [uq,ul,uE] at this;omega
 unfold qb stringsJoin strJoin Lib.join;rw [uG ⟨by omega,by omega⟩,uc,ye (by simp [maxLen];omega),ye (by omega),ye (by simp [maxLen]),ye (by simp [maxLen];omega),c];rfl
theorem flat_inj:∀(p q:List zi),p.all nameB=true->q.all nameB=true->p.flatMap (λs=>s++[(0:UInt8)])=q.flatMap (λs=>s++[0])->p=q
 | [],[],_,_,_=>rfl
 | [],s::q,_,_,h=>by simp at h
 | s::p,[],_,_,h=>by simp at h
 | s::p,c::q,h1,h2,h=>by
  simp only [uZ,ud] at h1 h2;simp only [tn,uy,sR] at h;have g:=(name_len h1.1).2;have i:=(name_len h2.1).2;have f:∀(s:zi) (r:List UInt8),(∀b ∈ s,b ≠ 0)->(s++0::r).takeWhile (λb=>decide (b ≠ 0))=s:=λs r hs=>by
   rw [rR (λb j=>by simp [hs b j])];simp
  have e:s=c:=by rw [<- f s _ g,<- f c _ i,h]
  subst e;have h:=sL h;injection h with _ h;rw [flat_inj p q h1.2 h2.2 h]
theorem key_inj {p q:List zi} {j:Int} (f:qn p=true) (g:qn q=true) (m:1<=k/\k<=4) (o:1<=j/\j<=4) (h:qQ p k=qQ q j):p=q/\k=j:=by
 unfold qQ at h;have i:=List.append_inj_left' h rfl;have c:=pG h rfl;refine ⟨flat_inj p q (xA f).2.2 (xA g).2.2 i,?_⟩;injection c with c _;have:=congrArg UInt8.toNat c;simp at this;omega
section
variable {W:Type}
def mnd (m:List (zi×W)):Prop:=m.Pairwise λx y=>x.1 ≠ y.1
def sEq:zi->zi->Bool:=λa b=>a==b
theorem sEq_iff {a b:zi}:sEq a b=true ↔ a=b:=by unfold sEq;simp
theorem mem_put {k:zi} {v:W}:∀{m:List (zi×W)},mnd m->∀y,y ∈ xS sEq m k v ↔ (y ∈ m/\y.1 ≠ k) \/ y=(k,v)
 | [],_,y=>by simp [xS]
 | e::r,h,y=>by
  obtain ⟨i,g⟩:=uL.1 h;simp only [xS];by_cases hk:k=e.1
  ·subst hk;rw [uG (sEq_iff.2 rfl)];simp only [ux];constructor
   ·rintro (h | h)
    ·exact .inr h
    ·exact .inl ⟨.inr h,λj=>i y h j.symm⟩
   ·rintro (⟨h | h,c⟩ | h)
    ·exact (c (by rw [h])).elim
    ·exact .inr h
    ·exact .inl h
  ·have f:=mem_put (k:=k) (v:=v) g y;rw [te (λe=>hk (sEq_iff.1 e)),ux,f,ux];constructor
   ·rintro (h | h | h)
    ·exact .inl ⟨.inl h,by rw [h];exact λe=>hk e.symm⟩
    ·exact .inl ⟨.inr h.1,h.2⟩
    ·exact .inr h
   ·rintro (⟨h | h,c⟩ | h)
    ·exact .inl h
    ·exact .inr (.inl ⟨h,c⟩)
    ·exact .inr (.inr h)
theorem mnd_put {k:zi} {v:W}:∀{m:List (zi×W)},mnd m->mnd (xS sEq m k v)
 | [],_=>by simp [xS,mnd]
 | e::r,h=>by
  obtain ⟨g,c⟩:=uL.1 h;simp only [xS];by_cases hk:k=e.1
  ·subst hk;rw [uG (sEq_iff.2 rfl)];exact uL.2 ⟨g,c⟩
  ·rw [te (λe=>hk (sEq_iff.1 e))];refine uL.2 ⟨λy i=>?_,mnd_put c⟩;rcases (mem_put c y).1 i with ⟨f,_⟩ | f
   ·exact g y f
   ·rw [f];exact λe=>hk e.symm
theorem get_mem {d:W} {x:zi×W}:∀{m:List (zi×W)},mnd m->x ∈ m->zz sEq d m x.1=x.2
 | [],_,h=>by simp at h
 | e::r,h,c=>by
  obtain ⟨g,f⟩:=uL.1 h;simp only [zz];rcases ux.1 c with rfl | c
  ·rw [uG (sEq_iff.2 rfl)]
  ·rw [te (λi=>g x c (sEq_iff.1 i).symm)];exact get_mem f c
theorem get_not {d:W} {k:zi}:∀{m:List (zi×W)},(∀x ∈ m,x.1 ≠ k)->zz sEq d m k=d
 | [],_=>rfl
 | e::r,h=>by
  simp only [zz];rw [te (λc=>h e (by simp) (sEq_iff.1 c).symm)];exact get_not λx f=>h x (by simp [f])
end
structure Side (rs:List GJ) (p:List zi) (k:Int) (there:Bool) (l:GE):Prop where
 on:there=true->GJ.mk p l ∈ rs/\l.typ=k
 off:there=false->l=qF/\∀r ∈ rs,rkey r ≠ (p,k)
structure EdOf (ra rb:List GJ) (e:GH):Prop where
 any:e.had=true \/ e.has=true
 a:Side ra e.path e.typ e.had e.was
 b:Side rb e.path e.typ e.has e.is
theorem Side.one (h:rs.Pairwise λr q=>vZ (rkey r) (rkey q)=true) {p:List zi} {k:Int} {x y:Bool} {l m:GE} (f:Side rs p k x l) (s2:Side rs p k y m):x=y/\l=m:=by
 cases x with
 | true =>
  obtain ⟨i,j⟩:=f.on rfl;cases y with
  | true =>
   obtain ⟨c,g⟩:=s2.on rfl;have:=sorted_key h i c (by unfold rkey;rw [j,g]);injection this with _ e;exact ⟨rfl,e⟩
  | false=>exact ((s2.off rfl).2 _ i (by unfold rkey;rw [j])).elim
 | false =>
  cases y with
  | true =>
   obtain ⟨c,g⟩:=s2.on rfl;exact ((f.off rfl).2 _ c (by unfold rkey;rw [g])).elim
  | false=>exact ⟨rfl,(f.off rfl).1.trans (s2.off rfl).1.symm⟩
theorem EdOf.one {ra rb:List GJ} (t:ra.Pairwise λr q=>vZ (rkey r) (rkey q)=true) (u:rb.Pairwise λr q=>vZ (rkey r) (rkey q)=true) {e f:GH} (p:EdOf ra rb e) (j:EdOf ra rb f) (h:wj e=wj f):e=f:=by
 have c:e.path=f.path:=congrArg Prod.fst h;have g:e.typ=f.typ:=congrArg Prod.snd h;obtain ⟨m,o⟩:=p.a.one t (by rw [c,g];exact j.a);obtain ⟨i,s⟩:=p.b.one u (by rw [c,g];exact j.b);cases e;cases f;simp only at c g m o i s;subst c g m o i s;rfl
theorem Side.more {p:List zi} (h:Side rs p k there l) {r:GJ} (g:rkey r ≠ (p,k)):Side (rs++[r]) p k there l :=
 ⟨λf=>⟨by simp [(h.on f).1],(h.on f).2⟩,λf=>⟨(h.off f).1,λq c=>by
  rcases uK.1 c with c | c
  ·exact (h.off f).2 q c
  ·simp only [up] at c;rw [c];exact g⟩⟩
def RKey (r:GJ):Prop:=qn r.path=true/\1<=r.leaf.typ/\r.leaf.typ<=4
structure MInv (ra rb:List GJ) (m:List (zi×GH)):Prop where
 nd:mnd m
 ed:∀x ∈ m,EdOf ra rb x.2/\x.1=qQ x.2.path x.2.typ/\qn x.2.path=true/\1<=x.2.typ/\x.2.typ<=4
 ca:∀r ∈ ra,∃x ∈ m,wj x.2=rkey r
 cb:∀r ∈ rb,∃x ∈ m,wj x.2=rkey r
theorem MInv.nil:MInv [] [] []:=⟨List.Pairwise.nil,by simp,by simp,by simp⟩
theorem MInv.key {m:List (zi×GH)} (h:MInv ra rb m) {r:GJ} (g:RKey r) {x:zi×GH} (p:x ∈ m):x.1=qQ r.path r.leaf.typ ↔ wj x.2=rkey r:=by
 obtain ⟨_,i,j,o⟩:=h.ed x p;constructor
 ·intro e;rw [i] at e;obtain ⟨c,f⟩:=key_inj j g.1 o g.2 e;unfold wj rkey;rw [c,f]
 ·intro e;have c:x.2.path=r.path:=congrArg Prod.fst e;have f:x.2.typ=r.leaf.typ:=congrArg Prod.snd e;rw [i,c,f]
def edA (r:GJ):GH:=GH.mk r.path r.leaf.typ true false r.leaf qF
theorem MInv.stepA {m:List (zi×GH)} (h:MInv ra [] m) {r:GJ} (g:RKey r) (w:∀q ∈ ra,rkey q ≠ rkey r):MInv (ra++[r]) [] (xS sEq m (qQ r.path r.leaf.typ) (edA r)):=by
 have o:=mem_put (k:=qQ r.path r.leaf.typ) (v:=edA r) h.nd;have f:(qQ r.path r.leaf.typ,edA r) ∈ xS sEq m (qQ r.path r.leaf.typ) (edA r):=(o _).2 (.inr rfl);refine ⟨mnd_put h.nd,λx i=>?_,λq c=>?_,by simp⟩
 ·rcases (o x).1 i with ⟨s,t⟩ | rfl
  ·obtain ⟨p,j⟩:=h.ed x s;have u:rkey r ≠ (x.2.path,x.2.typ):=λe=>t ((h.key g s).2 e.symm);exact ⟨⟨p.any,p.a.more u,p.b⟩,j⟩
  ·refine ⟨⟨.inl rfl,⟨λ_=>⟨by simp [edA],rfl⟩,λh=>(by cases h)⟩,⟨λh=>(by cases h),λ_=>⟨rfl,by simp⟩⟩⟩,rfl,g.1,g.2⟩
 ·rcases uK.1 c with c | c
  ·obtain ⟨x,i,e⟩:=h.ca q c;exact ⟨x,(o x).2 (.inl ⟨i,λj=>w q c (by rw [<- e];exact (h.key g i).1 j)⟩),e⟩
  ·simp only [up] at c;subst c;exact ⟨_,f,rfl⟩
def ed0:GH:=GH.mk ([]:List zi) (0:Int) false false qF qF
def edB (g:GH) (r:GJ):GH:=GH.mk r.path r.leaf.typ g.had true g.was r.leaf
theorem MInv.stepB {m:List (zi×GH)} (h:MInv ra rb m) {r:GJ} (p:RKey r) (C:∀q ∈ rb,rkey q ≠ rkey r):MInv ra (rb++[r]) (xS sEq m (qQ r.path r.leaf.typ) (edB (zz sEq ed0 m (qQ r.path r.leaf.typ)) r)):=by
 have t:∃g,zz sEq ed0 m (qQ r.path r.leaf.typ)=g/\Side ra r.path r.leaf.typ g.had g.was:=by
  by_cases c:∃x ∈ m,x.1=qQ r.path r.leaf.typ
  ·obtain ⟨x,c,e⟩:=c;refine ⟨x.2,by rw [<- e];exact get_mem h.nd c,?_⟩;have o:=(h.key p c).1 e;have A:x.2.path=r.path:=congrArg Prod.fst o;have B:x.2.typ=r.leaf.typ:=congrArg Prod.snd o;rw [<- A,<- B];exact (h.ed x c).1.a
  ·refine ⟨ed0,get_not λx j e=>c ⟨x,j,e⟩,⟨λh=>(by cases h),λ_=>⟨rfl,λq i e=>?_⟩⟩⟩;obtain ⟨x,j,o⟩:=h.ca q i;exact c ⟨x,j,(h.key p j).2 (by rw [o,e];rfl)⟩
 obtain ⟨g,t,hs⟩:=t;rw [t];have u:=mem_put (k:=qQ r.path r.leaf.typ) (v:=edB g r) h.nd;have f:(qQ r.path r.leaf.typ,edB g r) ∈ xS sEq m (qQ r.path r.leaf.typ) (edB g r):=(u _).2 (.inr rfl);have keep:∀(q:GJ) (x:zi×GH),x ∈ m->wj x.2=rkey q->∃x ∈ xS sEq m (qQ r.path r.leaf.typ) (edB g r),wj x.2=rkey q:=λq x c e=>by
  by_cases s:x.1=qQ r.path r.leaf.typ
  ·exact ⟨_,f,by rw [<- e,(h.key p c).1 s];rfl⟩
  ·exact ⟨x,(u x).2 (.inl ⟨c,s⟩),e⟩
 refine ⟨mnd_put h.nd,λx c=>?_,λq i=>?_,λq i=>?_⟩
 ·rcases (u x).1 c with ⟨y,z⟩ | rfl
  ·obtain ⟨w,o⟩:=h.ed x y;have s:rkey r ≠ (x.2.path,x.2.typ):=λe=>z ((h.key p y).2 e.symm);exact ⟨⟨w.any,w.a,w.b.more s⟩,o⟩
  ·exact ⟨⟨.inr rfl,hs,⟨λ_=>⟨by simp [edB],rfl⟩,λh=>(by cases h)⟩⟩,rfl,p.1,p.2⟩
 ·obtain ⟨x,c,e⟩:=h.ca q i;exact keep q x c e
 ·rcases uK.1 i with i | i
  ·obtain ⟨x,c,e⟩:=h.cb q i;exact keep q x c e
  ·simp only [up] at i;subst i;exact ⟨_,f,rfl⟩

theorem put_len {W:Type} {k:zi} {v:W}:∀(m:List (zi×W)),(xS sEq m k v).length<=m.length+1
 | []=>by simp [xS]
 | e::r=>by
  have:=put_len (k:=k) (v:=v) r;simp only [xS];split <;> simp only [ul] <;> omega
def kSorted (rs:List GJ):Prop:=rs.Pairwise λr q=>vZ (rkey r) (rkey q)=true
theorem kSorted.ne {c:List GJ} (h:kSorted (c++r::rs)):∀q ∈ c,rkey q ≠ rkey r:=λq f e=>by
 have:=(tF.1 h).2.2 q f r (by simp);rw [e,klt_irr] at this;cases this
theorem loopA {f:Nat->GJ->List (zi×GH)->Option (Out (List GH×Int) (List (zi×GH)))} (g:∀i x s,RKey x->f i x s=some (.nxt (xS sEq s (qQ x.path x.leaf.typ) (edA x)))):∀(rs c:List GJ) (n:Nat) (m:List (zi×GH)),kSorted (c++rs)->(∀r ∈ rs,RKey r)->MInv c [] m ->
  ∃m',zx f rs n m=some (.inr m')/\MInv (c++rs) [] m'/\m'.length<=m.length+rs.length
 | [],c,n,m,_,_,h=>⟨m,rfl,by simpa using h,ue _⟩
 | r::rs,c,n,m,hs,hr,h=>by
  have p:=h.stepA (hr r (by simp)) hs.ne;obtain ⟨m',o,t,u⟩:=loopA g rs (c++[r]) (n+1) _ (by simpa using hs) (λq j=>hr q (by simp [j])) p;refine ⟨m',by rw [zx,g _ _ _ (hr r (by simp))];exact o,by simpa using t,?_⟩;have:=put_len (k:=qQ r.path r.leaf.typ) (v:=edA r) m;simp only [ul];omega
theorem loopB {ra:List GJ} {f:Nat->GJ->List (zi×GH)->Option (Out (List GH×Int) (List (zi×GH)))} (g:∀i x s,RKey x->f i x s=some (.nxt (xS sEq s (qQ x.path x.leaf.typ) (edB (zz sEq ed0 s (qQ x.path x.leaf.typ)) x)))):∀(rs c:List GJ) (n:Nat) (m:List (zi×GH)),kSorted (c++rs)->(∀r ∈ rs,RKey r)->MInv ra c m ->
  ∃m',zx f rs n m=some (.inr m')/\MInv ra (c++rs) m'/\m'.length<=m.length+rs.length
 | [],c,n,m,_,_,h=>⟨m,rfl,by simpa using h,ue _⟩
 | r::rs,c,n,m,hs,hr,h=>by
  have p:=h.stepB (hr r (by simp)) hs.ne;obtain ⟨m',o,t,u⟩:=loopB g rs (c++[r]) (n+1) _ (by simpa using hs) (λq j=>hr q (by simp [j])) p;refine ⟨m',by rw [zx,g _ _ _ (hr r (by simp))];exact o,by simpa using t,?_⟩;have:=put_len (k:=qQ r.path r.leaf.typ) (v:=edB (zz sEq ed0 m (qQ r.path r.leaf.typ)) r) m;simp only [ul];omega
def chgB (e:GH):Bool:=!((e.had==e.has)&&decide (e.was=e.is))
structure CopyOk (e:GH):Prop where
 path:e.path.length<=16777216
 was:LeafOk e.was
 is:LeafOk e.is
theorem copied_is (h:CopyOk e):qs e=some e:=by
 unfold qs;rw [wF (qg (sC h.path)),uc,own_is h.was,uc,own_is h.is];rfl
noncomputable def sortedF:Nat->(zi×GH)->List GH->Option (Out (List GH) (List GH)):=(λ(_:Nat) (x1:(zi×GH)) (s1:(List GH))=>(((if ((x1.2.had==x1.2.has)==true)=true then xZ x1.2.was x1.2.is else some default).bind λv7=>(if (!((x1.2.had==x1.2.has)&&v7))=true then ((qs x1.2).bind λv9=>(x6 ((s1).length+(([v9]:List GH)).length<=xe) (some (.nxt (s1++([v9]:List GH)))))) else some (.nxt s1)))))
theorem sorted_eq (m:List (zi×GH)):qr m=(allP m λf=>lp (zx sortedF f 0 ([]:List GH)) λ(g:(List GH))=>((qv (λx y=>vu x y) g).bind λc=>some c)):=rfl
theorem sortedF_is {x:zi×GH} (h:CopyOk x.2) {s:List GH} (hs:s.length<=16777216) (n:Nat):sortedF n x s=some (.nxt (if chgB x.2=true then s++[x.2] else s)):=by
 unfold sortedF chgB;rw [leafSame_is,copied_is h];cases e:(x.2.had==x.2.has) with
 | false =>
  simp only [rE,tX,ur];have:((false==true)=true)=False:=by simp
  simp only [this,uJ,uc];rw [ye (qg (by simp;omega))]
 | true =>
  simp only [tJ,ur,uc,uX];cases e2:decide (x.2.was=x.2.is) with
  | false =>
   simp only [tX,ur];rw [ye (qg (by simp;omega))]
  | true=>simp
theorem sorted_loop:∀(p:List (zi×GH)) (n:Nat) (s:List GH),(∀x ∈ p,CopyOk x.2)->s.length+p.length<=16777216->zx sortedF p n s=some (.inr (s++(p.map (·.2)).filter chgB))
 | [],n,s,_,_=>by simp [zx]
 | x::p,n,s,h,hl=>by
  simp only [ul] at hl;rw [zx,sortedF_is (h x (by simp)) (by omega)];simp only [];rw [uw,rJ];split
  ·rw [sorted_loop p (n+1) (s++[x.2]) (λy c=>h y (by simp [c])) (by simp;omega),uy];rfl
  ·rw [sorted_loop p (n+1) s (λy c=>h y (by simp [c])) (by omega)]
theorem leaf0_ok:LeafOk qF:=⟨by simp [qF],by simp [qF],by simp [qF]⟩
theorem sorted_is {m:List (zi×GH)} (w:m.length<=16777216) (A:∀x ∈ m,CopyOk x.2) (v:m.Pairwise λx y=>wj x.2 ≠ wj y.2):∃R,qr m=some R/\R.Pairwise eLt/\R.length<=m.length/\∀e,e ∈ R ↔ (∃x ∈ m,x.2=e)/\chgB e=true:=by
 have u:∀x y z,eLt x y->eLt y z->eLt x z:=λ_ _ _=>klt_trans;have s:((m.map (·.2)).filter chgB).Pairwise λx y=>eLt x y \/ eLt y x:=by
  refine List.Pairwise.filter _ (sW.2 (v.imp λh=>?_));rcases klt_tot _ _ with e | e | e
  ·exact (h e).elim
  ·exact .inl e
  ·exact .inr e
 obtain ⟨R,i,hs⟩:=exists_sorted u _ s;have o:∀e,e ∈ R ↔ (∃x ∈ m,x.2=e)/\chgB e=true:=λe=>by
  rw [i.mem_iff,u7,u6]
 refine ⟨R,?_,hs,?_,o⟩
 ·rw [sorted_eq];refine allP_of λp f=>?_;rw [sorted_loop p 0 [] (λx g=>A x (f.mem_iff.1 g)) (by rw [f.length_eq];simpa using w),qE,uV];have c:((p.map (·.2)).filter chgB).Perm ((m.map (·.2)).filter chgB):=(f.map _).filter _;have t:((p.map (·.2)).filter chgB).length<=m.length:=by
   rw [c.length_eq];exact uN (tM _ _) (by simp)
  rw [sortO_lt (α:=GH) (cf:=ordI) (lt:=eLt) (R:=R) (λx _ y _=>order_is x y) (λx y=>ordI_lt) (λx h=>by unfold eLt at h;rw [klt_irr] at h;cases h) u (λx g y j=>?_) (i.trans c.symm) hs (qg (by omega))]
  ·rfl
  ·have g:=c.mem_iff.1 g;have j:=c.mem_iff.1 j;rcases klt_tot (wj x) (wj y) with e | e | e
   ·left;have g:=i.mem_iff.2 g;have j:=i.mem_iff.2 j;exact sorted_key (key:=wj) hs g j e
   ·exact .inr (.inl e)
   ·exact .inr (.inr e)
 ·rw [i.length_eq];exact uN (tM _ _) (by simp)
noncomputable def dA:Nat->GJ->List (zi×GH)->Option (Out (List GH×Int) (List (zi×GH))):=(λ(n1:Nat) (x1:GJ) (s1:List (zi×GH))=>(((qb x1.path x1.leaf.typ).bind λv11=>some (.nxt (xS (λa b=>a==b) s1 v11 (GH.mk x1.path x1.leaf.typ true false x1.leaf yv))))))
noncomputable def dB:Nat->GJ->List (zi×GH)->Option (Out (List GH×Int) (List (zi×GH))):=(λ(n2:Nat) (x2:GJ) (s2:List (zi×GH))=>(((qb x2.path x2.leaf.typ).bind λv20=>((qb x2.path x2.leaf.typ).bind λv21=>some (.nxt (xS (λa b=>a==b) s2 v21 (GH.mk x2.path x2.leaf.typ ((zz (λa b=>a==b) (GH.mk ([]:List zi) (0:Int) false false yv yv) s2 v20).had) true ((zz (λa b=>a==b) (GH.mk ([]:List zi) (0:Int) false false yv yv) s2 v20).was) x2.leaf)))))))
theorem diff_eq (a0 c:List GA):diffDiff a0 c=((ww a0).bind λg=>((if ((!g)==false)=true then ww c else some default).bind λh=>(if ((!g) || (!h))=true then some (([]:List GH),(2:Int)) else ((wc a0).bind λv4=>(lp (zx dA v4 0 ([]:List (zi×GH))) λ(i:List (zi×GH))=>((wc c).bind λf=>(lp (zx dB f 0 i) λ(s2:List (zi×GH))=>((qr s2).bind λv22=>some (v22,(0:Int)))))))))):=rfl
theorem rows_key {t:List GA} (hs:Small t) (f:treeB 0 t=true):∀r ∈ zF [] t,RKey r:=λr c=>by
 have:=rows_ok t 0 [] hs f rfl rfl r c;exact ⟨this.path,leaf_typ this.leaf⟩
theorem dA_is (i:Nat) (x:GJ) (s:List (zi×GH)) (h:RKey x):dA i x s=some (.nxt (xS sEq s (qQ x.path x.leaf.typ) (edA x))):=by
 unfold dA;rw [key_is h.1 h.2];rfl
theorem dB_is (i:Nat) (x:GJ) (s:List (zi×GH)) (h:RKey x):dB i x s=some (.nxt (xS sEq s (qQ x.path x.leaf.typ) (edB (zz sEq ed0 s (qQ x.path x.leaf.typ)) x))):=by
 unfold dB;rw [key_is h.1 h.2];rfl
theorem side_ok {t:List GA} (hs:Small t) (c:treeB 0 t=true) {p:List zi} {k:Int} {there:Bool} {l:GE} (h:Side (zF [] t) p k there l):LeafOk l:=by
 cases there with
 | true=>exact (rows_ok t 0 [] hs c rfl rfl _ (h.on rfl).1).ok
 | false=>rw [(h.off rfl).1];exact leaf0_ok
theorem rows_small {t:List GA} (hs:Small t):(zF [] t).length<=GA.bks t:=rows_len _ t [] (ue _)
theorem diff_is {a b:List GA} (p:Small a) (i:Small b) (j:treeB 0 a=true) (o:treeB 0 b=true) (P:GA.bks a+GA.bks b<=16777216) :
  ∃R,diffDiff a b=some (R,0)/\R.Pairwise eLt/\R.length<=(zF [] a).length+(zF [] b).length/\∀e,e ∈ R ↔ EdOf (zF [] a) (zF [] b) e/\chgB e=true:=by
 have A:=wg j [];have C:=wg o [];obtain ⟨H,J,B,a3⟩:=loopA dA_is (zF [] a) [] 0 [] A (rows_key p j) MInv.nil;obtain ⟨t,D,f,O⟩:=loopB dB_is (zF [] b) [] 0 H C (rows_key i o) B;simp only [uV,uE,u5] at B a3 f;have Q:=rows_small p;have T:=rows_small i;have u:t.Pairwise λx y=>wj x.2 ≠ wj y.2:=by
  refine rm ?_ f.nd;intro x y c G h e;apply h;rw [(f.ed x c).2.1,(f.ed y G).2.1];have s:x.2.path=y.2.path:=congrArg Prod.fst e;have g:x.2.typ=y.2.typ:=congrArg Prod.snd e;rw [s,g]
 obtain ⟨R,E,I,N,F⟩:=sorted_is (m:=t) (by omega) (λx c=>by
  obtain ⟨s,_,K,_⟩:=f.ed x c;exact ⟨by have:=(xA K).2.1;omega,side_ok p j s.a,side_ok i o s.b⟩) u
 refine ⟨R,?_,I,by omega,λe=>?_⟩
 ·rw [diff_eq,qW p,j,uc,uG (show ((!true)==false)=true from rfl),qW i,o,uc,te (by decide),pathsRows_is p,j,uG rfl,uc,J,qE,pathsRows_is i,o,uG rfl,uc,D,qE,E];rfl
 ·rw [F];constructor
  ·rintro ⟨⟨x,c,rfl⟩,h⟩
   exact ⟨(f.ed x c).1,h⟩
  ·rintro ⟨h,M⟩
   refine ⟨?_,M⟩;have:∃x ∈ t,wj x.2=wj e:=by
    rcases h.any with v | v
    ·obtain ⟨w,z⟩:=h.a.on v;obtain ⟨x,c,g⟩:=f.ca _ w;exact ⟨x,c,by rw [g];unfold rkey wj;rw [z]⟩
    ·obtain ⟨w,z⟩:=h.b.on v;obtain ⟨x,c,g⟩:=f.cb _ w;exact ⟨x,c,by rw [g];unfold rkey wj;rw [z]⟩
   obtain ⟨x,c,g⟩:=this;exact ⟨x,c,(f.ed x c).1.one A C h g⟩

theorem Side.ok {t:List GA} (hs:Small t) (i:treeB 0 t=true) {p:List zi} {k:Int} {there:Bool} {l:GE} (h:Side (zF [] t) p k there l):there=true->leafB l=true/\LeafOk l/\l.typ=k:=λg=>by
 obtain ⟨c,f⟩:=h.on g;have:=rows_ok t 0 [] hs i rfl rfl _ c;exact ⟨this.leaf,this.ok,f⟩
theorem Side.rkey {t:List GA} (hs:Small t) (g:treeB 0 t=true) {p:List zi} {k:Int} {l:GE} (h:Side (zF [] t) p k true l):qn p=true/\1<=k/\k<=4:=by
 obtain ⟨c,f⟩:=h.on rfl;have:=rows_key hs g _ c;unfold RKey at this;rw [f] at this;exact this
theorem chg_ne (h:chgB e=true) (c:e.had=true) (f:e.has=true):e.was ≠ e.is:=λg=>by
 unfold chgB at h;rw [c,f,g] at h;simp at h
theorem EdOf.eok {a b:List GA} (i:Small a) (m:Small b) (j:treeB 0 a=true) (f:treeB 0 b=true) {e:GH} (h:EdOf (zF [] a) (zF [] b) e) (o:chgB e=true):EOk e:=by
 have g:qn e.path=true/\1<=e.typ/\e.typ<=4:=by
  rcases h.any with c | c
  ·have:=h.a;rw [c] at this;exact this.rkey i j
  ·have:=h.b;rw [c] at this;exact this.rkey m f
 exact ⟨g.1,g.2,h.any,chg_ne o,h.a.ok i j,λh0=>(h.a.off h0).1,h.b.ok m f,λh0=>(h.b.off h0).1⟩
theorem EdOf.fits {a b:List GA} (h:EdOf (zF [] a) (zF [] b) e):EFits a e:=⟨λc=>(h.a.on c).1,λc=>(h.a.off c).2⟩
theorem patched_row {a b:List GA} (B:treeB 0 a=true) (C:treeB 0 b=true) {R:List GH} (i:∀e,e ∈ R ↔ EdOf (zF [] a) (zF [] b) e/\chgB e=true) (r:GJ) :
  ((r ∈ zF [] a/\∀e ∈ R,rkey r ≠ wj e) \/ ∃e ∈ R,e.has=true/\r=⟨e.path,e.is⟩) ↔ r ∈ zF [] b:=by
 have G:=wg B [];have J:=wg C [];constructor
 ·rintro (⟨p,x⟩ | ⟨e,H,p,rfl⟩)
  ·apply Classical.byContradiction;intro F;by_cases hx:∃q ∈ zF [] b,rkey q=rkey r
   ·obtain ⟨q,c,e⟩:=hx;have g:q.path=r.path:=congrArg Prod.fst e;have u:q.leaf.typ=r.leaf.typ:=congrArg Prod.snd e;have s:r.leaf ≠ q.leaf:=λj=>F (by
     have:r=q:=by cases r;cases q;simp only at g j;rw [g,j]
     rw [this];exact c)
    refine x (GH.mk r.path r.leaf.typ true true r.leaf q.leaf) ((i _).2 ⟨⟨.inl rfl,⟨λ_=>⟨p,rfl⟩,λh=>(by cases h)⟩,⟨λ_=>⟨?_,u⟩,λh=>(by cases h)⟩⟩,?_⟩) rfl
    ·show GJ.mk r.path q.leaf ∈ _;rw [<- g];exact c
    ·unfold chgB;simp [s]
   ·refine x (GH.mk r.path r.leaf.typ true false r.leaf qF) ((i _).2 ⟨⟨.inl rfl,⟨λ_=>⟨p,rfl⟩,λh=>(by cases h)⟩,⟨λh=>(by cases h),λ_=>⟨rfl,λq c e=>hx ⟨q,c,e⟩⟩⟩⟩,rfl⟩) rfl
  ·exact ((i e).1 H).1.b.on p |>.1
 ·intro h;by_cases hx:∃q ∈ zF [] a,rkey q=rkey r
  ·obtain ⟨q,c,e⟩:=hx;have g:q.path=r.path:=congrArg Prod.fst e;have u:q.leaf.typ=r.leaf.typ:=congrArg Prod.snd e;by_cases hl:q.leaf=r.leaf
   ·left;have t:q=r:=by cases r;cases q;simp only at g hl;rw [g,hl]
    subst t;refine ⟨c,λf D j=>?_⟩;obtain ⟨o,v⟩:=(i f).1 D;have z:q.path=f.path:=congrArg Prod.fst j;have w:q.leaf.typ=f.typ:=congrArg Prod.snd j;obtain ⟨I,E⟩:=o.a.one G (y:=true) (m:=q.leaf) ⟨λ_=>⟨by rw [<- z];exact c,w⟩,λh=>(by cases h)⟩;obtain ⟨A,K⟩:=o.b.one J (y:=true) (m:=q.leaf) ⟨λ_=>⟨by rw [<- z];exact h,w⟩,λh=>(by cases h)⟩;exact chg_ne v I A (E.trans K.symm)
   ·right;refine ⟨GH.mk r.path r.leaf.typ true true q.leaf r.leaf,(i _).2 ⟨⟨.inl rfl,⟨λ_=>⟨?_,u⟩,λh=>(by cases h)⟩,⟨λ_=>⟨h,rfl⟩,λh=>(by cases h)⟩⟩,?_⟩,rfl,rfl⟩
    ·show GJ.mk r.path q.leaf ∈ _;rw [<- g];exact c
    ·unfold chgB;simp [hl]
  ·right;exact ⟨GH.mk r.path r.leaf.typ false true qF r.leaf,(i _).2 ⟨⟨.inr rfl,⟨λh=>(by cases h),λ_=>⟨rfl,λq c e=>hx ⟨q,c,e⟩⟩⟩,⟨λ_=>⟨h,rfl⟩,λh=>(by cases h)⟩⟩,rfl⟩,rfl,rfl⟩
theorem leaf_bk (l:GE):4<=GE.bk l:=by unfold GE.bk;omega
theorem leaves_bk:∀ls:List GE,4 * ls.length<=(ls.map GE.bk).sum
 | []=>by simp
 | l::ls=>by
  have:=leaves_bk ls;have:=leaf_bk l;simp only [ul,uw,sD];omega
theorem rows4:∀(t:List GA),4 * (zF [] t).length<=GA.bks t:=by
 refine vk (by simp [zF]) ?_;intro x r h f;have g:=leaves_bk x.leaves;have c:=bk_node x;rw [show x::r=[x]++r from rfl,vG,qz,xk];simp only [uq,ut];rw [len_rows x.subs ([]++[x.name]) []];show _<=x.bk+GA.bks r;omega
end Go.Vv
