/- Plain laws, as far as they are leaned on. -/
import Derived.Test.YtmpfjlkfmckohaaGreatD
import Derived.Test.YtmpfjlkfmckohaaGreatVvMl
set_option linter.all false
namespace Go.Vv
open Go
variable {b:UInt8} {σ:Type} {L:List GJ} {q:GE->Bool} {l:GE} {n d:Nat} {a:List UInt8} {ls L0:List GE} {r:GK} {del:GE->Option Bool} {k:Int} {there:Bool} {e:GC} {rs ra rb:List GK}
def alnum (b:UInt8):Bool:=(decide (97<=b.toNat)&&decide (b.toNat<=122)) || (decide (65<=b.toNat)&&decide (b.toNat<=90)) || (decide (48<=b.toNat)&&decide (b.toNat<=57))
def other (r:Int):Bool:=!((decide (97<=r)&&decide (r<=122)) || (decide (65<=r)&&decide (r<=90)) || (decide (48<=r)&&decide (r<=57)))
def runeIdx (q:Int->Bool) (s:List UInt8) (i:Nat):Int :=
 if h:i < s.length then (if q (dec s i).1 then i else if (dec s i).2=0 then -1 else runeIdx q s (i+(dec s i).2)) else -1
termination_by s.length - i
decreasing_by omega
theorem dec_width (s:List UInt8) (i:Nat) (h:i < s.length):1<=(dec s i).2:=by
 have hs:i < (⟨s.toArray⟩:ByteArray).size:=by simpa [ByteArray.size] using h
 by_cases ha:((⟨s.toArray⟩:ByteArray)[i]'hs).toNat < 128
 ·unfold dec;rw [decode_ascii _ i hs ha];exact ue _
 ·exact (decode_high _ i hs (by omega)).2
theorem dec_low {s:List UInt8} {i:Nat} (c:s[i]?=some b) (h:b.toNat < 128):dec s i=(b.toNat,1):=by
 have f:i < s.length:=(ua.1 c).1;have hs:i < (⟨s.toArray⟩:ByteArray).size:=by simpa [ByteArray.size] using f
 have e:((⟨s.toArray⟩:ByteArray)[i]'hs)=b:=by
  have g:((⟨s.toArray⟩:ByteArray)[i]'hs)=s[i]:=rfl;rw [g];rw [ui f] at c;injection c
 unfold dec;rw [decode_ascii _ i hs (by rw [e];exact h),e]
theorem dec_hi {s:List UInt8} {i:Nat} (c:s[i]?=some b) (h:128<=b.toNat):128<=(dec s i).1:=by
 have f:i < s.length:=(ua.1 c).1;have hs:i < (⟨s.toArray⟩:ByteArray).size:=by simpa [ByteArray.size] using f
 have e:((⟨s.toArray⟩:ByteArray)[i]'hs)=b:=by
  have g:((⟨s.toArray⟩:ByteArray)[i]'hs)=s[i]:=rfl;rw [g];rw [ui f] at c;injection c
 exact (decode_high _ i hs (by rw [e];exact h)).1
theorem other_alnum:other (b.toNat:Int)=!alnum b:=by
 unfold other alnum;congr 1;rw [uS];simp;omega
theorem rune_all {s:List UInt8} (h:s.all alnum=true):∀(n i:Nat),s.length - i=n->runeIdx other s i=-1
 | n,i,hn=>by
  rw [runeIdx.eq_def];by_cases hi:i < s.length
  ·rw [po hi];have g:s[i]?=some s[i]:=ui hi;have f:alnum s[i]=true:=by rw [uw] at h;exact h _ (ph hi)
   have c:s[i].toNat < 128:=by
    unfold alnum at f;simp only [te,ud,uo] at f;omega
   rw [dec_low g c];simp only [other_alnum,f,sj,up,uO,pw];exact rune_all h (s.length - (i+1)) (i+1) rfl
  ·rw [dif_neg hi]
 termination_by n=>n
 decreasing_by omega
theorem rune_some {s:List UInt8} {k:Nat} {b:UInt8} (c:s[k]?=some b) (h:alnum b=false):∀(n i:Nat),k - i=n->i<=k->0<=runeIdx other s i
 | n,i,hn,hik=>by
  have m:k < s.length:=(ua.1 c).1;have hi:i < s.length:=by omega
  rw [runeIdx.eq_def,po hi];by_cases ho:other ((dec s i).1:Nat)=true
  ·rw [uz ho];omega
  ·rw [u6 ho];have g:s[i]?=some s[i]:=ui hi;have f:s[i].toNat < 128:=by
    refine Decidable.byContradiction λhh=>ho ?_;have:=dec_hi g (by omega);unfold other;simp;omega
   rw [dec_low g f] at ho ⊢;rw [other_alnum] at ho;have j:i ≠ k:=by
    rintro rfl
    rw [g] at c;injection c with c;subst c;rw [h] at ho;exact ho rfl
   simp only [pw,uO];exact rune_some c h (k - (i+1)) (i+1) rfl (by omega)
 termination_by n=>n
 decreasing_by omega

def nameB (s:zj):Bool:=decide (1<=s.length)&&decide (s.length<=12)&&s.all alnum
def xN (p:List zj):Bool:=decide (1<=p.length)&&decide (p.length<=3)&&p.all nameB
theorem bnd1 (n:Nat):decide ((n:Int) >= 1)=decide (1<=n):=sW.2 (by omega)
theorem bnd12 (n:Nat):decide ((n:Int)<=12)=decide (n<=12):=sW.2 (by omega)
theorem bnd3 (n:Nat):decide ((n:Int)<=3)=decide (n<=3):=sW.2 (by omega)
theorem rune_loop (q:Int->Bool) (s:zj) {f:Nat->Option (Out Int Nat)} (c:∀i,f i=if i < s.length then (if q (dec s i).1=true then some (.ret (i:Int)) else some (.nxt (i+(dec s i).2))) else some (.brk i)) :
  ∀(k i:Nat),s.length - i=k->lp (wU f i) (λ_=>some (-1:Int))=some (runeIdx q s i)
 | k,i,hk=>by
  rw [loopW_eq,runeIdx.eq_def,c];by_cases h:i < s.length
  ·have g:=dec_width s i h;rw [uz h,po h];by_cases hq:q (dec s i).1=true
   ·simp [hq]
   ·have h0:¬ (dec s i).2=0:=by omega
    simp only [u6 hq,u6 h0];exact rune_loop q s c (s.length - (i+(dec s i).2)) _ rfl
  ·rw [u6 h,dif_neg h];rfl
 termination_by k=>k
 decreasing_by omega
theorem stringsContains_other (s:zj):xj s (λx=>qd x)=some (!s.all alnum):=by
 have e:(λx=>qd x)=λx=>some (other x):=by
  funext x;unfold qd other;congr 1;rw [uS];simp
 unfold xj wN ww;rw [e,rune_loop other s (λi=>by simp) _ 0 rfl];simp only [uc];congr 1;cases h:s.all alnum with
 | true=>rw [rune_all h _ 0 rfl];rfl
 | false =>
  rw [List.all_eq_false] at h;obtain ⟨b,f,g⟩:=h;obtain ⟨k,c,rfl⟩:=List.getElem_of_mem f;have:=rune_some (ui c) (by simpa using g) _ 0 rfl (tH _);simp [this]
theorem opIsName_is (s:zj):opIsName s=some (nameB s):=by
 unfold opIsName nameB;rw [stringsContains_other,bnd1,bnd12];cases h1:decide (1<=s.length) <;> cases h2:decide (s.length<=12) <;> simp
theorem contains_is {f:zj->Option Bool} {q:zj->Bool} (p:List zj) (c:∀x ∈ p,f x=some (q x)):yx p f=some (p.any q):=by
 unfold yx xz;rw [first_loop p c];simp only [uc,firstI_any]
theorem opMayPath_is (p:List zj):qc p=some (xN p):=by
 unfold qc xN;rw [contains_is (q:=λs=>!nameB s) p (λx _=>by unfold opMayPathC1;rw [opIsName_is];rfl),bnd1,bnd3];have e:p.any (λs=>!nameB s)=!p.all nameB:=by rw [uS];simp
 rw [e];cases h1:decide (1<=p.length) <;> cases h2:decide (p.length<=3) <;> simp
def actorB (a:GL):Bool:=decide (a.rep < 16)&&decide (a.inc >= 1)&&decide (a.inc<=4)
def dotB (d:GF):Bool:=actorB d.actor&&decide (d.seq >= 1)&&decide (d.seq<=1048576)
theorem dotMay_is (d:GF):dotMay d=some (dotB d):=rfl
def dotLt (a b:GF):Bool:=if a.actor.rep ≠ b.actor.rep then decide (a.actor.rep < b.actor.rep) else if a.actor.inc ≠ b.actor.inc then decide (a.actor.inc < b.actor.inc) else decide (a.seq < b.seq)
def cmpI (a b:Int):Int:=if a < b then -1 else if b < a then 1 else 0
theorem cmpU8is (a b:Int):xh a b=some (cmpI a b):=by
 unfold xh wJ cmpI;simp only [ru,uc,up,uO,uo,gt_iff_lt];split <;> (try split) <;> rfl
theorem cmpU32is (a b:Int):x7 a b=some (cmpI a b):=by
 unfold x7 wr cmpI;simp only [ru,uc,up,uO,uo,gt_iff_lt];split <;> (try split) <;> rfl
theorem cmpU64is (a b:Int):xu a b=some (cmpI a b):=by
 unfold xu wq cmpI;simp only [ru,uc,up,uO,uo,gt_iff_lt];split <;> (try split) <;> rfl
def or2 (a b:Int):Int:=if a ≠ 0 then a else b
theorem cmpOr2_is (a b:Int):qL [a,b]=some (or2 a b):=by
 unfold qL or2;by_cases h1:a=0 <;> by_cases h2:b=0 <;> simp [zy,h1,h2]
def actorCmp (a b:GL):Int:=or2 (cmpI a.rep b.rep) (cmpI a.inc b.inc)
def dotCmp (a b:GF):Int:=or2 (actorCmp a.actor b.actor) (cmpI a.seq b.seq)
theorem dotXcompare_is (a b:GL):qI a b=some (actorCmp a b):=by
 unfold qI;rw [cmpU8is,cmpU32is];simp only [uc];rw [cmpOr2_is];rfl
theorem dotCompare_is (a b:GF):ql a b=some (dotCmp a b):=by
 unfold ql;rw [dotXcompare_is,cmpU64is];simp only [uc];rw [cmpOr2_is];rfl
theorem dotCmp_lt (a b:GF):decide (dotCmp a b >= 0)=!dotLt a b:=by
 unfold dotCmp actorCmp dotLt cmpI or2
 grind

def rising:List GF->Bool
 | a::b::r=>dotLt a b&&rising (b::r)
 | _=>true
def vp (ds:List GF) (i:Nat) (x:GF):Bool:=decide (i=0) || dotLt (ds.getD (i - 1) default) x
theorem rising_loop (ds:List GF) {g:Nat->GF->Unit->Option (Out Bool Unit)}
  (p:∀i x,ds[i]?=some x->g i x ()=if (dotB x&&vp ds i x)=true then some (.nxt ()) else some (.ret false)) :
  lp (zy g ds 0 ()) (λ_=>some true)=some (ds.all dotB&&rising ds):=by
 have key:∀(L pre:List GF),ds=pre++L->lp (zy g L pre.length ()) (λ_=>some true)=some (L.all dotB&&rising (match pre.getLast? with | some y=>y::L | none=>L)):=by
  intro L
  induction L with
  | nil=>intro pre h;cases hp:pre.getLast? <;> simp [zy,rising]
  | cons x t ih =>
   intro pre h;have s:ds[pre.length]?=some x:=by rw [h];simp
   have c:=ih (pre++[x]) (by rw [h];simp);simp only [ul,uh,uC,uV,List.getLast?_append,pi,rS] at c;simp only [zy,p _ _ s];cases hp:pre.getLast? with
   | none =>
    have f:pre=[]:=rX.1 hp;subst f;simp only [uC,uV] at c ⊢;cases hd:dotB x <;> simp [vp,hd,c]
   | some y =>
    have j:pre ≠ []:=by rintro rfl;simp at hp
    have h0:0 < pre.length:=rL.2 j;have m:ds.getD (pre.length - 1) default=y:=by
     rw [uN,h,uk (by omega)];rw [sY] at hp;rw [hp];rfl
    have o:vp ds pre.length x=dotLt y x:=by
     unfold vp;rw [m];have:decide (pre.length=0)=false:=uQ (by omega);rw [this];rfl
    rw [o];cases hd:dotB x <;> cases hlt:dotLt y x <;> simp [hd,hlt,c,rising]
 have:=key ds [] rfl;simpa using this
theorem same_loop {α:Type} [DecidableEq α] (M:List α) {eq:α->α->Bool} (g:∀a b,eq a b=decide (a=b)) {f:Nat->α->Unit->Option (Out Bool Unit)} :
  ∀(L:List α) (i:Nat),L.length+i=M.length->(∀j x,L[j]?=some x->f (i+j) x ()=(vm M ((i+j:Nat):Int)).bind λy=>if (!eq x y)=true then some (.ret false) else some (.nxt ())) ->
  zy f L i ()=if L=M.drop i then some (.inr ()) else some (.inl false)
 | [],i,hl,_=>by
  rw [tj (by simp at hl;omega)];rfl
 | x::t,i,hl,h=>by
  simp only [uh] at hl;have hi:i < M.length:=by omega
  have h0:=h 0 x rfl;simp only [tF] at h0;rw [qV hi] at h0;have o:=same_loop M g (f:=f) t (i+1) (by omega) (λj y m=>by have:=h (j+1) y m;rw [show i+1+j=i+(j+1) by omega];exact this);have e:M.drop i=M[i]::M.drop (i+1):=(sH hi).symm;simp only [zy,h0,uc,g,e];by_cases hx:x=M[i]
  ·simp only [hx,rE,sj,up,uO,o,s8,pF]
  ·have c:¬ (x::t=M[i]::M.drop (i+1)):=λhh=>hx (List.cons.inj hh).1;simp only [uQ hx,tT,uv,u6 c]
theorem dotEq (a b:GF):(a.actor.rep==b.actor.rep&&(a.actor.inc==b.actor.inc&&(a.seq==b.seq&&true)))=decide (a=b):=by
 rcases a with ⟨⟨g,f⟩,a3⟩;rcases b with ⟨⟨c,h⟩,i⟩
 rw [uS];simp [se]
theorem slicesEqualDot_is (L M:List GF):wB L M=some (decide (L=M)):=by
 unfold wB;by_cases hl:L.length=M.length
 ·have e:((L.length:Int) != (M.length:Int))=false:=by simp;omega
  rw [e,same_loop M dotEq L 0 (by omega) (λj x c=>by simp)];by_cases h:L=M <;> simp [h]
 ·have e:((L.length:Int) != (M.length:Int))=true:=by simp;omega
  rw [e,uQ (λh=>hl (by rw [h]))];rfl
section
variable {α ρ:Type}
def allI (g:Nat->α->Bool) (L:List α):Bool:=L.zipIdx.all λp=>g p.2 p.1
theorem allI_iff {g:Nat->α->Bool} {L:List α}:allI g L=true ↔ ∀i x,L[i]?=some x->g i x=true:=by
 unfold allI;rw [uw];constructor
 ·intro h i x c;exact h (x,i) (sJ.2 c)
 ·rintro h ⟨x,i⟩ c
  exact h i x (sJ.1 c)
theorem loopL_allI (g:Nat->α->Bool) {r:ρ} {f:Nat->α->Unit->Option (Out ρ Unit)}:∀(L:List α) (k:Nat),(∀i x,L[i]?=some x->f (k+i) x ()=if g (k+i) x=true then some (.nxt ()) else some (.ret r)) ->
  zy f L k ()=if ((L.zipIdx k).all λp=>g p.2 p.1)=true then some (.inr ()) else some (.inl r)
 | [],_,_=>rfl
 | x::t,k,h=>by
  have h0:=h 0 x rfl;simp only [tF] at h0;have c:=loopL_allI g (f:=f) (r:=r) t (k+1) (λi y j=>by have:=h (i+1) y (by simpa using j);rw [show k+1+i=k+(i+1) by omega];exact this);simp only [zy,h0,rA,tf];by_cases hg:g k x=true
  ·simp only [hg,uv,c,uZ]
  ·simp only [hg,up,uO,rq]
theorem lp_all (g:Nat->α->Bool) {r:σ} {L:List α} {f:Nat->α->Unit->Option (Out σ Unit)} {rest:Unit->Option σ} (c:∀i x,L[i]?=some x->f i x ()=if g i x=true then some (.nxt ()) else some (.ret r)) :
  lp (zy f L 0 ()) rest=if allI g L=true then rest () else some r:=by
 rw [loopL_allI g L 0 (λi x h=>by simpa using c i x h)];unfold allI;split <;> rfl
end
theorem wrap_succ {j:Nat} (c:j+1<=maxLen):IntKind.wrap .i64 (((j+1:Nat):Int) - 1)=(j:Int):=by
 simp only [maxLen] at c;rw [w64n (by omega)];omega
theorem wrap_add1 {j:Nat} (c:j+1<=maxLen):IntKind.wrap .i64 ((j:Int)+1)=((j+1:Nat):Int):=by
 simp only [maxLen] at c;rw [w64n (by omega)];omega
theorem pos_succ (j:Nat):decide (((j+1:Nat):Int) > 0)=true:=tx (by omega)
def timeB (n:Int):Bool:=decide (n >= 1)&&decide (n<=1099511627776)
def aheadI (a b:GJ):Bool:=if a.time ≠ b.time then decide (a.time < b.time) else dotLt a.dot b.dot
theorem leafXisTime_is (n:Int):qF n=some (timeB n):=rfl
theorem leafXisText_is (s:zj):vB s=some (decide (s.length<=40)):=by unfold vB;rw [sW.2 (show ((s.length:Int)<=40) ↔ s.length<=40 by omega)]
theorem dotCmp_neg (a b:GF):decide (dotCmp a b < 0)=dotLt a b:=by
 have h:=dotCmp_lt a b;have:decide (dotCmp a b < 0)=!decide (dotCmp a b >= 0):=by rw [uS];simp
 rw [this,h,Bool.not_not]
theorem leafAhead_is (a:Int) (d:GF) (b:Int) (o:GF):leafAhead a d b o=some (if a ≠ b then decide (a < b) else dotLt d o):=by
 unfold leafAhead leafXcompare;rw [cmpU64is,dotCompare_is];simp only [uc,cmpOr2_is];congr 1;by_cases h:a=b
 ·subst h;have:cmpI a a=0:=by unfold cmpI;simp
  simp [or2,this,dotCmp_neg]
 ·have:cmpI a b ≠ 0:=by unfold cmpI;split <;> (try split) <;> omega
  simp only [or2,this,ne_eq,not_false_eq_true,uv,h];unfold cmpI;rw [uS];simp only [uo];split <;> (try split) <;> omega
def prevI {α:Type} [Inhabited α] (L:List α) (i:Nat):α:=L.getD (i - 1) default
def itemB (timed:Bool) (x:GJ):Bool:=dotB x.dot&&decide (x.text.length<=40)&&(if timed then timeB x.time else decide (x.time=0))
def riseB (L:List GJ):Bool:=allI (λi x=>decide (i=0) || aheadI (prevI L i) x) L
def onceB (L:List GJ):Bool:=decide ((L.map (·.dot)).Nodup)
theorem eqb_iff (a b:GF):GF.eqb a b=decide (a=b):=by unfold GF.eqb;exact dotEq a b
def vO (m:List (GF×Int)):List GF:=m.map (·.1)
theorem mput_keys (m:List (GF×Int)) (k:GF) (v:Int):vO (mput GF.eqb m k v)=if k ∈ vO m then vO m else vO m++[k]:=by
 induction m with
 | nil=>simp [mput,vO]
 | cons e r ih =>
  simp only [mput,eqb_iff];by_cases h:k=e.1
  ·simp [h,vO]
  ·simp only [uQ h,up,uO,vO,uy,uF] at ih ⊢;rw [ih];by_cases h2:k ∈ r.map (·.1) <;> simp [h,h2]
theorem twice_fold:∀(L:List GJ) (m:List (GF×Int)),(vO m).Nodup ->
  (L.foldl (λs x=>mput GF.eqb s x.dot (IntKind.wrap .i64 ((zo GF.eqb 0 s x.dot)+1))) m).length<=m.length+L.length /\
  ((L.foldl (λs x=>mput GF.eqb s x.dot (IntKind.wrap .i64 ((zo GF.eqb 0 s x.dot)+1))) m).length=m.length+L.length ↔ (vO m++L.map (·.dot)).Nodup)
 | [],m,h=>by simp [h]
 | x::t,m,h=>by
  simp only [sx];have c:=mput_keys m x.dot (IntKind.wrap .i64 ((zo GF.eqb 0 m x.dot)+1));generalize hm:mput GF.eqb m x.dot (IntKind.wrap .i64 ((zo GF.eqb 0 m x.dot)+1))=m' at c;have g:m'.length=(vO m').length:=by simp [vO]
  have v:m.length=(vO m).length:=by simp [vO]
  by_cases hx:x.dot ∈ vO m
  ·rw [uz hx] at c;have f:=twice_fold t m' (by rw [c];exact h);rw [c] at f g;refine ⟨by simp only [uh];omega,?_⟩;constructor
   ·intro p;simp only [uh] at p;omega
   ·intro o;rw [List.nodup_append] at o;exact absurd rfl (o.2.2 _ hx _ (by simp))
  ·rw [u6 hx] at c;have i:(vO m++[x.dot]).Nodup:=by
    rw [List.nodup_append];refine ⟨h,by simp,λa u b j=>?_⟩;simp at j;subst j;rintro rfl;exact hx u
   have f:=twice_fold t m' (by rw [c];exact i);rw [c] at f g;simp only [ul,uh,uC] at g;refine ⟨by simp only [uh];omega,?_⟩;have e:vO m++[x.dot]++t.map (·.dot)=vO m++(x::t).map (·.dot):=by simp
   rw [<- e,<- f.2];simp only [uh];omega
theorem leafXtwice_is (L:List GJ):leafXtwice L=some (!onceB L):=by
 unfold leafXtwice;rw [loopL_fold (λs x=>mput GF.eqb s x.dot (IntKind.wrap .i64 ((zo GF.eqb 0 s x.dot)+1))) L 0 [] (λ_ _ _ _=>rfl)];have h:=twice_fold L [] (by simp [vO]);simp only [uC,uV,vO,tM,u7] at h;simp only [wV,onceB];congr 1;generalize List.length (List.foldl _ _ _)=n at h ⊢;by_cases hn:(L.map (·.dot)).Nodup
 ·have:=h.2.2 hn;rw [tx hn,uQ (by omega)];rfl
 ·have c:n ≠ L.length:=λe=>hn (h.2.1 e);rw [uQ hn,tx (by omega)];rfl
theorem leafXitems_is (m:L.length<=maxLen) (c:Bool):qh L c=some (L.all (itemB c)&&riseB L&&onceB L):=by
 unfold qh;rw [lp_all (r:=false) (λi x=>itemB c x&&(decide (i=0) || aheadI (prevI L i) x))]
 ·rw [leafXtwice_is];have e:allI (λi x=>itemB c x&&(decide (i=0) || aheadI (prevI L i) x)) L=(L.all (itemB c)&&riseB L):=by
   rw [uS,ud,riseB,allI_iff,allI_iff,uw];constructor
   ·intro h;exact ⟨λx f=>by obtain ⟨i,hi⟩:=tD.1 f;have:=h i x hi;simp only [ud] at this;exact this.1,λi x f=>by have:=h i x f;simp only [ud] at this;exact this.2⟩
   ·rintro ⟨s,o⟩ i x f
    simp only [ud];exact ⟨s x (uK f),o i x f⟩
  rw [e];simp only [uc,Bool.not_not];cases L.all (itemB c)&&riseB L <;> simp
 ·intro i x f;have hi:i < L.length:=(ua.1 f).1;simp only [dotMay_is,leafXisText_is,leafXisTime_is,uc,leafAhead_is];have t:itemB c x=(dotB x.dot&&decide (x.text.length<=40)&&(c==timeB x.time)&&(c || decide (x.time=0))):=by
   unfold itemB;cases c
   ·by_cases h0:x.time=0
    ·simp [h0,show timeB 0=false from rfl]
    ·simp [h0]
   ·simp
  rw [t];cases hd:dotB x.dot
  ·simp
  cases ht:decide (x.text.length<=40)
  ·simp
  by_cases htt:c=timeB x.time
  ·have u:(x.time != 0)=!decide (x.time=0):=by rw [uS];simp
   have g:(c==timeB x.time)=true:=by simpa using htt
   rw [u,g];cases hzz:(c || decide (x.time=0))
   ·have:(!c&&!decide (x.time=0))=true:=by rw [<- Bool.not_or,hzz];rfl
    simp [this]
   have:(!c&&!decide (x.time=0))=false:=by rw [<- Bool.not_or,hzz];rfl
   rw [this];rcases i with _ | j
   ·simp [wA,htt]
   ·rw [wrap_succ (by simp only [maxLen] at m ⊢;omega),pos_succ];have p:(j:Int) < (L.length:Int):=by omega
    simp [wA,p,prevI,aheadI,htt];by_cases hq:(L[j]?.getD default).time=x.time
    ·cases hdl:dotLt (L[j]?.getD default).dot x.dot <;> simp [hq,hdl]
    ·by_cases hlt:(L[j]?.getD default).time < x.time
     ·simp [hq,hlt,Int.not_le.2 hlt]
     ·simp [hq,hlt,Int.not_lt.1 hlt]
  ·have g:(c==timeB x.time)=false:=by simpa using htt
   rw [g];simp [htt]

theorem itemEq (a b:GJ):(a.time==b.time&&(a.dot.actor.rep==b.dot.actor.rep&&(a.dot.actor.inc==b.dot.actor.inc&&(a.dot.seq==b.dot.seq&&(a.text==b.text&&true)))))=decide (a=b):=by
 rcases a with ⟨a0,⟨⟨g,f⟩,a3⟩,a4⟩;rcases b with ⟨b0,⟨⟨c,h⟩,j⟩,i⟩
 rw [uS];simp [se]
theorem slicesEqualItem_is (L M:List GJ):wj L M=some (decide (L=M)):=by
 unfold wj;by_cases hl:L.length=M.length
 ·have e:((L.length:Int) != (M.length:Int))=false:=by simp;omega
  rw [e,same_loop M itemEq L 0 (by omega) (λj x c=>by simp)];by_cases h:L=M <;> simp [h]
 ·have e:((L.length:Int) != (M.length:Int))=true:=by simp;omega
  rw [e,uQ (λh=>hl (by rw [h]))];rfl
theorem vC (a b:GE):y6 a b=some (decide (a=b)):=by
 unfold y6;simp only [slicesEqualItem_is,slicesEqualDot_is,dotEq];rcases a with ⟨a0,h,g,a3,a4,a5,p⟩;rcases b with ⟨b0,c,j,o,m,f,i⟩
 simp only [GE.mk.injEq];by_cases h0:a0=b0 <;> by_cases h1:h=c <;> by_cases h2:g=j <;> by_cases h3:a3=o <;> by_cases h4:a4=m <;> by_cases h5:a5=f <;> by_cases h6:p=i <;> simp [h0,h1,h2,h3,h4,h5,h6]
def dot0:GF:=⟨⟨0,0⟩,0⟩
def zeroB (l:GE):Bool:=decide (l.time=0)&&decide (l.dot=dot0)&&decide (l.text=[])
def tombsB (l:GE):Bool:=l.tombs.all dotB&&rising l.tombs&&l.tombs.all (λd=>!l.items.any λx=>decide (x.dot=d))
def leafB (l:GE):Bool :=
 if l.typ=1 then zeroB l&&decide (l.items=[])&&decide (l.tombs=[])
 else if l.typ=2 then decide (l.n=0)&&decide (l.items=[])&&decide (l.tombs=[])&&(if l.time=0 then decide (l.dot=dot0)&&decide (l.text=[]) else timeB l.time&&dotB l.dot&&decide (l.text.length<=40))
 else if l.typ=3 then decide (l.n=0)&&zeroB l&&(l.items.all (itemB false)&&riseB l.items&&onceB l.items)&&tombsB l
 else if l.typ=4 then decide (l.n=0)&&zeroB l&&decide (l.tombs=[])&&(l.items.all (itemB true)&&riseB l.items&&onceB l.items)
 else false
theorem containsItem_is {f:GJ->Option Bool} {q:GJ->Bool} (p:List GJ) (c:∀x ∈ p,f x=some (q x)):yQ p f=some (p.any q):=by
 unfold yQ xY;rw [first_loop p c,uc,firstI_any]
theorem leafXhas_is (L:List GJ) (d:GF):leafXhas L d=some (L.any λx=>decide (x.dot=d)):=by
 unfold leafXhas;rw [containsItem_is (q:=λx=>decide (x.dot=d)) L (λx _=>by unfold leafXhasC1;rw [dotEq]),uc]
theorem rising_allI (ds:List GF):rising ds=allI (λi x=>vp ds i x) ds:=by
 have h:=rising_loop ds (g:=λi x _=>if (dotB x&&vp ds i x)=true then some (.nxt ()) else some (.ret false)) (λ_ _ _=>rfl);have key:∀(L pre:List GF),ds=pre++L->rising (match pre.getLast? with | some y=>y::L | none=>L)=(L.zipIdx pre.length).all λp=>vp ds p.2 p.1:=by
  intro L
  induction L with
  | nil=>intro pre _;cases pre.getLast? <;> simp [rising]
  | cons x t ih =>
   intro pre hd;have c:=ih (pre++[x]) (by rw [hd];simp);simp only [ul,uh,uC,uV,List.getLast?_append,pi,rS] at c;simp only [rA,tf];cases hp:pre.getLast? with
   | none =>
    have f:pre=[]:=rX.1 hp;subst f;simp only [uC,uV] at c ⊢;rw [c];simp [vp]
   | some y =>
    have j:pre ≠ []:=by rintro rfl;simp at hp
    have h0:0 < pre.length:=rL.2 j;have m:ds.getD (pre.length - 1) default=y:=by
     rw [uN,hd,uk (by omega)];rw [sY] at hp;rw [hp];rfl
    have o:vp ds pre.length x=dotLt y x:=by
     unfold vp;rw [m,uQ (by omega)];rfl
    rw [o,<- c];simp [rising]
 simpa [allI] using key ds [] rfl
theorem leafXtombs_is (g:l.tombs.length<=maxLen):leafXtombs l=some (tombsB l):=by
 unfold leafXtombs;rw [lp_all (r:=false) (λi x=>dotB x&&vp l.tombs i x&&!(l.items.any λy=>decide (y.dot=x)))]
 ·have e:allI (λi x=>dotB x&&vp l.tombs i x&&!(l.items.any λy=>decide (y.dot=x))) l.tombs=tombsB l:=by
   unfold tombsB;rw [uS,rising_allI,ud,ud,allI_iff,allI_iff,uw,uw];constructor
   ·intro h;refine ⟨⟨λx c=>?_,λi x c=>?_⟩,λx c=>?_⟩
    ·obtain ⟨i,hi⟩:=tD.1 c;have:=h i x hi;simp only [ud] at this;exact this.1.1
    ·have:=h i x c;simp only [ud] at this;exact this.1.2
    ·obtain ⟨i,hi⟩:=tD.1 c;have:=h i x hi;simp only [ud] at this;exact this.2
   ·rintro ⟨⟨p,m⟩,s⟩ i x c
    have f:=uK c;simp only [ud];exact ⟨⟨p x f,m i x c⟩,s x f⟩
  rw [e];cases tombsB l <;> rfl
 ·intro i x c;have hi:i < l.tombs.length:=(ua.1 c).1;simp only [dotMay_is,uc,dotCompare_is,leafXhas_is];cases hd:dotB x
  ·simp [wA]
  rcases i with _ | j
  ·cases hh:(l.items.any λy=>decide (y.dot=x)) <;> simp [wA,vp]
  ·rw [wrap_succ (by simp only [maxLen] at g ⊢;omega),pos_succ];have t:(j:Int) < (l.tombs.length:Int):=by omega
   have o:vp l.tombs (j+1) x=dotLt (l.tombs.getD j default) x:=by unfold vp;simp
   have e:=dotCmp_lt (l.tombs.getD j default) x;rw [yl (by intro _;omega),o,u9];generalize l.tombs.getD j default=y at e ⊢;simp only [sj,BEq.rfl,uZ,uv,uc,e,tP];cases hlt:dotLt y x
   ·simp
   ·cases hh:(l.items.any λy=>decide (y.dot=x)) <;> simp
theorem leafMay_is (hi:l.items.length<=maxLen) (i:l.tombs.length<=maxLen):leafMay l=some (leafB l):=by
 unfold leafMay leafB;simp only [vC,leafXisTime_is,dotMay_is,leafXisText_is,leafXitems_is hi,leafXtombs_is i,dotEq,uc];rcases l with ⟨t,n,f,d,g,c,h⟩
 simp only [GE.mk.injEq,zeroB,sP,dot0];by_cases h1:t=1
 ·simp only [h1,uv];congr 1;rw [uS];simp [se];intros;exact rV.symm
 by_cases h2:t=2
 ·subst h2;by_cases h0:f=0
  ·subst h0;by_cases hd:d=⟨⟨0,0⟩,0⟩
   ·by_cases hx:g=[]
    ·simp [hd,hx];rw [uS];simp [se]
    ·simp [hd,hx]
   ·have s:((0:Int)==0&&!decide (d=⟨⟨0,0⟩,0⟩))=true:=by simp [hd]
    simp [hd];intro m;rcases d with ⟨⟨p,j⟩,o⟩
    simp_all
  ·cases htt:timeB f <;> cases hdd:dotB d <;> cases hxx:decide (g.length<=40) <;> simp_all [se];rw [uS];simp [se]
 by_cases h3:t=3
 ·subst h3;cases ha:(c.all (itemB false)&&riseB c&&onceB c) <;> cases hb:tombsB ⟨3,n,f,d,g,c,h⟩ <;> simp [se];rw [uS];simp [se];intros;exact rV.symm
 by_cases h4:t=4
 ·subst h4;cases ha:(c.all (itemB true)&&riseB c&&onceB c) <;> simp [se];rw [uS];simp [se];intros;exact rV.symm
 simp [h1,h2,h3,h4]

mutual
def GA.dep:GA->Nat
 | ⟨_,_,sb⟩=>GA.deps sb+1
def GA.deps:List GA->Nat
 | []=>0
 | x::r=>max x.dep (GA.deps r)
end
theorem dep_mem {x:GA}:∀{t:List GA},x ∈ t->x.dep<=GA.deps t
 | [],h=>by cases h
 | y::r,h=>by
  simp only [GA.deps];rcases uF.1 h with rfl | h
  ·omega
  ·have:=dep_mem h;omega
theorem wp (x:GA):GA.deps x.subs+1=x.dep:=by cases x;simp [GA.dep]
def Small (t:List GA):Prop:=GA.wfs t/\GA.bks t<=16777216
theorem bk_pos (x:GA):1<=x.bk:=by cases x;simp only [GA.bk];omega
theorem len_bks:∀t:List GA,t.length<=GA.bks t
 | []=>by simp [GA.bks]
 | x::r=>by have:=len_bks r;have:=bk_pos x;simp only [GA.bks,uh];omega
theorem bk_mem {x:GA}:∀{t:List GA},x ∈ t->x.bk<=GA.bks t
 | [],h=>by cases h
 | y::r,h=>by
  simp only [GA.bks];rcases uF.1 h with rfl | h
  ·omega
  ·have:=bk_mem h;omega
theorem sum_len {α:Type} {f:α->Nat} (h:∀x,1<=f x):∀l:List α,l.length<=(l.map f).sum
 | []=>by simp
 | x::r=>by have:=sum_len h r;have:=h x;simp only [uh,uy,rD];omega
theorem sum_mem {α:Type} {f:α->Nat} {x:α}:∀{l:List α},x ∈ l->f x<=(l.map f).sum
 | [],h=>by cases h
 | y::r,h=>by
  simp only [uy,rD];rcases uF.1 h with rfl | h
  ·omega
  ·have:=sum_mem (f:=f) h;omega
theorem bk_node (x:GA):x.name.length+1+((x.leaves.map GE.bk).sum+1)+(GA.bks x.subs+1)<=x.bk:=by cases x;simp only [GA.bk];omega
theorem Small.subs {t:List GA} (h:Small t) {x:GA} (c:x ∈ t):Small x.subs:=by
 refine ⟨?_,by have:=bk_mem c;have:=bk_node x;have:=h.2;omega⟩;have:=(GA.wfs_iff t).1 h.1 x c;cases x;simp only [GA.wf] at this;exact this.2.2
theorem Small.len {t:List GA} (h:Small t):t.length<=16777216:=uG (len_bks t) h.2
structure LeafOk (l:GE):Prop where
 items:l.items.length<=16777216
 tombs:l.tombs.length<=16777216
 time:0<=l.time
theorem Small.leaf {t:List GA} (h:Small t) {x:GA} (g:x ∈ t) {l:GE} (c:l ∈ x.leaves):LeafOk l:=by
 have o:=bk_mem g;have j:=bk_node x;have u:=h.2;have m:l.bk<=_:=sum_mem (f:=GE.bk) c;have s:(l.items.map GJ.bk).sum+1+((l.tombs.map GF.bk).sum+1)<=l.bk:=by unfold GE.bk;omega
 have i:=sum_len (f:=GJ.bk) (λx=>by unfold GJ.bk;omega) l.items;have p:=sum_len (f:=GF.bk) (λx=>by unfold GF.bk;omega) l.tombs;refine ⟨by omega,by omega,?_⟩;have:=(GA.wfs_iff t).1 h.1 x g;cases x;simp only [GA.wf] at this;have:=this.2.1.2 l c;unfold GE.wf at this;have:=this.2.2.1;unfold InK at this;simp [IntKind.min,IntKind.max,IntKind.signed,IntKind.bits] at this;omega
theorem Small.leaves {t:List GA} (h:Small t) {x:GA} (c:x ∈ t):x.leaves.length<=16777216:=by
 have j:=bk_mem c;have i:=bk_node x;have m:=h.2;have g:=sum_len (f:=GE.bk) (λx=>by unfold GE.bk;omega) x.leaves;omega
def upB (t:List GA):Bool:=allI (λi x=>decide (i=0) || Op.bytesLess (t.getD (i - 1) default).name x.name) t
def leavesB (ls:List GE):Bool:=allI (λi l=>leafB l&&(decide (i=0) || decide ((ls.getD (i - 1) default).typ < l.typ))) ls
mutual
def nodeB (d:Nat):GA->Bool
 | ⟨nm,ls,sb⟩=>nameB nm&&!(ls.isEmpty&&sb.isEmpty)&&((sb.isEmpty || decide (d+1 < 3))&&upB sb&&xD (d+1) sb)&&leavesB ls
def xD (d:Nat):List GA->Bool
 | []=>true
 | x::r=>nodeB d x&&xD d r
end
def treeB (d:Nat) (t:List GA):Bool:=(t.isEmpty || decide (d < 3))&&upB t&&xD d t
theorem wg (d:Nat):∀t,xD d t=t.all (nodeB d)
 | []=>rfl
 | x::r=>by simp only [xD,tf,wg d r]
theorem nodeB_eq (d:Nat) (x:GA):nodeB d x=(nameB x.name&&!(x.leaves.isEmpty&&x.subs.isEmpty)&&treeB (d+1) x.subs&&leavesB x.leaves):=by cases x;rfl
theorem up_nodes (d:Nat) (t:List GA):allI (λi x=>nodeB d x&&(decide (i=0) || Op.bytesLess (t.getD (i - 1) default).name x.name)) t=(upB t&&xD d t):=by
 rw [uS,allI_iff,wg];simp only [ud,upB,allI_iff,uw];constructor
 ·intro h;exact ⟨λi x c=>(h i x c).2,λx c=>by obtain ⟨i,hi⟩:=tD.1 c;exact (h i x hi).1⟩
 ·rintro ⟨g,f⟩ i x c
  exact ⟨f x (uK c),g i x c⟩
theorem treeXmayN_is:∀(n:Nat) (t:List GA) (d:Nat),GA.deps t < n->d<=3->Small t->vt n t (d:Int)=some (treeB d t)
 | 0,_,_,h,_,_=>by omega
 | n+1,t,d,h,hd,hs=>by
  unfold vt;by_cases hc:(decide ((t.length:Int) > 0)&&((d:Int)==3))=true
  ·rw [uz hc];simp only [ud,uo,sP] at hc;have:t.isEmpty=false:=by cases t <;> simp at hc ⊢
   have c:decide (d < 3)=false:=uQ (by omega);simp [treeB,this,c]
  ·rw [u6 hc];have u:(t.isEmpty || decide (d < 3))=true:=by
    simp only [ud,uo,sP] at hc;cases t with
    | nil=>rfl
    | cons x r=>simp at hc ⊢;omega
   have J:=hs.len;rw [lp_all (r:=false) (λi x=>nodeB d x&&(decide (i=0) || Op.bytesLess (t.getD (i - 1) default).name x.name)),up_nodes]
   ·unfold treeB;rw [u,uZ];cases upB t&&xD d t <;> rfl
   ·intro i x z;have hi:i < t.length:=(ua.1 z).1;have m:=uK z;have A:=dep_mem m;have D:=wp x;have B:0 < t.length:=by omega
    have c:d < 3:=by
     simp only [ud,uo,sP] at hc;omega
    have G:IntKind.wrap .i64 ((d:Int)+1)=((d+1:Nat):Int):=by rw [w64n (by omega)];omega
    have I:=treeXmayN_is n x.subs (d+1) (by omega) (by omega) (hs.subs m);have C:=hs.leaves m;have E:=(hs.subs m).len;have s:IntKind.wrap .i64 ((x.leaves.length:Int)+(x.subs.length:Int))=((x.leaves.length+x.subs.length:Nat):Int):=by rw [w64n (by omega)];omega
    have F:((((x.leaves.length+x.subs.length:Nat):Int))==0)=(x.leaves.isEmpty&&x.subs.isEmpty):=by
     cases h1:x.leaves <;> cases h2:x.subs <;> simp <;> omega
    rw [opIsName_is,G,I,s,F,nodeB_eq];have v:lp (zy (λ(p:Nat) (w:GE) (s2:Unit)=>(((leafMay w).bind λg=>(wA ((((!g)==false)&&((decide ((p:Int) > (0:Int)))==true))=true->0<=(IntKind.wrap .i64 ((p:Int) - (1:Int)))/\(IntKind.wrap .i64 ((p:Int) - (1:Int))) < ((x.leaves).length:Int)) ((if ((!g) || ((decide ((p:Int) > (0:Int)))&&(decide (((x.leaves).getD (IntKind.wrap .i64 ((p:Int) - (1:Int))).toNat default).typ >= w.typ))))=true then some (.ret (.ret false)) else some (.nxt ()))))):Option (Out (Out Bool Unit) Unit))) x.leaves 0 ()) (λ(s2:Unit)=>some (.nxt ()))=if leavesB x.leaves=true then some (.nxt ()) else some (.ret false):=by
     rw [lp_all (r:=.ret false) (λi l=>leafB l&&(decide (i=0) || decide ((x.leaves.getD (i - 1) default).typ < l.typ)))]
     ·rfl
     ·intro j l f;have H:j < x.leaves.length:=(ua.1 f).1;have o:=hs.leaf m (uK f);rw [leafMay_is (by have:=o.items;simp only [maxLen];omega) (by have:=o.tombs;simp only [maxLen];omega)];simp only [uc];rcases j with _ | j
      ·cases leafB l <;> simp [wA]
      ·rw [wrap_succ (by simp only [maxLen];omega),pos_succ,u9,yl (by intro _;omega)];have e:decide ((x.leaves.getD j default).typ >= l.typ)=!decide ((x.leaves.getD j default).typ < l.typ):=by rw [uS];simp
       rw [e,so];generalize (x.leaves.getD j default)=y;cases leafB l <;> cases decide (y.typ < l.typ) <;> simp
    rw [v];simp only [uc];rcases i with _ | j
    ·cases nameB x.name <;> cases (x.leaves.isEmpty&&x.subs.isEmpty) <;> cases treeB (d+1) x.subs <;> cases leavesB x.leaves <;> simp [wA]
    ·rw [wrap_succ (by simp only [maxLen];omega),pos_succ,u9,yl (by intro _;omega),so];generalize (t.getD j default)=y;cases nameB x.name <;> cases (x.leaves.isEmpty&&x.subs.isEmpty) <;> cases treeB (d+1) x.subs <;> cases leavesB x.leaves <;> cases Op.bytesLess y.name x.name <;> simp
theorem vk {t:List GA} (h:Small t):vg t=some (treeB 0 t):=by
 unfold vg treeXmay;have:=anyN_of (g:=λn=>vt n t 0) (r:=treeB 0 t) (GA.deps t+1) (λn c=>by have:=treeXmayN_is n t 0 (by omega) (by omega) h;simpa using this);rw [this];rfl
theorem loopW_end {ρ:Type} {f:σ->Option (Out ρ σ)} (g:σ->Prop) (i:σ->Nat) (h:∀s,g s->(∃c,f s=some (.brk c)) \/ ∃c,f s=some (.nxt c)/\g c/\i c < i s):∀(k:Nat) (s:σ),i s=k->g s->∃c,wU f s=some (.inr c):=by
 intro k
 induction k using Nat.strongRecOn with
 | _ k ih =>
  intro s m hi;rw [loopW_eq];rcases h s hi with ⟨c,e⟩ | ⟨c,e,j,o⟩
  ·exact ⟨c,by rw [e]⟩
  ·rw [e];exact ih (i c) (by omega) c rfl j
theorem lpW_end {ρ:Type} {f:σ->Option (Out ρ σ)} {rest:σ->Option ρ} (c:σ->Prop) (i:σ->Nat) (m:∀s,∃v,rest s=some v) (j:σ) (hi:c j) (h:∀s,c s->(∃g,f s=some (.brk g)) \/ ∃g,f s=some (.nxt g)/\c g/\i g < i s):∃v,lp (wU f j) rest=some v:=by
 obtain ⟨g,e⟩:=loopW_end c i h _ j rfl hi;rw [e];exact m g
theorem idx_mem {α:Type} {L:List α} {i:Int} {x:α} (h:vm L i=some x):x ∈ L:=by
 unfold vm at h;split at h
 ·exact uK h
 ·cases h
theorem size_tot:∀(n:Nat) (t:List GA) (d:Int),GA.deps t < n->Small t->∃v,y4 n t d=some v
 | 0,_,_,h,_=>by omega
 | n+1,t,d,h,hs=>by
  unfold y4;have D:=hs.len;refine lpW_end (λs=>0<=s.2/\s.2<=(t.length:Int)) (λs=>(t.length - s.2.toNat)) (λ_=>⟨_,rfl⟩) _ ⟨by simp,by simp⟩ (λs hi=>?_);rcases s with ⟨a,i⟩
  obtain ⟨k,rfl⟩:∃k:Nat,i=(k:Int):=⟨i.toNat,by have:=hi.1;simp at this;omega⟩
  by_cases hc:(decide ((k:Int) < (t.length:Int))&&decide (d < 10))=true
  ·right;simp only [ud,uo] at hc;have p:k < t.length:=by omega
   have w:t[k] ∈ t:=ph p;have y:=dep_mem w;have A:=wp t[k];obtain ⟨v,B⟩:=size_tot n t[k].subs (IntKind.wrap .i64 (d+1)) (by omega) (hs.subs w);have z:=hs.leaves w;obtain ⟨s2,x⟩:=loopW_end (ρ:=Out Int (Int×Int)) (σ:=Int×Int) (f:=λs2:Int×Int=>(((vm t (k:Int)).bind λo=>(if decide (s2.2 < ((o.leaves).length:Int))=true then ((vm t (k:Int)).bind λj=>((vm j.leaves s2.2).bind λc=>(lp (zy (λ(C:Nat) (u:GJ) (m:Int)=>(some (.nxt (IntKind.wrap .i64 ((IntKind.wrap .i64 (m+(1:Int)))+((u.text).length:Int)))):Option (Out _ Int))) c.items 0 (IntKind.wrap .i64 ((IntKind.wrap .i64 ((IntKind.wrap .i64 (s2.1+(1:Int)))+((c.text).length:Int)))+((c.tombs).length:Int)))) λ(m:Int)=>some (.nxt (m,(IntKind.wrap .i64 (s2.2+(1:Int)))))))) else some (.brk (s2.1,s2.2)))):Option (Out (Out Int (Int×Int)) (Int×Int))))
    (λs=>0<=s.2/\s.2<=(t[k].leaves.length:Int)) (λs=>(t[k].leaves.length - s.2.toNat)) (λs hi=>by
     rcases s with ⟨b,i⟩
     obtain ⟨q,rfl⟩:∃q:Nat,i=(q:Int):=⟨i.toNat,by have:=hi.1;simp at this;omega⟩
     simp only [qV p,uc];by_cases hq:q < t[k].leaves.length
     ·right;have g:decide ((q:Int) < (t[k].leaves.length:Int))=true:=by simpa using hq
      simp only [g,uv,qV hq,uc];rw [loopL_fold (λ(m:Int) (u:GJ)=>IntKind.wrap .i64 ((IntKind.wrap .i64 (m+(1:Int)))+((u.text).length:Int))) _ 0 _ (λ_ _ _ _=>rfl),wV];refine ⟨_,rfl,?_,?_⟩
      ·simp only;rw [w64n (by omega)];omega
      ·simp only;rw [w64n (by omega)];omega
     ·left;have g:decide ((q:Int) < (t[k].leaves.length:Int))=false:=by simp;omega
      simp only [g];exact ⟨_,rfl⟩) _ ((IntKind.wrap .i64 ((IntKind.wrap .i64 ((IntKind.wrap .i64 (a+(1:Int)))+((t[k].name).length:Int)))+v)),(0:Int)) rfl ⟨by simp,by simp⟩
   refine ⟨(s2.1,IntKind.wrap .i64 ((k:Int)+1)),?_,?_,?_⟩
   ·simp only [hc,rE,u2,uv,qV p,uc,B];simp only [qV p,uc] at x;rw [x];rfl
   ·simp only;rw [w64n (by omega)];omega
   ·simp only;rw [w64n (by omega)];omega
  ·left;refine ⟨(a,(k:Int)),?_⟩;simp only at hc ⊢;rw [u6 hc]
theorem size_fuel:∀(n m:Nat) (t:List GA) (d:Int),GA.deps t < n->GA.deps t < m->y4 n t d=y4 m t d
 | 0,_,_,_,h,_=>by omega
 | _+1,0,_,_,_,h=>by omega
 | n+1,m+1,t,d,h1,h2=>by
  unfold y4;congr 2;funext s;split
  ·cases hx:vm t s.2 with
   | none=>rfl
   | some y =>
    have c:=dep_mem (idx_mem hx);have f:=wp y;simp only [uc];rw [size_fuel n m y.subs _ (by omega) (by omega)]
  ·rfl
theorem ref07Great_tot {t:List GA} (h:Small t):∃b,qa t=some b:=by
 unfold qa ref07Xsize;obtain ⟨v,c⟩:∃v,∀n,GA.deps t+1<=n->y4 n t 0=some v:=by
  obtain ⟨v,c⟩:=size_tot (GA.deps t+1) t 0 (by omega) h;exact ⟨v,λn f=>by rw [size_fuel n (GA.deps t+1) t 0 (by omega) (by omega)];exact c⟩
 rw [anyN_of (GA.deps t+1) c];exact ⟨_,rfl⟩

def endsB (p:List zj):Bool:=p.getLast?==some [42,42]
def xy (p:List zj):List zj:=if endsB p then p.dropLast else p
def agreeB:List zj->List zj->Bool
 | [],_=>true
 | x::t,y::r=>(x==[42] || x==y)&&agreeB t r
 | _::_,[]=>false
def patB (p:List zj):Bool:=(decide (0 < (xy p).length) || endsB p)&&decide ((xy p).length<=3)&&(xy p).all (λs=>s==[42] || nameB s)
def matchB (p path:List zj):Bool:=patB p&&xN path&&decide ((xy p).length<=path.length)&&(endsB p || decide (path.length<=(xy p).length))&&agreeB (xy p) path
theorem wrapLen (h0:0 < n) (h:n<=maxLen):IntKind.wrap .i64 ((n:Int) - 1)=((n - 1:Nat):Int):=by
 simp only [maxLen] at h;rw [w64n (by omega)];omega
theorem last_getD {p:List zj} (h0:0 < p.length):(p.getD (p.length - 1) default==[42,42])=endsB p:=by
 unfold endsB;rw [sY,uN,ui (by omega)];rw [uS];simp
theorem slc_init {p:List zj} (h0:0 < p.length):slc p 0 ((p.length - 1:Nat):Int)=some p.dropLast:=by
 rw [slc_at (by omega)];simp [List.dropLast_eq_take]
theorem pathsXparts_is {p:List zj} (h:p.length<=maxLen):vz p=some (xy p,endsB p):=by
 unfold vz xy;by_cases h0:0 < p.length
 ·rw [wrapLen h0 h,yl (by intro _;omega)];have e:decide ((p.length:Int) > 0)=true:=by simpa using h0
  rw [e,u9,last_getD h0,slc_init h0];cases endsB p <;> rfl
 ·have:p=[]:=uL (by omega);subst this;rfl
theorem we {p:List zj} (h:p.length<=maxLen):yG p=some (patB p):=by
 unfold yG patB;rw [pathsXparts_is h];simp only [uc];rw [contains_is (q:=λs=>!(s==[42] || nameB s)) _ (λx _=>by
  unfold wy;rw [opIsName_is];cases h1:(x==([42]:zj)) <;> simp)]
 have e:(xy p).any (λs=>!(s==[42] || nameB s))=!(xy p).all (λs=>s==[42] || nameB s):=by rw [uS];simp
 have c:decide (((xy p).length:Int) > 0)=decide (0 < (xy p).length):=sW.2 (by omega);rw [e,bnd3,c];cases ((decide (0 < (xy p).length) || endsB p)&&decide ((xy p).length<=3)) <;> simp
theorem agree_loop (path:List zj) {f:Nat->zj->Unit->Option (Out Bool Unit)} (c:∀i x,i < path.length->f i x ()=if (!(x==([42]:zj))&&!(x==path.getD i default))=true then some (.ret false) else some (.nxt ())) :
  ∀(L:List zj) (i:Nat),L.length+i<=path.length->zy f L i ()=if agreeB L (path.drop i)=true then some (.inr ()) else some (.inl false)
 | [],i,_=>by cases path.drop i <;> rfl
 | x::t,i,h=>by
  simp only [uh] at h;have hi:i < path.length:=by omega
  have g:=agree_loop path c t (i+1) (by omega);have e:path.drop i=path[i]::path.drop (i+1):=(sH hi).symm;have j:path.getD i default=path[i]:=by rw [uN,ui hi];rfl
  simp only [zy,c i x hi,e,agreeB,j];cases h1:(x==([42]:zj)) <;> cases h2:(x==path[i]) <;> simp [g]
theorem pathsMatch_is {p path:List zj} (h:p.length<=maxLen):yV p path=some (matchB p path):=by
 unfold yV matchB;rw [pathsXparts_is h,we h];simp only [uc,opMayPath_is];cases hp:patB p
 ·simp
 ·cases hq:xN path
  ·simp
  ·by_cases hl:(xy p).length<=path.length
   ·have c:decide ((path.length:Int) < ((xy p).length:Int))=false:=uQ (by omega);have f:decide ((path.length:Int) > ((xy p).length:Int))=!decide (path.length<=(xy p).length):=by
     rw [uS];simp
    rw [c,f,agree_loop path (λi x hi=>by rw [yl (by intro _;omega),u9]) _ 0 (by omega)];simp only [sn,tx hl];cases decide (path.length<=(xy p).length) <;> cases endsB p <;> cases agreeB (xy p) path <;> simp
   ·have c:decide ((path.length:Int) < ((xy p).length:Int))=true:=tx (by omega);rw [c,uQ hl];simp

section
variable {S X:Type}
def foldF (y:S->X->Option (Bool×S)):List X->S->Option (Bool×S)
 | [],s=>some (true,s)
 | x::r,s=>(y s x).bind λv=>if v.1=true then foldF y r v.2 else some (false,v.2)
theorem foldF_app (y:S->X->Option (Bool×S)):∀(a b:List X) (s:S),foldF y (a++b) s=(foldF y a s).bind λv=>if v.1=true then foldF y b v.2 else some v
 | [],b,s=>by simp [foldF]
 | x::r,b,s=>by
  simp only [tm,foldF];cases y s x with
  | none=>rfl
  | some v =>
   simp only [uc];cases hv:v.1
   ·simp
   ·simp only [uv];exact foldF_app y r b v.2
theorem foldF_stp (y:S->X->Option (Bool×S)):∀(xs:List X) (s:S),
  foldF (stp (λ(f:S) (g:X)=>(((y f g).bind λv=>(if (!v.1)=true then some (false,(v.2,some 0)) else some (true,(v.2,none)))):Option (Bool×(S×Option Nat))))) xs (s,none)=(foldF y xs s).map λv=>(v.1,(v.2,if v.1=true then none else some 0))
 | [],s=>rfl
 | x::r,s=>by
  simp only [foldF,stp];cases y s x with
  | none=>rfl
  | some v =>
   rcases v with ⟨b,c⟩
   cases b
   ·simp
   ·simp only [sj,up,uO,uc,uv];exact foldF_stp y r c
theorem loop_tell {ρ α:Type} (y:S->X->Option (Bool×S)) (g:α->X) (r:S->ρ) {f:Nat->α->S->Option (Out ρ S)}:∀(L:List α) (i:Nat) (s:S),(∀i x s,x ∈ L->f i x s=(y s (g x)).bind λv=>if (!v.1)=true then some (.ret (r v.2)) else some (.nxt v.2)) ->
  zy f L i s=(foldF y (L.map g) s).map λv=>if v.1=true then .inr v.2 else .inl (r v.2)
 | [],_,_,_=>rfl
 | x::t,i,s,h=>by
  simp only [zy,h i x s (tz ..),uy,foldF];cases y s (g x) with
  | none=>rfl
  | some v =>
   rcases v with ⟨b,c⟩
   cases b
   ·rfl
   ·simp only [sj,up,uO,uc,uv];exact loop_tell y g r t (i+1) c λi x s j=>h i x s (tn _ j)
theorem loop_tells {ρ α:Type} (y:S->X->Option (Bool×S)) (g:α->List X) (r:S->ρ) {f:Nat->α->S->Option (Out ρ S)}:∀(L:List α) (i:Nat) (s:S),(∀i x s,x ∈ L->f i x s=(foldF y (g x) s).map λv=>if v.1=true then .nxt v.2 else .ret (r v.2)) ->
  zy f L i s=(foldF y (L.flatMap g) s).map λv=>if v.1=true then .inr v.2 else .inl (r v.2)
 | [],_,_,_=>rfl
 | x::t,i,s,h=>by
  simp only [zy,h i x s (tz ..),tG,foldF_app];cases foldF y (g x) s with
  | none=>rfl
  | some v =>
   rcases v with ⟨b,c⟩
   cases b
   ·rfl
   ·simp only [uR,uv,uc];exact loop_tells y g r t (i+1) c λi x s j=>h i x s (tn _ j)
end
theorem qM {α:Type} {L:List α} (h:L.length<=xO):(nilq L λc=>(if c=true then some ([]:List α) else (wA ((([]:List α)).length+L.length<=xO) (some (([]:List α)++L)))))=some L:=by
 refine nilq_of ?_ λe=>by subst e;rfl
 rw [yl (by simpa using h)];simp
theorem vS {L:List zj} (h:L.length<=xO):z7 L=some L:=qM h
theorem cloneItem_is (h:L.length<=xO):yS L=some L:=qM h
theorem cloneDot_is {L:List GF} (h:L.length<=xO):yY L=some L:=qM h
theorem pathsXown_is (h:LeafOk l):pathsXown l=some l:=by
 unfold pathsXown;rw [cloneItem_is (by have:=h.items;unfold xO;omega),cloneDot_is (by have:=h.tombs;unfold xO;omega)];rfl
mutual
def rowsN (a:List zj):GA->List GK
 | ⟨nm,ls,sb⟩=>ls.map (λl=>GK.mk (a++[nm]) l)++zz (a++[nm]) sb
def zz (a:List zj):List GA->List GK
 | []=>[]
 | x::r=>rowsN a x++zz a r
end
mutual
def wo (is:List zj->Bool) (a:List zj):GA->GA
 | ⟨nm,ls,sb⟩=>⟨nm,if is (a++[nm])=true then ls else [],xV is (a++[nm]) sb⟩
def xV (is:List zj->Bool) (a:List zj):List GA->List GA
 | []=>[]
 | x::r=>if (wo is a x).leaves.isEmpty&&(wo is a x).subs.isEmpty then xV is a r else wo is a x::xV is a r
end
theorem yZ (a:List zj) (x:GA):rowsN a x=x.leaves.map (λl=>GK.mk (a++[x.name]) l)++zz (a++[x.name]) x.subs:=by cases x;rfl
theorem yF (a:List zj):∀t,zz a t=t.flatMap (rowsN a)
 | []=>rfl
 | x::r=>by simp only [zz,tG,yF a r]
theorem keepN_eq (is:List zj->Bool) (a:List zj) (x:GA):wo is a x=⟨x.name,if is (a++[x.name])=true then x.leaves else [],xV is (a++[x.name]) x.subs⟩:=by cases x;rfl
theorem keepL_filter (is:List zj->Bool) (a:List zj):∀t,xV is a t=(t.map (wo is a)).filter λy=>!(y.leaves.isEmpty&&y.subs.isEmpty)
 | []=>rfl
 | x::r=>by
  simp only [xV,uy,rB,keepL_filter is a r];cases ((wo is a x).leaves.isEmpty&&(wo is a x).subs.isEmpty) <;> simp
theorem rows_is {S:Type}:∀(n:Nat) (S:Type) (y:S->GK->Option (Bool×S)) (t:List GA) (a:List zj) (s:S),GA.deps t < n->Small t->a.length+GA.deps t<=40000000->xS n S y t a s=(foldF y (zz a t) s).map (·.2)
 | 0,_,_,_,_,_,h,_,_=>by omega
 | n+1,S,y,t,a,s,h,hs,ha=>by
  unfold xS;rw [loop_tells y (rowsN a) (λs=>s),<- yF]
  ·cases foldF y (zz a t) s with
   | none=>rfl
   | some v=>rcases v with ⟨b,c⟩;cases b <;> rfl
  ·intro i x p f;have g:=dep_mem f;have o:=wp x;rw [vS (by unfold xO;omega),uc,yl (by simp [xO];omega)];rw [loop_tell y (λl=>GK.mk (a++[x.name]) l) (λs=>Out.ret s)]
   ·rw [yZ,foldF_app];cases foldF y (x.leaves.map λl=>GK.mk (a++[x.name]) l) p with
    | none=>rfl
    | some v =>
     rcases v with ⟨b,c⟩
     cases b
     ·rfl
     ·simp only [uR,uv,wV,uc];unfold qb;simp only [uc];rw [rows_is (S:=Unit) n _ _ x.subs (a++[x.name]) (c,none) (by omega) (hs.subs f) (by simp;omega),foldF_stp];cases foldF y (zz (a++[x.name]) x.subs) c with
      | none=>rfl
      | some v=>rcases v with ⟨b,s2⟩;cases b <;> rfl
   ·intro j l s2 m;rw [vS (by simp [xO];omega),uc,pathsXown_is (hs.leaf f m),uc]

theorem loop_keep {α c ρ:Type} (p:α->Bool) (g:α->c) {f:Nat->α->List c->Option (Out ρ (List c))}:∀(L:List α) (i:Nat) (s:List c),s.length+L.length<=xO->(∀i x s,x ∈ L->s.length+1<=xO->f i x s=if p x=true then some (.nxt (s++[g x])) else some (.nxt s)) ->
  zy f L i s=some (.inr (s++(L.filter p).map g))
 | [],_,s,_,_=>by simp [zy]
 | x::t,i,s,hl,h=>by
  simp only [uh] at hl;simp only [zy,h i x s (tz ..) (by omega),rB];cases hp:p x
  ·simp only [up,uO];exact loop_keep p g t (i+1) s (by omega) λi x s j=>h i x s (tn _ j)
  ·simp only [uv];rw [loop_keep p g t (i+1) (s++[g x]) (by simp;omega) λi x s j=>h i x s (tn _ j)];simp
theorem keep_len (is:List zj->Bool) (a:List zj) (t:List GA):(xV is a t).length<=t.length:=by
 rw [keepL_filter];exact uG (tq _ _) (by simp)
theorem kept_is (is:List zj->Bool) (f:List zj->Option Bool) (B:∀p,f p=some (is p)):∀(n:Nat) (t:List GA) (a:List zj),GA.deps t < n->Small t->a.length+GA.deps t<=40000000->wE n t a f=some (xV is a t)
 | 0,_,_,h,_,_=>by omega
 | n+1,t,a,h,hs,ha=>by
  unfold wE;have H:=hs.len;have key:∀(L:List GA) (i:Nat) (s:List GA),(∀x ∈ L,x ∈ t)->s.length+L.length<=16777216->∀{F:Nat->GA->List GA->Option (Out (List GA) (List GA))},(∀i x s,x ∈ t->s.length+1<=16777216->F i x s=some (.nxt (if ((wo is a x).leaves.isEmpty&&(wo is a x).subs.isEmpty)=true then s else s++[wo is a x]))) ->
    zy F L i s=some (.inr (s++xV is a L)):=by
   intro L
   induction L with
   | nil=>intro i s _ _ F _;simp [zy,xV]
   | cons x r ih =>
    intro i s A c F v;simp only [uh] at c;simp only [zy,v i x s (A x (by simp)) (by omega),xV];cases he:((wo is a x).leaves.isEmpty&&(wo is a x).subs.isEmpty)
    ·simp only [up,uO];rw [ih (i+1) _ (λy w=>A y (by simp [w])) (by simp;omega) v];simp
    ·simp only [uv];exact ih (i+1) s (λy w=>A y (by simp [w])) (by omega) v
  rw [key t 0 [] (λ_ h=>h) (by simpa using H)]
  ·simp
  ·intro i x s g c;have D:=dep_mem g;have E:=wp x;have m:=hs.leaves g;have C:=(hs.subs g).len;rw [vS (by unfold xO;omega),uc,yl (by simp [xO];omega),kept_is is f B n x.subs (a++[x.name]) (by omega) (hs.subs g) (by simp;omega),uc];rw [loop_keep (λ_=>is (a++[x.name])) (λl=>l) x.leaves 0 [] (by simp [xO];omega)]
   ·simp only [wV,u7,List.map_id_fun',id];have o:(x.leaves.filter λ_=>is (a++[x.name]))=(if is (a++[x.name])=true then x.leaves else []):=by
     cases is (a++[x.name]) <;> simp
    rw [o,<- keepN_eq];have I:=keep_len is (a++[x.name]) x.subs;have G:decide ((IntKind.wrap .i64 (((if is (a++[x.name])=true then x.leaves else []).length:Int)+((xV is (a++[x.name]) x.subs).length:Int))) > 0)=!((wo is a x).leaves.isEmpty&&(wo is a x).subs.isEmpty):=by
     rw [keepN_eq];have J:(if is (a++[x.name])=true then x.leaves else []).length<=16777216:=by cases is (a++[x.name]) <;> simp [m]
     rw [w64n (by omega)];cases hA:(if is (a++[x.name])=true then x.leaves else []) <;> cases hB:xV is (a++[x.name]) x.subs <;> simp <;> omega
    rw [G];cases ((wo is a x).leaves.isEmpty&&(wo is a x).subs.isEmpty)
    ·simp only [tT,uv,up,uO];rw [yl (by simp [xO];omega)]
    ·simp
   ·intro j l s2 u z;rw [B,uc,pathsXown_is (hs.leaf g u),uc,yl (by simpa using z)]
theorem deps_bks:∀(n:Nat) (t:List GA),GA.deps t<=n->GA.deps t<=GA.bks t:=by
 intro n
 induction n with
 | zero=>intro t c;omega
 | succ n ih =>
  intro t
  induction t with
  | nil=>intro _;simp [GA.deps]
  | cons x r ihr =>
   intro c;simp only [GA.deps] at c ⊢;simp only [GA.bks];have h:=ihr (by omega);have f:=wp x;have i:=ih x.subs (by omega);have g:=bk_node x;omega
theorem Small.dep {t:List GA} (h:Small t):GA.deps t<=16777216:=uG (deps_bks _ t (ue _)) h.2
theorem keptAll_is (is:List zj->Bool) (f:List zj->Option Bool) (c:∀p,f p=some (is p)) {t:List GA} (h:Small t):pathsXkept t [] f=some (xV is [] t):=by
 unfold pathsXkept;have g:=h.dep;rw [anyN_of (GA.deps t+1) λn i=>kept_is is f c n t [] (by omega) h (by simp;omega)]
theorem rows_len:∀(n:Nat) (t:List GA) (a:List zj),GA.deps t<=n->(zz a t).length<=GA.bks t:=by
 intro n
 induction n with
 | zero =>
  intro t a h;cases t with
  | nil=>simp [zz]
  | cons x r=>simp only [GA.deps] at h;have:=wp x;omega
 | succ n ih =>
  intro t
  induction t with
  | nil=>intro a _;simp [zz]
  | cons x r ihr =>
   intro a c;simp only [GA.deps] at c;simp only [GA.bks,zz,ul];have j:=ihr a (by omega);have g:=wp x;have o:=ih x.subs (a++[x.name]) (by omega);have i:=bk_node x;have m:=sum_len (f:=GE.bk) (λx=>by unfold GE.bk;omega) x.leaves;rw [yZ];simp only [ul,uA];omega
theorem fold_app {X:Type}:∀(xs s:List X),s.length+xs.length<=xO->foldF (stp (λ(f:List X) (c:X)=>((wA (f.length+([c]:List X).length<=xO) (some (true,((f++[c]),none)))):Option (Bool×(List X×Option Nat))))) xs (s,none)=some (true,(s++xs,none))
 | [],s,_=>by simp [foldF]
 | x::r,s,h=>by
  simp only [uh] at h;simp only [foldF,stp];rw [yl (by simp;omega)];simp only [uc,uv];rw [fold_app r (s++[x]) (by simp;omega)];simp
theorem pathsRows_is {t:List GA} (h:Small t):vA t=some (if treeB 0 t=true then zz [] t else []):=by
 unfold vA;rw [vk h,uc];cases treeB 0 t
 ·rfl
 ·have hd:=h.dep;have c:=rows_len _ t [] (ue _);have f:=h.2;simp only [sj,up,uO,uv,qb,uc,wO,wd,pathsXrowsC1];rw [anyN_of (r:=(zz [] t,none)) (GA.deps t+1) λn g=>by
   rw [rows_is (S:=Unit) n _ _ t [] ([],none) (by omega) h (by simp;omega),fold_app _ _ (by simp [xO];omega)];rfl]
  rfl

theorem qg:∀{a b c:List UInt8},Op.bytesLess a b=true->Op.bytesLess b c=true->Op.bytesLess a c=true
 | _,[],_,h,_=>by cases ‹List UInt8› <;> simp [Op.bytesLess] at h
 | a,b::y,[],_,h=>by simp [Op.bytesLess] at h
 | [],b::y,c::z,_,_=>rfl
 | a::x,b::y,c::z,g,f=>by
  simp only [Op.bytesLess,te,uo,ud,sP] at g f ⊢;rcases g with g | ⟨rfl,g⟩
  ·rcases f with f | ⟨rfl,f⟩
   ·left;exact UInt8.lt_trans g f
   ·left;exact g
  ·rcases f with f | ⟨rfl,f⟩
   ·left;exact f
   ·right;exact ⟨rfl,qg g f⟩
theorem q8 (t:List GA):upB t=true ↔ t.Pairwise (λx y=>Op.bytesLess x.name y.name=true):=by
 unfold upB;rw [allI_iff];constructor
 ·intro h;rw [tI];intro i j hi c f;obtain ⟨k,rfl⟩:∃k,j=i+1+k:=⟨j - i - 1,by omega⟩
  induction k with
  | zero =>
   have:=h (i+1) _ (ui c);simp only [so,te,uo] at this;rcases this with h0 | h0
   ·omega
   ·rw [uN,ui hi] at h0;exact h0
  | succ k ih =>
   have g:=ih (by omega) (by omega);have:=h (i+1+(k+1)) _ (ui c);simp only [te,uo] at this;rcases this with h0 | h0
   ·omega
   ·rw [show i+1+(k+1) - 1=i+1+k by omega,uN,ui (by omega:i+1+k < t.length)] at h0;exact qg g h0
 ·intro h i x m;rcases i with _ | i
  ·rfl
  ·rw [tI] at h;obtain ⟨hi,rfl⟩:=ua.1 m;have:=h i (i+1) (by omega) hi (by omega);simp only [so,te];right;rw [uN,ui (by omega:i < t.length)];exact this
section
variable (is:List zj->Bool)
theorem keep_up (a:List zj) {t:List GA} (h:upB t=true):upB (xV is a t)=true:=by
 rw [q8] at h ⊢;rw [keepL_filter];refine List.Pairwise.filter _ ?_;rw [rt];exact h.imp λ{x y} h=>by rw [keepN_eq,keepN_eq];exact h
theorem wY {M:List GA->Prop} (h0:M []) (c:∀x r,M x.subs->M r->M (x::r)):∀t,M t:=by
 have key:∀(n:Nat) (t:List GA),GA.deps t<=n->M t:=by
  intro n
  induction n with
  | zero =>
   intro t h;cases t with
   | nil=>exact h0
   | cons x r=>simp only [GA.deps] at h;have:=wp x;omega
  | succ n ih =>
   intro t
   induction t with
   | nil=>intro _;exact h0
   | cons x r ihr =>
    intro h;simp only [GA.deps] at h;have:=wp x;exact c x r (ih x.subs (by omega)) (ihr (by omega))
 exact λt=>key _ t (ue _)
theorem keep_may:∀(t:List GA) (d:Nat) (a:List zj),treeB d t=true->treeB d (xV is a t)=true:=by
 intro t;have key:∀(t:List GA),(∀(d:Nat) (a:List zj),treeB d t=true->treeB d (xV is a t)=true)/\(∀(d:Nat) (a:List zj),xD d t=true->xD d (xV is a t)=true):=by
  refine wY ⟨λd a h=>h,λd a h=>h⟩ ?_;intro x r i g;have f:∀(d:Nat) (a:List zj),xD d (x::r)=true->xD d (xV is a (x::r))=true:=by
   intro d a h;simp only [xD,ud] at h;simp only [xV];cases he:((wo is a x).leaves.isEmpty&&(wo is a x).subs.isEmpty)
   ·simp only [up,uO,xD,ud];refine ⟨?_,g.2 d a h.2⟩;have c:=h.1;rw [nodeB_eq] at c ⊢;simp only [ud,sA] at c ⊢;rw [keepN_eq] at he ⊢;refine ⟨⟨⟨c.1.1.1,he⟩,i.1 (d+1) _ c.1.2⟩,?_⟩;show leavesB (if is (a++[x.name])=true then x.leaves else [])=true;split
    ·exact c.2
    ·rfl
   ·simp only [uv];exact g.2 d a h.2
  refine ⟨λd a h=>?_,f⟩;unfold treeB at h ⊢;simp only [ud] at h ⊢;refine ⟨⟨?_,keep_up is a h.1.2⟩,f d a h.2⟩;have:decide (d < 3)=true:=by simpa using h.1.1
  rw [this];simp
 exact (key t).1
theorem keep_rows:∀(t:List GA) (a:List zj),zz a (xV is a t)=(zz a t).filter λr=>is r.path:=by
 refine wY (λa=>rfl) ?_;intro x r g c a;have f:rowsN a (wo is a x)=(rowsN a x).filter λr=>is r.path:=by
  rw [keepN_eq,yZ,yZ,tY,<- g];simp only;congr 1;cases h:is (a++[x.name])
  ·simp [h]
  ·simp only [uv];rw [sf.2];intro r c;obtain ⟨l,_,rfl⟩:=tp.1 c;exact h
 simp only [xV,zz,tY,<- c,<- f];cases he:((wo is a x).leaves.isEmpty&&(wo is a x).subs.isEmpty)
 ·simp [zz]
 ·simp only [uv];simp only [ud,pj] at he;rw [yZ,he.1,he.2];simp [zz]
theorem keep_small:∀(t:List GA) (a:List zj),(GA.wfs t->GA.wfs (xV is a t))/\GA.bks (xV is a t)<=GA.bks t:=by
 refine wY (λa=>⟨λh=>h,ue _⟩) ?_;intro x r g c a;have p:(wo is a x).bk<=x.bk:=by
  have:=(g (a++[x.name])).2;cases x with
  | mk nm ls sb =>
   simp only [wo,GA.bk] at this ⊢;have f:((if is (a++[nm])=true then ls else []).map GE.bk).sum<=(ls.map GE.bk).sum:=by split <;> simp
   omega
 have i:x.wf->(wo is a x).wf:=by
  have:=(g (a++[x.name])).1;cases x with
  | mk nm ls sb =>
   simp only [wo,GA.wf] at this ⊢
   rintro ⟨m,f,o⟩
   refine ⟨m,?_,this o⟩;split
   ·exact f
   ·exact ⟨by simp,λy j=>by cases j⟩
 simp only [xV];split
 ·refine ⟨λh=>(c a).1 (by simp only [GA.wfs] at h;exact h.2),?_⟩;have:=(c a).2;simp only [GA.bks];omega
 ·refine ⟨λh=>?_,?_⟩
  ·simp only [GA.wfs] at h ⊢;exact ⟨i h.1,(c a).1 h.2⟩
  ·have:=(c a).2;simp only [GA.bks];omega
theorem Small.keep {t:List GA} (h:Small t) (a:List zj):Small (xV is a t):=⟨(keep_small is t a).1 h.1,uG (keep_small is t a).2 h.2⟩
end
theorem ref05Same_refl (l:GE):ref05Same l l=some true:=by
 unfold ref05Same;simp only [dotEq,itemEq];rw [u6 (by simp),lp_all (r:=false) (λ_ _=>true),lp_all (r:=false) (λ_ _=>true)]
 ·simp [allI]
 ·intro i x c;have hi:=(ua.1 c).1;have f:l.tombs[i]=x:=(ua.1 c).2;rw [qV hi,f];simp
 ·intro i x c;have hi:=(ua.1 c).1;have f:l.items[i]=x:=(ua.1 c).2;rw [qV hi,f];simp
theorem ref07SameN_refl:∀(n:Nat) (t:List GA),GA.deps t < n->vl n t t=some true
 | 0,_,h=>by omega
 | n+1,t,h=>by
  unfold vl;rw [u6 (by simp),lp_all (r:=false) (λ_ _=>true)]
  ·simp [allI]
  ·intro i x c;have hi:=(ua.1 c).1;have o:t[i]=x:=(ua.1 c).2;have hd:t.getD i default=x:=by rw [uN,c];rfl
   have m:=dep_mem (uK c);have s:=wp x;rw [qV hi,o];simp only [uc,u9,hd,ref07SameN_refl n x.subs (by omega)];rw [yl (by intro _;omega),yl (by intro _;omega),yl (by intro _;omega),yl (by intro _;omega)];rw [lp_all (r:=.ret false) (λ_ _=>true)]
   ·simp [allI]
   ·intro j l g;have p:=(ua.1 g).1;have f:x.leaves[j]=l:=(ua.1 g).2;rw [qV p,f];simp [ref05Same_refl]
theorem ref07Same_refl (t:List GA):ref07Same t t=some true:=by
 unfold ref07Same;exact anyN_of (GA.deps t+1) λn c=>ref07SameN_refl n t (by omega)

theorem pathsSelect_is {t:List GA} (h:Small t) {p:List zj} (c:p.length<=maxLen):xr t p=some (if (treeB 0 t&&patB p)=true then (xV (matchB p) [] t,0) else ([],2)):=by
 unfold xr;rw [vk h,we c,keptAll_is (matchB p) _ (λq=>by unfold qw;rw [pathsMatch_is c];rfl) h];cases treeB 0 t <;> cases patB p <;> rfl
theorem small_of {t:List GA} (h:t.length<=maxLen/\∀y ∈ t,GA.wf y) (c:(t.map GA.bk).sum<=16777216):Small t:=⟨(GA.wfs_iff t).2 h.2,by rw [GA.bks_eq];exact c⟩
theorem half_mid {lo hi:Nat} (h:lo < hi) (j:hi<=4611686018427387904):IntKind.wrap .i64 (Int.fdiv (IntKind.wrap .u64 (IntKind.wrap .i64 ((lo:Int)+(hi:Int)))) (2 ^ (min (1:Int).toNat (IntKind.bits .u64))))=(((lo+hi) / 2:Nat):Int):=by
 have c:IntKind.wrap .i64 ((lo:Int)+(hi:Int))=((lo+hi:Nat):Int):=by rw [w64n (by omega)];omega
 have i:IntKind.wrap .u64 (((lo+hi:Nat):Int))=((lo+hi:Nat):Int):=by rw [IntKind.wrap_u64];omega
 have f:(2:Int) ^ (min (1:Int).toNat (IntKind.bits .u64))=2:=by decide
 rw [c,i,f,Int.fdiv_eq_ediv_of_nonneg _ (by decide)];have g:((lo+hi:Nat):Int) / 2=(((lo+hi) / 2:Nat):Int):=by omega
 rw [g,w64n (by omega)]
theorem bs_loop {g:GA->zj->Option Int} {x:List GA} {s:zj} {c:Nat} (A:x.length<=16777216) (u:∀i n,x[i]?=some n->∃v,g n s=some v/\(i < c->v < 0)/\(c<=i->0<=v)) :
  ∀(k lo hi:Nat),hi - lo<=k->lo<=c->c<=hi->hi<=x.length->wU (ρ:=Int×Bool) (λ(f:Int×Int)=>((if (decide (f.1 < f.2))=true then ((vm x (IntKind.wrap .i64 ((Int.fdiv (IntKind.wrap .u64 ((IntKind.wrap .i64 (f.1+f.2)))) (2 ^ (min (1:Int).toNat (IntKind.bits .u64))))))).bind λy=>((g y s).bind λh=>(if (decide (h < (0:Int)))=true then some (.nxt ((IntKind.wrap .i64 ((IntKind.wrap .i64 ((Int.fdiv (IntKind.wrap .u64 ((IntKind.wrap .i64 (f.1+f.2)))) (2 ^ (min (1:Int).toNat (IntKind.bits .u64))))))+(1:Int))),f.2)) else some (.nxt (f.1,(IntKind.wrap .i64 ((Int.fdiv (IntKind.wrap .u64 ((IntKind.wrap .i64 (f.1+f.2)))) (2 ^ (min (1:Int).toNat (IntKind.bits .u64))))))))))) else some (.brk (f.1,f.2))):Option (Out _ (Int×Int)))) ((lo:Int),(hi:Int))=some (.inr ((c:Int),(c:Int))):=by
 intro k
 induction k with
 | zero =>
  intro lo hi t j o hh;obtain rfl:lo=hi:=by omega
  obtain rfl:lo=c:=by omega
  rw [loopW_eq];simp
 | succ k ih =>
  intro lo hi t j o hh;rw [loopW_eq];by_cases hlt:lo < hi
  ·have hd:decide ((lo:Int) < (hi:Int))=true:=tx (by omega);simp only [hd,uv,half_mid hlt (by omega)];have m:(lo+hi) / 2 < x.length:=by omega
   rw [qV m,uc];obtain ⟨v,z,p,w⟩:=u ((lo+hi) / 2) _ (ui m);rw [z,uc];by_cases hcm:(lo+hi) / 2 < c
   ·rw [tx (p hcm),uz rfl];simp only;have e:IntKind.wrap .i64 ((((lo+hi) / 2:Nat):Int)+1)=(((lo+hi) / 2+1:Nat):Int):=by rw [w64n (by omega)];omega
    rw [e];exact ih _ _ (by omega) (by omega) o hh
   ·rw [uQ (by have:=w (by omega);omega)];simp only [up,uO];exact ih _ _ (by omega) j (by omega) (by omega)
  ·obtain rfl:lo=hi:=by omega
   obtain rfl:lo=c:=by omega
   simp
theorem bs_is {f:GA->zj->Option Int} {x:List GA} {s:zj} {c:Nat} (m:x.length<=16777216) (j:c<=x.length) (g:∀i n,x[i]?=some n->∃v,f n s=some v/\(i < c->v < 0)/\(c<=i->0<=v)) :
  zD x s f=(if c < x.length then f (x.getD c default) s else some 1).bind λv=>some ((c:Int),(decide (c < x.length)&&(v==0))):=by
 unfold zD;have:=bs_loop m g x.length 0 x.length (by omega) (tH _) j (ue _);simp only [Int.natCast_zero] at this;rw [show ((0:Int),(x.length:Int))=(((0:Nat):Int),(x.length:Int)) from rfl] at *;rw [this];simp only [lp];by_cases h:c < x.length
 ·have hd:decide ((c:Int) < (x.length:Int))=true:=tx (by omega);simp only [hd,h,uv,u9,tW,rE,uZ];rw [yl (by intro _;omega)]
 ·have hd:decide ((c:Int) < (x.length:Int))=false:=uQ (by omega);simp only [hd,h,uO,decide_false,rq,uc];rw [yl (by intro hh;cases hh)];simp
theorem cmp_less {b:List UInt8}:Lib.compareBytes a b < 0 ↔ Op.bytesLess a b=true:=by
 induction a generalizing b with
 | nil=>cases b <;> simp [Lib.compareBytes,Op.bytesLess]
 | cons x a ih =>
  cases b with
  | nil=>simp [Lib.compareBytes,Op.bytesLess]
  | cons y b =>
   simp only [Lib.compareBytes,Op.bytesLess];by_cases h1:x < y
   ·simp [h1]
   ·by_cases h2:y < x
    ·have:¬ x=y:=by rintro rfl;exact h1 h2
     simp [h1,h2,this]
    ·have:x=y:=UInt8.le_antisymm (UInt8.not_lt.1 h2) (UInt8.not_lt.1 h1);simp [h1,h2,this,ih]
theorem cmp_self (a:List UInt8):Lib.compareBytes a a=0:=by
 induction a with
 | nil=>rfl
 | cons x a ih=>simp [Lib.compareBytes,ih]
theorem layC1_is (n:GA) (s:zj):wI n s=some (Lib.compareBytes n.name s):=rfl
theorem cloneLeaf_is {L:List GE} (h:L.length<=xO):wl L=some L:=qM h
theorem cloneNode_is {L:List GA} (h:L.length<=xO):xk L=some L:=qM h
theorem xT (h:n<=16777217):n<=xO:=uG h (by decide)
theorem own_is (h:LeafOk l):qJ l=some l:=by
 unfold qJ;rw [cloneItem_is (xT (sC h.items)),uc,cloneDot_is (xT (sC h.tombs)),uc]
def preR (a:List zj) (r:GK):GK:=⟨a++r.path,r.leaf⟩
theorem rows_pre:∀(t:List GA) (a b:List zj),zz (a++b) t=(zz b t).map (preR a):=by
 refine wY (λ_ _=>rfl) ?_;intro x r f c a b;rw [yF,yF,tG,tG,<- yF,<- yF,c,sy];congr 1;rw [yZ,yZ,ur,f,sy,sU];rfl
theorem rows_path:∀(t:List GA) (a:List zj) (r:GK),r ∈ zz a t->a.length < r.path.length/\r.path.length<=a.length+GA.deps t:=by
 refine wY (λ_ _ h=>by simp [zz] at h) ?_;intro x r g f a q c;rw [yF,tG,uE,<- yF] at c;have j:x.dep<=GA.deps (x::r):=dep_mem (by simp);have i:=wp x;have m:GA.deps r<=GA.deps (x::r):=by
  simp only [GA.deps];omega
 rcases c with c | c
 ·rw [yZ,uE,tp] at c;rcases c with ⟨l,_,rfl⟩ | c
  ·simp;omega
  ·have:=g _ _ c;simp only [ul,uh,uC] at this;omega
 ·have:=f _ _ c;omega
theorem leaf_typ (h:leafB l=true):1<=l.typ/\l.typ<=4:=by
 unfold leafB at h;split at h
 ·omega
 split at h
 ·omega
 split at h
 ·omega
 split at h
 ·omega
 ·cases h
theorem leaves_up (h:leavesB ls=true):ls.Pairwise (λx y=>x.typ < y.typ)/\∀l ∈ ls,leafB l=true:=by
 unfold leavesB at h;rw [allI_iff] at h;have m:∀l ∈ ls,leafB l=true:=λl g=>by
  obtain ⟨i,hi⟩:=tD.1 g;have:=h i l hi;simp only [ud] at this;exact this.1
 refine ⟨?_,m⟩;have step:∀i,(hi:i+1 < ls.length)->ls[i].typ < ls[i+1].typ:=λi hi=>by
  have:=h (i+1) _ (ui hi);simp only [Nat.add_eq_zero_iff,pw,and_false,decide_false,tP,ud,uo,so] at this;have e:ls.getD i default=ls[i]:=by simp [uN,ui (show i < ls.length by omega)]
  rw [e] at this;exact this.2
 rw [tI];intro i j hi f c;obtain ⟨k,rfl⟩:∃k,j=i+1+k:=⟨j - (i+1),by omega⟩
 clear c
 induction k with
 | zero=>exact step i f
 | succ k ih=>exact Int.lt_trans (ih (by omega)) (step (i+1+k) f)
theorem Small.tail {x:GA} {r:List GA} (h:Small (x::r)):Small r:=by
 refine ⟨(GA.wfs_iff r).2 λy c=>(GA.wfs_iff _).1 h.1 y (by simp [c]),?_⟩;have:=h.2;simp only [GA.bks] at this;omega
def pathLt (a b:List zj):Prop:=(∃y q,b=a++y::q) \/ ∃p x y a' b',a=p++x::a'/\b=p++y::b'/\Op.bytesLess x y=true
theorem less_irr:∀(a:List UInt8),Op.bytesLess a a=false
 | []=>rfl
 | x::a=>by simp [Op.bytesLess,less_irr a]
theorem less_ne {b:List UInt8} (h:Op.bytesLess a b=true):a ≠ b:=by
 rintro rfl;rw [less_irr] at h;cases h
theorem cmpS_self (x:zj):yy x x=some 0:=by
 unfold yy xg;simp [less_irr]
theorem cmpS_less {x y:zj} (h:Op.bytesLess x y=true):yy x y=some (-1):=by
 unfold yy xg;simp [h]
noncomputable def cmpF (s2:List zj):Nat->zj->Unit->Option (Out Int Unit):=λn x _=>if (decide ((n:Int) >= ((s2).length:Int)))=true then some (.ret (1:Int)) else ((vm s2 (n:Int)).bind λy12=>((yy x y12).bind λv13=>(if (v13 != (0:Int))=true then some (.ret v13) else some (.nxt ()))))
theorem cmpP_eq (a b:List zj):yJ a b=lp (zy (cmpF b) a 0 ()) λ_=>(if (decide (((a).length:Int) < ((b).length:Int)))=true then some (-1:Int) else some (0:Int)):=rfl
theorem cmp_pre {s2:List zj}:∀(p a:List zj) (q b:List zj),s2=q++(p++b)->zy (cmpF s2) (p++a) q.length ()=zy (cmpF s2) a (q.length+p.length) ()
 | [],a,q,b,_=>rfl
 | x::p,a,q,b,h=>by
  have f:q.length < s2.length:=by rw [h];simp
  have c:vm s2 (q.length:Int)=some x:=yb (by rw [h];simp);have e:cmpF s2 q.length x ()=some (.nxt ()):=by
   unfold cmpF;rw [uQ (by omega)];simp only [up,uO,c,uc,cmpS_self,ru]
  simp only [tm,zy,e];have:=cmp_pre (s2:=s2) p a (q++[x]) b (by rw [h];simp);rw [ul,rx] at this;rw [this];congr 1;simp only [uh];omega
theorem cmpP_lt {a b:List zj} (h:pathLt a b):yJ a b=some (-1):=by
 rw [cmpP_eq];rcases h with ⟨y,q,rfl⟩ | ⟨p,x,y,a',c,rfl,rfl,h⟩
 ·have:=cmp_pre (s2:=a++y::q) a [] [] (y::q) rfl;rw [tu,uC] at this;rw [this];simp only [zy,wV];rw [uz (tx (by simp only [ul,uh];omega))]
 ·have:=cmp_pre (s2:=p++y::c) p (x::a') [] (y::c) rfl;rw [uC] at this;rw [this];have f:vm (p++y::c) ((0+p.length:Nat):Int)=some y:=yb (by simp);have e:cmpF (p++y::c) (0+p.length) x ()=some (.ret (-1)):=by
   unfold cmpF;rw [uQ (by simp only [ul,uh];omega)];simp only [up,uO,f,uc,cmpS_less h];rfl
  simp only [zy,e,lp_inl]
theorem cmpP_self (a:List zj):yJ a a=some 0:=by
 rw [cmpP_eq];have:=cmp_pre (s2:=a) a [] [] [] (by simp);rw [tu,uC] at this;rw [this];simp only [zy,wV];rw [u6 (by simp)]
def rowLt (r q:GK):Prop:=pathLt r.path q.path \/ (r.path=q.path/\r.leaf.typ < q.leaf.typ)
def x5:GE:=GE.mk (0:Int) (0:Int) (0:Int) (GF.mk (GL.mk (0:Int) (0:Int)) (0:Int)) ([]:zj) ([]:List GJ) ([]:List GF)
theorem vZ {t:List GA} {a:List zj} (h:r ∈ zz a t):∃x ∈ t,∃w,r.path=a++x.name::w:=by
 rw [yF,List.mem_flatMap] at h;obtain ⟨x,c,h⟩:=h;refine ⟨x,c,?_⟩;rw [yZ,uE,tp] at h;rcases h with ⟨l,_,rfl⟩ | h
 ·exact ⟨[],rfl⟩
 ·have:=rows_pre x.subs (a++[x.name]) [];rw [tu] at this;rw [this,tp] at h;obtain ⟨q,_,rfl⟩:=h;exact ⟨q.path,by simp [preR]⟩
theorem rows_lt:∀(t:List GA) (d:Nat) (a:List zj),upB t=true->xD d t=true->(zz a t).Pairwise rowLt:=by
 refine wY (λ_ _ _ _=>List.Pairwise.nil) ?_;intro x r D C d a o u;rw [yF,tG,<- yF];rw [q8,uM] at o;simp only [xD,ud] at u;obtain ⟨f,m⟩:=u;rw [nodeB_eq] at f;simp only [ud] at f;obtain ⟨⟨⟨_,_⟩,c⟩,p⟩:=f;simp only [treeB,ud] at c;obtain ⟨j,_⟩:=leaves_up p;rw [tb];refine ⟨?_,C d a (q8 r |>.2 o.2) m,λq i F g=>?_⟩
 ·rw [yZ,tb];refine ⟨?_,D (d+1) _ c.1.2 c.2,λq i F g=>?_⟩
  ·rw [rt];exact j.imp λh=>.inr ⟨rfl,h⟩
  ·rw [tp] at i;obtain ⟨l,_,rfl⟩:=i;obtain ⟨y,_,w,e⟩:=vZ g;exact .inl (.inl ⟨y.name,w,e⟩)
 ·have v:∃w,q.path=a++x.name::w:=by
   have:q ∈ zz a [x]:=by rw [yF];simpa using i
   obtain ⟨z,s,w,e⟩:=vZ this;simp only [ut] at s;subst s;exact ⟨w,e⟩
  obtain ⟨w,E⟩:=v;obtain ⟨y,B,w',A⟩:=vZ g;exact .inl (.inr ⟨a,x.name,y.name,w,w',E,A,o.1 y B⟩)
structure RowOk' (r:GK):Prop where
 path:xN r.path=true
 leaf:leafB r.leaf=true
 ok:LeafOk r.leaf
theorem rows_ok:∀(t:List GA) (d:Nat) (a:List zj),Small t->treeB d t=true->a.length=d->a.all nameB=true->∀r ∈ zz a t,RowOk' r:=by
 have key:∀(t:List GA),(∀(d:Nat) (a:List zj),Small t->xD d t=true->d < 3->a.length=d->a.all nameB=true->∀r ∈ zz a t,RowOk' r):=by
  refine wY (λ_ _ _ _ _ _ _ _ h=>by simp [zz] at h) ?_;intro x r z i d a hs y hd o p q c;rw [yF,tG,uE,<- yF] at c;simp only [xD,ud] at y;obtain ⟨g,u⟩:=y;rcases c with c | c
  ·rw [nodeB_eq] at g;simp only [ud] at g;obtain ⟨⟨⟨v,_⟩,f⟩,w⟩:=g;have m:(a++[x.name]).all nameB=true:=by rw [tV,p];simpa using v
   rw [yZ,uE,tp] at c;rcases c with ⟨l,j,rfl⟩ | c
   ·refine ⟨?_,(leaves_up w).2 l j,hs.leaf (by simp) j⟩;simp only [xN,m,tL,ul,uh,uC,ud,uo];omega
   ·simp only [treeB,ud,te,pj,uo] at f;rcases f.1.1 with h0 | h0
    ·rw [h0] at c;simp [zz] at c
    ·exact z (d+1) _ (hs.subs (by simp)) f.2 h0 (by simp [o]) m q c
  ·exact i d a hs.tail u hd o p q c
 intro t d a hs s o p r i;simp only [treeB,ud,te,pj,uo] at s;rcases s.1.1 with h0 | h0
 ·rw [h0] at i;simp [zz] at i
 ·exact key t d a hs s.2 h0 o p r i
theorem side0 (k:Int):x6 false x5 k=some true:=by
 unfold x6;simp only [tT,uv];have:=vC x5 x5;unfold x5 at this ⊢;rw [this];simp
theorem side1 (h:leafB l=true) (c:LeafOk l):x6 true l l.typ=some true:=by
 unfold x6;have f:leafMay l=some true:=by
  rw [leafMay_is (uG c.items (by decide)) (uG c.tombs (by decide)),h]
 simp [f]
theorem small_nil:Small []:=⟨(GA.wfs_iff []).2 (by simp),by simp [GA.bks]⟩
theorem qC (d:Nat):treeB d []=true:=by simp [treeB,xD,upB,allI]
theorem leafNew_tot (k:Int):∃v,qx k=some v:=by unfold qx;split <;> exact ⟨_,rfl⟩
theorem pathB_ne {p:List zj} (h:xN p=true):p ≠ []:=by
 rintro rfl
 simp [xN] at h
theorem loopW_inv {ρ:Type} {f:σ->Option (Out ρ σ)} (i g:σ->Prop) (j:σ->Nat) (h:∀s,i s->(∃c,f s=some (.brk c)/\g c) \/ ∃c,f s=some (.nxt c)/\i c/\j c < j s):∀(k:Nat) (s:σ),j s=k->i s->∃c,wU f s=some (.inr c)/\g c:=by
 intro k
 induction k using Nat.strongRecOn with
 | _ k ih =>
  intro s p hi;rw [loopW_eq];rcases h s hi with ⟨c,e,m⟩ | ⟨c,e,o,t⟩
  ·exact ⟨c,by rw [e],m⟩
  ·rw [e];exact ih (j c) (by omega) c rfl o
theorem idxF_is {q:GE->Bool} {del:GE->Option Bool}:∀(L:List GE) (n:Nat),(∀x ∈ L,del x=some (q x)) ->
  (zy (λ(f:Nat) (j:GE) (_:Unit)=>(((del j).bind λo=>(if o=true then some (.ret (f:Int)) else some (.nxt ()))):Option (Out Int Unit))) L n ()=some (.inr ())/\∀x ∈ L,q x=false) \/
  ∃A x B,L=A++x::B/\q x=true/\(∀y ∈ A,q y=false)/\zy (λ(f:Nat) (j:GE) (_:Unit)=>(((del j).bind λo=>(if o=true then some (.ret (f:Int)) else some (.nxt ()))):Option (Out Int Unit))) L n ()=some (.inl ((n+A.length:Nat):Int))
 | [],n,_=>.inl ⟨rfl,by simp⟩
 | x::r,n,h=>by
  have m:=h x (by simp);cases hq:q x with
  | true=>exact .inr ⟨[],x,r,rfl,hq,by simp,by simp [zy,m,hq]⟩
  | false =>
   rcases idxF_is r (n+1) (λy c=>h y (by simp [c])) with ⟨e,i⟩ | ⟨A,y,B,rfl,p,i,e⟩
   ·refine .inl ⟨by simp only [zy,m,hq,uc];exact e,?_⟩;intro y c;rcases uF.1 c with rfl | c
    ·exact hq
    ·exact i y c
   ·refine .inr ⟨x::A,y,B,rfl,p,?_,?_⟩
    ·intro z g;rcases uF.1 g with rfl | g
     ·exact hq
     ·exact i z g
    ·simp only [zy,m,hq,uc];rw [show n+(x::A).length=n+1+A.length by simp only [uh];omega];exact e
theorem wrap_a1 {a:Nat} (h:a<=16777216):IntKind.wrap .i64 ((a:Int)+1)=((a+1:Nat):Int):=wrap_add1 (uG (pf h) (by decide))
noncomputable def delF (del:GE->Option Bool) (n:Nat):Int×Int×(List GE)->Option (Out (List GE) (Int×Int×(List GE))):=λs1=>((wA ((s1.2.2).length=n) ((if (decide (s1.2.1 < ((n:Nat):Int)))=true then ((vm s1.2.2 s1.2.1).bind λy14=>((del y14).bind λv15=>(if (!v15)=true then ((vm s1.2.2 s1.1).bind λy17=>some (.nxt ((IntKind.wrap .i64 (s1.1+(1:Int))),(IntKind.wrap .i64 (s1.2.1+(1:Int))),(s1.2.2.set s1.1.toNat y14)))) else some (.nxt (s1.1,(IntKind.wrap .i64 (s1.2.1+(1:Int))),s1.2.2))))) else some (.brk (s1.1,s1.2.1,s1.2.2))))))
theorem delR_eq (f:List GE) (c:GE->Option Bool):yM f c=((z2 f c).bind λi=>(if (i==(-1:Int))=true then some f else (lp (wU (delF c f.length) (i,(IntKind.wrap .i64 (i+(1:Int))),f)) λ(g:Int×Int×(List GE))=>(wA (0<=g.1/\g.1<=((f.length:Nat):Int)) (((slc (g.2.2.take g.1.toNat++List.replicate (f.length - g.1.toNat) zP) (0:Int) g.1).bind λh=>some h)))))):=rfl
theorem delF_run (A:L0.length<=16777216) (h:∀x ∈ L0,del x=some (q x)) {a0 b0:Nat} (D:a0 < b0) (C:b0<=L0.length) (F:L0.take a0=(L0.take b0).filter λx=>!q x) :
  ∃p,wU (delF del L0.length) ((a0:Int),(b0:Int),L0)=some (.inr p)/\∃a:Nat,p.1=(a:Int)/\a < L0.length/\p.2.2.length=L0.length/\p.2.2.take a=L0.filter λx=>!q x:=by
 refine loopW_inv (f:=delF del L0.length) (λs=>∃a b:Nat,s.1=(a:Int)/\s.2.1=(b:Int)/\a < b/\b<=L0.length/\s.2.2.length=L0.length/\s.2.2.take a=(L0.take b).filter (λx=>!q x)/\s.2.2.drop b=L0.drop b)
  _ (λs=>L0.length - s.2.1.toNat) ?_ _ _ rfl ⟨a0,b0,rfl,rfl,D,C,rfl,F,rfl⟩
 rintro ⟨i,j,M⟩ ⟨a,b,y,B,G,z,o,u,t⟩
 simp only at y B o u t;subst y B;simp only [delF,wA,o,uv];by_cases hb:b < L0.length
 ·right;have E:M[b]?=L0[b]?:=by
   have:=congrArg (λl=>l[0]?) t;simpa [uJ] using this
  have v:L0[b]?=some L0[b]:=ui hb;have hd:=h L0[b] (ph hb);have m:vm M (b:Int)=some L0[b]:=by simp [vm,E]
  have c:vm M (a:Int)=some (M[a]'(by omega)):=by simp [vm]
  rw [uz (by simp;omega),m,uc,hd,uc];have g:L0.take (b+1)=L0.take b++[L0[b]]:=by rw [rY,v];rfl
  cases hq:q L0[b] with
  | true =>
   refine ⟨((a:Int),((b+1:Nat):Int),M),by simp [wrap_a1 (uG z A)],⟨a,b+1,rfl,rfl,by omega,by omega,o,?_,?_⟩,by simp;omega⟩
   ·rw [u,g,tY];simp [hq]
   ·have:=congrArg (λl=>l.drop 1) t;simpa [tA] using this
  | false =>
   refine ⟨(((a+1:Nat):Int),((b+1:Nat):Int),M.set a L0[b]),by simp [c,wrap_a1 (uG z A),wrap_a1 (show a<=16777216 by omega)],⟨a+1,b+1,rfl,rfl,by omega,by omega,by simpa using o,?_,?_⟩,by simp;omega⟩
   ·rw [rY,List.take_set_of_le (ue _),u,g,tY,uB (by omega)];simp [hq]
   ·have:=congrArg (λl=>l.drop 1) t;rw [List.drop_set_of_lt (by omega)];simpa [tA] using this
 ·left;have w:b=L0.length:=by omega
  rw [u6 (by simp;omega)];exact ⟨_,rfl,a,rfl,by omega,o,by rw [u,w,rC]⟩
theorem deleteR_is (p:L0.length<=16777216) (h:∀x ∈ L0,del x=some (q x)):yM L0 del=some (L0.filter λx=>!q x):=by
 rw [delR_eq];unfold z2;rcases idxF_is L0 0 h with ⟨e,c⟩ | ⟨A,x,B,i,o,c,e⟩
 ·rw [e];simp only [lp,uc,tW,uv];rw [sf.2 (λx t=>by rw [c x t];rfl)]
 ·rw [e];have j:L0.length=A.length+1+B.length:=by rw [i];simp;omega
  simp only [lp,uc,uV];rw [u6 (by simp <;> omega),wrap_a1 (by omega)];obtain ⟨f,u,a,g,w,v,m⟩:=delF_run p h (a0:=A.length) (b0:=A.length+1) (by omega) (by omega) (by
   rw [i,px,tv,ux (by omega),show A.length+1 - A.length=1 by omega,tY];simp only [s5,List.take_zero,rB,o,List.filter_nil];rw [sf.2 (λy s=>by rw [c y s];rfl)];simp)
  rw [u];simp only [wA];rw [uz (by rw [g];omega),g];have hs:slc (f.2.2.take ((a:Int)).toNat++List.replicate (L0.length - ((a:Int)).toNat) zP) (0:Int) (a:Int)=some (f.2.2.take a):=by
   unfold slc;rw [uz (by simp;omega)];simp only [u9,Int.toNat_zero,sn];rw [uU (by simp;omega),pz,Nat.min_self]
  rw [hs,uc,m]

theorem less_tot:∀(a b:List UInt8),a=b \/ Op.bytesLess a b=true \/ Op.bytesLess b a=true
 | [],[]=>.inl rfl
 | [],_::_=>.inr (.inl rfl)
 | _::_,[]=>.inr (.inr rfl)
 | x::a,y::b=>by
  by_cases h:x=y
  ·subst h;rcases less_tot a b with rfl | h | h
   ·exact .inl rfl
   ·exact .inr (.inl (by simp [Op.bytesLess,h]))
   ·exact .inr (.inr (by simp [Op.bytesLess,h]))
  ·have h':x.toNat ≠ y.toNat:=λe=>h (UInt8.toNat_inj.1 e);rcases Nat.lt_or_gt_of_ne h' with h | h
   ·exact .inr (.inl (by simp [Op.bytesLess,sL,h]))
   ·exact .inr (.inr (by simp [Op.bytesLess,sL,h]))
def qE:List zj->List zj->Bool
 | _,[]=>false
 | [],_::_=>true
 | x::a,y::b=>Op.bytesLess x y || (decide (x=y)&&qE a b)
theorem plt_irr:∀a,qE a a=false
 | []=>rfl
 | x::a=>by simp [qE,less_irr,plt_irr a]
theorem plt_trans:∀{a b c:List zj},qE a b=true->qE b c=true->qE a c=true
 | _,[],_,h,_=>by cases ‹List zj› <;> simp [qE] at h
 | _,_::_,[],_,h=>by simp [qE] at h
 | [],_::_,_::_,_,_=>rfl
 | x::a,y::b,z::c,g,f=>by
  simp only [qE,te,ud,uo] at *;rcases g with g | ⟨rfl,g⟩
  ·rcases f with f | ⟨rfl,f⟩
   ·exact .inl (qg g f)
   ·exact .inl g
  ·rcases f with f | ⟨rfl,f⟩
   ·exact .inl f
   ·exact .inr ⟨rfl,plt_trans g f⟩
theorem plt_tot:∀(a b:List zj),a=b \/ qE a b=true \/ qE b a=true
 | [],[]=>.inl rfl
 | [],_::_=>.inr (.inl rfl)
 | _::_,[]=>.inr (.inr rfl)
 | x::a,y::b=>by
  rcases less_tot x y with rfl | h | h
  ·rcases plt_tot a b with rfl | h | h
   ·exact .inl rfl
   ·exact .inr (.inl (by simp [qE,h]))
   ·exact .inr (.inr (by simp [qE,h]))
  ·exact .inr (.inl (by simp [qE,h]))
  ·exact .inr (.inr (by simp [qE,h]))
theorem plt_path:∀{a b:List zj},qE a b=true->pathLt a b
 | _,[],h=>by cases ‹List zj› <;> simp [qE] at h
 | [],y::b,_=>.inl ⟨y,b,rfl⟩
 | x::a,y::b,h=>by
  simp only [qE,te,ud,uo] at h;rcases h with h | ⟨rfl,h⟩
  ·exact .inr ⟨[],x,y,a,b,rfl,rfl,h⟩
  ·rcases plt_path h with ⟨z,q,rfl⟩ | ⟨p,u,v,a',c,rfl,rfl,f⟩
   ·exact .inl ⟨z,q,rfl⟩
   ·exact .inr ⟨x::p,u,v,a',c,rfl,rfl,f⟩
theorem path_plt {a b:List zj} (h:pathLt a b):qE a b=true:=by
 rcases h with ⟨y,q,rfl⟩ | ⟨p,x,y,a',c,rfl,rfl,h⟩
 ·induction a with
  | nil=>rfl
  | cons x a ih=>simp [qE,ih]
 ·induction p with
  | nil=>simp [qE,h]
  | cons x a ih=>simp [qE,ih]
theorem cmpS_gt {x y:zj} (h:Op.bytesLess y x=true):yy x y=some 1:=by
 have c:Op.bytesLess x y=false:=by
  cases e:Op.bytesLess x y
  ·rfl
  ·have:=qg h e;rw [less_irr] at this;cases this
 unfold yy xg;have f:¬ x=y:=λe=>less_ne h e.symm;simp [h,c,f]
theorem cmpP_gt {a b:List zj} (h:pathLt b a):yJ a b=some 1:=by
 rw [cmpP_eq];rcases h with ⟨y,q,rfl⟩ | ⟨p,x,y,a',c,rfl,rfl,h⟩
 ·have:=cmp_pre (s2:=b) b (y::q) [] [] (by simp);rw [uC] at this;rw [this];have e:cmpF b (0+b.length) y ()=some (.ret 1):=by
   unfold cmpF;rw [uz (tx (by omega))]
  simp only [zy,e,lp_inl]
 ·have:=cmp_pre (s2:=p++x::a') p (y::c) [] (x::a') rfl;rw [uC] at this;rw [this];have f:vm (p++x::a') ((0+p.length:Nat):Int)=some x:=yb (by simp);have e:cmpF (p++x::a') (0+p.length) y ()=some (.ret 1):=by
   unfold cmpF;rw [uQ (by simp only [ul,uh];omega)];simp only [up,uO,f,uc,cmpS_gt h];rfl
  simp only [zy,e,lp_inl]
def Key:=List zj×Int
def wW (a b:Key):Bool:=qE a.1 b.1 || (decide (a.1=b.1)&&decide (a.2 < b.2))
theorem wQ (a:Key):wW a a=false:=by simp [wW,plt_irr]
theorem klt_trans {a b c:Key} (g:wW a b=true) (f:wW b c=true):wW a c=true:=by
 simp only [wW,te,ud,uo] at *;rcases g with g | ⟨i,g⟩
 ·rcases f with f | ⟨h,f⟩
  ·exact .inl (plt_trans g f)
  ·rw [h] at g;exact .inl g
 ·rcases f with f | ⟨h,f⟩
  ·rw [<- i] at f;exact .inl f
  ·exact .inr ⟨i.trans h,by omega⟩
theorem klt_tot (a b:Key):a=b \/ wW a b=true \/ wW b a=true:=by
 obtain ⟨p,k⟩:=a;obtain ⟨q,j⟩:=b;rcases plt_tot p q with rfl | h | h
 ·rcases Int.lt_trichotomy k j with h | rfl | h
  ·exact .inr (.inl (by simp [wW,h]))
  ·exact .inl rfl
  ·exact .inr (.inr (by simp [wW,h]))
 ·exact .inr (.inl (by simp [wW,h]))
 ·exact .inr (.inr (by simp [wW,h]))
def yi (e:GC):Key:=(e.path,e.typ)
def rkey (r:GK):Key:=(r.path,r.leaf.typ)
def ordI (a b:GC):Int:=if wW (yi a) (yi b)=true then -1 else if wW (yi b) (yi a)=true then 1 else 0
theorem plt_asym {a b:List zj} (h:qE a b=true):qE b a=false:=by
 cases e:qE b a
 ·rfl
 ·have:=plt_trans h e;rw [plt_irr] at this;cases this
theorem order_is (a b:GC):wH a b=some (ordI a b):=by
 unfold wH ordI wW yi;rcases plt_tot a.path b.path with h | h | h
 ·simp only [h,cmpP_self,cmpU8is,uc,cmpOr2_is,plt_irr,tP,rE,uZ,uo,or2,cmpI];simp
 ·have c:a.path ≠ b.path:=λe=>by rw [e,plt_irr] at h;cases h
  simp only [cmpP_lt (plt_path h),cmpU8is,uc,cmpOr2_is,h,or2];simp
 ·have c:a.path ≠ b.path:=λe=>by rw [e,plt_irr] at h;cases h
  simp only [cmpP_gt (plt_path h),cmpU8is,uc,cmpOr2_is,h,plt_asym h,or2];simp [c]
theorem ordI_lt {a b:GC}:ordI a b < 0 ↔ wW (yi a) (yi b)=true:=by
 unfold ordI;split
 ·rename_i h;simp [h]
 ·rename_i h;split
  ·simp [h]
  ·simp [h]
theorem sortO_lt {α:Type} {c:α->α->Option Int} {cf:α->α->Int} {lt:α->α->Prop} {L R:List α} (D:∀x ∈ L,∀y ∈ L,c x y=some (cf x y)) (v:∀x y,cf x y < 0 ↔ lt x y) (s:∀x,¬ lt x x) (tr:∀x y z,lt x y->lt y z->lt x z)
  (p:∀x ∈ L,∀y ∈ L,x=y \/ lt x y \/ lt y x) (t:R.Perm L) (hs:R.Pairwise lt) (F:L.length<=xO):sortO c L=some R:=by
 unfold sortO;rw [uz (λx f y g=>by rw [D x f y g];rfl)];have hd:∀x ∈ L,∀y ∈ L,(c x y).getD 0 < 0 ↔ lt x y:=λx f y g=>by rw [D x f y g];exact v x y
 have j:∀x y,lt x y->¬ lt y x:=λx y m i=>s x (tr _ _ _ m i);have C:R.Pairwise λa b=>¬ (c b a).getD 0 < 0:=by
  have:R.Pairwise λa b=>a ∈ L/\b ∈ L/\lt a b:=by
   refine s7 ?_ hs;intro a b B w h;exact ⟨t.subset B,t.subset w,h⟩
  refine this.imp ?_
  rintro a b ⟨B,w,h⟩ i
  exact j _ _ h ((hd b w a B).1 i)
 refine sortF_of ⟨λx f h=>s x ((hd x f x f).1 h),λx y z f g o m i=>(hd x f z o).2 (tr _ _ _ ((hd x f y g).1 m) ((hd y g z o).1 i)),λx y z f g o m i u=>?_⟩ F ⟨t,C⟩ ?_
 ·have u:=(hd x f z o).1 u;rcases p x f y g with rfl | h | h
  ·exact i ((hd _ g z o).2 u)
  ·exact m ((hd x f y g).2 h)
  ·exact i ((hd y g z o).2 (tr _ _ _ h u))
 ·rintro M ⟨A,E⟩
  refine sorted_one (A.trans t.symm) E C λx y f g m i=>?_;have f:=A.subset f;have g:=A.subset g;rcases p x f y g with e | h | h
  ·exact e
  ·exact (m ((hd x f y g).2 h)).elim
  ·exact (i ((hd y g x f).2 h)).elim
theorem exists_sorted {α:Type} {lt:α->α->Prop} (tr:∀x y z,lt x y->lt y z->lt x z):∀(L:List α),L.Pairwise (λx y=>lt x y \/ lt y x)->∃R:List α,R.Perm L/\R.Pairwise lt
 | [],_=>⟨[],.refl _,.nil⟩
 | x::L,h=>by
  obtain ⟨s,p⟩:=uM.1 h;obtain ⟨R,j,hs⟩:=exists_sorted tr L p;have g:∀(R:List α),R.Pairwise lt->(∀y ∈ R,lt x y \/ lt y x)->∃Q:List α,Q.Perm (x::R)/\Q.Pairwise lt:=by
   intro R
   induction R with
   | nil=>exact λ_ _=>⟨[x],.refl _,by simp⟩
   | cons y R ih =>
    intro hs o;obtain ⟨m,s2⟩:=uM.1 hs;rcases o y (by simp) with h | h
    ·refine ⟨x::y::R,.refl _,uM.2 ⟨λz c=>?_,hs⟩⟩;rcases uF.1 c with rfl | c
     ·exact h
     ·exact tr _ _ _ h (m z c)
    ·obtain ⟨Q,f,i⟩:=ih s2 λz c=>o z (by simp [c]);refine ⟨y::Q,((pB y).2 f).trans (.swap _ _ _),uM.2 ⟨λz c=>?_,i⟩⟩;rcases uF.1 (f.subset c) with rfl | c
     ·exact h
     ·exact m z c
  obtain ⟨Q,f,i⟩:=g R hs λy t=>s y (j.subset t);exact ⟨Q,f.trans ((pB x).2 j),i⟩

theorem cmp_pos:∀{a b:List UInt8},Op.bytesLess b a=true->0 < Lib.compareBytes a b
 | [],b,h=>by cases b <;> simp [Op.bytesLess] at h
 | _::_,[],_=>by simp [Lib.compareBytes]
 | x::a,y::b,h=>by
  simp only [Op.bytesLess,te,ud,uo,sP] at h;rcases h with h | ⟨rfl,h⟩
  ·have h':y.toNat < x.toNat:=sL.1 h;have c:¬ x < y:=λe=>by have:=sL.1 e;omega
   simp [Lib.compareBytes,h,c]
  ·have:=cmp_pos h;simp [Lib.compareBytes,this]
def NLt (s:zj) (A:List GA):Prop:=∀y ∈ A,Op.bytesLess y.name s=true
def NGt (s:zj) (B:List GA):Prop:=∀y ∈ B,Op.bytesLess s y.name=true
theorem split_up {t:List GA} (s:zj) (h:upB t=true):(∃A B,t=A++B/\NLt s A/\NGt s B) \/ ∃A x B,t=A++x::B/\x.name=s/\NLt s A/\NGt s B:=by
 rw [q8] at h
 induction t with
 | nil=>exact .inl ⟨[],[],rfl,λ_ h=>by simp at h,λ_ h=>by simp at h⟩
 | cons x t ih =>
  obtain ⟨i,j⟩:=uM.1 h;rcases less_tot x.name s with e | e | e
  ·exact .inr ⟨[],x,t,rfl,e,λ_ h=>by simp at h,λy c=>by rw [<- e];exact i y c⟩
  ·rcases ih j with ⟨A,B,rfl,f,g⟩ | ⟨A,z,B,rfl,m,f,g⟩
   ·refine .inl ⟨x::A,B,rfl,λy c=>?_,g⟩;rcases uF.1 c with rfl | c
    ·exact e
    ·exact f y c
   ·refine .inr ⟨x::A,z,B,rfl,m,λy c=>?_,g⟩;rcases uF.1 c with rfl | c
    ·exact e
    ·exact f y c
  ·refine .inl ⟨[],x::t,rfl,λ_ h=>by simp at h,λy c=>?_⟩;rcases uF.1 c with rfl | c
   ·exact e
   ·exact qg e (i y c)
theorem bs_none {A B:List GA} {s:zj} (t:(A++B).length<=16777216) (j:NLt s A) (g:NGt s B):zD (A++B) s (λh p=>wI h p)=some ((A.length:Int),false):=by
 rw [bs_is (c:=A.length) t (by simp) λi m hi=>⟨_,layC1_is m s,λf=>by
   rw [uk f] at hi;exact cmp_less.2 (j m (uK hi)),λf=>by
   rw [uf f] at hi;exact Int.le_of_lt (cmp_pos (g m (uK hi)))⟩]
 cases B with
 | nil=>simp
 | cons y B =>
  have e:(A++y::B).getD A.length default=y:=by simp
  have:=cmp_pos (g y (by simp));rw [uz (by simp),e,layC1_is];have o:(Lib.compareBytes y.name s==0)=false:=by simp;omega
  simp [o]
theorem bs_some {A B:List GA} {x:GA} {s:zj} (t:(A++x::B).length<=16777216) (hs:x.name=s) (j:NLt s A) (p:NGt s B):zD (A++x::B) s (λg o=>wI g o)=some ((A.length:Int),true):=by
 subst hs;rw [bs_is (c:=A.length) t (by simp) λi m hi=>⟨_,layC1_is m x.name,λf=>by
   rw [uk f] at hi;exact cmp_less.2 (j m (uK hi)),λf=>by
   rw [uf f] at hi;rcases uF.1 (uK hi) with rfl | h
   ·rw [cmp_self];exact r7 _
   ·exact Int.le_of_lt (cmp_pos (p m h))⟩]
 have e:(A++x::B).getD A.length default=x:=by simp
 rw [uz (by simp),e,layC1_is,cmp_self];simp
noncomputable def layIn (n:Nat) (path1:List zj) (kind2:Int) (l3:GE) (there4:Bool) (s1:zj×(List GE)×(List GA)):Option (List GA ⊕ ((List GE)×(List GA))):=((if (decide (((path1).length:Int) > (1:Int)))=true then ((slc path1 (1:Int) ((path1).length:Int)).bind λm20=>((wS n s1.2.2 m20 kind2 l3 there4).bind λv21=>some (.inr (s1.2.1,v21)))) else ((wl s1.2.1).bind λv22=>((yM v22 (λx0=>diffXlayC2 x0 kind2)).bind λv23=>(if there4=true then ((qJ l3).bind λv25=>(wA ((v23).length+(([v25]:List GE)).length<=xO) (((sortO (λx y=>qm x y) (v23++([v25]:List GE))).bind λv27=>some (.inr (v27,s1.2.2)))))) else some (.inr (v23,s1.2.2)))))):Option (_ ⊕ ((List GE)×(List GA))))
noncomputable def layRest (t0:List GA) (i:Int) (f:Bool) (nm:zj) (s2:(List GE)×(List GA)):Option (List GA):=((slc t0 (0:Int) i).bind λm28=>((xk m28).bind λv29=>(if (decide ((IntKind.wrap .i64 (((s2.1).length:Int)+((s2.2).length:Int))) > (0:Int)))=true then (wA ((v29).length+(([(GA.mk nm s2.1 s2.2)]:List GA)).length<=xO) ((if f=true then ((slc t0 (IntKind.wrap .i64 (i+(1:Int))) ((t0).length:Int)).bind λm35=>(wA (((v29++([(GA.mk nm s2.1 s2.2)]:List GA))).length+(m35).length<=xO) (some ((v29++([(GA.mk nm s2.1 s2.2)]:List GA))++m35)))) else ((slc t0 i ((t0).length:Int)).bind λm37=>(wA (((v29++([(GA.mk nm s2.1 s2.2)]:List GA))).length+(m37).length<=xO) (some ((v29++([(GA.mk nm s2.1 s2.2)]:List GA))++m37))))))) else (if f=true then ((slc t0 (IntKind.wrap .i64 (i+(1:Int))) ((t0).length:Int)).bind λm40=>(wA ((v29).length+(m40).length<=xO) (some (v29++m40)))) else ((slc t0 i ((t0).length:Int)).bind λm42=>(wA ((v29).length+(m42).length<=xO) (some (v29++m42))))))))
theorem layN_eq (n:Nat) (t0:List GA) (c:List zj) (g:Int) (m:GE) (f:Bool):wS (n+1) t0 c g m f=((vm c (0:Int)).bind λt=>((zD t0 t (λo s=>wI o s)).bind λh=>((vm c (0:Int)).bind λp=>(lp ((if h.2=true then ((vm t0 h.1).bind λi=>some (.inr (i.name,i.leaves,i.subs))) else some (.inr (p,([]:List GE),([]:List GA)))):Option (_ ⊕ (zj×(List GE)×(List GA)))) λ(j:zj×(List GE)×(List GA))=>(lp (layIn n c g m f j) λ(s2:(List GE)×(List GA))=>layRest t0 h.1 h.2 j.1 s2))))):=rfl
def layLs (k:Int) (l:GE) (there:Bool) (ls:List GE):List GE:=if there=true then ls.filter (λx=>decide (x.typ < k))++[l]++ls.filter (λx=>decide (k < x.typ)) else ls.filter (λx=>!decide (x.typ=k))
theorem ups_inj (h:ls.Pairwise λx y=>x.typ < y.typ) {x y:GE} (m:x ∈ ls) (o:y ∈ ls) (e:x.typ=y.typ):x=y:=by
 induction ls with
 | nil=>simp at m
 | cons z r ih =>
  obtain ⟨j,p⟩:=uM.1 h;rcases uF.1 m with g | c <;> rcases uF.1 o with i | f
  ·rw [g,i]
  ·have:=j y f;rw [<- g] at this;omega
  ·have:=j x c;rw [<- i] at this;omega
  ·exact ih p c f
theorem layLs_up (g:there=true->l.typ=k) (h:ls.Pairwise λx y=>x.typ < y.typ):(layLs k l there ls).Pairwise λx y=>x.typ < y.typ:=by
 unfold layLs;split
 ·rename_i i;have g:=g i;rw [tb,tb];refine ⟨⟨h.filter _,by simp,λx c y f=>?_⟩,h.filter _,λx c y f=>?_⟩
  ·have c:=(uW.1 c).2;simp at c f;subst f;omega
  ·have f:=(uW.1 f).2;simp at f;rcases uE.1 c with c | c
   ·have c:=(uW.1 c).2;simp at c;omega
   ·simp at c;subst c;omega
 ·exact h.filter _
theorem sortLs_is (i:l.typ=k) (m:ls.length<=16777216) (h:ls.Pairwise λx y=>x.typ < y.typ):sortO (λx y=>qm x y) (ls.filter (λx=>!decide (x.typ=k))++[l])=some (layLs k l true ls):=by
 have j:=tq (λx:GE=>!decide (x.typ=k)) ls;refine sortO_lt (α:=GE) (cf:=λx y=>cmpI x.typ y.typ) (lt:=λx y=>x.typ < y.typ) (λx _ y _=>by unfold qm;rw [cmpU8is];rfl) (λx y=>by unfold cmpI;split <;> (try split) <;> omega) (λx h=>by omega) (λx y z g o=>by omega) ?_ ?_ (layLs_up (λ_=>i) h) (xT (by simp;omega))
 ·intro x f y c;rcases Int.lt_trichotomy x.typ y.typ with e | e | e
  ·exact .inr (.inl e)
  ·left;rcases uE.1 f with f | f <;> rcases uE.1 c with c | c
   ·exact ups_inj h (uW.1 f).1 (uW.1 c).1 e
   ·have f:=(uW.1 f).2;simp at f c;subst c;omega
   ·have c:=(uW.1 c).2;simp at f c;subst f;omega
   ·simp at f c;rw [f,c]
  ·exact .inr (.inr e)
 ·unfold layLs;rw [uz rfl];have g:(ls.filter (λx=>decide (x.typ < k))++ls.filter (λx=>decide (k < x.typ))).Perm (ls.filter λx=>!decide (x.typ=k)):=by
   have:=pk (λx:GE=>decide (x.typ < k)) (ls.filter λx=>!decide (x.typ=k));rw [rW,rW] at this;refine List.Perm.trans (.of_eq ?_) this;congr 1 <;> refine r6 λx _=>?_ <;> rw [uS] <;> simp <;> omega
  rw [ur];refine List.Perm.trans (List.Perm.append_left _ List.perm_append_comm) ?_;rw [<- ur];exact g.append_right _
theorem layIn_leaf {s:zj} {i:zj} {f:List GA} (g:there=true->l.typ=k/\LeafOk l) (c:ls.length<=16777216) (h:ls.Pairwise λx y=>x.typ < y.typ) :
  layIn n [s] k l there (i,ls,f)=some (.inr (layLs k l there ls,f)):=by
 unfold layIn;have j:decide (((([s]:List zj).length:Int)) > 1)=false:=rfl;have p:=tq (λx:GE=>!decide (x.typ=k)) ls;simp only [j,up,uO];rw [cloneLeaf_is (xT (by omega)),uc,deleteR_is (q:=λx=>decide (x.typ=k)) c (λx _=>by unfold diffXlayC2;rfl),uc];cases there with
 | false=>simp [layLs]
 | true =>
  obtain ⟨o,m⟩:=g rfl;simp only [uv];rw [own_is m,uc,yl (xT (by simp;omega)),sortLs_is o c h,uc]
theorem layIn_sub {s a:zj} {r:List zj} {g:zj} {f c:List GA} (m:(s::a::r).length<=16777216) (h:wS n f (a::r) k l there=some c):layIn n (s::a::r) k l there (g,ls,f)=some (.inr (ls,c)):=by
 unfold layIn;have i:decide ((((s::a::r).length:Int)) > 1)=true:=tx (by simp only [uh];omega);simp only [i,uv];rw [slc_at ⟨by omega,by simp only [uh];omega,r7 _⟩,uc];have j:((s::a::r).take (((s::a::r).length:Int)).toNat).drop (1:Int).toNat=a::r:=by rw [u9,rC];rfl
 rw [j,h,uc]
def fitN (nm:zj) (ls:List GE) (sb:List GA):List GA:=if ls.length+sb.length=0 then [] else [⟨nm,ls,sb⟩]
theorem layRest_is {A B:List GA} {m:List GA} {o:zj} {g:List GA} {f:Bool} (j:m.length=if f=true then 1 else 0) (u:(A++m++B).length<=16777216) (w:ls.length<=16777216) (v:g.length<=16777217) :
  layRest (A++m++B) (A.length:Int) f o (ls,g)=some (A++fitN o ls g++B):=by
 simp only [ul] at u;unfold layRest;rw [slc_at ⟨r7 _,by omega,by simp;omega⟩,uc];have t:((A++m++B).take ((A.length:Int)).toNat).drop (0:Int).toNat=A:=by simp
 rw [t,cloneNode_is (xT (by omega)),uc];have p:∀(c:List GA),c.length<=A.length+1->((if f=true then ((slc (A++m++B) (IntKind.wrap .i64 ((A.length:Int)+(1:Int))) ((A++m++B).length:Int)).bind λi=>(wA (c.length+(i).length<=xO) (some (c++i)))) else ((slc (A++m++B) (A.length:Int) ((A++m++B).length:Int)).bind λh=>(wA (c.length+(h).length<=xO) (some (c++h))))):Option (List GA))=some (c++B):=by
  intro c x;cases f with
  | true =>
   simp only [uv] at j ⊢;rw [w64n (by omega),slc_at ⟨by omega,by simp;omega,r7 _⟩,uc];have e:((A++m++B).take (((A++m++B).length:Int)).toNat).drop ((A.length:Int)+1).toNat=B:=by
    rw [u9,rC,show ((A.length:Int)+1).toNat=(A++m).length by simp;omega,rl]
   rw [e,yl (xT (by omega))]
  | false =>
   simp only [up,uO] at j ⊢;obtain rfl:=uL j;rw [slc_at ⟨by omega,by simp;omega,r7 _⟩,uc];have e:((A++[]++B).take (((A++[]++B).length:Int)).toNat).drop ((A.length:Int)).toNat=B:=by
    simp only [u9];rw [rC,tu,rl]
   rw [e,yl (xT (by omega))]
 unfold fitN;have s:IntKind.wrap .i64 ((ls.length:Int)+(g.length:Int))=(ls.length:Int)+(g.length:Int):=w64n (by omega);simp only [s];by_cases h0:ls.length+g.length=0
 ·rw [uz h0,u6 (by simp;omega),tu];exact p A (by omega)
 ·rw [u6 h0,uz (by simp;omega),yl (xT (by simp;omega))];exact p (A++[⟨o,ls,g⟩]) (by simp)

theorem leaves_of (h:ls.Pairwise λx y=>x.typ < y.typ) (g:∀l ∈ ls,leafB l=true):leavesB ls=true:=by
 unfold leavesB;rw [allI_iff];intro i x c;have f:=g x (uK c);simp only [f,uZ];rcases i with _ | i
 ·rfl
 ·obtain ⟨hi,rfl⟩:=ua.1 c;have:=tI.1 h i (i+1) (by omega) hi (by omega);simp only [so,te,uo];right;rw [uN,ui (by omega:i < ls.length)];exact this
theorem vw (a:List zj) (A B:List GA):zz a (A++B)=zz a A++zz a B:=by rw [yF,yF,yF,List.flatMap_append]
theorem rowsN_mem {a:List zj} {x:GA}:r ∈ rowsN a x ↔ (∃l ∈ x.leaves,r=⟨a++[x.name],l⟩) \/ r ∈ zz (a++[x.name]) x.subs:=by
 rw [yZ,uE,tp];constructor
 ·rintro (⟨l,c,rfl⟩ | h)
  ·exact .inl ⟨l,c,rfl⟩
  ·exact .inr h
 ·rintro (⟨l,c,rfl⟩ | h)
  ·exact .inl ⟨l,c,rfl⟩
  ·exact .inr h
theorem qD {a:List zj} {x:GA}:zz a [x]=rowsN a x:=by simp [zz]
theorem fit_mem {a:List zj} {c:zj} {f:List GA}:r ∈ zz a (fitN c ls f) ↔ (∃l ∈ ls,r=⟨a++[c],l⟩) \/ r ∈ zz (a++[c]) f:=by
 unfold fitN;split
 ·rename_i h;have i:ls=[]:=uL (by omega);have g:f=[]:=uL (by omega);subst i g;simp [zz]
 ·rw [qD,rowsN_mem]
theorem len_rows (t:List GA) (a b:List zj):(zz a t).length=(zz b t).length:=by
 have f:=rows_pre t a [];have c:=rows_pre t b [];rw [tu] at f c;rw [f,c,uA,uA]
theorem node_row:∀(t:List GA) (d:Nat),xD d t=true->t.length<=(zz [] t).length:=by
 refine wY (λ_ _=>tH _) ?_;intro x r j i d f;simp only [xD,ud] at f;have m:=i d f.2;have c:=f.1;rw [nodeB_eq] at c;simp only [ud,treeB,sA,rz] at c;have g:=j (d+1) c.1.2.2;rw [show x::r=[x]++r from rfl,vw,qD,yZ];simp only [ul,uA,uh,uC];rw [len_rows x.subs ([]++[x.name]) []];rcases c.1.1.2 with h | h
 ·cases hl:x.leaves with
  | nil=>rw [hl] at h;cases h
  | cons l ls=>simp only [uh];omega
 ·cases hl:x.subs with
  | nil=>rw [hl] at h;cases h
  | cons l ls=>rw [hl] at g;simp only [uh] at g;omega
theorem mem_rows_len {t:List GA} {x:GA} (c:x ∈ t):x.leaves.length+(zz [] x.subs).length<=(zz [] t).length:=by
 obtain ⟨A,B,rfl⟩:=List.append_of_mem c;rw [vw,show x::B=[x]++B from rfl,vw,qD,yZ];simp only [ul,uA];rw [len_rows x.subs ([]++[x.name]) []];omega
theorem yz {t:List GA} (h:treeB d t=true):upB t=true/\∀x ∈ t,nodeB d x=true:=by
 simp only [treeB,ud,wg,uw] at h;exact ⟨h.1.2,h.2⟩
theorem treeB_of {t:List GA} (hd:d < 3) (f:upB t=true) (c:∀x ∈ t,nodeB d x=true):treeB d t=true:=by
 simp only [treeB,ud,wg,uw,f,hd,rE,pq,pF];exact c
theorem nodeB_parts {x:GA} (h:nodeB d x=true):nameB x.name=true/\treeB (d+1) x.subs=true/\leavesB x.leaves=true:=by
 rw [nodeB_eq] at h;simp only [ud] at h;exact ⟨h.1.1.1,h.1.2,h.2⟩
theorem find_node {t:List GA} (s:zj) (h:treeB d t=true) (y:(zz [] t).length<=16777215):∃A m B f ls i,t=A++m++B/\NLt s A/\NGt s B/\m.length=(if f=true then 1 else 0)/\zD t s (λu z=>wI u z)=some ((A.length:Int),f) /\
  ((if f=true then ((vm t (A.length:Int)).bind λj=>some (.inr (j.name,j.leaves,j.subs))) else some (.inr (s,([]:List GE),([]:List GA)))):Option (List GA ⊕ (zj×(List GE)×(List GA))))=some (.inr (s,ls,i))/\treeB (d+1) i=true/\leavesB ls=true /\
  ls.length+(zz [] i).length<=(zz [] t).length/\∀a r,r ∈ zz a m ↔ (∃l ∈ ls,r=⟨a++[s],l⟩) \/ r ∈ zz (a++[s]) i:=by
 obtain ⟨w,p⟩:=yz h;have D:t.length<=16777215:=uG (node_row t d (by rw [wg];exact uw.2 p)) y;rcases split_up s w with ⟨A,B,rfl,g,c⟩ | ⟨A,x,B,rfl,o,g,c⟩
 ·refine ⟨A,[],B,false,[],[],by simp,g,c,rfl,bs_none (by omega) g c,rfl,qC _,rfl,by simp [zz],λa r=>by simp [zz]⟩
 ·obtain ⟨E,C,v⟩:=nodeB_parts (p x (by simp));refine ⟨A,[x],B,true,x.leaves,x.subs,by simp,g,c,rfl,bs_some (by omega) o g c,?_,C,v,mem_rows_len (by simp),λa r=>?_⟩
  ·rw [uz rfl,yb (x:=x) (by simp),uc,o]
  ·rw [qD,rowsN_mem,o]
theorem rows_off {s:zj} {A:List GA} (h:∀y ∈ A,y.name ≠ s) {a q:List zj} {r:GK} (f:r ∈ zz a A):r.path ≠ a++s::q:=by
 obtain ⟨x,i,w,e⟩:=vZ f;rw [e];intro g;have:=rk g;injection this with c _;exact h x i c
theorem NLt.ne {s:zj} {A:List GA} (h:NLt s A):∀y ∈ A,y.name ≠ s:=λy c=>less_ne (h y c)
theorem NGt.ne {s:zj} {A:List GA} (h:NGt s A):∀y ∈ A,y.name ≠ s:=λy c=>(less_ne (h y c)).symm
theorem lay_fin {A m B:List GA} {s:zj} {g:List GA} (hd:d < 3) (h:treeB d (A++m++B)=true) (p:NLt s A) (o:NGt s B) (hs:nameB s=true) (v:leavesB ls=true) (t:treeB (d+1) g=true):treeB d (A++fitN s ls g++B)=true:=by
 obtain ⟨u,n⟩:=yz h;rw [q8,tb,tb] at u;have i:∀x ∈ A,∀y ∈ B,Op.bytesLess x.name y.name=true:=λx c y f=>qg (p x c) (o y f);have j:∀x ∈ fitN s ls g,x=⟨s,ls,g⟩/\¬ ls.length+g.length=0:=λx c=>by
  unfold fitN at c;split at c
  ·simp at c
  ·rename_i h0;simp at c;exact ⟨c,h0⟩
 refine treeB_of hd ?_ ?_
 ·rw [q8,tb,tb];refine ⟨⟨u.1.1,?_,λx c y f=>by rw [(j y f).1];exact p x c⟩,u.2.1,λx c y f=>?_⟩
  ·unfold fitN;split <;> simp
  ·rcases uE.1 c with c | c
   ·exact i x c y f
   ·rw [(j x c).1];exact o y f
 ·intro x c;rcases uE.1 c with c | c
  ·rcases uE.1 c with c | c
   ·exact n x (by simp [c])
   ·obtain ⟨rfl,h0⟩:=j x c;rw [nodeB_eq];simp only [hs,v,t,tL,uZ,sA,rz];cases ls with
    | cons _ _=>exact .inl rfl
    | nil=>cases g with
     | cons _ _=>exact .inr rfl
     | nil=>simp at h0
  ·exact n x (by simp [c])
theorem fit_len (s:zj) (ls:List GE) (c:List GA):(fitN s ls c).length<=1:=by unfold fitN;split <;> simp
theorem layLs_mem {x:GE}:x ∈ layLs k l there ls ↔ (x ∈ ls/\x.typ ≠ k) \/ (there=true/\x=l):=by
 unfold layLs;cases there with
 | false=>simp
 | true =>
  simp only [uv,uE,uW,ut,uo,pF];constructor
  ·rintro ((⟨h,c⟩ | h) | ⟨h,c⟩)
   ·exact .inl ⟨h,by omega⟩
   ·exact .inr h
   ·exact .inl ⟨h,by omega⟩
  ·rintro (⟨h,c⟩ | h)
   ·rcases Int.lt_or_gt_of_ne c with f | f
    ·exact .inl (.inl ⟨h,f⟩)
    ·exact .inr ⟨h,f⟩
   ·exact .inl (.inr h)
theorem lay_is {k:Int} {l:GE} {there:Bool} (z:there=true->l.typ=k/\leafB l=true/\LeafOk l):∀(p:List zj) (t:List GA) (d n:Nat),p ≠ []->p.all nameB=true->d+p.length<=3->treeB d t=true->(zz [] t).length<=16777215->p.length < n ->
  ∃t',wS n t p k l there=some t'/\treeB d t'=true/\t'.length<=t.length+1/\∀a r,r ∈ zz a t' ↔ (r ∈ zz a t/\rkey r ≠ (a++p,k)) \/ (there=true/\r=⟨a++p,l⟩)
 | [],_,_,_,h,_,_,_,_,_=>absurd rfl h
 | _::_,_,_,0,_,_,_,_,_,h=>by omega
 | s::q,t,d,n+1,_,hp,hd,ht,hw,hn=>by
  simp only [tf,ud,uh] at hp hd hn;obtain ⟨A,m,B,f,ls,D,rfl,G,F,Q,J,K,o,E,P,v⟩:=find_node s ht hw;have I:vm (s::q) (0:Int)=some s:=rfl;obtain ⟨C,O⟩:=leaves_up E;have V:(A++m++B).length<=16777215:=uG (node_row _ d (by rw [wg];exact uw.2 (yz ht).2)) hw;have U:=λi g=>fit_len s i g;have j:∀i g,(A++fitN s i g++B).length<=(A++m++B).length+1:=λi g=>by
   have:=fit_len s i g;simp only [ul];omega
  rw [layN_eq,I,uc,J,uc,uc];simp only [];rw [K,wV];cases q with
  | nil =>
   rw [layIn_leaf (λh=>⟨(z h).1,(z h).2.2⟩) (by omega) C,wV,layRest_is Q (by omega) (by
    have:(layLs k l there ls).length<=ls.length+1:=by
     unfold layLs;split
     ·have y:=pk (λx:GE=>decide (x.typ < k)) ls;have w:=y.length_eq;have h3:(ls.filter λx=>decide (k < x.typ)).length<=(ls.filter λx=>!decide (x.typ < k)).length:=by
       have:(ls.filter λx=>decide (k < x.typ))=(ls.filter λx=>!decide (x.typ < k)).filter (λx=>decide (k < x.typ)):=by
        rw [rW];refine r6 λx _=>?_;rw [uS];simp;omega
       rw [this];exact tq _ _
      simp only [ul,uh,uC] at w ⊢;omega
     ·exact sC (tq _ _)
    omega) (by have:=node_row D (d+1) (by rw [wg];exact uw.2 (yz o).2);omega)]
   refine ⟨_,rfl,lay_fin (by omega) ht G F hp.1 (leaves_of (layLs_up (λh=>(z h).1) C) λx u=>?_) o,j _ _,λa r=>?_⟩
   ·rcases layLs_mem.1 u with h | ⟨h,rfl⟩
    ·exact O x h.1
    ·exact (z h).2.1
   ·simp only [vw,uE,fit_mem,v];have H:r ∈ zz a A->rkey r ≠ (a++[s],k):=λh e=>rows_off G.ne h (congrArg Prod.fst e);have N:r ∈ zz a B->rkey r ≠ (a++[s],k):=λh e=>rows_off F.ne h (congrArg Prod.fst e);have M:r ∈ zz (a++[s]) D->rkey r ≠ (a++[s],k):=λh e=>by
     have:=(rows_path D _ r h).1;rw [show r.path=a++[s] from congrArg Prod.fst e] at this;omega
    constructor
    ·rintro ((h | ⟨x,u,rfl⟩ | h) | h)
     ·exact .inl ⟨.inl (.inl h),H h⟩
     ·rcases layLs_mem.1 u with ⟨y,w⟩ | ⟨y,rfl⟩
      ·exact .inl ⟨.inl (.inr (.inl ⟨x,y,rfl⟩)),λe=>w (congrArg Prod.snd e)⟩
      ·exact .inr ⟨y,rfl⟩
     ·exact .inl ⟨.inl (.inr (.inr h)),M h⟩
     ·exact .inl ⟨.inr h,N h⟩
    ·rintro (⟨(h | ⟨x,u,rfl⟩ | h) | h,w⟩ | ⟨y,rfl⟩)
     ·exact .inl (.inl h)
     ·exact .inl (.inr (.inl ⟨x,layLs_mem.2 (.inl ⟨u,λe=>w (by rw [<- e];rfl)⟩),rfl⟩))
     ·exact .inl (.inr (.inr h))
     ·exact .inr h
     ·exact .inl (.inr (.inl ⟨l,layLs_mem.2 (.inr ⟨y,rfl⟩),rfl⟩))
  | cons c q =>
   obtain ⟨g,Y,T,e3,Z⟩:=lay_is z (c::q) D (d+1) n (by simp) hp.2 (by simp only [uh] at hd ⊢;omega) o (by omega) (by omega);have R:=node_row D (d+1) (by rw [wg];exact uw.2 (yz o).2);rw [layIn_sub (by simp only [uh] at hd ⊢;omega) Y,wV,layRest_is Q (by omega) (by omega) (by omega)];refine ⟨_,rfl,lay_fin (by omega) ht G F hp.1 E T,j _ _,λa r=>?_⟩;simp only [vw,uE,fit_mem,v,Z];have ea:a++[s]++c::q=a++s::c::q:=by simp
   rw [ea];have H:r ∈ zz a A->rkey r ≠ (a++s::c::q,k):=λh e=>rows_off G.ne h (congrArg Prod.fst e);have N:r ∈ zz a B->rkey r ≠ (a++s::c::q,k):=λh e=>rows_off F.ne h (congrArg Prod.fst e);have M:∀x,r=⟨a++[s],x⟩->rkey r ≠ (a++s::c::q,k):=λx h e=>by
    rw [h] at e;have:=congrArg List.length (congrArg Prod.fst e);simp [rkey] at this
   constructor
   ·rintro ((h | ⟨x,u,h⟩ | (h | h)) | h)
    ·exact .inl ⟨.inl (.inl h),H h⟩
    ·exact .inl ⟨.inl (.inr (.inl ⟨x,u,h⟩)),M x h⟩
    ·exact .inl ⟨.inl (.inr (.inr h.1)),h.2⟩
    ·exact .inr h
    ·exact .inl ⟨.inr h,N h⟩
   ·rintro (⟨(h | ⟨x,u,h⟩ | h) | h,w⟩ | h)
    ·exact .inl (.inl h)
    ·exact .inl (.inr (.inl ⟨x,u,h⟩))
    ·exact .inl (.inr (.inr (.inl ⟨h,w⟩)))
    ·exact .inr h
    ·exact .inl (.inr (.inr (.inr h)))

theorem rowLt_iff {q:GK}:rowLt r q ↔ wW (rkey r) (rkey q)=true:=by
 unfold rowLt wW rkey;simp only [te,ud,uo];constructor
 ·rintro (h | h)
  ·exact .inl (path_plt h)
  ·exact .inr h
 ·rintro (h | h)
  ·exact .inl (plt_path h)
  ·exact .inr h
theorem sorted_ext {α:Type} {lt:α->α->Prop} (c:∀x,¬ lt x x) (tr:∀x y z,lt x y->lt y z->lt x z):∀{L M:List α},L.Pairwise lt->M.Pairwise lt->(∀x,x ∈ L ↔ x ∈ M)->L=M
 | [],[],_,_,_=>rfl
 | [],y::M,_,_,h=>by have:=(h y).2 (by simp);simp at this
 | x::L,[],_,_,h=>by have:=(h x).1 (by simp);simp at this
 | x::L,y::M,h1,h2,h=>by
  obtain ⟨j,m⟩:=uM.1 h1;obtain ⟨i,p⟩:=uM.1 h2;have e:x=y:=by
   rcases uF.1 ((h x).1 (by simp)) with e | s
   ·exact e
   ·rcases uF.1 ((h y).2 (by simp)) with e | o
    ·exact e.symm
    ·exact (c x (tr _ _ _ (j y o) (i x s))).elim
  subst e;rw [sorted_ext c tr m p λz=>?_];constructor
  ·intro g;rcases uF.1 ((h z).1 (by simp [g])) with e | f
   ·subst e;exact (c _ (j _ g)).elim
   ·exact f
  ·intro g;rcases uF.1 ((h z).2 (by simp [g])) with e | f
   ·subst e;exact (c _ (i _ g)).elim
   ·exact f
theorem filter_app_left {α:Type} {P:α->Bool} {A B:List α} (g:∀x ∈ A,P x=true) (f:∀x ∈ B,P x=false):(A++B).filter P=A/\(A++B).filter (λx=>!P x)=B:=by
 rw [tY,tY,sf.2 g,rp.2 (λx c=>by simp [f x c]),rp.2 (λx c=>by simp [g x c]),sf.2 (λx c=>by simp [f x c])];simp
theorem app_split {α:Type} {P:α->Bool} {A B C D:List α} (h:A++B=C++D) (i:∀x ∈ A,P x=true) (f:∀x ∈ B,P x=false) (j:∀x ∈ C,P x=true) (g:∀x ∈ D,P x=false):A=C/\B=D:=by
 obtain ⟨a,b⟩:=filter_app_left i f;obtain ⟨c,d⟩:=filter_app_left j g;exact ⟨by rw [<- a,<- c,h],by rw [<- b,<- d,h]⟩
theorem rowsN_head {a:List zj} {x:GA} (h:r ∈ rowsN a x):∃w,r.path=a++x.name::w:=by
 rw [<- qD] at h;obtain ⟨y,c,w,e⟩:=vZ h;simp only [ut] at c;subst c;exact ⟨w,e⟩
theorem rowsN_ne {x:GA} (h:nodeB d x=true) (a:List zj):∃r L,rowsN a x=r::L:=by
 have c:=node_row [x] d (by simp [xD,h]);rw [len_rows [x] [] a,qD] at c;cases e:rowsN a x with
 | nil=>rw [e] at c;simp at c
 | cons r L=>exact ⟨r,L,rfl⟩
def hasN (n:Nat) (s:zj) (r:GK):Bool:=decide ((r.path.drop n).head?=some s)
theorem hasN_is (a w:List zj) (s c:zj) {r:GK} (h:r.path=a++c::w):hasN a.length s r=decide (c=s):=by
 unfold hasN;rw [h,rl];simp
theorem rows_inj:∀(t:List GA) (d:Nat) (a:List zj) (t':List GA),treeB d t=true->treeB d t'=true->zz a t=zz a t'->t=t':=by
 have key:∀(t:List GA) (d:Nat) (a:List zj) (t':List GA),(∀x ∈ t,nodeB d x=true)->upB t=true->(∀x ∈ t',nodeB d x=true)->upB t'=true->zz a t=zz a t'->t=t':=by
  refine wY ?_ ?_
  ·intro d a t' _ _ h _ e;cases t' with
   | nil=>rfl
   | cons y r =>
    obtain ⟨q,L,i⟩:=rowsN_ne (h y (by simp)) a;rw [zz,zz,i] at e;simp at e
  ·intro x r O M d a t' u B C v e;cases t' with
   | nil =>
    obtain ⟨q,L,i⟩:=rowsN_ne (u x (by simp)) a;rw [zz,zz,i] at e;simp at e
   | cons y s =>
    rw [q8,uM] at B v;have e:rowsN a x++zz a r=rowsN a y++zz a s:=e;have f:x.name=y.name:=by
     obtain ⟨q,L,i⟩:=rowsN_ne (u x (by simp)) a;obtain ⟨Q,L',F⟩:=rowsN_ne (C y (by simp)) a;have G:=e;rw [i,F] at G;injection G with I _;subst I;obtain ⟨w,p⟩:=rowsN_head (a:=a) (x:=x) (r:=q) (by rw [i];simp);obtain ⟨w',m⟩:=rowsN_head (a:=a) (x:=y) (r:=q) (by rw [F];simp);rw [p] at m;have:=rk m;injection this
    obtain ⟨E,J⟩:=app_split (P:=hasN a.length x.name) e
     (λq c=>by obtain ⟨w,h⟩:=rowsN_head c;rw [hasN_is a w _ _ h];simp)
     (λq c=>by
      obtain ⟨z,g,w,h⟩:=vZ c;rw [hasN_is a w _ _ h];exact uQ (less_ne (B.1 z g)).symm)
     (λq c=>by obtain ⟨w,h⟩:=rowsN_head c;rw [hasN_is a w _ _ h,f];simp)
     (λq c=>by
      obtain ⟨z,g,w,h⟩:=vZ c;rw [hasN_is a w _ _ h,f];exact uQ (less_ne (v.1 z g)).symm)
    have N:=M d a s (λz g=>u z (by simp [g])) ((q8 r).2 B.2) (λz g=>C z (by simp [g])) ((q8 s).2 v.2) J;rw [yZ,yZ,<- f] at E;obtain ⟨K,A⟩:=app_split (P:=λq=>decide (q.path.length=a.length+1)) E
     (λq c=>by obtain ⟨l,_,rfl⟩:=tp.1 c;simp)
     (λq c=>by have:=(rows_path _ _ q c).1;simp at this;exact uQ (by omega))
     (λq c=>by obtain ⟨l,_,rfl⟩:=tp.1 c;simp)
     (λq c=>by have:=(rows_path _ _ q c).1;simp at this;exact uQ (by omega))
    have j:x.leaves=y.leaves:=by
     have:=congrArg (List.map (·.leaf)) K;simpa [sU,sB] using this
    obtain ⟨_,D,_⟩:=nodeB_parts (u x (by simp));obtain ⟨_,H,_⟩:=nodeB_parts (C y (by simp));have o:=O (d+1) (a++[x.name]) y.subs (yz D).2 (yz D).1 (yz H).2 (yz H).1 A;cases x;cases y;simp only at f j o;rw [f,j,o,N]
 intro t d a t' p m e;exact key t d a t' (yz p).2 (yz p).1 (yz m).2 (yz m).1 e
theorem xJ {t:List GA} (h:treeB d t=true) (a:List zj):(zz a t).Pairwise λr q=>wW (rkey r) (rkey q)=true:=by
 have:=rows_lt t d a (yz h).1 (by rw [wg];exact uw.2 (yz h).2);exact this.imp λh=>rowLt_iff.1 h
theorem rows_ext {t t':List GA} (f:treeB 0 t=true) (c:treeB 0 t'=true) (h:∀r,r ∈ zz [] t ↔ r ∈ zz [] t'):t=t' :=
 rows_inj t 0 [] t' f c (sorted_ext (lt:=λr q=>wW (rkey r) (rkey q)=true) (λx h=>by rw [wQ] at h;cases h) (λ_ _ _=>klt_trans) (xJ f []) (xJ c []) h)
theorem sorted_key {α:Type} {key:α->Key} {L:List α} (h:L.Pairwise λr q=>wW (key r) (key q)=true) {x y:α} (m:x ∈ L) (o:y ∈ L) (e:key x=key y):x=y:=by
 induction L with
 | nil=>simp at m
 | cons z r ih =>
  obtain ⟨j,p⟩:=uM.1 h;rcases uF.1 m with g | c <;> rcases uF.1 o with i | f
  ·rw [g,i]
  ·have:=j y f;rw [<- g,e,wQ] at this;cases this
  ·have:=j x c;rw [<- i,e,wQ] at this;cases this
  ·exact ih p c f

theorem first_is {α:Type} {q:α->Bool} {del:α->Option Bool}:∀(L:List α) (n:Nat),(∀x ∈ L,del x=some (q x)) ->
  (zy (λ(f:Nat) (j:α) (_:Unit)=>(((del j).bind λo=>(if o=true then some (.ret (f:Int)) else some (.nxt ()))):Option (Out Int Unit))) L n ()=some (.inr ())/\∀x ∈ L,q x=false) \/
  ∃A x B,L=A++x::B/\q x=true/\(∀y ∈ A,q y=false)/\zy (λ(f:Nat) (j:α) (_:Unit)=>(((del j).bind λo=>(if o=true then some (.ret (f:Int)) else some (.nxt ()))):Option (Out Int Unit))) L n ()=some (.inl ((n+A.length:Nat):Int))
 | [],n,_=>.inl ⟨rfl,by simp⟩
 | x::r,n,h=>by
  have m:=h x (by simp);cases hq:q x with
  | true=>exact .inr ⟨[],x,r,rfl,hq,by simp,by simp [zy,m,hq]⟩
  | false =>
   rcases first_is r (n+1) (λy c=>h y (by simp [c])) with ⟨e,i⟩ | ⟨A,y,B,rfl,p,i,e⟩
   ·refine .inl ⟨by simp only [zy,m,hq,uc];exact e,?_⟩;intro y c;rcases uF.1 c with rfl | c
    ·exact hq
    ·exact i y c
   ·refine .inr ⟨x::A,y,B,rfl,p,?_,?_⟩
    ·intro z g;rcases uF.1 g with rfl | g
     ·exact hq
     ·exact i z g
    ·simp only [zy,m,hq,uc];rw [show n+(x::A).length=n+1+A.length by simp only [uh];omega];exact e
def node0:GA:=GA.mk ([]:zj) ([]:List GE) ([]:List GA)
def nodeOf (t:List GA) (s:zj):Option GA:=t.find? λx=>x.name==s
theorem linear_is (t:List GA) (s:zj):vu t s=some (match nodeOf t s with | some x=>(x,true) | none=>(node0,false)):=by
 unfold vu xb;rcases first_is (q:=λx:GA=>x.name==s) (del:=λc=>qt c s) t 0 (λx _=>rfl) with ⟨e,h⟩ | ⟨A,x,B,rfl,i,g,e⟩
 ·rw [e];have:nodeOf t s=none:=rh.2 λx j=>by rw [h x j];simp
  rw [this];rfl
 ·rw [e];have:nodeOf (A++x::B) s=some x:=by
   unfold nodeOf;rw [List.find?_append,rh.2 (λy f=>by rw [g y f];simp),List.find?_cons,i];rfl
  rw [this];simp only [lp,uc,uV];rw [u6 (by simp),yb (x:=x) (by simp)];rfl
def qU:List GA->List zj->Option GA
 | _,[]=>none
 | t,[s]=>nodeOf t s
 | t,s::c::q=>(nodeOf t s).bind λx=>qU x.subs (c::q)
noncomputable def tlF:Nat->zj->(List GA)×Bool×zj×(List GE)×(List GA)->Option (Out ((GE×Bool) ⊕ (Bool×zj×(List GE)×(List GA))) ((List GA)×Bool×zj×(List GE)×(List GA))):=(λ(_:Nat) (x2:zj) (s2:(List GA)×Bool×zj×(List GE)×(List GA))=>(((vu s2.1 x2).bind λv47=>(if (!v47.2)=true then some (.brk (s2.1,v47.2,v47.1.name,v47.1.leaves,v47.1.subs)) else some (.nxt (v47.1.subs,v47.2,v47.1.name,v47.1.leaves,v47.1.subs))))))
noncomputable def tlR (kind2:Int) (s1:Bool×zj×(List GE)×(List GA)):Option (GE×Bool):=((z2 s1.2.2.1 (λx0=>treeLeafC1 x0 kind2)).bind λv49=>((if (((!s1.1) || (decide (v49 < (0:Int))))==false)=true then qx kind2 else some default).bind λv50=>(if (((!s1.1) || (decide (v49 < (0:Int)))) || (v50.typ==(0:Int)))=true then ((qx kind2).bind λv52=>some (v52,false)) else ((vm s1.2.2.1 v49).bind λy53=>((yS y53.items).bind λv54=>((yY y53.tombs).bind λv55=>some ((GE.mk y53.typ y53.n y53.time y53.dot y53.text v54 v55),true)))))))
theorem tl_eq (t0:List GA) (c:List zj) (f:Int):treeLeaf t0 c f=(lp ((lp (zy tlF c 0 (t0,(decide (((c).length:Int) > (0:Int))),([]:zj),([]:List GE),([]:List GA))) λ(s2:(List GA)×Bool×zj×(List GE)×(List GA))=>some (.inr (s2.2.1,s2.2.2.1,s2.2.2.2.1,s2.2.2.2.2))):Option ((GE×Bool) ⊕ (Bool×zj×(List GE)×(List GA)))) (tlR f)):=rfl
theorem tl_walk:∀(p:List zj) (n:Nat) (t:List GA) (z:Bool×zj×(List GE)×(List GA)),p ≠ [] ->
  match qU t p with
  | some x=>zy tlF p n (t,z)=some (.inr (x.subs,true,x.name,x.leaves,x.subs))
  | none=>∃u,zy tlF p n (t,z)=some (.inr (u,false,([]:zj),([]:List GE),([]:List GA)))
 | [],_,_,_,h=>absurd rfl h
 | [s],n,t,z,_=>by
  simp only [qU,zy,tlF,linear_is,uc];cases nodeOf t s with
  | none=>exact ⟨t,rfl⟩
  | some x=>rfl
 | s::c::q,n,t,z,_=>by
  have f:=λu z=>tl_walk (c::q) (n+1) u z (by simp);simp only [qU];cases e:nodeOf t s with
  | none=>exact ⟨t,by rw [zy];simp only [tlF,linear_is,e,uc];rfl⟩
  | some x =>
   have g:tlF n s (t,z)=some (.nxt (x.subs,true,x.name,x.leaves,x.subs)):=by simp only [tlF,linear_is,e,uc];rfl
   have:=f x.subs (true,x.name,x.leaves,x.subs);rw [zy,g,uc];exact this
theorem nodeOf_split {t:List GA} (s:zj) (h:upB t=true):(nodeOf t s=none/\∀y ∈ t,y.name ≠ s) \/ ∃A x B,t=A++x::B/\nodeOf t s=some x/\x.name=s/\(∀y ∈ A,y.name ≠ s)/\∀y ∈ B,y.name ≠ s:=by
 rcases split_up s h with ⟨A,B,rfl,f,g⟩ | ⟨A,x,B,rfl,i,f,g⟩
 ·left;have:∀y ∈ A++B,y.name ≠ s:=λy c=>by
   rcases uE.1 c with c | c
   ·exact f.ne y c
   ·exact g.ne y c
  exact ⟨rh.2 λy c=>by simp [this y c],this⟩
 ·refine .inr ⟨A,x,B,rfl,?_,i,f.ne,g.ne⟩;unfold nodeOf;rw [List.find?_append,rh.2 (λy c=>by simp [f.ne y c]),List.find?_cons];simp [i]
theorem row_at:∀(p:List zj) (t:List GA) (d:Nat) (a:List zj) (l:GE),p ≠ []->treeB d t=true->(GK.mk (a++p) l ∈ zz a t ↔ ∃x,qU t p=some x/\l ∈ x.leaves)
 | [],_,_,_,_,h,_=>absurd rfl h
 | s::q,t,d,a,l,_,h=>by
  obtain ⟨E,G⟩:=yz h;rcases nodeOf_split s E with ⟨e,z⟩ | ⟨A,x,B,rfl,e,F,H,w⟩
  ·have m:qU t (s::q)=none:=by cases q <;> simp [qU,e]
   rw [m];constructor
   ·intro f;exact (rows_off z f rfl).elim
   ·rintro ⟨x,h,_⟩;cases h
  ·rw [vw,show x::B=[x]++B from rfl,vw,qD,uE,uE,rowsN_mem,F];have j:¬ GK.mk (a++s::q) l ∈ zz a A:=λf=>rows_off H f rfl;have v:¬ GK.mk (a++s::q) l ∈ zz a B:=λf=>rows_off w f rfl;have g:=(nodeB_parts (G x (by simp))).2.1;cases q with
   | nil =>
    have C:¬ GK.mk (a++[s]) l ∈ zz (a++[s]) x.subs:=λf=>by
     have:=(rows_path _ _ _ f).1;simp at this
    have m:qU (A++x::B) [s]=some x:=e;have i:qU (A++([x]++B)) [s]=some x:=e;rw [i];constructor
    ·rintro (h | (⟨y,o,h⟩ | h) | h)
     ·exact (j h).elim
     ·injection h with _ h;subst h;exact ⟨x,rfl,o⟩
     ·exact (C h).elim
     ·exact (v h).elim
    ·rintro ⟨y,h,D⟩
     injection h with h;subst h;exact .inr (.inl (.inl ⟨l,D,rfl⟩))
   | cons c q =>
    have u:=row_at (c::q) x.subs (d+1) (a++[s]) l (by simp) g;have I:a++[s]++c::q=a++s::c::q:=by simp
    rw [I] at u;have i:qU (A++([x]++B)) (s::c::q)=qU x.subs (c::q):=by
     show (nodeOf (A++x::B) s).bind _=_;rw [e];rfl
    rw [i,u];constructor
    ·rintro (h | (⟨y,o,h⟩ | h) | h)
     ·exact (j h).elim
     ·injection h with h _;have:=congrArg List.length h;simp at this
     ·exact h
     ·exact (v h).elim
    ·intro h;exact .inr (.inl (.inr h))
theorem row_mk {p:List zj} (h:rkey r=(p,k)):r=GK.mk ([]++p) r.leaf:=by
 have e:r.path=p:=congrArg Prod.fst h;cases r;simp only at e;rw [e];rfl
theorem leafNew_typ (h:1<=k/\k<=4):∃v,qx k=some v/\v.typ=k:=by
 unfold qx;rw [u6 (by simp;omega)];exact ⟨_,rfl,rfl⟩
theorem tlR_none (s:zj):∃v,tlR k (false,s,([]:List GE),([]:List GA))=some (v,false):=by
 obtain ⟨v,e⟩:=leafNew_tot k;refine ⟨v,?_⟩;unfold tlR z2;simp [zy,lp,e]
theorem treeLeaf_is {t:List GA} (h:treeB 0 t=true) (w:∀r ∈ zz [] t,LeafOk r.leaf) {p:List zj} (D:p ≠ []) {k:Int} (H:1<=k/\k<=4) :
  (∃l,GK.mk p l ∈ zz [] t/\l.typ=k/\treeLeaf t p k=some (l,true)) \/ ((∀r ∈ zz [] t,rkey r ≠ (p,k))/\∃v,treeLeaf t p k=some (v,false)):=by
 have g:=tl_walk p 0 t (decide ((p.length:Int) > 0),([]:zj),([]:List GE),([]:List GA)) D;have s:=λl=>row_at p t 0 [] l D h;rw [tl_eq];cases e:qU t p with
 | none =>
  rw [e] at g;obtain ⟨u,g⟩:=g;right;refine ⟨λr c m=>?_,?_⟩
  ·have:=row_mk m;rw [this] at c;obtain ⟨x,i,_⟩:=(s _).1 c;rw [e] at i;cases i
  ·rw [g];exact tlR_none []
 | some x =>
  rw [e] at g;simp only at g;rw [g];simp only [wV];obtain ⟨v0,F,M⟩:=leafNew_typ H;unfold tlR z2;rcases first_is (q:=λy:GE=>y.typ==k) (del:=λG=>treeLeafC1 G k) x.leaves 0 (λx _=>rfl) with ⟨z,i⟩ | ⟨A,y,B,j,i,N,z⟩
  ·right;refine ⟨λr c m=>?_,v0,?_⟩
   ·have:=row_mk m;rw [this] at c;obtain ⟨O,o,I⟩:=(s _).1 c;rw [e] at o;injection o with o;subst o;have:=i _ I;simp only [beq_eq_false_iff_ne] at this;exact this (congrArg Prod.snd m)
   ·simp only [];rw [z];simp [lp,F]
  ·left;have K:y ∈ x.leaves:=by rw [j];simp
   have f:GK.mk ([]++p) y ∈ zz [] t:=(s y).2 ⟨x,e,K⟩;have C:y.typ=k:=by simpa using i
   have E:=w _ f;refine ⟨y,f,C,?_⟩;simp only [];rw [z];simp only [lp,uc,uV];have J:((!true) || (decide (((A.length:Nat):Int) < (0:Int))))=false:=by simp
   rw [J];simp only [tW,uv,F,uc,tP,M];rw [u6 (by simp;omega),j,yb (x:=y) (by simp),uc,cloneItem_is (xT (sC E.items)),uc,cloneDot_is (xT (sC E.tombs)),uc]

structure EOk (e:GC):Prop where
 path:xN e.path=true
 typ:1<=e.typ/\e.typ<=4
 any:e.had=true \/ e.has=true
 ne:e.had=true->e.has=true->e.was ≠ e.is
 was1:e.had=true->leafB e.was=true/\LeafOk e.was/\e.was.typ=e.typ
 was0:e.had=false->e.was=x5
 is1:e.has=true->leafB e.is=true/\LeafOk e.is/\e.is.typ=e.typ
 is0:e.has=false->e.is=x5
def eLt (a b:GC):Prop:=wW (yi a) (yi b)=true
theorem side_is (c:there=true->leafB l=true/\LeafOk l/\l.typ=k) (h0:there=false->l=x5):x6 there l k=some true:=by
 cases there with
 | false=>rw [h0 rfl];exact side0 k
 | true=>obtain ⟨a,b,rfl⟩:=c rfl;exact side1 a b
theorem diffMay_is {es:List GC} (t:es.length<=16777216) (p:∀e ∈ es,EOk e) (f:es.Pairwise eLt):qA es=some true:=by
 unfold qA;rw [lp_all (r:=false) (λ_ _=>true) (λi x o=>?_)]
 ·have:allI (λ_ _=>true) es=true:=allI_iff.2 λ_ _ _=>rfl;rw [uz this]
 ·have hi:=(ua.1 o).1;have c:=p x (uK o);have H:decide (x.typ >= 1)=true:=tx c.typ.1;have C:decide (x.typ<=4)=true:=tx c.typ.2;have I:qc x.path=some true:=by rw [opMayPath_is,c.path]
  have F:∃v,(if ((decide ((i:Int) > (0:Int)))==true)=true then wH (es.getD (IntKind.wrap .i64 ((i:Int) - (1:Int))).toNat default) x else some default)=some v/\((decide ((i:Int) > 0))&&(decide (v >= 0)))=false:=by
   by_cases h0:0 < i
   ·have y:IntKind.wrap .i64 ((i:Int) - 1)=((i - 1:Nat):Int):=by rw [w64n (by omega)];omega
    have D:es[i - 1]?=some es[i - 1]:=ui (by omega);have s:ordI es[i - 1] x < 0:=ordI_lt.2 (by
     have:=tI.1 f (i - 1) i (by omega) hi (by omega)
     rwa [(ua.1 o).2] at this)
    have A:es.getD (i - 1) default=es[i - 1]:=by
     rw [uN,D];rfl
    rw [tx (by omega:(i:Int) > 0),y,u9,A,order_is];exact ⟨_,rfl,by rw [uQ (by omega)];rfl⟩
   ·rw [uQ (by omega:¬ (i:Int) > 0)];exact ⟨default,rfl,rfl⟩
  obtain ⟨v,j,m⟩:=F;have u:((decide ((i:Int) > (0:Int)))==true)=true->0<=(IntKind.wrap .i64 ((i:Int) - (1:Int)))/\(IntKind.wrap .i64 ((i:Int) - (1:Int))) < ((es).length:Int):=by
   intro h;simp only [sP,uo] at h;rw [w64n (by omega)];omega
  obtain ⟨z,E,g⟩:∃z,(if ((x.had&&x.has)==true)=true then y6 x.was x.is else some default)=some z/\((x.had&&x.has)&&z)=false:=by
   cases h1:x.had with
   | false=>exact ⟨default,rfl,rfl⟩
   | true =>
    cases s:x.has with
    | false=>exact ⟨default,rfl,rfl⟩
    | true=>exact ⟨false,by rw [uz (by rfl),vC,uQ (c.ne h1 s)],rfl⟩
  have G:x6 x.had x.was x.typ=some true:=side_is c.was1 c.was0;have s2:x6 x.has x.is x.typ=some true:=side_is c.is1 c.is0;have J:((!x.had)&&(!x.has))=false:=by
   rcases c.any with h | h <;> simp [h]
  rw [E,uc,I,uc,H,C];have w:((((!true) || (!(true&&true))) || ((!x.had)&&(!x.has))) || ((x.had&&x.has)&&z))=false:=by rw [J,g];rfl
  rw [w,uz (by rfl),G,uc];have K:((false || (!true))==false)=true:=rfl;rw [uz K,s2,uc];have B:((false || (!true)) || (!true))=false:=rfl;rw [B,u6 (by decide),yl u,j,uc,m];simp
noncomputable def patF (t0:List GA):Nat->GC->List GA->Option (Out (List GA×Int) (List GA)):=(λ(n1:Nat) (x1:GC) (s1:(List GA))=>(((treeLeaf t0 x1.path x1.typ).bind λv14=>((if (((!(v14.2==x1.had))==false)&&(v14.2==true))=true then y6 v14.1 x1.was else some default).bind λv15=>(if ((!(v14.2==x1.had)) || (v14.2&&(!v15)))=true then some (.ret (([]:List GA),(16:Int))) else ((diffXlay s1 x1.path x1.typ x1.is x1.has).bind λv17=>some (.nxt v17))))):Option (Out _ (List GA))))
theorem patch_eq (t0:List GA) (c:List GC):qn t0 c=((vg t0).bind λf=>((if ((!f)==false)=true then qA c else some default).bind λg=>(if ((!f) || (!g))=true then some (([]:List GA),(2:Int)) else ((xr t0 ([([42,42]:zj)]:List zj)).bind λv4=>(lp (zy (patF t0) c 0 v4.1) λ(h:(List GA))=>some (h,(0:Int))))))):=rfl
theorem sub_len {α:Type} {lt:α->α->Prop} (c:∀x,¬ lt x x):∀(L M:List α),L.Pairwise lt->(∀x ∈ L,x ∈ M)->L.length<=M.length
 | [],_,_,_=>tH _
 | x::L,M,h,hs=>by
  obtain ⟨m,j⟩:=uM.1 h;obtain ⟨A,B,rfl⟩:=List.append_of_mem (hs x (by simp));have:=sub_len c L (A++B) j λy i=>by
   have f:=hs y (by simp [i]);have g:y ≠ x:=λe=>c x (by have:=m y i;rwa [e] at this);simp only [uE,uF] at f ⊢;rcases f with h | h | h
   ·exact .inl h
   ·exact (g h).elim
   ·exact .inr h
  simp only [ul,uh] at this ⊢;omega
theorem wF {p:List zj} (h:xN p=true):p ≠ []/\p.length<=3/\p.all nameB=true:=by
 refine ⟨pathB_ne h,?_⟩;simp only [xN,ud,uo] at h;exact ⟨h.1.2,h.2⟩
theorem lay_all {p:List zj} {t:List GA} (m:there=true->l.typ=k/\leafB l=true/\LeafOk l) (w:xN p=true) (j:treeB 0 t=true) (o:(zz [] t).length<=16777215) :
  ∃t',diffXlay t p k l there=some t'/\treeB 0 t'=true/\(zz [] t').length<=(zz [] t).length+1/\∀r,r ∈ zz [] t' ↔ (r ∈ zz [] t/\rkey r ≠ (p,k)) \/ (there=true/\r=⟨p,l⟩):=by
 obtain ⟨s,A,i⟩:=wF w;obtain ⟨t',C,g,_,c⟩:=lay_is m p t 0 (p.length+1) s i (by omega) j o (by omega);have c:=c [];simp only [u7] at c;refine ⟨t',anyN_of (p.length+1) λn B=>?_,g,?_,c⟩
 ·obtain ⟨u,v,z,_,f⟩:=lay_is m p t 0 n s i (by omega) j o (by omega);have f:=f [];simp only [u7] at f;rw [v,rows_ext z g λr=>by rw [f,c]]
 ·have:=sub_len (lt:=λr q=>wW (rkey r) (rkey q)=true) (λx h=>by rw [wQ] at h;cases h) (zz [] t') (zz [] t++[⟨p,l⟩]) (xJ g []) λr y=>by
   rcases (c r).1 y with h | h
   ·simp [h.1]
   ·simp [h.2]
  simpa using this
structure EFits (t:List GA) (e:GC):Prop where
 had:e.had=true->GK.mk e.path e.was ∈ zz [] t
 new:e.had=false->∀r ∈ zz [] t,rkey r ≠ yi e
theorem patF_is {t s:List GA} (o:treeB 0 t=true) (j:∀r ∈ zz [] t,LeafOk r.leaf) (c:EOk e) (g:EFits t e) (hs:treeB 0 s=true) (z:(zz [] s).length<=16777215) (n:Nat) :
  ∃u,patF t n e s=some (.nxt u)/\treeB 0 u=true/\(zz [] u).length<=(zz [] s).length+1/\∀r,r ∈ zz [] u ↔ (r ∈ zz [] s/\rkey r ≠ yi e) \/ (e.has=true/\r=⟨e.path,e.is⟩):=by
 obtain ⟨u,p,w,y,x⟩:=lay_all (k:=e.typ) (l:=e.is) (there:=e.has) (λh=>⟨(c.is1 h).2.2,(c.is1 h).1,(c.is1 h).2.1⟩) c.path hs z;refine ⟨u,?_,w,y,x⟩;unfold patF;rcases treeLeaf_is o j (wF c.path).1 c.typ with ⟨l,f,m,i⟩ | ⟨f,v,i⟩
 ·have hh:e.had=true:=by
   cases h:e.had with
   | true=>rfl
   | false=>exact (g.new h _ f (by unfold rkey yi;rw [m])).elim
  have:(GK.mk e.path l)=GK.mk e.path e.was:=sorted_key (xJ o []) f (g.had hh) (by unfold rkey;rw [m,(c.was1 hh).2.2]);injection this with _ A;rw [i,hh,A];simp only [uc,vC,p];simp
 ·have hh:e.had=false:=by
   cases h:e.had with
   | false=>rfl
   | true=>exact (f _ (g.had h) (by unfold rkey;rw [(c.was1 h).2.2])).elim
  rw [i,hh];simp only [uc,p];simp
theorem pat_loop {t:List GA} (m:treeB 0 t=true) (i:∀r ∈ zz [] t,LeafOk r.leaf):∀(es:List GC) (n:Nat) (s:List GA),(∀e ∈ es,EOk e/\EFits t e)->es.Pairwise eLt->treeB 0 s=true->(zz [] s).length+es.length<=16777215 ->
  ∃u,zy (patF t) es n s=some (.inr u)/\treeB 0 u=true/\∀r,r ∈ zz [] u ↔ (r ∈ zz [] s/\∀e ∈ es,rkey r ≠ yi e) \/ ∃e ∈ es,e.has=true/\r=⟨e.path,e.is⟩
 | [],n,s,_,_,hs,_=>⟨s,rfl,hs,λr=>by simp⟩
 | e::es,n,s,h,hp,hs,hw=>by
  obtain ⟨C,v⟩:=uM.1 hp;simp only [uh] at hw;obtain ⟨o,B⟩:=h e (by simp);obtain ⟨A,G,H,a3,a4⟩:=patF_is m i o B hs (by omega) n;obtain ⟨u,p,E,w⟩:=pat_loop m i es (n+1) A (λx c=>h x (by simp [c])) v H (by omega);refine ⟨u,by rw [zy,G];exact p,E,λr=>?_⟩;rw [w,a4];have g:e.has=true->∀x ∈ es,rkey ⟨e.path,e.is⟩ ≠ yi x:=λhh x c z=>by
   have:=C x c;unfold eLt at this;rw [<- z] at this;have F:rkey ⟨e.path,e.is⟩=yi e:=by unfold rkey yi;rw [(o.is1 hh).2.2]
   rw [F,wQ] at this;cases this
  constructor
  ·rintro (⟨f | f,j⟩ | ⟨x,c,f⟩)
   ·refine .inl ⟨f.1,λx c=>?_⟩;rcases uF.1 c with rfl | c
    ·exact f.2
    ·exact j x c
   ·exact .inr ⟨e,by simp,f⟩
   ·exact .inr ⟨x,by simp [c],f⟩
  ·rintro (⟨f,j⟩ | ⟨x,c,f⟩)
   ·exact .inl ⟨.inl ⟨f,j e (by simp)⟩,λx c=>j x (by simp [c])⟩
   ·rcases uF.1 c with rfl | c
    ·exact .inl ⟨.inr f,λy D=>by rw [f.2];exact g f.1 y D⟩
    ·exact .inr ⟨x,c,f⟩
theorem select_all {t:List GA} (hs:Small t) (c:treeB 0 t=true):xr t [[42,42]]=some (t,0):=by
 have f:patB [[42,42]]=true:=by decide
 rw [pathsSelect_is hs (by simp [maxLen]),c,f];have:xV (matchB [[42,42]]) [] t=t:=by
  refine rows_ext (keep_may _ t 0 [] c) c λr=>?_;rw [keep_rows,uW];refine ⟨λh=>h.1,λh=>⟨h,?_⟩⟩;have g:=(rows_ok t 0 [] hs c rfl rfl r h).path;unfold matchB;rw [g,f];simp [xy,endsB,agreeB]
 simp [this]
theorem patch_is {t:List GA} (hs:Small t) (c:treeB 0 t=true) {es:List GC} (i:(zz [] t).length+es.length<=16777215) (h:∀e ∈ es,EOk e/\EFits t e) (g:es.Pairwise eLt) :
  ∃u,qn t es=some (u,0)/\treeB 0 u=true/\∀r,r ∈ zz [] u ↔ (r ∈ zz [] t/\∀e ∈ es,rkey r ≠ yi e) \/ ∃e ∈ es,e.has=true/\r=⟨e.path,e.is⟩:=by
 have f:=λr p=>(rows_ok t 0 [] hs c rfl rfl r p).ok;obtain ⟨u,m,o,a3⟩:=pat_loop c f es 0 t h g c i;refine ⟨u,?_,o,a3⟩;rw [patch_eq,vk hs,c,uc,uz (show ((!true)==false)=true from rfl),diffMay_is (by omega) (λe j=>(h e j).1) g,uc,u6 (by decide),select_all hs c,uc,m,wV]

def xp (p:List zj) (k:Int):zj:=p.flatMap (λs=>s++[0])++[UInt8.ofNat k.toNat]
theorem inter_flat:∀(p:List zj),p ≠ []->([0]:List UInt8).intercalate p++[0]=p.flatMap (λs=>s++[0])
 | [],h=>absurd rfl h
 | [s],_=>by simp [List.intercalate]
 | s::c::q,_=>by
  have f:=inter_flat (c::q) (by simp)
  simp only [List.intercalate,List.intersperse] at f ⊢;rw [tG,<- f];simp [ur]
theorem name_len {s:zj} (h:nameB s=true):s.length<=12/\∀b ∈ s,b ≠ 0:=by
 simp only [nameB,ud,uo,uw] at h;refine ⟨h.1.2,λb c e=>?_⟩;have:=h.2 b c;rw [e] at this;revert this;decide
theorem flatS_len:∀(p:List zj),p.all nameB=true->(p.flatMap (λs=>s++[0])).length<=13 * p.length
 | [],_=>by simp
 | s::p,h=>by
  simp only [tf,ud] at h;have:=flatS_len p h.2;have:=(name_len h.1).1;simp only [tG,ul,uh,uC];omega
theorem key_is {p:List zj} (f:xN p=true) (i:1<=k/\k<=4):xQ p k=some (xp p k):=by
 obtain ⟨h,m,g⟩:=wF f;have c:=inter_flat p h;have j:=flatS_len p g;have o:(([0]:List UInt8).intercalate p).length<=40:=by
  have:=congrArg List.length c;simp only [ul,uh,uC] at this;omega
 unfold xQ stringsJoin strJoin Lib.join;rw [uz ⟨by omega,by omega⟩,uc,yl (by simp [maxLen];omega),yl (by omega),yl (by simp [maxLen]),yl (by simp [maxLen];omega),c];rfl
theorem flat_inj:∀(p q:List zj),p.all nameB=true->q.all nameB=true->p.flatMap (λs=>s++[(0:UInt8)])=q.flatMap (λs=>s++[0])->p=q
 | [],[],_,_,_=>rfl
 | [],s::q,_,_,h=>by simp at h
 | s::p,[],_,_,h=>by simp at h
 | s::p,c::q,h1,h2,h=>by
  simp only [tf,ud] at h1 h2;simp only [tG,ur,List.singleton_append] at h;have g:=(name_len h1.1).2;have i:=(name_len h2.1).2;have f:∀(s:zj) (r:List UInt8),(∀b ∈ s,b ≠ 0)->(s++0::r).takeWhile (λb=>decide (b ≠ 0))=s:=λs r hs=>by
   rw [List.takeWhile_append_of_pos (λb j=>by simp [hs b j])];simp
  have e:s=c:=by rw [<- f s _ g,<- f c _ i,h]
  subst e;have h:=rk h;injection h with _ h;rw [flat_inj p q h1.2 h2.2 h]
theorem key_inj {p q:List zj} {j:Int} (f:xN p=true) (g:xN q=true) (m:1<=k/\k<=4) (o:1<=j/\j<=4) (h:xp p k=xp q j):p=q/\k=j:=by
 unfold xp at h;have i:=List.append_inj_left' h rfl;have c:=List.append_inj_right' h rfl;refine ⟨flat_inj p q (wF f).2.2 (wF g).2.2 i,?_⟩;injection c with c _;have:=congrArg UInt8.toNat c;simp at this;omega
section
variable {W:Type}
def mnd (m:List (zj×W)):Prop:=m.Pairwise λx y=>x.1 ≠ y.1
def sEq:zj->zj->Bool:=λa b=>a==b
theorem sEq_iff {a b:zj}:sEq a b=true ↔ a=b:=by unfold sEq;simp
theorem mem_put {k:zj} {v:W}:∀{m:List (zj×W)},mnd m->∀y,y ∈ yn sEq m k v ↔ (y ∈ m/\y.1 ≠ k) \/ y=(k,v)
 | [],_,y=>by simp [yn]
 | e::r,h,y=>by
  obtain ⟨i,g⟩:=uM.1 h;simp only [yn];by_cases hk:k=e.1
  ·subst hk;rw [uz (sEq_iff.2 rfl)];simp only [uF];constructor
   ·rintro (h | h)
    ·exact .inr h
    ·exact .inl ⟨.inr h,λj=>i y h j.symm⟩
   ·rintro (⟨h | h,c⟩ | h)
    ·exact (c (by rw [h])).elim
    ·exact .inr h
    ·exact .inl h
  ·have f:=mem_put (k:=k) (v:=v) g y;rw [u6 (λe=>hk (sEq_iff.1 e)),uF,f,uF];constructor
   ·rintro (h | h | h)
    ·exact .inl ⟨.inl h,by rw [h];exact λe=>hk e.symm⟩
    ·exact .inl ⟨.inr h.1,h.2⟩
    ·exact .inr h
   ·rintro (⟨h | h,c⟩ | h)
    ·exact .inl h
    ·exact .inr (.inl ⟨h,c⟩)
    ·exact .inr (.inr h)
theorem mnd_put {k:zj} {v:W}:∀{m:List (zj×W)},mnd m->mnd (yn sEq m k v)
 | [],_=>by simp [yn,mnd]
 | e::r,h=>by
  obtain ⟨g,c⟩:=uM.1 h;simp only [yn];by_cases hk:k=e.1
  ·subst hk;rw [uz (sEq_iff.2 rfl)];exact uM.2 ⟨g,c⟩
  ·rw [u6 (λe=>hk (sEq_iff.1 e))];refine uM.2 ⟨λy i=>?_,mnd_put c⟩;rcases (mem_put c y).1 i with ⟨f,_⟩ | f
   ·exact g y f
   ·rw [f];exact λe=>hk e.symm
theorem get_mem {d:W} {x:zj×W}:∀{m:List (zj×W)},mnd m->x ∈ m->zo sEq d m x.1=x.2
 | [],_,h=>by simp at h
 | e::r,h,c=>by
  obtain ⟨g,f⟩:=uM.1 h;simp only [zo];rcases uF.1 c with rfl | c
  ·rw [uz (sEq_iff.2 rfl)]
  ·rw [u6 (λi=>g x c (sEq_iff.1 i).symm)];exact get_mem f c
theorem get_not {d:W} {k:zj}:∀{m:List (zj×W)},(∀x ∈ m,x.1 ≠ k)->zo sEq d m k=d
 | [],_=>rfl
 | e::r,h=>by
  simp only [zo];rw [u6 (λc=>h e (by simp) (sEq_iff.1 c).symm)];exact get_not λx f=>h x (by simp [f])
end
structure Side (rs:List GK) (p:List zj) (k:Int) (there:Bool) (l:GE):Prop where
 on:there=true->GK.mk p l ∈ rs/\l.typ=k
 off:there=false->l=x5/\∀r ∈ rs,rkey r ≠ (p,k)
structure EdOf (ra rb:List GK) (e:GC):Prop where
 any:e.had=true \/ e.has=true
 a:Side ra e.path e.typ e.had e.was
 b:Side rb e.path e.typ e.has e.is
theorem Side.one (h:rs.Pairwise λr q=>wW (rkey r) (rkey q)=true) {p:List zj} {k:Int} {x y:Bool} {l m:GE} (f:Side rs p k x l) (s2:Side rs p k y m):x=y/\l=m:=by
 cases x with
 | true =>
  obtain ⟨i,j⟩:=f.on rfl;cases y with
  | true =>
   obtain ⟨c,g⟩:=s2.on rfl;have:=sorted_key h i c (by unfold rkey;rw [j,g]);injection this with _ e;exact ⟨rfl,e⟩
  | false=>exact ((s2.off rfl).2 _ i (by unfold rkey;rw [j])).elim
 | false =>
  cases y with
  | true =>
   obtain ⟨c,g⟩:=s2.on rfl;exact ((f.off rfl).2 _ c (by unfold rkey;rw [g])).elim
  | false=>exact ⟨rfl,(f.off rfl).1.trans (s2.off rfl).1.symm⟩
theorem EdOf.one {ra rb:List GK} (t:ra.Pairwise λr q=>wW (rkey r) (rkey q)=true) (u:rb.Pairwise λr q=>wW (rkey r) (rkey q)=true) {e f:GC} (p:EdOf ra rb e) (j:EdOf ra rb f) (h:yi e=yi f):e=f:=by
 have c:e.path=f.path:=congrArg Prod.fst h;have g:e.typ=f.typ:=congrArg Prod.snd h;obtain ⟨m,o⟩:=p.a.one t (by rw [c,g];exact j.a);obtain ⟨i,s⟩:=p.b.one u (by rw [c,g];exact j.b);cases e;cases f;simp only at c g m o i s;subst c g m o i s;rfl
theorem Side.more {p:List zj} (h:Side rs p k there l) {r:GK} (g:rkey r ≠ (p,k)):Side (rs++[r]) p k there l :=
 ⟨λf=>⟨by simp [(h.on f).1],(h.on f).2⟩,λf=>⟨(h.off f).1,λq c=>by
  rcases uE.1 c with c | c
  ·exact (h.off f).2 q c
  ·simp only [ut] at c;rw [c];exact g⟩⟩
def RKey (r:GK):Prop:=xN r.path=true/\1<=r.leaf.typ/\r.leaf.typ<=4
structure MInv (ra rb:List GK) (m:List (zj×GC)):Prop where
 nd:mnd m
 ed:∀x ∈ m,EdOf ra rb x.2/\x.1=xp x.2.path x.2.typ/\xN x.2.path=true/\1<=x.2.typ/\x.2.typ<=4
 ca:∀r ∈ ra,∃x ∈ m,yi x.2=rkey r
 cb:∀r ∈ rb,∃x ∈ m,yi x.2=rkey r
theorem MInv.nil:MInv [] [] []:=⟨List.Pairwise.nil,by simp,by simp,by simp⟩
theorem MInv.key {m:List (zj×GC)} (h:MInv ra rb m) {r:GK} (g:RKey r) {x:zj×GC} (p:x ∈ m):x.1=xp r.path r.leaf.typ ↔ yi x.2=rkey r:=by
 obtain ⟨_,i,j,o⟩:=h.ed x p;constructor
 ·intro e;rw [i] at e;obtain ⟨c,f⟩:=key_inj j g.1 o g.2 e;unfold yi rkey;rw [c,f]
 ·intro e;have c:x.2.path=r.path:=congrArg Prod.fst e;have f:x.2.typ=r.leaf.typ:=congrArg Prod.snd e;rw [i,c,f]
def edA (r:GK):GC:=GC.mk r.path r.leaf.typ true false r.leaf x5
theorem MInv.stepA {m:List (zj×GC)} (h:MInv ra [] m) {r:GK} (g:RKey r) (w:∀q ∈ ra,rkey q ≠ rkey r):MInv (ra++[r]) [] (yn sEq m (xp r.path r.leaf.typ) (edA r)):=by
 have o:=mem_put (k:=xp r.path r.leaf.typ) (v:=edA r) h.nd;have f:(xp r.path r.leaf.typ,edA r) ∈ yn sEq m (xp r.path r.leaf.typ) (edA r):=(o _).2 (.inr rfl);refine ⟨mnd_put h.nd,λx i=>?_,λq c=>?_,by simp⟩
 ·rcases (o x).1 i with ⟨s,t⟩ | rfl
  ·obtain ⟨p,j⟩:=h.ed x s;have u:rkey r ≠ (x.2.path,x.2.typ):=λe=>t ((h.key g s).2 e.symm);exact ⟨⟨p.any,p.a.more u,p.b⟩,j⟩
  ·refine ⟨⟨.inl rfl,⟨λ_=>⟨by simp [edA],rfl⟩,λh=>(by cases h)⟩,⟨λh=>(by cases h),λ_=>⟨rfl,by simp⟩⟩⟩,rfl,g.1,g.2⟩
 ·rcases uE.1 c with c | c
  ·obtain ⟨x,i,e⟩:=h.ca q c;exact ⟨x,(o x).2 (.inl ⟨i,λj=>w q c (by rw [<- e];exact (h.key g i).1 j)⟩),e⟩
  ·simp only [ut] at c;subst c;exact ⟨_,f,rfl⟩
def ed0:GC:=GC.mk ([]:List zj) (0:Int) false false x5 x5
def edB (g:GC) (r:GK):GC:=GC.mk r.path r.leaf.typ g.had true g.was r.leaf
theorem MInv.stepB {m:List (zj×GC)} (h:MInv ra rb m) {r:GK} (p:RKey r) (C:∀q ∈ rb,rkey q ≠ rkey r):MInv ra (rb++[r]) (yn sEq m (xp r.path r.leaf.typ) (edB (zo sEq ed0 m (xp r.path r.leaf.typ)) r)):=by
 have t:∃g,zo sEq ed0 m (xp r.path r.leaf.typ)=g/\Side ra r.path r.leaf.typ g.had g.was:=by
  by_cases c:∃x ∈ m,x.1=xp r.path r.leaf.typ
  ·obtain ⟨x,c,e⟩:=c;refine ⟨x.2,by rw [<- e];exact get_mem h.nd c,?_⟩;have o:=(h.key p c).1 e;have A:x.2.path=r.path:=congrArg Prod.fst o;have B:x.2.typ=r.leaf.typ:=congrArg Prod.snd o;rw [<- A,<- B];exact (h.ed x c).1.a
  ·refine ⟨ed0,get_not λx j e=>c ⟨x,j,e⟩,⟨λh=>(by cases h),λ_=>⟨rfl,λq i e=>?_⟩⟩⟩;obtain ⟨x,j,o⟩:=h.ca q i;exact c ⟨x,j,(h.key p j).2 (by rw [o,e];rfl)⟩
 obtain ⟨g,t,hs⟩:=t;rw [t];have u:=mem_put (k:=xp r.path r.leaf.typ) (v:=edB g r) h.nd;have f:(xp r.path r.leaf.typ,edB g r) ∈ yn sEq m (xp r.path r.leaf.typ) (edB g r):=(u _).2 (.inr rfl);have keep:∀(q:GK) (x:zj×GC),x ∈ m->yi x.2=rkey q->∃x ∈ yn sEq m (xp r.path r.leaf.typ) (edB g r),yi x.2=rkey q:=λq x c e=>by
  by_cases s:x.1=xp r.path r.leaf.typ
  ·exact ⟨_,f,by rw [<- e,(h.key p c).1 s];rfl⟩
  ·exact ⟨x,(u x).2 (.inl ⟨c,s⟩),e⟩
 refine ⟨mnd_put h.nd,λx c=>?_,λq i=>?_,λq i=>?_⟩
 ·rcases (u x).1 c with ⟨y,z⟩ | rfl
  ·obtain ⟨w,o⟩:=h.ed x y;have s:rkey r ≠ (x.2.path,x.2.typ):=λe=>z ((h.key p y).2 e.symm);exact ⟨⟨w.any,w.a,w.b.more s⟩,o⟩
  ·exact ⟨⟨.inr rfl,hs,⟨λ_=>⟨by simp [edB],rfl⟩,λh=>(by cases h)⟩⟩,rfl,p.1,p.2⟩
 ·obtain ⟨x,c,e⟩:=h.ca q i;exact keep q x c e
 ·rcases uE.1 i with i | i
  ·obtain ⟨x,c,e⟩:=h.cb q i;exact keep q x c e
  ·simp only [ut] at i;subst i;exact ⟨_,f,rfl⟩

theorem put_len {W:Type} {k:zj} {v:W}:∀(m:List (zj×W)),(yn sEq m k v).length<=m.length+1
 | []=>by simp [yn]
 | e::r=>by
  have:=put_len (k:=k) (v:=v) r;simp only [yn];split <;> simp only [uh] <;> omega
def kSorted (rs:List GK):Prop:=rs.Pairwise λr q=>wW (rkey r) (rkey q)=true
theorem kSorted.ne {c:List GK} (h:kSorted (c++r::rs)):∀q ∈ c,rkey q ≠ rkey r:=λq f e=>by
 have:=(tb.1 h).2.2 q f r (by simp);rw [e,wQ] at this;cases this
theorem loopA {f:Nat->GK->List (zj×GC)->Option (Out (List GC×Int) (List (zj×GC)))} (j:∀i x s,RKey x->f i x s=some (.nxt (yn sEq s (xp x.path x.leaf.typ) (edA x)))):∀(rs c:List GK) (n:Nat) (m:List (zj×GC)),kSorted (c++rs)->(∀r ∈ rs,RKey r)->MInv c [] m ->
  ∃g,zy f rs n m=some (.inr g)/\MInv (c++rs) [] g/\g.length<=m.length+rs.length
 | [],c,n,m,_,_,h=>⟨m,rfl,by simpa using h,ue _⟩
 | r::rs,c,n,m,hs,hr,h=>by
  have t:=h.stepA (hr r (by simp)) hs.ne;obtain ⟨g,p,u,w⟩:=loopA j rs (c++[r]) (n+1) _ (by simpa using hs) (λq o=>hr q (by simp [o])) t;refine ⟨g,by rw [zy,j _ _ _ (hr r (by simp))];exact p,by simpa using u,?_⟩;have:=put_len (k:=xp r.path r.leaf.typ) (v:=edA r) m;simp only [uh];omega
theorem loopB {ra:List GK} {f:Nat->GK->List (zj×GC)->Option (Out (List GC×Int) (List (zj×GC)))} (j:∀i x s,RKey x->f i x s=some (.nxt (yn sEq s (xp x.path x.leaf.typ) (edB (zo sEq ed0 s (xp x.path x.leaf.typ)) x)))):∀(rs c:List GK) (n:Nat) (m:List (zj×GC)),kSorted (c++rs)->(∀r ∈ rs,RKey r)->MInv ra c m ->
  ∃g,zy f rs n m=some (.inr g)/\MInv ra (c++rs) g/\g.length<=m.length+rs.length
 | [],c,n,m,_,_,h=>⟨m,rfl,by simpa using h,ue _⟩
 | r::rs,c,n,m,hs,hr,h=>by
  have t:=h.stepB (hr r (by simp)) hs.ne;obtain ⟨g,p,u,w⟩:=loopB j rs (c++[r]) (n+1) _ (by simpa using hs) (λq o=>hr q (by simp [o])) t;refine ⟨g,by rw [zy,j _ _ _ (hr r (by simp))];exact p,by simpa using u,?_⟩;have:=put_len (k:=xp r.path r.leaf.typ) (v:=edB (zo sEq ed0 m (xp r.path r.leaf.typ)) r) m;simp only [uh];omega
def vT (e:GC):Bool:=!((e.had==e.has)&&decide (e.was=e.is))
structure CopyOk (e:GC):Prop where
 path:e.path.length<=16777216
 was:LeafOk e.was
 is:LeafOk e.is
theorem copied_is (h:CopyOk e):vE e=some e:=by
 unfold vE;rw [vS (xT (sC h.path)),uc,own_is h.was,uc,own_is h.is];rfl
noncomputable def sortedF:Nat->(zj×GC)->List GC->Option (Out (List GC) (List GC)):=(λ(_:Nat) (x1:(zj×GC)) (s1:(List GC))=>(((if ((x1.2.had==x1.2.has)==true)=true then y6 x1.2.was x1.2.is else some default).bind λv7=>(if (!((x1.2.had==x1.2.has)&&v7))=true then ((vE x1.2).bind λv9=>(wA ((s1).length+(([v9]:List GC)).length<=xO) (some (.nxt (s1++([v9]:List GC)))))) else some (.nxt s1)))))
theorem sorted_eq (m:List (zj×GC)):wb m=(allP m λf=>lp (zy sortedF f 0 ([]:List GC)) λ(g:(List GC))=>((sortO (λx y=>wH x y) g).bind λc=>some c)):=rfl
theorem sortedF_is {x:zj×GC} (h:CopyOk x.2) {s:List GC} (hs:s.length<=16777216) (n:Nat):sortedF n x s=some (.nxt (if vT x.2=true then s++[x.2] else s)):=by
 unfold sortedF vT;rw [vC,copied_is h];cases e:(x.2.had==x.2.has) with
 | false =>
  simp only [rq,tT,uv];have:((false==true)=true)=False:=by simp
  simp only [this,uO,uc];rw [yl (xT (by simp;omega))]
 | true =>
  simp only [tW,uv,uc,uZ];cases e2:decide (x.2.was=x.2.is) with
  | false =>
   simp only [tT,uv];rw [yl (xT (by simp;omega))]
  | true=>simp
theorem sorted_loop:∀(p:List (zj×GC)) (n:Nat) (s:List GC),(∀x ∈ p,CopyOk x.2)->s.length+p.length<=16777216->zy sortedF p n s=some (.inr (s++(p.map (·.2)).filter vT))
 | [],n,s,_,_=>by simp [zy]
 | x::p,n,s,h,hl=>by
  simp only [uh] at hl;rw [zy,sortedF_is (h x (by simp)) (by omega)];simp only [];rw [uy,rB];split
  ·rw [sorted_loop p (n+1) (s++[x.2]) (λy c=>h y (by simp [c])) (by simp;omega),ur];rfl
  ·rw [sorted_loop p (n+1) s (λy c=>h y (by simp [c])) (by omega)]
theorem leaf0_ok:LeafOk x5:=⟨by simp [x5],by simp [x5],by simp [x5]⟩
theorem sorted_is {m:List (zj×GC)} (v:m.length<=16777216) (w:∀x ∈ m,CopyOk x.2) (u:m.Pairwise λx y=>yi x.2 ≠ yi y.2):∃R,wb m=some R/\R.Pairwise eLt/\R.length<=m.length/\∀e,e ∈ R ↔ (∃x ∈ m,x.2=e)/\vT e=true:=by
 have tr:∀x y z,eLt x y->eLt y z->eLt x z:=λ_ _ _=>klt_trans;have s:((m.map (·.2)).filter vT).Pairwise λx y=>eLt x y \/ eLt y x:=by
  refine List.Pairwise.filter _ (rt.2 (u.imp λh=>?_));rcases klt_tot _ _ with e | e | e
  ·exact (h e).elim
  ·exact .inl e
  ·exact .inr e
 obtain ⟨R,i,hs⟩:=exists_sorted tr _ s;have o:∀e,e ∈ R ↔ (∃x ∈ m,x.2=e)/\vT e=true:=λe=>by
  rw [i.mem_iff,uW,tp]
 refine ⟨R,?_,hs,?_,o⟩
 ·rw [sorted_eq];refine allP_of λp f=>?_;rw [sorted_loop p 0 [] (λx g=>w x (f.mem_iff.1 g)) (by rw [f.length_eq];simpa using v),wV,u7];have c:((p.map (·.2)).filter vT).Perm ((m.map (·.2)).filter vT):=(f.map _).filter _;have t:((p.map (·.2)).filter vT).length<=m.length:=by
   rw [c.length_eq];exact uG (tq _ _) (by simp)
  rw [sortO_lt (α:=GC) (cf:=ordI) (lt:=eLt) (R:=R) (λx _ y _=>order_is x y) (λx y=>ordI_lt) (λx h=>by unfold eLt at h;rw [wQ] at h;cases h) tr (λx g y j=>?_) (i.trans c.symm) hs (xT (by omega))]
  ·rfl
  ·have g:=c.mem_iff.1 g;have j:=c.mem_iff.1 j;rcases klt_tot (yi x) (yi y) with e | e | e
   ·left;have g:=i.mem_iff.2 g;have j:=i.mem_iff.2 j;exact sorted_key (key:=yi) hs g j e
   ·exact .inr (.inl e)
   ·exact .inr (.inr e)
 ·rw [i.length_eq];exact uG (tq _ _) (by simp)
noncomputable def dA:Nat->GK->List (zj×GC)->Option (Out (List GC×Int) (List (zj×GC))):=(λ(n1:Nat) (x1:GK) (s1:List (zj×GC))=>(((xQ x1.path x1.leaf.typ).bind λv11=>some (.nxt (yn (λa b=>a==b) s1 v11 (GC.mk x1.path x1.leaf.typ true false x1.leaf zP))))))
noncomputable def dB:Nat->GK->List (zj×GC)->Option (Out (List GC×Int) (List (zj×GC))):=(λ(n2:Nat) (x2:GK) (s2:List (zj×GC))=>(((xQ x2.path x2.leaf.typ).bind λv20=>((xQ x2.path x2.leaf.typ).bind λv21=>some (.nxt (yn (λa b=>a==b) s2 v21 (GC.mk x2.path x2.leaf.typ ((zo (λa b=>a==b) (GC.mk ([]:List zj) (0:Int) false false zP zP) s2 v20).had) true ((zo (λa b=>a==b) (GC.mk ([]:List zj) (0:Int) false false zP zP) s2 v20).was) x2.leaf)))))))
theorem diff_eq (a0 c:List GA):vd a0 c=((vg a0).bind λg=>((if ((!g)==false)=true then vg c else some default).bind λh=>(if ((!g) || (!h))=true then some (([]:List GC),(2:Int)) else ((vA a0).bind λv4=>(lp (zy dA v4 0 ([]:List (zj×GC))) λ(i:List (zj×GC))=>((vA c).bind λf=>(lp (zy dB f 0 i) λ(s2:List (zj×GC))=>((wb s2).bind λv22=>some (v22,(0:Int)))))))))):=rfl
theorem rows_key {t:List GA} (hs:Small t) (f:treeB 0 t=true):∀r ∈ zz [] t,RKey r:=λr c=>by
 have:=rows_ok t 0 [] hs f rfl rfl r c;exact ⟨this.path,leaf_typ this.leaf⟩
theorem dA_is (i:Nat) (x:GK) (s:List (zj×GC)) (h:RKey x):dA i x s=some (.nxt (yn sEq s (xp x.path x.leaf.typ) (edA x))):=by
 unfold dA;rw [key_is h.1 h.2];rfl
theorem dB_is (i:Nat) (x:GK) (s:List (zj×GC)) (h:RKey x):dB i x s=some (.nxt (yn sEq s (xp x.path x.leaf.typ) (edB (zo sEq ed0 s (xp x.path x.leaf.typ)) x))):=by
 unfold dB;rw [key_is h.1 h.2];rfl
theorem side_ok {t:List GA} (hs:Small t) (c:treeB 0 t=true) {p:List zj} {k:Int} {there:Bool} {l:GE} (h:Side (zz [] t) p k there l):LeafOk l:=by
 cases there with
 | true=>exact (rows_ok t 0 [] hs c rfl rfl _ (h.on rfl).1).ok
 | false=>rw [(h.off rfl).1];exact leaf0_ok
theorem rows_small {t:List GA} (hs:Small t):(zz [] t).length<=GA.bks t:=rows_len _ t [] (ue _)
theorem diff_is {a b:List GA} (p:Small a) (i:Small b) (j:treeB 0 a=true) (o:treeB 0 b=true) (P:GA.bks a+GA.bks b<=16777216) :
  ∃R,vd a b=some (R,0)/\R.Pairwise eLt/\R.length<=(zz [] a).length+(zz [] b).length/\∀e,e ∈ R ↔ EdOf (zz [] a) (zz [] b) e/\vT e=true:=by
 have A:=xJ j [];have C:=xJ o [];obtain ⟨H,J,B,a3⟩:=loopA dA_is (zz [] a) [] 0 [] A (rows_key p j) MInv.nil;obtain ⟨t,D,f,O⟩:=loopB dB_is (zz [] b) [] 0 H C (rows_key i o) B;simp only [u7,uC,uV] at B a3 f;have Q:=rows_small p;have T:=rows_small i;have u:t.Pairwise λx y=>yi x.2 ≠ yi y.2:=by
  refine s7 ?_ f.nd;intro x y c G h e;apply h;rw [(f.ed x c).2.1,(f.ed y G).2.1];have s:x.2.path=y.2.path:=congrArg Prod.fst e;have g:x.2.typ=y.2.typ:=congrArg Prod.snd e;rw [s,g]
 obtain ⟨R,E,I,N,F⟩:=sorted_is (m:=t) (by omega) (λx c=>by
  obtain ⟨s,_,K,_⟩:=f.ed x c;exact ⟨by have:=(wF K).2.1;omega,side_ok p j s.a,side_ok i o s.b⟩) u
 refine ⟨R,?_,I,by omega,λe=>?_⟩
 ·rw [diff_eq,vk p,j,uc,uz (show ((!true)==false)=true from rfl),vk i,o,uc,u6 (by decide),pathsRows_is p,j,uz rfl,uc,J,wV,pathsRows_is i,o,uz rfl,uc,D,wV,E];rfl
 ·rw [F];constructor
  ·rintro ⟨⟨x,c,rfl⟩,h⟩
   exact ⟨(f.ed x c).1,h⟩
  ·rintro ⟨h,M⟩
   refine ⟨?_,M⟩;have:∃x ∈ t,yi x.2=yi e:=by
    rcases h.any with v | v
    ·obtain ⟨w,z⟩:=h.a.on v;obtain ⟨x,c,g⟩:=f.ca _ w;exact ⟨x,c,by rw [g];unfold rkey yi;rw [z]⟩
    ·obtain ⟨w,z⟩:=h.b.on v;obtain ⟨x,c,g⟩:=f.cb _ w;exact ⟨x,c,by rw [g];unfold rkey yi;rw [z]⟩
   obtain ⟨x,c,g⟩:=this;exact ⟨x,c,(f.ed x c).1.one A C h g⟩

theorem Side.ok {t:List GA} (hs:Small t) (i:treeB 0 t=true) {p:List zj} {k:Int} {there:Bool} {l:GE} (h:Side (zz [] t) p k there l):there=true->leafB l=true/\LeafOk l/\l.typ=k:=λg=>by
 obtain ⟨c,f⟩:=h.on g;have:=rows_ok t 0 [] hs i rfl rfl _ c;exact ⟨this.leaf,this.ok,f⟩
theorem Side.rkey {t:List GA} (hs:Small t) (g:treeB 0 t=true) {p:List zj} {k:Int} {l:GE} (h:Side (zz [] t) p k true l):xN p=true/\1<=k/\k<=4:=by
 obtain ⟨c,f⟩:=h.on rfl;have:=rows_key hs g _ c;unfold RKey at this;rw [f] at this;exact this
theorem chg_ne (h:vT e=true) (c:e.had=true) (f:e.has=true):e.was ≠ e.is:=λg=>by
 unfold vT at h;rw [c,f,g] at h;simp at h
theorem EdOf.eok {a b:List GA} (i:Small a) (m:Small b) (j:treeB 0 a=true) (f:treeB 0 b=true) {e:GC} (h:EdOf (zz [] a) (zz [] b) e) (o:vT e=true):EOk e:=by
 have g:xN e.path=true/\1<=e.typ/\e.typ<=4:=by
  rcases h.any with c | c
  ·have:=h.a;rw [c] at this;exact this.rkey i j
  ·have:=h.b;rw [c] at this;exact this.rkey m f
 exact ⟨g.1,g.2,h.any,chg_ne o,h.a.ok i j,λh0=>(h.a.off h0).1,h.b.ok m f,λh0=>(h.b.off h0).1⟩
theorem EdOf.fits {a b:List GA} (h:EdOf (zz [] a) (zz [] b) e):EFits a e:=⟨λc=>(h.a.on c).1,λc=>(h.a.off c).2⟩
theorem patched_row {a b:List GA} (B:treeB 0 a=true) (C:treeB 0 b=true) {R:List GC} (i:∀e,e ∈ R ↔ EdOf (zz [] a) (zz [] b) e/\vT e=true) (r:GK) :
  ((r ∈ zz [] a/\∀e ∈ R,rkey r ≠ yi e) \/ ∃e ∈ R,e.has=true/\r=⟨e.path,e.is⟩) ↔ r ∈ zz [] b:=by
 have G:=xJ B [];have J:=xJ C [];constructor
 ·rintro (⟨p,x⟩ | ⟨e,H,p,rfl⟩)
  ·apply sZ;intro F;by_cases hx:∃q ∈ zz [] b,rkey q=rkey r
   ·obtain ⟨q,c,e⟩:=hx;have g:q.path=r.path:=congrArg Prod.fst e;have u:q.leaf.typ=r.leaf.typ:=congrArg Prod.snd e;have s:r.leaf ≠ q.leaf:=λj=>F (by
     have:r=q:=by cases r;cases q;simp only at g j;rw [g,j]
     rw [this];exact c)
    refine x (GC.mk r.path r.leaf.typ true true r.leaf q.leaf) ((i _).2 ⟨⟨.inl rfl,⟨λ_=>⟨p,rfl⟩,λh=>(by cases h)⟩,⟨λ_=>⟨?_,u⟩,λh=>(by cases h)⟩⟩,?_⟩) rfl
    ·show GK.mk r.path q.leaf ∈ _;rw [<- g];exact c
    ·unfold vT;simp [s]
   ·refine x (GC.mk r.path r.leaf.typ true false r.leaf x5) ((i _).2 ⟨⟨.inl rfl,⟨λ_=>⟨p,rfl⟩,λh=>(by cases h)⟩,⟨λh=>(by cases h),λ_=>⟨rfl,λq c e=>hx ⟨q,c,e⟩⟩⟩⟩,rfl⟩) rfl
  ·exact ((i e).1 H).1.b.on p |>.1
 ·intro h;by_cases hx:∃q ∈ zz [] a,rkey q=rkey r
  ·obtain ⟨q,c,e⟩:=hx;have g:q.path=r.path:=congrArg Prod.fst e;have u:q.leaf.typ=r.leaf.typ:=congrArg Prod.snd e;by_cases hl:q.leaf=r.leaf
   ·left;have t:q=r:=by cases r;cases q;simp only at g hl;rw [g,hl]
    subst t;refine ⟨c,λf D j=>?_⟩;obtain ⟨o,v⟩:=(i f).1 D;have z:q.path=f.path:=congrArg Prod.fst j;have w:q.leaf.typ=f.typ:=congrArg Prod.snd j;obtain ⟨I,E⟩:=o.a.one G (y:=true) (m:=q.leaf) ⟨λ_=>⟨by rw [<- z];exact c,w⟩,λh=>(by cases h)⟩;obtain ⟨A,K⟩:=o.b.one J (y:=true) (m:=q.leaf) ⟨λ_=>⟨by rw [<- z];exact h,w⟩,λh=>(by cases h)⟩;exact chg_ne v I A (E.trans K.symm)
   ·right;refine ⟨GC.mk r.path r.leaf.typ true true q.leaf r.leaf,(i _).2 ⟨⟨.inl rfl,⟨λ_=>⟨?_,u⟩,λh=>(by cases h)⟩,⟨λ_=>⟨h,rfl⟩,λh=>(by cases h)⟩⟩,?_⟩,rfl,rfl⟩
    ·show GK.mk r.path q.leaf ∈ _;rw [<- g];exact c
    ·unfold vT;simp [hl]
  ·right;exact ⟨GC.mk r.path r.leaf.typ false true x5 r.leaf,(i _).2 ⟨⟨.inr rfl,⟨λh=>(by cases h),λ_=>⟨rfl,λq c e=>hx ⟨q,c,e⟩⟩⟩,⟨λ_=>⟨h,rfl⟩,λh=>(by cases h)⟩⟩,rfl⟩,rfl,rfl⟩
theorem patched {a b u:List GA} (g:treeB 0 a=true) (c:treeB 0 b=true) (h:treeB 0 u=true) {R:List GC} (f:∀e,e ∈ R ↔ EdOf (zz [] a) (zz [] b) e/\vT e=true)
  (i:∀r,r ∈ zz [] u ↔ (r ∈ zz [] a/\∀e ∈ R,rkey r ≠ yi e) \/ ∃e ∈ R,e.has=true/\r=⟨e.path,e.is⟩):u=b:=rows_ext h c λr=>by rw [i,patched_row g c f]
theorem leaf_bk (l:GE):4<=GE.bk l:=by unfold GE.bk;omega
theorem leaves_bk:∀ls:List GE,4 * ls.length<=(ls.map GE.bk).sum
 | []=>by simp
 | l::ls=>by
  have:=leaves_bk ls;have:=leaf_bk l;simp only [uh,uy,rD];omega
theorem rows4:∀(t:List GA),4 * (zz [] t).length<=GA.bks t:=by
 refine wY (by simp [zz]) ?_;intro x r h f;have g:=leaves_bk x.leaves;have c:=bk_node x;rw [show x::r=[x]++r from rfl,vw,qD,yZ];simp only [ul,uA];rw [len_rows x.subs ([]++[x.name]) []];show _<=x.bk+GA.bks r;omega
theorem diff_no {a b:List GA} (c:Small a) (f:Small b) (h:(treeB 0 a&&treeB 0 b)=false):vd a b=some ([],2):=by
 rw [diff_eq,vk c,uc];cases e:treeB 0 a with
 | false=>simp
 | true =>
  rw [e] at h;simp only [uZ] at h;simp [vk f,h]
theorem mhas_iff {k:zj} {W:Type}:∀{m:List (zj×W)},xX sEq m k=true ↔ ∃x ∈ m,x.1=k
 | []=>by simp [xX]
 | e::r=>by
  simp only [xX,te,sEq_iff,mhas_iff (m:=r),uF];constructor
  ·rintro (h | ⟨x,c,h⟩)
   ·exact ⟨e,.inl rfl,h.symm⟩
   ·exact ⟨x,.inr c,h⟩
  ·rintro ⟨x,c | c,h⟩
   ·subst c;exact .inl h.symm
   ·exact .inr ⟨x,c,h⟩
theorem side_ex (rs:List GK) (p:List zj) (k:Int):∃t l,Side rs p k t l:=by
 by_cases h:∃r ∈ rs,rkey r=(p,k)
 ·obtain ⟨r,c,e⟩:=h;have f:r.path=p:=congrArg Prod.fst e;have g:r.leaf.typ=k:=congrArg Prod.snd e;exact ⟨true,r.leaf,λ_=>⟨by rw [<- f];exact c,g⟩,λh=>(by cases h)⟩
 ·exact ⟨false,x5,λh=>(by cases h),λ_=>⟨rfl,λr c e=>h ⟨r,c,e⟩⟩⟩
theorem chg_any (a:Side ra e.path e.typ e.had e.was) (b:Side rb e.path e.typ e.has e.is) (h:vT e=true):EdOf ra rb e:=by
 refine ⟨?_,a,b⟩;cases h1:e.had with
 | true=>exact .inl rfl
 | false =>
  cases h2:e.has with
  | true=>exact .inr rfl
  | false =>
   unfold vT at h;rw [h1,h2,(a.off h1).1,(b.off h2).1] at h;simp at h
theorem side_same {R:List GC} (j:∀e,e ∈ R ↔ EdOf ra rb e/\vT e=true) {p:List zj} {k:Int} (o:∀e ∈ R,yi e ≠ (p,k)) {t t':Bool} {l f:GE} (m:Side ra p k t l) (i:Side rb p k t' f):t=t'/\l=f:=by
 apply sZ;intro c;have g:vT (GC.mk p k t t' l f)=true:=by
  unfold vT;simp only [sA,rz,pg,beq_eq_false_iff_ne];by_cases ht:t=t'
  ·exact .inr λh=>c ⟨ht,h⟩
  ·exact .inl ht
 exact o _ ((j _).2 ⟨chg_any m i g,g⟩) rfl
theorem ekey_eq {p:List zj} (h:yi e=(p,k)):e.path=p/\e.typ=k:=⟨congrArg Prod.fst h,congrArg Prod.snd h⟩
structure KOk (x:zj×GC):Prop where
 key:x.1=xp x.2.path x.2.typ
 path:xN x.2.path=true
 typ:1<=x.2.typ/\x.2.typ<=4
theorem KOk.iff {x:zj×GC} (h:KOk x) {e:GC} (f:xN e.path=true) (g:1<=e.typ/\e.typ<=4):x.1=xp e.path e.typ ↔ yi x.2=yi e:=by
 constructor
 ·intro c;rw [h.key] at c;obtain ⟨a,b⟩:=key_inj h.path f h.typ g c;unfold yi;rw [a,b]
 ·intro c;obtain ⟨a,b⟩:=ekey_eq c;rw [h.key,a,b]
structure CInv (ra:List GK) (R P:List GC) (m:List (zj×GC)):Prop where
 nd:mnd m
 ok:∀x ∈ m,KOk x
 ed:∀x ∈ m,Side ra x.2.path x.2.typ x.2.had x.2.was/\((∃e ∈ P,yi e=yi x.2/\e.has=x.2.has/\e.is=x.2.is) \/ ((∀e ∈ P,yi e ≠ yi x.2)/\x.2 ∈ R))
 cr:∀e ∈ R,∃x ∈ m,yi x.2=yi e
 cp:∀e ∈ P,∃x ∈ m,yi x.2=yi e
theorem CInv.put {R P:List GC} {m:List (zj×GC)} (h:CInv ra R P m) {e g:GC} (C:xN e.path=true) (z:1<=e.typ/\e.typ<=4) (G:∀f ∈ P,yi f ≠ yi e) (o:g.path=e.path) (p:g.typ=e.typ) (B:g.has=e.has) (A:g.is=e.is) (hs:Side ra e.path e.typ g.had g.was) :
  CInv ra R (P++[e]) (yn sEq m (xp e.path e.typ) g):=by
 have w:=mem_put (k:=xp e.path e.typ) (v:=g) h.nd;have t:yi g=yi e:=by unfold yi;rw [o,p]
 have i:(xp e.path e.typ,g) ∈ yn sEq m (xp e.path e.typ) g:=(w _).2 (.inr rfl);have keep:∀(f:GC) (x:zj×GC),x ∈ m->yi x.2=yi f->∃x ∈ yn sEq m (xp e.path e.typ) g,yi x.2=yi f:=λf x j s=>by
  by_cases hk:x.1=xp e.path e.typ
  ·exact ⟨_,i,by rw [<- s,((h.ok x j).iff C z).1 hk];exact t⟩
  ·exact ⟨x,(w x).2 (.inl ⟨j,hk⟩),s⟩
 refine ⟨mnd_put h.nd,λx j=>?_,λx j=>?_,λf c=>?_,λf c=>?_⟩
 ·rcases (w x).1 j with ⟨u,_⟩ | rfl
  ·exact h.ok x u
  ·exact ⟨by rw [o,p],by rw [o];exact C,by rw [p];exact z⟩
 ·rcases (w x).1 j with ⟨u,D⟩ | rfl
  ·obtain ⟨E,s2⟩:=h.ed x u;have y:yi e ≠ yi x.2:=λs=>D (((h.ok x u).iff C z).2 s.symm);refine ⟨E,?_⟩;rcases s2 with ⟨f,c,s2⟩ | ⟨s2,F⟩
   ·exact .inl ⟨f,by simp [c],s2⟩
   ·refine .inr ⟨λf c=>?_,F⟩;rcases uE.1 c with c | c
    ·exact s2 f c
    ·simp only [ut] at c;subst c;exact y
  ·exact ⟨by rw [o,p];exact hs,.inl ⟨e,by simp,t.symm,B.symm,A.symm⟩⟩
 ·obtain ⟨x,j,s⟩:=h.cr f c;exact keep f x j s
 ·rcases uE.1 c with c | c
  ·obtain ⟨x,j,s⟩:=h.cp f c;exact keep f x j s
  ·simp only [ut] at c;subst c;exact ⟨_,i,t⟩
noncomputable def cA:Nat->GC->List (zj×GC)->Option (Out (List GC×Int) (List (zj×GC))):=(λ(_:Nat) (x1:GC) (s1:List (zj×GC))=>(((xQ x1.path x1.typ).bind λv10=>some (.nxt (yn (λa b=>a==b) s1 v10 x1)))))
noncomputable def cG (s2:List (zj×GC)) (v20:zj):GC:=(zo (λa b=>a==b) (GC.mk ([]:List zj) (0:Int) false false zP zP) s2 v20)
noncomputable def cB:Nat->GC->List (zj×GC)->Option (Out (List GC×Int) (List (zj×GC))):=(λ(_:Nat) (x2:GC) (s2:List (zj×GC))=>(((xQ x2.path x2.typ).bind λv20=>(if (xX (λa b=>a==b) s2 v20)=true then ((if ((!((cG s2 v20).has==x2.had))==false)=true then y6 ((cG s2 v20).is) x2.was else some default).bind λv22=>(if ((!((cG s2 v20).has==x2.had)) || (!v22))=true then some (.ret (([]:List GC),(16:Int))) else some (.nxt (yn (λa b=>a==b) s2 v20 (GC.mk x2.path x2.typ ((cG s2 v20).had) x2.has ((cG s2 v20).was) x2.is))))) else some (.nxt (yn (λa b=>a==b) s2 v20 x2))))))
theorem chain_eq (c f:List GC):diffChain c f=((qA c).bind λg=>((if ((!g)==false)=true then qA f else some default).bind λh=>(if ((!g) || (!h))=true then some (([]:List GC),(2:Int)) else (lp (zy cA c 0 ([]:List (zj×GC))) λ(i:List (zj×GC))=>(lp (zy cB f 0 i) λ(s2:List (zj×GC))=>((wb s2).bind λv24=>some (v24,(0:Int)))))))):=rfl
theorem cA_loop:∀(R:List GC) (n:Nat) (c:List GC) (m:List (zj×GC)),(∀e ∈ R,xN e.path=true/\1<=e.typ/\e.typ<=4)->(c++R).Pairwise eLt->mnd m->(∀x ∈ m,KOk x/\x.2 ∈ c)->(∀e ∈ c,∃x ∈ m,x.2=e) ->
  ∃i,zy cA R n m=some (.inr i)/\mnd i/\(∀x ∈ i,KOk x/\x.2 ∈ c++R)/\(∀e ∈ c++R,∃x ∈ i,x.2=e)/\i.length<=m.length+R.length
 | [],n,c,m,_,_,h1,h2,h3=>⟨m,rfl,h1,by simpa using h2,by simpa using h3,ue _⟩
 | e::R,n,c,m,ho,hp,h1,h2,h3=>by
  obtain ⟨s,p⟩:=ho e (by simp);have t:=mem_put (k:=xp e.path e.typ) (v:=e) h1;have o:∀x ∈ m,x.1 ≠ xp e.path e.typ:=λx j u=>by
   have w:=((h2 x j).1.iff s p).1 u;have:=(tb.1 hp).2.2 _ (h2 x j).2 e (by simp);unfold eLt at this;rw [w,wQ] at this;cases this
  obtain ⟨i,y,z,a3,a4,a5⟩:=cA_loop R (n+1) (c++[e]) (yn sEq m (xp e.path e.typ) e) (λf g=>ho f (by simp [g])) (by simpa using hp) (mnd_put h1) (λx j=>by
   rcases (t x).1 j with ⟨h,_⟩ | rfl
   ·exact ⟨(h2 x h).1,by simp [(h2 x h).2]⟩
   ·exact ⟨⟨rfl,s,p⟩,by simp⟩) (λf g=>by
   rcases uE.1 g with g | g
   ·obtain ⟨x,j,u⟩:=h3 f g;exact ⟨x,(t x).2 (.inl ⟨j,o x j⟩),u⟩
   ·simp only [ut] at g;subst g;exact ⟨_,(t _).2 (.inr rfl),rfl⟩)
  refine ⟨i,?_,z,by simpa using a3,by simpa using a4,?_⟩
  ·rw [zy];have:cA n e m=some (.nxt (yn sEq m (xp e.path e.typ) e)):=by unfold cA;rw [key_is s p];rfl
   rw [this];exact y
  ·have:=put_len (k:=xp e.path e.typ) (v:=e) m;simp only [uh];omega
theorem cB_loop {ra rb:List GK} {R:List GC} (E:∀e,e ∈ R ↔ EdOf ra rb e/\vT e=true) (J:rb.Pairwise λr q=>wW (rkey r) (rkey q)=true):∀(M:List GC) (n:Nat) (P:List GC) (m:List (zj×GC)),(∀e ∈ M,xN e.path=true/\(1<=e.typ/\e.typ<=4)/\Side rb e.path e.typ e.had e.was)->(P++M).Pairwise eLt->CInv ra R P m ->
  ∃u,zy cB M n m=some (.inr u)/\CInv ra R (P++M) u/\u.length<=m.length+M.length
 | [],n,P,m,_,_,h=>⟨m,rfl,by simpa using h,ue _⟩
 | e::M,n,P,m,ho,hp,h=>by
  obtain ⟨o,j,H⟩:=ho e (by simp);have B:∀f ∈ P,yi f ≠ yi e:=λf c i=>by
   have:=(tb.1 hp).2.2 f c e (by simp);unfold eLt at this;rw [i,wQ] at this;cases this
  have step:∃g,cB n e m=some (.nxt (yn sEq m (xp e.path e.typ) g))/\CInv ra R (P++[e]) (yn sEq m (xp e.path e.typ) g):=by
   by_cases hh:xX sEq m (xp e.path e.typ)=true
   ·obtain ⟨x,s,F⟩:=mhas_iff.1 hh;have K:cG m (xp e.path e.typ)=x.2:=by rw [<- F];exact get_mem h.nd s
    have G:=((h.ok x s).iff o j).1 F;obtain ⟨U,Q⟩:=ekey_eq G;obtain ⟨I,s2⟩:=h.ed x s;have C:x.2 ∈ R:=by
     rcases s2 with ⟨f,c,i,_⟩ | ⟨_,V⟩
     ·exact (B f c (i.trans G)).elim
     ·exact V
    have w:=((E _).1 C).1.b;rw [U,Q] at w I;obtain ⟨A,y⟩:=w.one J H;refine ⟨GC.mk e.path e.typ x.2.had e.has x.2.was e.is,?_,h.put o j B rfl rfl rfl rfl I⟩;unfold cB;rw [key_is o j,uc,K];have D:xX (λa b=>a==b) m (xp e.path e.typ)=true:=hh;rw [uz D,vC,A,y];simp;rfl
   ·have z:xX (λa b=>a==b) m (xp e.path e.typ)=false:=by
     cases i:xX (λa b=>a==b) m (xp e.path e.typ)
     ·rfl
     ·exact (hh i).elim
    refine ⟨e,?_,h.put o j B rfl rfl rfl rfl ?_⟩
    ·unfold cB;rw [key_is o j,uc,z];rfl
    ·obtain ⟨t,l,hs⟩:=side_ex ra e.path e.typ;obtain ⟨A,y⟩:=side_same E (p:=e.path) (k:=e.typ) (λf c i=>by
      obtain ⟨x,s,O⟩:=h.cr f c;exact hh (mhas_iff.2 ⟨x,s,((h.ok x s).iff o j).2 (O.trans i)⟩)) hs H
     rw [<- A,<- y];exact hs
  obtain ⟨g,T,N⟩:=step;obtain ⟨u,Y,Z,a3⟩:=cB_loop E J M (n+1) (P++[e]) _ (λf c=>ho f (by simp [c])) (by simpa using hp) N;refine ⟨u,by rw [zy,T];exact Y,by simpa using Z,?_⟩;have:=put_len (k:=xp e.path e.typ) (v:=g) m;simp only [uh];omega

end Go.Vv
