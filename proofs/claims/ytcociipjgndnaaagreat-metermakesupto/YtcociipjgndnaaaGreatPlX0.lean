/- Layer 31: what the plain laws lean on. -/
import Derived.Test.YtcociipjgndnaaaGreatD
import Derived.Test.YtcociipjgndnaaaGreatVvQ
namespace Go.Vv
open Go
structure GO where
 path:(List zy)
 typ:Int
 had:Bool
 has:Bool
 was:GC
 is:GC
 deriving DecidableEq,Inhabited
def GO.wf (x:GO):Prop:=(x.path.length<=maxLen/\∀y ∈ x.path,y.length<=maxLen)/\(InK .u8 x.typ)/\(True)/\(True)/\(GC.wf x.was)/\(GC.wf x.is)
def GO.bk (x:GO):Nat:=(((x.path.map (λs=>s.length+1)).sum+1)+(1+(1+(1+(GC.bk x.was+(GC.bk x.is+0))))))+1
noncomputable def xM (n0:GA) (name1:zy):Option Int :=
 ((stringsCompare n0.name name1).bind λv1=>some v1)
noncomputable def wr (s0:(List GC)) (del1:(GC->Option Bool)):Option (List GC) :=
 ((yI s0 del1).bind λv1=>(if (v1==(-1:Int))=true then some s0 else (lp (ye (λ(s1:Int×Int×(List GC))=>((yf ((s1.2.2).length=s0.length) ((if (decide (s1.2.1 < ((s0.length:Nat):Int)))=true then ((yu s1.2.2 s1.2.1).bind λy14=>((del1 y14).bind λv15=>(if (!v15)=true then ((yu s1.2.2 s1.1).bind λy17=>some (.nxt ((IntKind.wrap .i64 (s1.1+(1:Int))),(IntKind.wrap .i64 (s1.2.1+(1:Int))),(s1.2.2.set s1.1.toNat y14)))) else some (.nxt (s1.1,(IntKind.wrap .i64 (s1.2.1+(1:Int))),s1.2.2))))) else some (.brk (s1.1,s1.2.1,s1.2.2))))):Option (Out _ (Int×Int×(List GC))))) (v1,(IntKind.wrap .i64 (v1+(1:Int))),s0)) λ(s1:Int×Int×(List GC))=>(yf (0<=s1.1/\s1.1<=((s0.length:Nat):Int)) (((slc (s1.2.2.take s1.1.toNat++List.replicate (s0.length - s1.1.toNat) zLf) (0:Int) s1.1).bind λm19=>some m19))))))
noncomputable def diffXlayC2 (x0:GC) (c0:Int):Option Bool :=
 some (x0.typ==c0)
noncomputable def diffXown (l0:GC):Option GC :=
 ((yQ l0.items).bind λv1=>((y4 l0.tombs).bind λv2=>some (GC.mk l0.typ l0.n l0.time l0.dot l0.text v1 v2)))
noncomputable def diffXlayC3 (x0:GC) (y1:GC):Option Int :=
 ((x9 x0.typ y1.typ).bind λv1=>some v1)
noncomputable def xZ:Nat->(t0:(List GA))->(path1:(List zy))->(kind2:Int)->(l3:GC)->(there4:Bool)->Option (List GA)
 | 0,_,_,_,_,_=>none
 | n+1,t0,path1,kind2,l3,there4=>((yu path1 (0:Int)).bind λy1=>((zp t0 y1 (λx0 x1=>xM x0 x1)).bind λv2=>((yu path1 (0:Int)).bind λy3=>(lp ((if v2.2=true then ((yu t0 v2.1).bind λy7=>some (.inr (y7.name,y7.leaves,y7.subs))) else some (.inr (y3,([]:List GC),([]:List GA)))):Option (_ ⊕ (zy×(List GC)×(List GA)))) λ(s1:zy×(List GC)×(List GA))=>(lp ((if (decide (((path1).length:Int) > (1:Int)))=true then ((slc path1 (1:Int) ((path1).length:Int)).bind λm20=>((xZ n s1.2.2 m20 kind2 l3 there4).bind λv21=>some (.inr (s1.2.1,v21)))) else ((xE s1.2.1).bind λv22=>((wr v22 (λx0=>diffXlayC2 x0 kind2)).bind λv23=>(if there4=true then ((diffXown l3).bind λv25=>(yf ((v23).length+(([v25]:List GC)).length<=yK) (((sortO (λx y=>diffXlayC3 x y) (v23++([v25]:List GC))).bind λv27=>some (.inr (v27,s1.2.2)))))) else some (.inr (v23,s1.2.2)))))):Option (_ ⊕ ((List GC)×(List GA)))) λ(s2:(List GC)×(List GA))=>((slc t0 (0:Int) v2.1).bind λm28=>((xd m28).bind λv29=>(if (decide ((IntKind.wrap .i64 (((s2.1).length:Int)+((s2.2).length:Int))) > (0:Int)))=true then (yf ((v29).length+(([(GA.mk s1.1 s2.1 s2.2)]:List GA)).length<=yK) ((if v2.2=true then ((slc t0 (IntKind.wrap .i64 (v2.1+(1:Int))) ((t0).length:Int)).bind λm35=>(yf (((v29++([(GA.mk s1.1 s2.1 s2.2)]:List GA))).length+(m35).length<=yK) (some ((v29++([(GA.mk s1.1 s2.1 s2.2)]:List GA))++m35)))) else ((slc t0 v2.1 ((t0).length:Int)).bind λm37=>(yf (((v29++([(GA.mk s1.1 s2.1 s2.2)]:List GA))).length+(m37).length<=yK) (some ((v29++([(GA.mk s1.1 s2.1 s2.2)]:List GA))++m37))))))) else (if v2.2=true then ((slc t0 (IntKind.wrap .i64 (v2.1+(1:Int))) ((t0).length:Int)).bind λm40=>(yf ((v29).length+(m40).length<=yK) (some (v29++m40)))) else ((slc t0 v2.1 ((t0).length:Int)).bind λm42=>(yf ((v29).length+(m42).length<=yK) (some (v29++m42)))))))))))))
noncomputable def diffXlay (t0:(List GA)) (path1:(List zy)) (kind2:Int) (l3:GC) (there4:Bool):Option (List GA):=anyN λn=>xZ n t0 path1 kind2 l3 there4
end Go.Vv
namespace Go.Vv
open Go
def alnum (b:UInt8):Bool:=(decide (97<=b.toNat)&&decide (b.toNat<=122)) || (decide (65<=b.toNat)&&decide (b.toNat<=90)) || (decide (48<=b.toNat)&&decide (b.toNat<=57))
def other (r:Int):Bool:=!((decide (97<=r)&&decide (r<=122)) || (decide (65<=r)&&decide (r<=90)) || (decide (48<=r)&&decide (r<=57)))
def runeIdx (q:Int->Bool) (s:List UInt8) (i:Nat):Int :=
 if h:i < s.length then (if q (dec s i).1 then i else if (dec s i).2=0 then -1 else runeIdx q s (i+(dec s i).2)) else -1
termination_by s.length - i
decreasing_by omega
theorem dec_width (s:List UInt8) (i:Nat) (h:i < s.length):1<=(dec s i).2:=by
 have hs:i < (⟨s.toArray⟩:ByteArray).size:=by simpa [ByteArray.size] using h
 by_cases ha:((⟨s.toArray⟩:ByteArray)[i]'hs).toNat < 128
 ·unfold dec;rw [decode_ascii _ i hs ha];exact uh _
 ·exact (decode_high _ i hs (by omega)).2
theorem dec_low {s:List UInt8} {i:Nat} {b:UInt8} (a:s[i]?=some b) (h:b.toNat < 128):dec s i=(b.toNat,1):=by
 have c:i < s.length:=(uc.1 a).1;have hs:i < (⟨s.toArray⟩:ByteArray).size:=by simpa [ByteArray.size] using c
 have e:((⟨s.toArray⟩:ByteArray)[i]'hs)=b:=by
  have d:((⟨s.toArray⟩:ByteArray)[i]'hs)=s[i]:=rfl;rw [d];rw [ug c] at a;injection a
 unfold dec;rw [decode_ascii _ i hs (by rw [e];exact h),e]
theorem dec_hi {s:List UInt8} {i:Nat} {b:UInt8} (a:s[i]?=some b) (h:128<=b.toNat):128<=(dec s i).1:=by
 have c:i < s.length:=(uc.1 a).1;have hs:i < (⟨s.toArray⟩:ByteArray).size:=by simpa [ByteArray.size] using c
 have e:((⟨s.toArray⟩:ByteArray)[i]'hs)=b:=by
  have d:((⟨s.toArray⟩:ByteArray)[i]'hs)=s[i]:=rfl;rw [d];rw [ug c] at a;injection a
 exact (decode_high _ i hs (by rw [e];exact h)).1
theorem other_alnum {b:UInt8}:other (b.toNat:Int)=!alnum b:=by
 unfold other alnum;congr 1;rw [uJ];simp;omega
theorem rune_all {s:List UInt8} (h:s.all alnum=true):∀(n i:Nat),s.length - i=n->runeIdx other s i=-1
 | n,i,hn=>by
  rw [runeIdx.eq_def];by_cases hi:i < s.length
  ·rw [p9 hi];have c:s[i]?=some s[i]:=ug hi;have b:alnum s[i]=true:=by rw [ux] at h;exact h _ (tU hi)
   have a:s[i].toNat < 128:=by
    unfold alnum at b;simp only [tn,ud,um] at b;omega
   rw [dec_low c a];simp only [other_alnum,b,tg,ul,uG,ra];exact rune_all h (s.length - (i+1)) (i+1) rfl
  ·rw [dif_neg hi]
 termination_by n=>n
 decreasing_by omega
theorem rune_some {s:List UInt8} {k:Nat} {b:UInt8} (a:s[k]?=some b) (e:alnum b=false):∀(n i:Nat),k - i=n->i<=k->0<=runeIdx other s i
 | n,i,hn,hik=>by
  have g:k < s.length:=(uc.1 a).1;have hi:i < s.length:=by omega
  rw [runeIdx.eq_def,p9 hi];by_cases ho:other ((dec s i).1:Nat)=true
  ·rw [up ho];omega
  ·rw [uu ho];have d:s[i]?=some s[i]:=ug hi;have c:s[i].toNat < 128:=by
    refine pN λhh=>ho ?_;have:=dec_hi d (by omega);unfold other;simp;omega
   rw [dec_low d c] at ho ⊢;rw [other_alnum] at ho;have f:i ≠ k:=by
    rintro rfl
    rw [d] at a;injection a with a;subst a;rw [e] at ho;exact ho rfl
   simp only [ra,uG];exact rune_some a e (k - (i+1)) (i+1) rfl (by omega)
 termination_by n=>n
 decreasing_by omega

def nameB (s:zy):Bool:=decide (1<=s.length)&&decide (s.length<=12)&&s.all alnum
def qZ (p:List zy):Bool:=decide (1<=p.length)&&decide (p.length<=3)&&p.all nameB
theorem bnd1 (n:Nat):decide ((n:Int) >= 1)=decide (1<=n):=rB.2 (by omega)
theorem bnd12 (n:Nat):decide ((n:Int)<=12)=decide (n<=12):=rB.2 (by omega)
theorem bnd3 (n:Nat):decide ((n:Int)<=3)=decide (n<=3):=rB.2 (by omega)
theorem ref04IsName_is (s:zy):vG s=some (nameB s):=by
 unfold vG nameB;rw [loopL_all alnum false]
 ·split
  ·rename_i h;simp only [tn,um] at h;congr 1;rw [eq_comm,te,te];left;rcases h with h | h
   ·exact .inl (uS (by omega))
   ·exact .inr (uS (by omega))
  ·rename_i h;simp only [tn,um] at h;have c:1<=s.length:=by omega
   have a:s.length<=12:=by omega
   cases ha:s.all alnum <;> simp [c,a]
 ·intro i x _;unfold alnum;have e:(((decide ((x.toNat:Int) >= 97))&&(decide ((x.toNat:Int)<=122)) || (decide ((x.toNat:Int) >= 65))&&(decide ((x.toNat:Int)<=90))) || (decide ((x.toNat:Int) >= 48))&&(decide ((x.toNat:Int)<=57))) =
    (decide (97<=x.toNat)&&decide (x.toNat<=122) || decide (65<=x.toNat)&&decide (x.toNat<=90) || decide (48<=x.toNat)&&decide (x.toNat<=57)):=by
   rw [uJ];simp;omega
  rw [e];generalize (decide (97<=x.toNat)&&decide (x.toNat<=122) || decide (65<=x.toNat)&&decide (x.toNat<=90) || decide (48<=x.toNat)&&decide (x.toNat<=57))=b;cases b <;> rfl
theorem rune_loop (q:Int->Bool) (s:zy) {f:Nat->Option (Out Int Nat)} (a:∀i,f i=if i < s.length then (if q (dec s i).1=true then some (.ret (i:Int)) else some (.nxt (i+(dec s i).2))) else some (.brk i)) :
  ∀(k i:Nat),s.length - i=k->lp (ye f i) (λ_=>some (-1:Int))=some (runeIdx q s i)
 | k,i,hk=>by
  rw [xr,runeIdx.eq_def,a];by_cases h:i < s.length
  ·have b:=dec_width s i h;rw [up h,p9 h];by_cases hq:q (dec s i).1=true
   ·simp [hq]
   ·have h0:¬ (dec s i).2=0:=by omega
    simp only [uu hq,uu h0];exact rune_loop q s a (s.length - (i+(dec s i).2)) _ rfl
  ·rw [uu h,dif_neg h];rfl
 termination_by k=>k
 decreasing_by omega
theorem stringsContains_other (s:zy):wa s (λx=>opIsNameC1 x)=some (!s.all alnum):=by
 have e:(λx=>opIsNameC1 x)=λx=>some (other x):=by
  funext x;unfold opIsNameC1 other;congr 1;rw [uJ];simp
 unfold wa vQ vB;rw [e,rune_loop other s (λi=>by simp) _ 0 rfl];simp only [ua];congr 1;cases h:s.all alnum with
 | true=>rw [rune_all h _ 0 rfl];rfl
 | false =>
  rw [List.all_eq_false] at h;obtain ⟨b,c,a⟩:=h;obtain ⟨k,d,rfl⟩:=List.getElem_of_mem c;have:=rune_some (ug d) (by simpa using a) _ 0 rfl (tK _);simp [this]
theorem opIsName_is (s:zy):opIsName s=some (nameB s):=by
 unfold opIsName nameB;rw [stringsContains_other,bnd1,bnd12];cases h1:decide (1<=s.length) <;> cases h2:decide (s.length<=12) <;> simp
theorem contains_is {f:zy->Option Bool} {q:zy->Bool} (p:List zy) (a:∀x ∈ p,f x=some (q x)):xi p f=some (p.any q):=by
 unfold xi wq;rw [first_loop p a];simp only [ua,firstI_any]
theorem opMayPath_is (p:List zy):opMayPath p=some (qZ p):=by
 unfold opMayPath qZ;rw [contains_is (q:=λs=>!nameB s) p (λx _=>by unfold opMayPathC1;rw [opIsName_is];rfl),bnd1,bnd3];have e:p.any (λs=>!nameB s)=!p.all nameB:=by rw [uJ];simp
 rw [e];cases h1:decide (1<=p.length) <;> cases h2:decide (p.length<=3) <;> simp
def actorB (a:GK):Bool:=decide (a.rep < 16)&&decide (a.inc >= 1)&&decide (a.inc<=4)
def wG (d:GF):Bool:=actorB d.actor&&decide (d.seq >= 1)&&decide (d.seq<=1048576)
theorem dotMay_is (d:GF):dotMay d=some (wG d):=rfl
theorem ref03MayActor_is (a:GK):qk a=some (actorB a):=by
 unfold qk actorB;have:decide (a.rep<=15)=decide (a.rep < 16):=rB.2 (by omega);rw [this]
theorem ref03May_is (d:GF):qY d=some (wG d):=by unfold qY;rw [ref03MayActor_is];rfl
def dotLt (a b:GF):Bool:=if a.actor.rep ≠ b.actor.rep then decide (a.actor.rep < b.actor.rep) else if a.actor.inc ≠ b.actor.inc then decide (a.actor.inc < b.actor.inc) else decide (a.seq < b.seq)
theorem ref03Less_is (a b:GF):vV a b=some (dotLt a b):=by
 unfold vV dotLt;by_cases h1:a.actor.rep=b.actor.rep <;> by_cases h2:a.actor.inc=b.actor.inc <;> simp [h1,h2]
def cmpI (a b:Int):Int:=if a < b then -1 else if b < a then 1 else 0
theorem cmpU8is (a b:Int):x9 a b=some (cmpI a b):=by
 unfold x9 vN cmpI;simp only [s7,ua,ul,uG,um,gt_iff_lt];split <;> (try split) <;> rfl
theorem cmpU32is (a b:Int):wY a b=some (cmpI a b):=by
 unfold wY vr cmpI;simp only [s7,ua,ul,uG,um,gt_iff_lt];split <;> (try split) <;> rfl
theorem cmpU64is (a b:Int):wm a b=some (cmpI a b):=by
 unfold wm vq cmpI;simp only [s7,ua,ul,uG,um,gt_iff_lt];split <;> (try split) <;> rfl
def or2 (a b:Int):Int:=if a ≠ 0 then a else b
theorem cmpOr2_is (a b:Int):cmpOrInt [a,b]=some (or2 a b):=by
 unfold cmpOrInt or2;by_cases h1:a=0 <;> by_cases h2:b=0 <;> simp [zq,h1,h2]
def actorCmp (a b:GK):Int:=or2 (cmpI a.rep b.rep) (cmpI a.inc b.inc)
def dotCmp (a b:GF):Int:=or2 (actorCmp a.actor b.actor) (cmpI a.seq b.seq)
theorem dotXcompare_is (a b:GK):dotXcompare a b=some (actorCmp a b):=by
 unfold dotXcompare;rw [cmpU8is,cmpU32is];simp only [ua];rw [cmpOr2_is];rfl
theorem dotCompare_is (a b:GF):vf a b=some (dotCmp a b):=by
 unfold vf;rw [dotXcompare_is,cmpU64is];simp only [ua];rw [cmpOr2_is];rfl
theorem dotCmp_lt (a b:GF):decide (dotCmp a b >= 0)=!dotLt a b:=by
 unfold dotCmp actorCmp dotLt cmpI or2
 grind

def rising:List GF->Bool
 | a::b::r=>dotLt a b&&rising (b::r)
 | _=>true
def xH (ds:List GF) (i:Nat) (x:GF):Bool:=decide (i=0) || dotLt (ds.getD (i - 1) default) x
theorem rising_loop (ds:List GF) {g:Nat->GF->Unit->Option (Out Bool Unit)}
  (f:∀i x,ds[i]?=some x->g i x ()=if (wG x&&xH ds i x)=true then some (.nxt ()) else some (.ret false)) :
  lp (zq g ds 0 ()) (λ_=>some true)=some (ds.all wG&&rising ds):=by
 have key:∀(L pre:List GF),ds=pre++L->lp (zq g L pre.length ()) (λ_=>some true)=some (L.all wG&&rising (match pre.getLast? with | some y=>y::L | none=>L)):=by
  intro L
  induction L with
  | nil=>intro pre h;cases hp:pre.getLast? <;> simp [zq,rising]
  | cons x t ih =>
   intro pre h;have d:ds[pre.length]?=some x:=by rw [h];simp
   have a:=ih (pre++[x]) (by rw [h];simp);simp only [uo,uk,uV,uZ,List.getLast?_append,p6,pF] at a;simp only [zq,f _ _ d];cases hp:pre.getLast? with
   | none =>
    have b:pre=[]:=pO.1 hp;subst b;simp only [uV,uZ] at a ⊢;cases hd:wG x <;> simp [xH,hd,a]
   | some y =>
    have c:pre ≠ []:=by rintro rfl;simp at hp
    have h0:0 < pre.length:=rd.2 c;have j:ds.getD (pre.length - 1) default=y:=by
     rw [ur,h,uj (by omega)];rw [pP] at hp;rw [hp];rfl
    have e:xH ds pre.length x=dotLt y x:=by
     unfold xH;rw [j];have:decide (pre.length=0)=false:=uS (by omega);rw [this];rfl
    rw [e];cases hd:wG x <;> cases hlt:dotLt y x <;> simp [hd,hlt,a,rising]
 have:=key ds [] rfl;simpa using this
theorem same_loop {α:Type} [DecidableEq α] (M:List α) {eq:α->α->Bool} (d:∀a b,eq a b=decide (a=b)) {f:Nat->α->Unit->Option (Out Bool Unit)} :
  ∀(L:List α) (i:Nat),L.length+i=M.length->(∀j x,L[j]?=some x->f (i+j) x ()=(yu M ((i+j:Nat):Int)).bind λy=>if (!eq x y)=true then some (.ret false) else some (.nxt ())) ->
  zq f L i ()=if L=M.drop i then some (.inr ()) else some (.inl false)
 | [],i,hl,_=>by
  rw [tI (by simp at hl;omega)];rfl
 | x::t,i,hl,h=>by
  simp only [uk] at hl;have hi:i < M.length:=by omega
  have h0:=h 0 x rfl;simp only [sA] at h0;rw [wM hi] at h0;have k:=same_loop M d (f:=f) t (i+1) (by omega) (λj y g=>by have:=h (j+1) y g;rw [show i+1+j=i+(j+1) by omega];exact this);have e:M.drop i=M[i]::M.drop (i+1):=(re hi).symm;simp only [zq,h0,ua,d,e];by_cases hx:x=M[i]
  ·simp only [hx,sZ,tg,ul,uG,k,s9,ou]
  ·have c:¬ (x::t=M[i]::M.drop (i+1)):=λhh=>hx (List.cons.inj hh).1;simp only [uS hx,sR,ut,uu c]
theorem dotEq (a b:GF):(a.actor.rep==b.actor.rep&&(a.actor.inc==b.actor.inc&&(a.seq==b.seq&&true)))=decide (a=b):=by
 rcases a with ⟨⟨f,e⟩,a3⟩;rcases b with ⟨⟨c,d⟩,g⟩
 rw [uJ];simp [sM]
theorem slicesEqualDot_is (L M:List GF):vC L M=some (decide (L=M)):=by
 unfold vC;by_cases hl:L.length=M.length
 ·have e:((L.length:Int) != (M.length:Int))=false:=by simp;omega
  rw [e,same_loop M dotEq L 0 (by omega) (λj x a=>by simp)];by_cases h:L=M <;> simp [h]
 ·have e:((L.length:Int) != (M.length:Int))=true:=by simp;omega
  rw [e,uS (λh=>hl (by rw [h]))];rfl
section
variable {α ρ:Type}
def allI (g:Nat->α->Bool) (L:List α):Bool:=L.zipIdx.all λp=>g p.2 p.1
theorem allI_iff {g:Nat->α->Bool} {L:List α}:allI g L=true ↔ ∀i x,L[i]?=some x->g i x=true:=by
 unfold allI;rw [ux];constructor
 ·intro h i x a;exact h (x,i) (tT.2 a)
 ·rintro h ⟨x,i⟩ a
  exact h i x (tT.1 a)
theorem loopL_allI (g:Nat->α->Bool) {r:ρ} {f:Nat->α->Unit->Option (Out ρ Unit)}:∀(L:List α) (k:Nat),(∀i x,L[i]?=some x->f (k+i) x ()=if g (k+i) x=true then some (.nxt ()) else some (.ret r)) ->
  zq f L k ()=if ((L.zipIdx k).all λp=>g p.2 p.1)=true then some (.inr ()) else some (.inl r)
 | [],_,_=>rfl
 | x::t,k,h=>by
  have h0:=h 0 x rfl;simp only [sA] at h0;have b:=loopL_allI g (f:=f) (r:=r) t (k+1) (λi y a=>by have:=h (i+1) y (by simpa using a);rw [show k+1+i=k+(i+1) by omega];exact this);simp only [zq,h0,pY,tc];by_cases hg:g k x=true
  ·simp only [hg,ut,b,uX]
  ·simp only [hg,ul,uG,rx]
theorem qe {σ:Type} (g:Nat->α->Bool) {r:σ} {L:List α} {f:Nat->α->Unit->Option (Out σ Unit)} {rest:Unit->Option σ} (b:∀i x,L[i]?=some x->f i x ()=if g i x=true then some (.nxt ()) else some (.ret r)) :
  lp (zq f L 0 ()) rest=if allI g L=true then rest () else some r:=by
 rw [loopL_allI g L 0 (λi x a=>by simpa using b i x a)];unfold allI;split <;> rfl
theorem lp_all0 {σ:Type} (g:α->Bool) {r:σ} {L:List α} {f:Nat->α->Unit->Option (Out σ Unit)} {rest:Unit->Option σ} (b:∀i x,L[i]?=some x->f i x ()=if g x=true then some (.nxt ()) else some (.ret r)) :
  lp (zq f L 0 ()) rest=if L.all g=true then rest () else some r:=by
 rw [qe (λ_=>g) b];have:allI (λ_=>g) L=L.all g:=by
  rw [uJ,allI_iff,ux];exact ⟨λh x a=>by obtain ⟨i,hi⟩:=tj.1 a;exact h i x hi,λh i x a=>h x (uN a)⟩
 rw [this]
end
theorem qB {j:Nat} (a:j+1<=maxLen):IntKind.wrap .i64 (((j+1:Nat):Int) - 1)=(j:Int):=by
 simp only [maxLen] at a;rw [yU (by omega)];omega
theorem wrap_add1 {j:Nat} (a:j+1<=maxLen):IntKind.wrap .i64 ((j:Int)+1)=((j+1:Nat):Int):=by
 simp only [maxLen] at a;rw [yU (by omega)];omega
theorem pos_succ (j:Nat):decide (((j+1:Nat):Int) > 0)=true:=uE (by omega)
def qT (n:Int):Bool:=decide (n >= 1)&&decide (n<=1099511627776)
def aheadI (a b:GH):Bool:=if a.time ≠ b.time then decide (a.time < b.time) else dotLt a.dot b.dot
theorem leafXisTime_is (n:Int):leafXisTime n=some (qT n):=rfl
theorem leafXisText_is (s:zy):qL s=some (decide (s.length<=40)):=by unfold qL;rw [rB.2 (show ((s.length:Int)<=40) ↔ s.length<=40 by omega)]
theorem dotCmp_neg (a b:GF):decide (dotCmp a b < 0)=dotLt a b:=by
 have h:=dotCmp_lt a b;have:decide (dotCmp a b < 0)=!decide (dotCmp a b >= 0):=by rw [uJ];simp
 rw [this,h,Bool.not_not]
theorem leafAhead_is (a:Int) (d:GF) (b:Int) (o:GF):leafAhead a d b o=some (if a ≠ b then decide (a < b) else dotLt d o):=by
 unfold leafAhead vY;rw [cmpU64is,dotCompare_is];simp only [ua,cmpOr2_is];congr 1;by_cases h:a=b
 ·subst h;have:cmpI a a=0:=by unfold cmpI;simp
  simp [or2,this,dotCmp_neg]
 ·have:cmpI a b ≠ 0:=by unfold cmpI;split <;> (try split) <;> omega
  simp only [or2,this,oA,pi,ut,h];unfold cmpI;rw [uJ];simp only [um];split <;> (try split) <;> omega
theorem ref05Ahead_is (a:Int) (d:GF) (b:Int) (o:GF):vF a d b o=some (if a ≠ b then decide (a < b) else dotLt d o):=by
 unfold vF;by_cases h:a=b <;> simp [h,ref03Less_is]
def prevI {α:Type} [Inhabited α] (L:List α) (i:Nat):α:=L.getD (i - 1) default
def vL (timed:Bool) (x:GH):Bool:=wG x.dot&&decide (x.text.length<=40)&&(if timed then qT x.time else decide (x.time=0))
def riseB (L:List GH):Bool:=allI (λi x=>decide (i=0) || aheadI (prevI L i) x) L
def onceB (L:List GH):Bool:=decide ((L.map (·.dot)).Nodup)
theorem eqb_iff (a b:GF):GF.eqb a b=decide (a=b):=by unfold GF.eqb;exact dotEq a b
def keysM (m:List (GF×Int)):List GF:=m.map (·.1)
theorem mput_keys (m:List (GF×Int)) (k:GF) (v:Int):keysM (mput GF.eqb m k v)=if k ∈ keysM m then keysM m else keysM m++[k]:=by
 induction m with
 | nil=>simp [mput,keysM]
 | cons e r ih =>
  simp only [mput,eqb_iff];by_cases h:k=e.1
  ·simp [h,keysM]
  ·simp only [uS h,ul,uG,keysM,uC,uD] at ih ⊢;rw [ih];by_cases h2:k ∈ r.map (·.1) <;> simp [h,h2]
theorem twice_fold:∀(L:List GH) (m:List (GF×Int)),(keysM m).Nodup ->
  (L.foldl (λs x=>mput GF.eqb s x.dot (IntKind.wrap .i64 ((wO GF.eqb 0 s x.dot)+1))) m).length<=m.length+L.length /\
  ((L.foldl (λs x=>mput GF.eqb s x.dot (IntKind.wrap .i64 ((wO GF.eqb 0 s x.dot)+1))) m).length=m.length+L.length ↔ (keysM m++L.map (·.dot)).Nodup)
 | [],m,h=>by simp [h]
 | x::t,m,h=>by
  simp only [sI];have c:=mput_keys m x.dot (IntKind.wrap .i64 ((wO GF.eqb 0 m x.dot)+1));generalize hm:mput GF.eqb m x.dot (IntKind.wrap .i64 ((wO GF.eqb 0 m x.dot)+1))=m' at c;have f:m'.length=(keysM m').length:=by simp [keysM]
  have n:m.length=(keysM m).length:=by simp [keysM]
  by_cases hx:x.dot ∈ keysM m
  ·rw [up hx] at c;have d:=twice_fold t m' (by rw [c];exact h);rw [c] at d f;refine ⟨by simp only [uk];omega,?_⟩;constructor
   ·intro k;simp only [uk] at k;omega
   ·intro i;rw [List.nodup_append] at i;exact absurd rfl (i.2.2 _ hx _ (by simp))
  ·rw [uu hx] at c;have g:(keysM m++[x.dot]).Nodup:=by
    rw [List.nodup_append];refine ⟨h,by simp,λa l b j=>?_⟩;simp at j;subst j;rintro rfl;exact hx l
   have d:=twice_fold t m' (by rw [c];exact g);rw [c] at d f;simp only [uo,uk,uV] at f;refine ⟨by simp only [uk];omega,?_⟩;have e:keysM m++[x.dot]++t.map (·.dot)=keysM m++(x::t).map (·.dot):=by simp
   rw [<- e,<- d.2];simp only [uk];omega
theorem leafXtwice_is (L:List GH):leafXtwice L=some (!onceB L):=by
 unfold leafXtwice;rw [loopL_fold (λs x=>mput GF.eqb s x.dot (IntKind.wrap .i64 ((wO GF.eqb 0 s x.dot)+1))) L 0 [] (λ_ _ _ _=>rfl)];have h:=twice_fold L [] (by simp [keysM]);simp only [uV,uZ,keysM,tE,u6] at h;simp only [yp,onceB];congr 1;generalize List.length (List.foldl _ _ _)=n at h ⊢;by_cases hn:(L.map (·.dot)).Nodup
 ·have:=h.2.2 hn;rw [uE hn,uS (by omega)];rfl
 ·have a:n ≠ L.length:=λe=>hn (h.2.1 e);rw [uS hn,uE (by omega)];rfl
theorem leafXitems_is {L:List GH} (f:L.length<=maxLen) (a:Bool):leafXitems L a=some (L.all (vL a)&&riseB L&&onceB L):=by
 unfold leafXitems;rw [qe (r:=false) (λi x=>vL a x&&(decide (i=0) || aheadI (prevI L i) x))]
 ·rw [leafXtwice_is];have e:allI (λi x=>vL a x&&(decide (i=0) || aheadI (prevI L i) x)) L=(L.all (vL a)&&riseB L):=by
   rw [uJ,ud,riseB,allI_iff,allI_iff,ux];constructor
   ·intro h;exact ⟨λx b=>by obtain ⟨i,hi⟩:=tj.1 b;have:=h i x hi;simp only [ud] at this;exact this.1,λi x b=>by have:=h i x b;simp only [ud] at this;exact this.2⟩
   ·rintro ⟨m,d⟩ i x b
    simp only [ud];exact ⟨m x (uN b),d i x b⟩
  rw [e];simp only [ua,Bool.not_not];cases L.all (vL a)&&riseB L <;> simp
 ·intro i x b;have hi:i < L.length:=(uc.1 b).1;simp only [dotMay_is,leafXisText_is,leafXisTime_is,ua,leafAhead_is];have k:vL a x=(wG x.dot&&decide (x.text.length<=40)&&(a==qT x.time)&&(a || decide (x.time=0))):=by
   unfold vL;cases a
   ·by_cases h0:x.time=0
    ·simp [h0,show qT 0=false from rfl]
    ·simp [h0]
   ·simp
  rw [k];cases hd:wG x.dot
  ·simp
  cases ht:decide (x.text.length<=40)
  ·simp
  by_cases htt:a=qT x.time
  ·have l:(x.time != 0)=!decide (x.time=0):=by rw [uJ];simp
   have c:(a==qT x.time)=true:=by simpa using htt
   rw [l,c];cases hzz:(a || decide (x.time=0))
   ·have:(!a&&!decide (x.time=0))=true:=by rw [<- Bool.not_or,hzz];rfl
    simp [this]
   have:(!a&&!decide (x.time=0))=false:=by rw [<- Bool.not_or,hzz];rfl
   rw [this];rcases i with _ | j
   ·simp [yf,htt]
   ·rw [qB (by simp only [maxLen] at f ⊢;omega),pos_succ];have g:(j:Int) < (L.length:Int):=by omega
    simp [yf,g,prevI,aheadI,htt];by_cases hq:(L[j]?.getD default).time=x.time
    ·cases hdl:dotLt (L[j]?.getD default).dot x.dot <;> simp [hq,hdl]
    ·by_cases hlt:(L[j]?.getD default).time < x.time
     ·simp [hq,hlt,Int.not_le.2 hlt]
     ·simp [hq,hlt,Int.not_lt.1 hlt]
  ·have c:(a==qT x.time)=false:=by simpa using htt
   rw [c];simp [htt]

theorem itemEq (a b:GH):(a.time==b.time&&(a.dot.actor.rep==b.dot.actor.rep&&(a.dot.actor.inc==b.dot.actor.inc&&(a.dot.seq==b.dot.seq&&(a.text==b.text&&true)))))=decide (a=b):=by
 rcases a with ⟨a0,⟨⟨f,e⟩,a3⟩,a4⟩;rcases b with ⟨b0,⟨⟨c,d⟩,g⟩,h⟩
 rw [uJ];simp [sM]
theorem slicesEqualItem_is (L M:List GH):vk L M=some (decide (L=M)):=by
 unfold vk;by_cases hl:L.length=M.length
 ·have e:((L.length:Int) != (M.length:Int))=false:=by simp;omega
  rw [e,same_loop M itemEq L 0 (by omega) (λj x a=>by simp)];by_cases h:L=M <;> simp [h]
 ·have e:((L.length:Int) != (M.length:Int))=true:=by simp;omega
  rw [e,uS (λh=>hl (by rw [h]))];rfl
theorem leafSame_is (a b:GC):leafSame a b=some (decide (a=b)):=by
 unfold leafSame;simp only [slicesEqualItem_is,slicesEqualDot_is,dotEq];rcases a with ⟨a0,g,f,a3,a4,a5,k⟩;rcases b with ⟨b0,d,e,i,j,h,c⟩
 simp only [GC.mk.injEq];by_cases h0:a0=b0 <;> by_cases h1:g=d <;> by_cases h2:f=e <;> by_cases h3:a3=i <;> by_cases h4:a4=j <;> by_cases h5:a5=h <;> by_cases h6:k=c <;> simp [h0,h1,h2,h3,h4,h5,h6]
def dot0:GF:=⟨⟨0,0⟩,0⟩
def zeroB (l:GC):Bool:=decide (l.time=0)&&decide (l.dot=dot0)&&decide (l.text=[])
def tombsB (l:GC):Bool:=l.tombs.all wG&&rising l.tombs&&l.tombs.all (λd=>!l.items.any λx=>decide (x.dot=d))
def leafB (l:GC):Bool :=
 if l.typ=1 then zeroB l&&decide (l.items=[])&&decide (l.tombs=[])
 else if l.typ=2 then decide (l.n=0)&&decide (l.items=[])&&decide (l.tombs=[])&&(if l.time=0 then decide (l.dot=dot0)&&decide (l.text=[]) else qT l.time&&wG l.dot&&decide (l.text.length<=40))
 else if l.typ=3 then decide (l.n=0)&&zeroB l&&(l.items.all (vL false)&&riseB l.items&&onceB l.items)&&tombsB l
 else if l.typ=4 then decide (l.n=0)&&zeroB l&&decide (l.tombs=[])&&(l.items.all (vL true)&&riseB l.items&&onceB l.items)
 else false
theorem containsItem_is {f:GH->Option Bool} {q:GH->Bool} (p:List GH) (a:∀x ∈ p,f x=some (q x)):xy p f=some (p.any q):=by
 unfold xy yJ;rw [first_loop p a,ua,firstI_any]
theorem leafXhas_is (L:List GH) (d:GF):leafXhas L d=some (L.any λx=>decide (x.dot=d)):=by
 unfold leafXhas;rw [containsItem_is (q:=λx=>decide (x.dot=d)) L (λx _=>by unfold leafXhasC1;rw [dotEq]),ua]
theorem rising_allI (ds:List GF):rising ds=allI (λi x=>xH ds i x) ds:=by
 have h:=rising_loop ds (g:=λi x _=>if (wG x&&xH ds i x)=true then some (.nxt ()) else some (.ret false)) (λ_ _ _=>rfl);have key:∀(L pre:List GF),ds=pre++L->rising (match pre.getLast? with | some y=>y::L | none=>L)=(L.zipIdx pre.length).all λp=>xH ds p.2 p.1:=by
  intro L
  induction L with
  | nil=>intro pre _;cases pre.getLast? <;> simp [rising]
  | cons x t ih =>
   intro pre hd;have a:=ih (pre++[x]) (by rw [hd];simp);simp only [uo,uk,uV,uZ,List.getLast?_append,p6,pF] at a;simp only [pY,tc];cases hp:pre.getLast? with
   | none =>
    have b:pre=[]:=pO.1 hp;subst b;simp only [uV,uZ] at a ⊢;rw [a];simp [xH]
   | some y =>
    have c:pre ≠ []:=by rintro rfl;simp at hp
    have h0:0 < pre.length:=rd.2 c;have e:ds.getD (pre.length - 1) default=y:=by
     rw [ur,hd,uj (by omega)];rw [pP] at hp;rw [hp];rfl
    have d:xH ds pre.length x=dotLt y x:=by
     unfold xH;rw [e,uS (by omega)];rfl
    rw [d,<- a];simp [rising]
 simpa [allI] using key ds [] rfl
theorem leafXtombs_is {l:GC} (f:l.tombs.length<=maxLen):leafXtombs l=some (tombsB l):=by
 unfold leafXtombs;rw [qe (r:=false) (λi x=>wG x&&xH l.tombs i x&&!(l.items.any λy=>decide (y.dot=x)))]
 ·have e:allI (λi x=>wG x&&xH l.tombs i x&&!(l.items.any λy=>decide (y.dot=x))) l.tombs=tombsB l:=by
   unfold tombsB;rw [uJ,rising_allI,ud,ud,allI_iff,allI_iff,ux,ux];constructor
   ·intro h;refine ⟨⟨λx a=>?_,λi x a=>?_⟩,λx a=>?_⟩
    ·obtain ⟨i,hi⟩:=tj.1 a;have:=h i x hi;simp only [ud] at this;exact this.1.1
    ·have:=h i x a;simp only [ud] at this;exact this.1.2
    ·obtain ⟨i,hi⟩:=tj.1 a;have:=h i x hi;simp only [ud] at this;exact this.2
   ·rintro ⟨⟨k,c⟩,g⟩ i x a
    have b:=uN a;simp only [ud];exact ⟨⟨k x b,c i x a⟩,g x b⟩
  rw [e];cases tombsB l <;> rfl
 ·intro i x a;have hi:i < l.tombs.length:=(uc.1 a).1;simp only [dotMay_is,ua,dotCompare_is,leafXhas_is];cases hd:wG x
  ·simp [yf]
  rcases i with _ | j
  ·cases hh:(l.items.any λy=>decide (y.dot=x)) <;> simp [yf,xH]
  ·rw [qB (by simp only [maxLen] at f ⊢;omega),pos_succ];have m:(j:Int) < (l.tombs.length:Int):=by omega
   have d:xH l.tombs (j+1) x=dotLt (l.tombs.getD j default) x:=by unfold xH;simp
   have e:=dotCmp_lt (l.tombs.getD j default) x;rw [zj (by intro _;omega),d,uB];generalize l.tombs.getD j default=y at e ⊢;simp only [tg,oB,uX,ut,ua,e,tr];cases hlt:dotLt y x
   ·simp
   ·cases hh:(l.items.any λy=>decide (y.dot=x)) <;> simp
theorem leafMay_is {l:GC} (hi:l.items.length<=maxLen) (f:l.tombs.length<=maxLen):leafMay l=some (leafB l):=by
 unfold leafMay leafB;simp only [leafSame_is,leafXisTime_is,dotMay_is,leafXisText_is,leafXitems_is hi,leafXtombs_is f,dotEq,ua];rcases l with ⟨t,n,b,d,c,a,e⟩
 simp only [GC.mk.injEq,zeroB,sx,dot0];by_cases h1:t=1
 ·simp only [h1,ut];congr 1;rw [uJ];simp [sM];intros;exact pI.symm
 by_cases h2:t=2
 ·subst h2;by_cases h0:b=0
  ·subst h0;by_cases hd:d=⟨⟨0,0⟩,0⟩
   ·by_cases hx:c=[]
    ·simp [hd,hx];rw [uJ];simp [sM]
    ·simp [hd,hx]
   ·have i:((0:Int)==0&&!decide (d=⟨⟨0,0⟩,0⟩))=true:=by simp [hd]
    simp [hd];intro h;rcases d with ⟨⟨k,g⟩,j⟩
    simp_all
  ·cases htt:qT b <;> cases hdd:wG d <;> cases hxx:decide (c.length<=40) <;> simp_all [sM];rw [uJ];simp [sM]
 by_cases h3:t=3
 ·subst h3;cases ha:(a.all (vL false)&&riseB a&&onceB a) <;> cases hb:tombsB ⟨3,n,b,d,c,a,e⟩ <;> simp [sM];rw [uJ];simp [sM];intros;exact pI.symm
 by_cases h4:t=4
 ·subst h4;cases ha:(a.all (vL true)&&riseB a&&onceB a) <;> simp [sM];rw [uJ];simp [sM];intros;exact pI.symm
 simp [h1,h2,h3,h4]

theorem ref05Item_is (L:List GH) (d:GF):ref05Item L d=some (firstI (λx=>decide (x.dot=d)) L):=by
 unfold ref05Item;rw [loopL_first (λx:GH=>decide (x.dot=d)) (λi _=>(i:Int)) _ _ (λi x _=>by rw [dotEq])];unfold firstI;cases h:L.findIdx? (λx=>decide (x.dot=d)) with
 | none=>simp
 | some j =>
  obtain ⟨a,_⟩:=sN.1 h;simp [ug a]
theorem vS (L:List GF) (d:GF):vT L d=some (L.any λx=>decide (x=d)):=by
 unfold vT;rw [lp_all0 (r:=true) (λx:GF=>!decide (x=d)) (λi x _=>by rw [dotEq];cases decide (x=d) <;> rfl)];have e:L.any (λx=>decide (x=d))=!L.all (λx=>!decide (x=d)):=by rw [uJ];simp
 rw [e];cases L.all (λx=>!decide (x=d)) <;> rfl
theorem first_nodup (L:List GH):(∀(i:Nat) (x:GH),L[i]?=some x->firstI (λy:GH=>decide (y.dot=x.dot)) L=(i:Int)) ↔ (L.map (·.dot)).Nodup:=by
 constructor
 ·intro h;rw [pJ,tC];intro i j hi a g e;simp only [uz] at hi a;simp only [List.getElem_map] at e;have c:=h i _ (ug hi);have f:=h j _ (ug a);rw [e] at c;rw [c] at f;omega
 ·intro h i x d;obtain ⟨hi,rfl⟩:=uc.1 d;unfold firstI;have:L.findIdx? (λy=>decide (y.dot=L[i].dot))=some i:=by
   rw [sN];refine ⟨hi,by simp,λj a=>?_⟩;have b:j < L.length:=by omega
   simp only [um];intro e;rw [pJ,tC] at h;exact h j i (by simpa using b) (by simpa using hi) a (by simpa using e)
  rw [this]
def itemR (t:Int) (x:GH):Bool:=wG x.dot&&decide (x.text.length<=40)&&(decide (t ≠ 3) || decide (x.time=0))&&(decide (t ≠ 4) || qT x.time)
def tailB (l:GC):Bool:=l.items.all (itemR l.typ)&&onceB l.items&&l.items.all (λx=>!(l.tombs.any λy=>decide (y=x.dot)))&&riseB l.items&&(l.tombs.all wG&&rising l.tombs)
theorem items_allI (l:GC):allI (λi x=>itemR l.typ x&&(decide (firstI (λy:GH=>decide (y.dot=x.dot)) l.items=(i:Int))&&(!(l.tombs.any λy=>decide (y=x.dot))&&(decide (i=0) || aheadI (prevI l.items i) x)))) l.items =
  (l.items.all (itemR l.typ)&&onceB l.items&&l.items.all (λx=>!(l.tombs.any λy=>decide (y=x.dot)))&&riseB l.items):=by
 rw [uJ,allI_iff];simp only [ud,um,onceB,riseB,allI_iff,ux,<- first_nodup];constructor
 ·intro h;refine ⟨⟨⟨λx a=>?_,λi x a=>(h i x a).2.1⟩,λx a=>?_⟩,λi x a=>(h i x a).2.2.2⟩
  ·obtain ⟨i,hi⟩:=tj.1 a;exact (h i x hi).1
  ·obtain ⟨i,hi⟩:=tj.1 a;exact (h i x hi).2.2.1
 ·rintro ⟨⟨⟨f,c⟩,d⟩,e⟩ i x a
  have b:=uN a;exact ⟨f x b,c i x a,d x b,e i x a⟩
theorem tombs_allI (ds:List GF):allI (λi x=>wG x&&xH ds i x) ds=(ds.all wG&&rising ds):=by
 rw [uJ,allI_iff,rising_allI];simp only [ud,allI_iff,ux];constructor
 ·intro h;exact ⟨λx a=>by obtain ⟨i,hi⟩:=tj.1 a;exact (h i x hi).1,λi x a=>(h i x a).2⟩
 ·rintro ⟨c,b⟩ i x a
  exact ⟨c x (uN a),b i x a⟩
theorem ref05May_is {l:GC} (hi:l.items.length<=maxLen) (v:l.tombs.length<=maxLen) (h0:0<=l.time):ref05May l=some (leafB l):=by
 unfold ref05May;simp only [ref03May_is,ref05Item_is,vS,ref05Ahead_is,ref03Less_is,ua,dotEq];generalize hT:lp (zq _ l.items 0 ()) _=T;have A:decide ((l.items.length:Int) > 0)=!decide (l.items=[]):=by cases l.items <;> simp
 have z:decide ((l.tombs.length:Int) > 0)=!decide (l.tombs=[]):=by cases l.tombs <;> simp
 have m:T=some (tailB l):=by
  rw [<- hT,qe (r:=false) (λi x=>itemR l.typ x&&(decide (firstI (λy:GH=>decide (y.dot=x.dot)) l.items=(i:Int))&&(!(l.tombs.any λy=>decide (y=x.dot))&&(decide (i=0) || aheadI (prevI l.items i) x))))]
  ·rw [qe (r:=false) (λi x=>wG x&&xH l.tombs i x)]
   ·rw [items_allI,tombs_allI];unfold tailB;cases (l.items.all (itemR l.typ)&&onceB l.items&&l.items.all (λx=>!(l.tombs.any λy=>decide (y=x.dot)))&&riseB l.items) <;> cases (l.tombs.all wG&&rising l.tombs) <;> simp
   ·intro i x b;have k:i < l.tombs.length:=(uc.1 b).1;have p:l.tombs.getD i default=x:=by rw [ur,b];rfl
    rcases i with _ | j
    ·cases hd:wG x <;> simp [yf,xH]
    ·rw [qB (by simp only [maxLen] at v ⊢;omega),pos_succ,uB,uB,p];have o:xH l.tombs (j+1) x=dotLt (l.tombs.getD j default) x:=by unfold xH;simp
     rw [zj (by intro _;omega),zj (by intro _;omega),o];generalize l.tombs.getD j default=y;cases hd:wG x <;> cases f:dotLt y x <;> simp
  ·intro i x b;have k:i < l.items.length:=(uc.1 b).1;have E:decide ((x.text.length:Int) > 40)=!decide (x.text.length<=40):=by rw [uJ];simp;omega
   have w:(((l.typ==4)&&(decide (x.time < 1) || decide (x.time > 1099511627776))))=!(decide (l.typ ≠ 4) || qT x.time):=by
    rw [uJ];simp [qT]
   have C:((l.typ==3)&&(x.time != 0))=!(decide (l.typ ≠ 3) || decide (x.time=0)):=by rw [uJ];simp
   rw [E,w,C];have G:(((!wG x.dot || !decide (x.text.length<=40)) || !(decide (l.typ ≠ 3) || decide (x.time=0))) || !(decide (l.typ ≠ 4) || qT x.time))=!itemR l.typ x:=by unfold itemR;simp only [Bool.not_and]
   rw [G];have D:(firstI (λy:GH=>decide (y.dot=x.dot)) l.items != (i:Int))=!decide (firstI (λy:GH=>decide (y.dot=x.dot)) l.items=(i:Int)):=by rw [uJ];simp
   cases hr:itemR l.typ x
   ·simp
   simp only [tg,oB,ut,ua,tr];rw [D];cases hf:decide (firstI (λy:GH=>decide (y.dot=x.dot)) l.items=(i:Int))
   ·simp
   cases htb:l.tombs.any λy=>decide (y=x.dot)
   ·rcases i with _ | j
    ·simp [yf]
    ·rw [qB (by simp only [maxLen] at hi ⊢;omega),pos_succ,uB];rw [zj (by intro _;omega),zj (by intro _;omega)];have o:(if (l.items.getD j default).time ≠ x.time then decide ((l.items.getD j default).time < x.time) else dotLt (l.items.getD j default).dot x.dot)=aheadI (prevI l.items (j+1)) x:=rfl;rw [o];cases aheadI (prevI l.items (j+1)) x <;> simp
   ·simp
 subst m;clear hT;rw [A,z];have u:(l.time != 0)=!decide (l.time=0):=by rw [uJ];simp
 have t:(l.time==0)=decide (l.time=0):=by rw [uJ];simp
 have z3:(l.text==([]:zy))=decide (l.text=[]):=by rw [uJ];simp
 have z4:decide (l.time > 1099511627776)=!decide (l.time<=1099511627776):=by rw [uJ];simp
 have z5:decide ((l.text.length:Int) > 40)=!decide (l.text.length<=40):=by rw [uJ];simp;omega
 have s:zeroB l=(decide (l.time=0)&&decide (l.dot=dot0)&&decide (l.text=[])):=rfl;have B:(l.dot.actor.rep==0&&(l.dot.actor.inc==0&&(l.dot.seq==0&&true)))=decide (l.dot=dot0):=dotEq l.dot dot0;rw [u,t,z3,z4,z5,B];by_cases h1:l.typ=1
 ·have hi:decide (l.items=[])=true->tailB l=(l.tombs.all wG&&rising l.tombs):=by
   intro h;have:=tm h;unfold tailB;rw [this];simp [onceB,riseB,allI]
  unfold leafB;simp only [h1,ut,s];cases hi2:decide (l.items=[])
  ·simp
  ·rw [hi hi2];cases ht2:decide (l.tombs=[])
   ·simp
   ·have:=tm ht2;rw [this];cases decide (l.time=0) <;> cases decide (l.dot=dot0) <;> cases decide (l.text=[]) <;> simp [rising]
 by_cases h2:l.typ=2
 ·have hi:decide (l.items=[])=true->tailB l=(l.tombs.all wG&&rising l.tombs):=by
   intro h;have:=tm h;unfold tailB;rw [this];simp [onceB,riseB,allI]
  unfold leafB;have c:qT l.time=(!decide (l.time=0)&&decide (l.time<=1099511627776)):=by
   unfold qT;rw [uJ];simp;omega
  simp only [h2,ut,c];cases hn:decide (l.n=0)
  ·have:(l.n != 0)=true:=by simpa using hn
   simp [this]
  ·have a:l.n=0:=tm hn;cases hi2:decide (l.items=[])
   ·simp [a]
   ·rw [hi hi2];cases ht2:decide (l.tombs=[])
    ·simp [a]
    ·have:=tm ht2;rw [this];by_cases ht0:l.time=0
     ·cases hdd:decide (l.dot=dot0) <;> cases htx:decide (l.text=[]) <;> simp [a,ht0,rising]
     ·cases hm:decide (l.time<=1099511627776) <;> cases hdd:wG l.dot <;> cases htx:decide (l.text.length<=40) <;> simp [a,ht0,rising]
 by_cases h3:l.typ=3
 ·have g:(λx=>itemR 3 x)=vL false:=by
   funext x;unfold itemR vL;simp
  have q:tailB l=(l.items.all (vL false)&&riseB l.items&&onceB l.items&&tombsB l):=by
   unfold tailB tombsB;rw [h3,show itemR 3=vL false from g];have F:l.items.all (λx=>!(l.tombs.any λy=>decide (y=x.dot)))=l.tombs.all (λd=>!l.items.any λx=>decide (x.dot=d)):=by
    rw [uJ];simp only [ux,tv,sm,um];exact ⟨λh d hd x b e=>h x b d hd e.symm,λh x b d hd e=>h d hd x b e.symm⟩
   rw [F];cases l.items.all (vL false) <;> cases onceB l.items <;> cases riseB l.items <;> cases l.tombs.all wG <;> cases rising l.tombs <;> cases l.tombs.all (λd=>!l.items.any λx=>decide (x.dot=d)) <;> rfl
  unfold leafB;simp only [h3,q,s];cases hn:decide (l.n=0)
  ·have:(l.n != 0)=true:=by simpa using hn
   simp [this]
  ·have a:l.n=0:=tm hn;cases decide (l.time=0) <;> cases decide (l.dot=dot0) <;> cases decide (l.text=[]) <;> simp [a]
 by_cases h4:l.typ=4
 ·have g:(λx=>itemR 4 x)=vL true:=by
   funext x;unfold itemR vL;simp
  have q:decide (l.tombs=[])=true->tailB l=(l.items.all (vL true)&&riseB l.items&&onceB l.items):=by
   intro h;have:=tm h;unfold tailB;rw [h4,show itemR 4=vL true from g,this];cases l.items.all (vL true) <;> cases onceB l.items <;> cases riseB l.items <;> simp [rising]
  unfold leafB;simp only [h4,s];cases hn:decide (l.n=0)
  ·have:(l.n != 0)=true:=by simpa using hn
   simp [this]
  ·have a:l.n=0:=tm hn;cases ht2:decide (l.tombs=[])
   ·simp [a]
   ·rw [q ht2];cases decide (l.time=0) <;> cases decide (l.dot=dot0) <;> cases decide (l.text=[]) <;> simp [a]
 have f:l.typ < 1 \/ 4 < l.typ:=by omega
 have:(decide (l.typ < 1) || decide (l.typ > 4))=true:=by simp;omega
 unfold leafB;rw [this,uu h1,uu h2,uu h3,uu h4];simp

mutual
def GA.dep:GA->Nat
 | ⟨_,_,sb⟩=>GA.deps sb+1
def GA.deps:List GA->Nat
 | []=>0
 | x::r=>max x.dep (GA.deps r)
end
theorem qa {x:GA}:∀{t:List GA},x ∈ t->x.dep<=GA.deps t
 | [],h=>by cases h
 | y::r,h=>by
  simp only [GA.deps];rcases uD.1 h with rfl | h
  ·omega
  ·have:=qa h;omega
theorem xT (x:GA):GA.deps x.subs+1=x.dep:=by cases x;simp [GA.dep]
def Small (t:List GA):Prop:=GA.wfs t/\GA.bks t<=16777216
theorem bk_pos (x:GA):1<=x.bk:=by cases x;simp only [GA.bk];omega
theorem len_bks:∀t:List GA,t.length<=GA.bks t
 | []=>by simp [GA.bks]
 | x::r=>by have:=len_bks r;have:=bk_pos x;simp only [GA.bks,uk];omega
theorem bk_mem {x:GA}:∀{t:List GA},x ∈ t->x.bk<=GA.bks t
 | [],h=>by cases h
 | y::r,h=>by
  simp only [GA.bks];rcases uD.1 h with rfl | h
  ·omega
  ·have:=bk_mem h;omega
theorem sum_len {α:Type} {f:α->Nat} (h:∀x,1<=f x):∀l:List α,l.length<=(l.map f).sum
 | []=>by simp
 | x::r=>by have:=sum_len h r;have:=h x;simp only [uk,uC,tZ];omega
theorem sum_mem {α:Type} {f:α->Nat} {x:α}:∀{l:List α},x ∈ l->f x<=(l.map f).sum
 | [],h=>by cases h
 | y::r,h=>by
  simp only [uC,tZ];rcases uD.1 h with rfl | h
  ·omega
  ·have:=sum_mem (f:=f) h;omega
theorem bk_node (x:GA):x.name.length+1+((x.leaves.map GC.bk).sum+1)+(GA.bks x.subs+1)<=x.bk:=by cases x;simp only [GA.bk];omega
theorem Small.subs {t:List GA} (h:Small t) {x:GA} (a:x ∈ t):Small x.subs:=by
 refine ⟨?_,by have:=bk_mem a;have:=bk_node x;have:=h.2;omega⟩;have:=(GA.wfs_iff t).1 h.1 x a;cases x;simp only [GA.wf] at this;exact this.2.2
theorem Small.len {t:List GA} (h:Small t):t.length<=16777216:=uU (len_bks t) h.2
structure LeafOk (l:GC):Prop where
 items:l.items.length<=16777216
 tombs:l.tombs.length<=16777216
 time:0<=l.time
theorem Small.leaf {t:List GA} (h:Small t) {x:GA} (a:x ∈ t) {l:GC} (b:l ∈ x.leaves):LeafOk l:=by
 have k:=bk_mem a;have c:=bk_node x;have g:=h.2;have i:l.bk<=_:=sum_mem (f:=GC.bk) b;have d:(l.items.map GH.bk).sum+1+((l.tombs.map GF.bk).sum+1)<=l.bk:=by unfold GC.bk;omega
 have j:=sum_len (f:=GH.bk) (λx=>by unfold GH.bk;omega) l.items;have e:=sum_len (f:=GF.bk) (λx=>by unfold GF.bk;omega) l.tombs;refine ⟨by omega,by omega,?_⟩;have:=(GA.wfs_iff t).1 h.1 x a;cases x;simp only [GA.wf] at this;have:=this.2.1.2 l b;unfold GC.wf at this;have:=this.2.2.1;unfold InK at this;simp [IntKind.min,IntKind.max,IntKind.signed,IntKind.bits] at this;omega
theorem Small.leaves {t:List GA} (h:Small t) {x:GA} (a:x ∈ t):x.leaves.length<=16777216:=by
 have e:=bk_mem a;have b:=bk_node x;have c:=h.2;have d:=sum_len (f:=GC.bk) (λx=>by unfold GC.bk;omega) x.leaves;omega
def upB (t:List GA):Bool:=allI (λi x=>decide (i=0) || Op.bytesLess (t.getD (i - 1) default).name x.name) t
def leavesB (ls:List GC):Bool:=allI (λi l=>leafB l&&(decide (i=0) || decide ((ls.getD (i - 1) default).typ < l.typ))) ls
mutual
def nodeB (d:Nat):GA->Bool
 | ⟨nm,ls,sb⟩=>nameB nm&&!(ls.isEmpty&&sb.isEmpty)&&((sb.isEmpty || decide (d+1 < 3))&&upB sb&&vI (d+1) sb)&&leavesB ls
def vI (d:Nat):List GA->Bool
 | []=>true
 | x::r=>nodeB d x&&vI d r
end
def treeB (d:Nat) (t:List GA):Bool:=(t.isEmpty || decide (d < 3))&&upB t&&vI d t
theorem xl (d:Nat):∀t,vI d t=t.all (nodeB d)
 | []=>rfl
 | x::r=>by simp only [vI,tc,xl d r]
theorem nodeB_eq (d:Nat) (x:GA):nodeB d x=(nameB x.name&&!(x.leaves.isEmpty&&x.subs.isEmpty)&&treeB (d+1) x.subs&&leavesB x.leaves):=by cases x;rfl
theorem up_nodes (d:Nat) (t:List GA):allI (λi x=>nodeB d x&&(decide (i=0) || Op.bytesLess (t.getD (i - 1) default).name x.name)) t=(upB t&&vI d t):=by
 rw [uJ,allI_iff,xl];simp only [ud,upB,allI_iff,ux];constructor
 ·intro h;exact ⟨λi x a=>(h i x a).2,λx a=>by obtain ⟨i,hi⟩:=tj.1 a;exact (h i x hi).1⟩
 ·rintro ⟨c,b⟩ i x a
  exact ⟨b x (uN a),c i x a⟩
theorem lenE {α:Type} (l:List α):((l.length:Int)==0)=l.isEmpty:=by cases l <;> simp;omega
theorem treeXmayN_is:∀(n:Nat) (t:List GA) (d:Nat),GA.deps t < n->d<=3->Small t->qC n t (d:Int)=some (treeB d t)
 | 0,_,_,h,_,_=>by omega
 | n+1,t,d,h,hd,hs=>by
  unfold qC;by_cases hc:(decide ((t.length:Int) > 0)&&((d:Int)==3))=true
  ·rw [up hc];simp only [ud,um,sx] at hc;have:t.isEmpty=false:=by cases t <;> simp at hc ⊢
   have f:decide (d < 3)=false:=uS (by omega);simp [treeB,this,f]
  ·rw [uu hc];have k:(t.isEmpty || decide (d < 3))=true:=by
    simp only [ud,um,sx] at hc;cases t with
    | nil=>rfl
    | cons x r=>simp at hc ⊢;omega
   have E:=hs.len;rw [qe (r:=false) (λi x=>nodeB d x&&(decide (i=0) || Op.bytesLess (t.getD (i - 1) default).name x.name)),up_nodes]
   ·unfold treeB;rw [k,uX];cases upB t&&vI d t <;> rfl
   ·intro i x p;have hi:i < t.length:=(uc.1 p).1;have a:=uN p;have A:=qa a;have B:=xT x;have s:0 < t.length:=by omega
    have f:d < 3:=by
     simp only [ud,um,sx] at hc;omega
    have z:IntKind.wrap .i64 ((d:Int)+1)=((d+1:Nat):Int):=by rw [yU (by omega)];omega
    have u:=treeXmayN_is n x.subs (d+1) (by omega) (by omega) (hs.subs a);have v:=hs.leaves a;have w:=(hs.subs a).len;have o:IntKind.wrap .i64 ((x.leaves.length:Int)+(x.subs.length:Int))=((x.leaves.length+x.subs.length:Nat):Int):=by rw [yU (by omega)];omega
    have C:((((x.leaves.length+x.subs.length:Nat):Int))==0)=(x.leaves.isEmpty&&x.subs.isEmpty):=by
     cases h1:x.leaves <;> cases h2:x.subs <;> simp <;> omega
    rw [opIsName_is,z,u,o,C,nodeB_eq];have m:lp (zq (λ(n2:Nat) (q:GC) (s2:Unit)=>(((leafMay q).bind λb=>(yf ((((!b)==false)&&((decide ((n2:Int) > (0:Int)))==true))=true->0<=(IntKind.wrap .i64 ((n2:Int) - (1:Int)))/\(IntKind.wrap .i64 ((n2:Int) - (1:Int))) < ((x.leaves).length:Int)) ((if ((!b) || ((decide ((n2:Int) > (0:Int)))&&(decide (((x.leaves).getD (IntKind.wrap .i64 ((n2:Int) - (1:Int))).toNat default).typ >= q.typ))))=true then some (.ret (.ret false)) else some (.nxt ()))))):Option (Out (Out Bool Unit) Unit))) x.leaves 0 ()) (λ(s2:Unit)=>some (.nxt ()))=if leavesB x.leaves=true then some (.nxt ()) else some (.ret false):=by
     rw [qe (r:=.ret false) (λi l=>leafB l&&(decide (i=0) || decide ((x.leaves.getD (i - 1) default).typ < l.typ)))]
     ·rfl
     ·intro j l g;have D:j < x.leaves.length:=(uc.1 g).1;have c:=hs.leaf a (uN g);rw [leafMay_is (by have:=c.items;simp only [maxLen];omega) (by have:=c.tombs;simp only [maxLen];omega)];simp only [ua];rcases j with _ | j
      ·cases leafB l <;> simp [yf]
      ·rw [qB (by simp only [maxLen];omega),pos_succ,uB,zj (by intro _;omega)];have e:decide ((x.leaves.getD j default).typ >= l.typ)=!decide ((x.leaves.getD j default).typ < l.typ):=by rw [uJ];simp
       rw [e,t6];generalize (x.leaves.getD j default)=y;cases leafB l <;> cases decide (y.typ < l.typ) <;> simp
    rw [m];simp only [ua];rcases i with _ | j
    ·cases nameB x.name <;> cases (x.leaves.isEmpty&&x.subs.isEmpty) <;> cases treeB (d+1) x.subs <;> cases leavesB x.leaves <;> simp [yf]
    ·rw [qB (by simp only [maxLen];omega),pos_succ,uB,zj (by intro _;omega),t6];generalize (t.getD j default)=y;cases nameB x.name <;> cases (x.leaves.isEmpty&&x.subs.isEmpty) <;> cases treeB (d+1) x.subs <;> cases leavesB x.leaves <;> cases Op.bytesLess y.name x.name <;> simp
theorem qu {t:List GA} (h:Small t):treeMay t=some (treeB 0 t):=by
 unfold treeMay treeXmay;have:=qc (g:=λn=>qC n t 0) (r:=treeB 0 t) (GA.deps t+1) (λn a=>by have:=treeXmayN_is n t 0 (by omega) (by omega) h;simpa using this);rw [this];rfl
theorem ref07XmayN_is:∀(n:Nat) (t:List GA) (d:Nat),GA.deps t < n->d<=3->Small t->vE n t (d:Int)=some (treeB d t)
 | 0,_,_,h,_,_=>by omega
 | n+1,t,d,h,hd,hs=>by
  unfold vE;have z:=hs.len;rw [qe (r:=false) (λi x=>decide (d < 3)&&(nodeB d x&&(decide (i=0) || Op.bytesLess (t.getD (i - 1) default).name x.name)))]
  ·have e:allI (λi x=>decide (d < 3)&&(nodeB d x&&(decide (i=0) || Op.bytesLess (t.getD (i - 1) default).name x.name))) t=treeB d t:=by
    unfold treeB;rw [Bool.and_assoc,<- up_nodes];cases hd3:decide (d < 3)
    ·cases t with
     | nil=>rfl
     | cons x r=>simp [allI]
    ·simp
   rw [e];cases treeB d t <;> rfl
  ·intro i x m;have hi:i < t.length:=(uc.1 m).1;have c:=uN m;have u:=qa c;have v:=xT x;have k:decide ((d:Int) >= 3)=!decide (d < 3):=by rw [uJ];simp;omega
   rw [k];by_cases hd3:d < 3
   ·have s:IntKind.wrap .i64 ((d:Int)+1)=((d+1:Nat):Int):=by rw [yU (by omega)];omega
    have o:=ref07XmayN_is n x.subs (d+1) (by omega) (by omega) (hs.subs c);have p:=hs.leaves c;rw [ref04IsName_is,s,o,nodeB_eq,lenE,lenE];have f:lp (zq (λ(n2:Nat) (q:GC) (s2:Unit)=>(((ref05May q).bind λv50=>(yf ((((!v50)==false)&&((decide ((n2:Int) > (0:Int)))==true))=true->0<=(IntKind.wrap .i64 ((n2:Int) - (1:Int)))/\(IntKind.wrap .i64 ((n2:Int) - (1:Int))) < ((x.leaves).length:Int)) ((yf ((((!v50)==false)&&((decide ((n2:Int) > (0:Int)))==true))=true->0<=(n2:Int)/\(n2:Int) < ((x.leaves).length:Int)) ((if ((!v50) || ((decide ((n2:Int) > (0:Int)))&&(decide (((x.leaves).getD (IntKind.wrap .i64 ((n2:Int) - (1:Int))).toNat default).typ >= ((x.leaves).getD (n2:Int).toNat default).typ))))=true then some (.ret (.ret false)) else some (.nxt ()))))))):Option (Out (Out Bool Unit) Unit))) x.leaves 0 ()) (λ(s2:Unit)=>some (.nxt ()))=if leavesB x.leaves=true then some (.nxt ()) else some (.ret false):=by
     rw [qe (r:=.ret false) (λi l=>leafB l&&(decide (i=0) || decide ((x.leaves.getD (i - 1) default).typ < l.typ)))]
     ·rfl
     ·intro j l b;have w:j < x.leaves.length:=(uc.1 b).1;have g:x.leaves.getD j default=l:=by rw [ur,b];rfl
      have a:=hs.leaf c (uN b);rw [ref05May_is (by have:=a.items;simp only [maxLen];omega) (by have:=a.tombs;simp only [maxLen];omega) a.time];simp only [ua];rcases j with _ | j
      ·cases leafB l <;> simp [yf]
      ·rw [qB (by simp only [maxLen];omega),pos_succ,uB,uB,g,zj (by intro _;omega),zj (by intro _;omega)];have e:decide ((x.leaves.getD j default).typ >= l.typ)=!decide ((x.leaves.getD j default).typ < l.typ):=by rw [uJ];simp
       rw [e,t6];generalize (x.leaves.getD j default)=y;cases leafB l <;> cases decide (y.typ < l.typ) <;> simp
    rw [f,uE hd3];simp only [ua,tg,tr,uX,oB,ut];rcases i with _ | j
    ·cases nameB x.name <;> cases (x.leaves.isEmpty&&x.subs.isEmpty) <;> cases treeB (d+1) x.subs <;> cases leavesB x.leaves <;> simp [yf]
    ·rw [qB (by simp only [maxLen];omega),pos_succ,uB,zj (by intro _;omega),t6];generalize (t.getD j default)=y;cases nameB x.name <;> cases (x.leaves.isEmpty&&x.subs.isEmpty) <;> cases treeB (d+1) x.subs <;> cases leavesB x.leaves <;> cases Op.bytesLess y.name x.name <;> simp
   ·rw [uS hd3];simp [yf]
theorem qH {t:List GA} (h:Small t):qX t=some (treeB 0 t):=by
 unfold qX ref07Xmay;have:=qc (g:=λn=>vE n t 0) (r:=treeB 0 t) (GA.deps t+1) (λn a=>by have:=ref07XmayN_is n t 0 (by omega) (by omega) h;simpa using this);rw [this];rfl

theorem loopW_end {σ ρ:Type} {f:σ->Option (Out ρ σ)} (b:σ->Prop) (c:σ->Nat) (h:∀s,b s->(∃a,f s=some (.brk a)) \/ ∃a,f s=some (.nxt a)/\b a/\c a < c s):∀(k:Nat) (s:σ),c s=k->b s->∃a,ye f s=some (.inr a):=by
 intro k
 induction k using Nat.strongRecOn with
 | _ k ih =>
  intro s i hi;rw [xr];rcases h s hi with ⟨a,e⟩ | ⟨a,e,d,g⟩
  ·exact ⟨a,by rw [e]⟩
  ·rw [e];exact ih (c a) (by omega) a rfl d
theorem lpW_end {σ ρ:Type} {f:σ->Option (Out ρ σ)} {rest:σ->Option ρ} (a:σ->Prop) (c:σ->Nat) (g:∀s,∃v,rest s=some v) (d:σ) (hi:a d) (h:∀s,a s->(∃b,f s=some (.brk b)) \/ ∃b,f s=some (.nxt b)/\a b/\c b < c s):∃v,lp (ye f d) rest=some v:=by
 obtain ⟨b,e⟩:=loopW_end a c h _ d rfl hi;rw [e];exact g b
theorem idx_mem {α:Type} {L:List α} {i:Int} {x:α} (h:yu L i=some x):x ∈ L:=by
 unfold yu at h;split at h
 ·exact uN h
 ·cases h
theorem size_tot:∀(n:Nat) (t:List GA) (d:Int),GA.deps t < n->Small t->∃v,xR n t d=some v
 | 0,_,_,h,_=>by omega
 | n+1,t,d,h,hs=>by
  unfold xR;have A:=hs.len;refine lpW_end (λs=>0<=s.2/\s.2<=(t.length:Int)) (λs=>(t.length - s.2.toNat)) (λ_=>⟨_,rfl⟩) _ ⟨by simp,by simp⟩ (λs hi=>?_);rcases s with ⟨a,i⟩
  obtain ⟨k,rfl⟩:∃k:Nat,i=(k:Int):=⟨i.toNat,by have:=hi.1;simp at this;omega⟩
  by_cases hc:(decide ((k:Int) < (t.length:Int))&&decide (d < 10))=true
  ·right;simp only [ud,um] at hc;have m:k < t.length:=by omega
   have p:t[k] ∈ t:=tU m;have x:=qa p;have y:=xT t[k];obtain ⟨v,u⟩:=size_tot n t[k].subs (IntKind.wrap .i64 (d+1)) (by omega) (hs.subs p);have w:=hs.leaves p;obtain ⟨s2,r⟩:=loopW_end (ρ:=Out Int (Int×Int)) (σ:=Int×Int) (f:=λs2:Int×Int=>(((yu t (k:Int)).bind λj=>(if decide (s2.2 < ((j.leaves).length:Int))=true then ((yu t (k:Int)).bind λg=>((yu g.leaves s2.2).bind λc=>(lp (zq (λ(z:Nat) (o:GH) (l:Int)=>(some (.nxt (IntKind.wrap .i64 ((IntKind.wrap .i64 (l+(1:Int)))+((o.text).length:Int)))):Option (Out _ Int))) c.items 0 (IntKind.wrap .i64 ((IntKind.wrap .i64 ((IntKind.wrap .i64 (s2.1+(1:Int)))+((c.text).length:Int)))+((c.tombs).length:Int)))) λ(l:Int)=>some (.nxt (l,(IntKind.wrap .i64 (s2.2+(1:Int)))))))) else some (.brk (s2.1,s2.2)))):Option (Out (Out Int (Int×Int)) (Int×Int))))
    (λs=>0<=s.2/\s.2<=(t[k].leaves.length:Int)) (λs=>(t[k].leaves.length - s.2.toNat)) (λs hi=>by
     rcases s with ⟨b,i⟩
     obtain ⟨q,rfl⟩:∃q:Nat,i=(q:Int):=⟨i.toNat,by have:=hi.1;simp at this;omega⟩
     simp only [wM m,ua];by_cases hq:q < t[k].leaves.length
     ·right;have e:decide ((q:Int) < (t[k].leaves.length:Int))=true:=by simpa using hq
      simp only [e,ut,wM hq,ua];rw [loopL_fold (λ(l:Int) (o:GH)=>IntKind.wrap .i64 ((IntKind.wrap .i64 (l+(1:Int)))+((o.text).length:Int))) _ 0 _ (λ_ _ _ _=>rfl),yp];refine ⟨_,rfl,?_,?_⟩
      ·simp only;rw [yU (by omega)];omega
      ·simp only;rw [yU (by omega)];omega
     ·left;have e:decide ((q:Int) < (t[k].leaves.length:Int))=false:=by simp;omega
      simp only [e];exact ⟨_,rfl⟩) _ ((IntKind.wrap .i64 ((IntKind.wrap .i64 ((IntKind.wrap .i64 (a+(1:Int)))+((t[k].name).length:Int)))+v)),(0:Int)) rfl ⟨by simp,by simp⟩
   refine ⟨(s2.1,IntKind.wrap .i64 ((k:Int)+1)),?_,?_,?_⟩
   ·simp only [hc,sZ,u5,ut,wM m,ua,u];simp only [wM m,ua] at r;rw [r];rfl
   ·simp only;rw [yU (by omega)];omega
   ·simp only;rw [yU (by omega)];omega
  ·left;refine ⟨(a,(k:Int)),?_⟩;simp only at hc ⊢;rw [uu hc]
theorem size_fuel:∀(n m:Nat) (t:List GA) (d:Int),GA.deps t < n->GA.deps t < m->xR n t d=xR m t d
 | 0,_,_,_,h,_=>by omega
 | _+1,0,_,_,_,h=>by omega
 | n+1,m+1,t,d,h1,h2=>by
  unfold xR;congr 2;funext s;split
  ·cases hx:yu t s.2 with
   | none=>rfl
   | some y =>
    have a:=qa (idx_mem hx);have b:=xT y;simp only [ua];rw [size_fuel n m y.subs _ (by omega) (by omega)]
  ·rfl
theorem ref07Great_tot {t:List GA} (h:Small t):∃b,ref07Great t=some b:=by
 unfold ref07Great ref07Xsize;obtain ⟨v,a⟩:∃v,∀n,GA.deps t+1<=n->xR n t 0=some v:=by
  obtain ⟨v,a⟩:=size_tot (GA.deps t+1) t 0 (by omega) h;exact ⟨v,λn c=>by rw [size_fuel n (GA.deps t+1) t 0 (by omega) (by omega)];exact a⟩
 rw [qc (GA.deps t+1) a];exact ⟨_,rfl⟩

section
variable {S X:Type}
def foldF (y:S->X->Option (Bool×S)):List X->S->Option (Bool×S)
 | [],s=>some (true,s)
 | x::r,s=>(y s x).bind λv=>if v.1=true then foldF y r v.2 else some (false,v.2)
theorem foldF_app (y:S->X->Option (Bool×S)):∀(a b:List X) (s:S),foldF y (a++b) s=(foldF y a s).bind λv=>if v.1=true then foldF y b v.2 else some v
 | [],b,s=>by simp [foldF]
 | x::r,b,s=>by
  simp only [tS,foldF];cases y s x with
  | none=>rfl
  | some v =>
   simp only [ua];cases hv:v.1
   ·simp
   ·simp only [ut];exact foldF_app y r b v.2
theorem foldF_stp (y:S->X->Option (Bool×S)):∀(xs:List X) (s:S),
  foldF (stp (λ(d:S) (c:X)=>(((y d c).bind λv=>(if (!v.1)=true then some (false,(v.2,some 0)) else some (true,(v.2,none)))):Option (Bool×(S×Option Nat))))) xs (s,none)=(foldF y xs s).map λv=>(v.1,(v.2,if v.1=true then none else some 0))
 | [],s=>rfl
 | x::r,s=>by
  simp only [foldF,stp];cases y s x with
  | none=>rfl
  | some v =>
   rcases v with ⟨b,a⟩
   cases b
   ·simp
   ·simp only [tg,ul,uG,ua,ut];exact foldF_stp y r a
theorem loop_tell {ρ α:Type} (y:S->X->Option (Bool×S)) (g:α->X) (r:S->ρ) {f:Nat->α->S->Option (Out ρ S)}:∀(L:List α) (i:Nat) (s:S),(∀i x s,x ∈ L->f i x s=(y s (g x)).bind λv=>if (!v.1)=true then some (.ret (r v.2)) else some (.nxt v.2)) ->
  zq f L i s=(foldF y (L.map g) s).map λv=>if v.1=true then .inr v.2 else .inl (r v.2)
 | [],_,_,_=>rfl
 | x::t,i,s,h=>by
  simp only [zq,h i x s (tY ..),uC,foldF];cases y s (g x) with
  | none=>rfl
  | some v =>
   rcases v with ⟨b,a⟩
   cases b
   ·rfl
   ·simp only [tg,ul,uG,ua,ut];exact loop_tell y g r t (i+1) a λi x s c=>h i x s (tJ _ c)
theorem loop_tells {ρ α:Type} (y:S->X->Option (Bool×S)) (g:α->List X) (r:S->ρ) {f:Nat->α->S->Option (Out ρ S)}:∀(L:List α) (i:Nat) (s:S),(∀i x s,x ∈ L->f i x s=(foldF y (g x) s).map λv=>if v.1=true then .nxt v.2 else .ret (r v.2)) ->
  zq f L i s=(foldF y (L.flatMap g) s).map λv=>if v.1=true then .inr v.2 else .inl (r v.2)
 | [],_,_,_=>rfl
 | x::t,i,s,h=>by
  simp only [zq,h i x s (tY ..),tX,foldF_app];cases foldF y (g x) s with
  | none=>rfl
  | some v =>
   rcases v with ⟨b,a⟩
   cases b
   ·rfl
   ·simp only [u7,ut,ua];exact loop_tells y g r t (i+1) a λi x s c=>h i x s (tJ _ c)
end
theorem clone_is {α:Type} {L:List α} (h:L.length<=yK):(nilq L λa=>(if a=true then some ([]:List α) else (yf ((([]:List α)).length+L.length<=yK) (some (([]:List α)++L)))))=some L:=by
 refine nilq_of ?_ λe=>by subst e;rfl
 rw [zj (by simpa using h)];simp
theorem cloneString_is {L:List zy} (h:L.length<=yK):wB L=some L:=clone_is h
theorem cloneItem_is {L:List GH} (h:L.length<=yK):yQ L=some L:=clone_is h
theorem cloneDot_is {L:List GF} (h:L.length<=yK):y4 L=some L:=clone_is h
theorem pathsXown_is {l:GC} (h:LeafOk l):pathsXown l=some l:=by
 unfold pathsXown;rw [cloneItem_is (by have:=h.items;unfold yK;omega),cloneDot_is (by have:=h.tombs;unfold yK;omega)];rfl
mutual
def wN (a:List zy):GA->List GE
 | ⟨nm,ls,sb⟩=>ls.map (λl=>GE.mk (a++[nm]) l)++zu (a++[nm]) sb
def zu (a:List zy):List GA->List GE
 | []=>[]
 | x::r=>wN a x++zu a r
end
mutual
def keepN (is:List zy->Bool) (a:List zy):GA->GA
 | ⟨nm,ls,sb⟩=>⟨nm,if is (a++[nm])=true then ls else [],keepL is (a++[nm]) sb⟩
def keepL (is:List zy->Bool) (a:List zy):List GA->List GA
 | []=>[]
 | x::r=>if (keepN is a x).leaves.isEmpty&&(keepN is a x).subs.isEmpty then keepL is a r else keepN is a x::keepL is a r
end
theorem xq (a:List zy) (x:GA):wN a x=x.leaves.map (λl=>GE.mk (a++[x.name]) l)++zu (a++[x.name]) x.subs:=by cases x;rfl
theorem yc (a:List zy):∀t,zu a t=t.flatMap (wN a)
 | []=>rfl
 | x::r=>by simp only [zu,tX,yc a r]
theorem rows_is {S:Type}:∀(n:Nat) (S:Type) (y:S->GE->Option (Bool×S)) (t:List GA) (a:List zy) (s:S),GA.deps t < n->Small t->a.length+GA.deps t<=40000000->wL n S y t a s=(foldF y (zu a t) s).map (·.2)
 | 0,_,_,_,_,_,h,_,_=>by omega
 | n+1,S,y,t,a,s,h,hs,ha=>by
  unfold wL;rw [loop_tells y (wN a) (λs=>s),<- yc]
  ·cases foldF y (zu a t) s with
   | none=>rfl
   | some v=>rcases v with ⟨b,c⟩;cases b <;> rfl
  ·intro i x s1 d;have e:=qa d;have g:=xT x;rw [cloneString_is (by unfold yK;omega),ua,zj (by simp [yK];omega)];rw [loop_tell y (λl=>GE.mk (a++[x.name]) l) (λs=>Out.ret s)]
   ·rw [xq,foldF_app];cases foldF y (x.leaves.map λl=>GE.mk (a++[x.name]) l) s1 with
    | none=>rfl
    | some v =>
     rcases v with ⟨b,c⟩
     cases b
     ·rfl
     ·simp only [u7,ut,yp,ua];unfold pathsXrows;simp only [ua];rw [rows_is (S:=Unit) n _ _ x.subs (a++[x.name]) (c,none) (by omega) (hs.subs d) (by simp;omega),foldF_stp];cases foldF y (zu (a++[x.name]) x.subs) c with
      | none=>rfl
      | some v=>rcases v with ⟨b,s2⟩;cases b <;> rfl
   ·intro j l s2 f;rw [cloneString_is (by simp [yK];omega),ua,pathsXown_is (hs.leaf d f),ua]

theorem vX {α a ρ:Type} (p:α->Bool) (g:α->a) {f:Nat->α->List a->Option (Out ρ (List a))}:∀(L:List α) (i:Nat) (s:List a),s.length+L.length<=yK->(∀i x s,x ∈ L->s.length+1<=yK->f i x s=if p x=true then some (.nxt (s++[g x])) else some (.nxt s)) ->
  zq f L i s=some (.inr (s++(L.filter p).map g))
 | [],_,s,_,_=>by simp [zq]
 | x::t,i,s,hl,h=>by
  simp only [uk] at hl;simp only [zq,h i x s (tY ..) (by omega),tL];cases hp:p x
  ·simp only [ul,uG];exact vX p g t (i+1) s (by omega) λi x s b=>h i x s (tJ _ b)
  ·simp only [ut];rw [vX p g t (i+1) (s++[g x]) (by simp;omega) λi x s b=>h i x s (tJ _ b)];simp
theorem deps_bks:∀(n:Nat) (t:List GA),GA.deps t<=n->GA.deps t<=GA.bks t:=by
 intro n
 induction n with
 | zero=>intro t a;omega
 | succ n ih =>
  intro t
  induction t with
  | nil=>intro _;simp [GA.deps]
  | cons x r ihr =>
   intro a;simp only [GA.deps] at a ⊢;simp only [GA.bks];have e:=ihr (by omega);have b:=xT x;have c:=ih x.subs (by omega);have d:=bk_node x;omega
theorem Small.dep {t:List GA} (h:Small t):GA.deps t<=16777216:=uU (deps_bks _ t (uh _)) h.2
theorem rows_len:∀(n:Nat) (t:List GA) (a:List zy),GA.deps t<=n->(zu a t).length<=GA.bks t:=by
 intro n
 induction n with
 | zero =>
  intro t a h;cases t with
  | nil=>simp [zu]
  | cons x r=>simp only [GA.deps] at h;have:=xT x;omega
 | succ n ih =>
  intro t
  induction t with
  | nil=>intro a _;simp [zu]
  | cons x r ihr =>
   intro a b;simp only [GA.deps] at b;simp only [GA.bks,zu,uo];have i:=ihr a (by omega);have c:=xT x;have e:=ih x.subs (a++[x.name]) (by omega);have g:=bk_node x;have d:=sum_len (f:=GC.bk) (λx=>by unfold GC.bk;omega) x.leaves;rw [xq];simp only [uo,uz];omega
theorem fold_app {X:Type}:∀(xs s:List X),s.length+xs.length<=yK->foldF (stp (λ(s1:List X) (a:X)=>((yf (s1.length+([a]:List X).length<=yK) (some (true,((s1++[a]),none)))):Option (Bool×(List X×Option Nat))))) xs (s,none)=some (true,(s++xs,none))
 | [],s,_=>by simp [foldF]
 | x::r,s,h=>by
  simp only [uk] at h;simp only [foldF,stp];rw [zj (by simp;omega)];simp only [ua,ut];rw [fold_app r (s++[x]) (by simp;omega)];simp
theorem pathsRows_is {t:List GA} (h:Small t):vW t=some (if treeB 0 t=true then zu [] t else []):=by
 unfold vW;rw [qu h,ua];cases treeB 0 t
 ·rfl
 ·have hd:=h.dep;have a:=rows_len _ t [] (uh _);have c:=h.2;simp only [tg,ul,uG,ut,pathsXrows,ua,wj,xL,pathsXrowsC1];rw [qc (r:=(zu [] t,none)) (GA.deps t+1) λn b=>by
   rw [rows_is (S:=Unit) n _ _ t [] ([],none) (by omega) h (by simp;omega),fold_app _ _ (by simp [yK];omega)];rfl]
  rfl

theorem less_trans:∀{a b c:List UInt8},Op.bytesLess a b=true->Op.bytesLess b c=true->Op.bytesLess a c=true
 | _,[],_,h,_=>by cases ‹List UInt8› <;> simp [Op.bytesLess] at h
 | a,b::y,[],_,h=>by simp [Op.bytesLess] at h
 | [],b::y,c::z,_,_=>rfl
 | a::x,b::y,c::z,e,d=>by
  simp only [Op.bytesLess,tn,um,ud,sx] at e d ⊢;rcases e with e | ⟨rfl,e⟩
  ·rcases d with d | ⟨rfl,d⟩
   ·left;exact UInt8.lt_trans e d
   ·left;exact e
  ·rcases d with d | ⟨rfl,d⟩
   ·left;exact d
   ·right;exact ⟨rfl,less_trans e d⟩
theorem qR (t:List GA):upB t=true ↔ t.Pairwise (λx y=>Op.bytesLess x.name y.name=true):=by
 unfold upB;rw [allI_iff];constructor
 ·intro h;rw [tC];intro i j hi a d;obtain ⟨k,rfl⟩:∃k,j=i+1+k:=⟨j - i - 1,by omega⟩
  induction k with
  | zero =>
   have:=h (i+1) _ (ug a);simp only [t6,tn,um] at this;rcases this with h0 | h0
   ·omega
   ·rw [ur,ug hi] at h0;exact h0
  | succ k ih =>
   have c:=ih (by omega) (by omega);have:=h (i+1+(k+1)) _ (ug a);simp only [tn,um] at this;rcases this with h0 | h0
   ·omega
   ·rw [show i+1+(k+1) - 1=i+1+k by omega,ur,ug (by omega:i+1+k < t.length)] at h0;exact less_trans c h0
 ·intro h i x b;rcases i with _ | i
  ·rfl
  ·rw [tC] at h;obtain ⟨hi,rfl⟩:=uc.1 b;have:=h i (i+1) (by omega) hi (by omega);simp only [t6,tn];right;rw [ur,ug (by omega:i < t.length)];exact this
section
variable (is:List zy->Bool)
theorem vj {M:List GA->Prop} (h0:M []) (a:∀x r,M x.subs->M r->M (x::r)):∀t,M t:=by
 have key:∀(n:Nat) (t:List GA),GA.deps t<=n->M t:=by
  intro n
  induction n with
  | zero =>
   intro t h;cases t with
   | nil=>exact h0
   | cons x r=>simp only [GA.deps] at h;have:=xT x;omega
  | succ n ih =>
   intro t
   induction t with
   | nil=>intro _;exact h0
   | cons x r ihr =>
    intro h;simp only [GA.deps] at h;have:=xT x;exact a x r (ih x.subs (by omega)) (ihr (by omega))
 exact λt=>key _ t (uh _)
theorem keep_small:∀(t:List GA) (a:List zy),(GA.wfs t->GA.wfs (keepL is a t))/\GA.bks (keepL is a t)<=GA.bks t:=by
 refine vj (λa=>⟨λh=>h,uh _⟩) ?_;intro x r c b a;have j:(keepN is a x).bk<=x.bk:=by
  have:=(c (a++[x.name])).2;cases x with
  | mk nm ls sb =>
   simp only [keepN,GA.bk] at this ⊢;have d:((if is (a++[nm])=true then ls else []).map GC.bk).sum<=(ls.map GC.bk).sum:=by split <;> simp
   omega
 have f:x.wf->(keepN is a x).wf:=by
  have:=(c (a++[x.name])).1;cases x with
  | mk nm ls sb =>
   simp only [keepN,GA.wf] at this ⊢
   rintro ⟨i,d,e⟩
   refine ⟨i,?_,this e⟩;split
   ·exact d
   ·exact ⟨by simp,λy g=>by cases g⟩
 simp only [keepL];split
 ·refine ⟨λh=>(b a).1 (by simp only [GA.wfs] at h;exact h.2),?_⟩;have:=(b a).2;simp only [GA.bks];omega
 ·refine ⟨λh=>?_,?_⟩
  ·simp only [GA.wfs] at h ⊢;exact ⟨f h.1,(b a).1 h.2⟩
  ·have:=(b a).2;simp only [GA.bks];omega
theorem Small.keep {t:List GA} (h:Small t) (a:List zy):Small (keepL is a t):=⟨(keep_small is t a).1 h.1,uU (keep_small is t a).2 h.2⟩
end
theorem ref05Same_refl (l:GC):ref05Same l l=some true:=by
 unfold ref05Same;simp only [dotEq,itemEq];rw [uu (by simp),qe (r:=false) (λ_ _=>true),qe (r:=false) (λ_ _=>true)]
 ·simp [allI]
 ·intro i x a;have hi:=(uc.1 a).1;have b:l.tombs[i]=x:=(uc.1 a).2;rw [wM hi,b];simp
 ·intro i x a;have hi:=(uc.1 a).1;have b:l.items[i]=x:=(uc.1 a).2;rw [wM hi,b];simp
theorem small_of {t:List GA} (h:t.length<=maxLen/\∀y ∈ t,GA.wf y) (a:(t.map GA.bk).sum<=16777216):Small t:=⟨(GA.wfs_iff t).2 h.2,by rw [GA.bks_eq];exact a⟩
theorem half_mid {lo hi:Nat} (h:lo < hi) (e:hi<=4611686018427387904):IntKind.wrap .i64 (Int.fdiv (IntKind.wrap .u64 (IntKind.wrap .i64 ((lo:Int)+(hi:Int)))) (2 ^ (min (1:Int).toNat (IntKind.bits .u64))))=(((lo+hi) / 2:Nat):Int):=by
 have a:IntKind.wrap .i64 ((lo:Int)+(hi:Int))=((lo+hi:Nat):Int):=by rw [yU (by omega)];omega
 have b:IntKind.wrap .u64 (((lo+hi:Nat):Int))=((lo+hi:Nat):Int):=by rw [IntKind.wrap_u64];omega
 have c:(2:Int) ^ (min (1:Int).toNat (IntKind.bits .u64))=2:=by decide
 rw [a,b,c,sy _ (by decide)];have d:((lo+hi:Nat):Int) / 2=(((lo+hi) / 2:Nat):Int):=by omega
 rw [d,yU (by omega)]
theorem bs_loop {a:GA->zy->Option Int} {x:List GA} {s:zy} {c:Nat} (q:x.length<=16777216) (p:∀i n,x[i]?=some n->∃v,a n s=some v/\(i < c->v < 0)/\(c<=i->0<=v)) :
  ∀(k lo hi:Nat),hi - lo<=k->lo<=c->c<=hi->hi<=x.length->ye (ρ:=Int×Bool) (λ(s1:Int×Int)=>((if (decide (s1.1 < s1.2))=true then ((yu x (IntKind.wrap .i64 ((Int.fdiv (IntKind.wrap .u64 ((IntKind.wrap .i64 (s1.1+s1.2)))) (2 ^ (min (1:Int).toNat (IntKind.bits .u64))))))).bind λj=>((a j s).bind λb=>(if (decide (b < (0:Int)))=true then some (.nxt ((IntKind.wrap .i64 ((IntKind.wrap .i64 ((Int.fdiv (IntKind.wrap .u64 ((IntKind.wrap .i64 (s1.1+s1.2)))) (2 ^ (min (1:Int).toNat (IntKind.bits .u64))))))+(1:Int))),s1.2)) else some (.nxt (s1.1,(IntKind.wrap .i64 ((Int.fdiv (IntKind.wrap .u64 ((IntKind.wrap .i64 (s1.1+s1.2)))) (2 ^ (min (1:Int).toNat (IntKind.bits .u64))))))))))) else some (.brk (s1.1,s1.2))):Option (Out _ (Int×Int)))) ((lo:Int),(hi:Int))=some (.inr ((c:Int),(c:Int))):=by
 intro k
 induction k with
 | zero =>
  intro lo hi o f g hh;obtain rfl:lo=hi:=by omega
  obtain rfl:lo=c:=by omega
  rw [xr];simp
 | succ k ih =>
  intro lo hi o f g hh;rw [xr];by_cases hlt:lo < hi
  ·have hd:decide ((lo:Int) < (hi:Int))=true:=uE (by omega);simp only [hd,ut,half_mid hlt (by omega)];have d:(lo+hi) / 2 < x.length:=by omega
   rw [wM d,ua];obtain ⟨v,h,l,m⟩:=p ((lo+hi) / 2) _ (ug d);rw [h,ua];by_cases hcm:(lo+hi) / 2 < c
   ·rw [uE (l hcm),up rfl];simp only;have e:IntKind.wrap .i64 ((((lo+hi) / 2:Nat):Int)+1)=(((lo+hi) / 2+1:Nat):Int):=by rw [yU (by omega)];omega
    rw [e];exact ih _ _ (by omega) (by omega) g hh
   ·rw [uS (by have:=m (by omega);omega)];simp only [ul,uG];exact ih _ _ (by omega) f (by omega) (by omega)
  ·obtain rfl:lo=hi:=by omega
   obtain rfl:lo=c:=by omega
   simp
theorem bs_is {a:GA->zy->Option Int} {x:List GA} {s:zy} {c:Nat} (b:x.length<=16777216) (d:c<=x.length) (e:∀i n,x[i]?=some n->∃v,a n s=some v/\(i < c->v < 0)/\(c<=i->0<=v)) :
  zp x s a=(if c < x.length then a (x.getD c default) s else some 1).bind λv=>some ((c:Int),(decide (c < x.length)&&(v==0))):=by
 unfold zp;have:=bs_loop b e x.length 0 x.length (by omega) (tK _) d (uh _);simp only [pt] at this;rw [show ((0:Int),(x.length:Int))=(((0:Nat):Int),(x.length:Int)) from rfl] at *;rw [this];simp only [lp];by_cases h:c < x.length
 ·have hd:decide ((c:Int) < (x.length:Int))=true:=uE (by omega);simp only [hd,h,ut,uB,u2,sZ,uX];rw [zj (by intro _;omega)]
 ·have hd:decide ((c:Int) < (x.length:Int))=false:=uS (by omega);simp only [hd,h,uG,sK,rx,ua];rw [zj (by intro hh;cases hh)];simp
theorem cmp_less {a b:List UInt8}:Lib.compareBytes a b < 0 ↔ Op.bytesLess a b=true:=by
 induction a generalizing b with
 | nil=>cases b <;> simp [Lib.compareBytes,Op.bytesLess]
 | cons x a ih =>
  cases b with
  | nil=>simp [Lib.compareBytes,Op.bytesLess]
  | cons y b =>
   simp only [Lib.compareBytes,Op.bytesLess];by_cases h1:x < y
   ·simp [h1]
   ·by_cases h2:y < x
    ·have:¬ x=y:=by rintro rfl;exact h1 h2
     simp [h1,h2,this]
    ·have:x=y:=UInt8.le_antisymm (UInt8.not_lt.1 h2) (UInt8.not_lt.1 h1);simp [h1,h2,this,ih]
theorem cmp_self (a:List UInt8):Lib.compareBytes a a=0:=by
 induction a with
 | nil=>rfl
 | cons x a ih=>simp [Lib.compareBytes,ih]
theorem layC1_is (n:GA) (s:zy):xM n s=some (Lib.compareBytes n.name s):=rfl
theorem cloneLeaf_is {L:List GC} (h:L.length<=yK):xE L=some L:=clone_is h
theorem cloneNode_is {L:List GA} (h:L.length<=yK):xd L=some L:=clone_is h
theorem yY {n:Nat} (h:n<=16777217):n<=yK:=uU h (by decide)
theorem own_is {l:GC} (h:LeafOk l):diffXown l=some l:=by
 unfold diffXown;rw [cloneItem_is (yY (rm h.items)),ua,cloneDot_is (yY (rm h.tombs)),ua]
def preR (a:List zy) (r:GE):GE:=⟨a++r.path,r.leaf⟩
theorem rows_pre:∀(t:List GA) (a b:List zy),zu (a++b) t=(zu b t).map (preR a):=by
 refine vj (λ_ _=>rfl) ?_;intro x r c d a b;rw [yc,yc,tX,tX,<- yc,<- yc,d,sJ];congr 1;rw [xq,xq,uy,c,sJ,rN];rfl
theorem rows_path:∀(t:List GA) (a:List zy) (r:GE),r ∈ zu a t->a.length < r.path.length/\r.path.length<=a.length+GA.deps t:=by
 refine vj (λ_ _ h=>by simp [zu] at h) ?_;intro x r c d a q b;rw [yc,tX,uR,<- yc] at b;have g:x.dep<=GA.deps (x::r):=qa (by simp);have e:=xT x;have f:GA.deps r<=GA.deps (x::r):=by
  simp only [GA.deps];omega
 rcases b with b | b
 ·rw [xq,uR,tF] at b;rcases b with ⟨l,_,rfl⟩ | b
  ·simp;omega
  ·have:=c _ _ b;simp only [uo,uk,uV] at this;omega
 ·have:=d _ _ b;omega
theorem leaves_up {ls:List GC} (h:leavesB ls=true):ls.Pairwise (λx y=>x.typ < y.typ)/\∀l ∈ ls,leafB l=true:=by
 unfold leavesB at h;rw [allI_iff] at h;have c:∀l ∈ ls,leafB l=true:=λl d=>by
  obtain ⟨i,hi⟩:=tj.1 d;have:=h i l hi;simp only [ud] at this;exact this.1
 refine ⟨?_,c⟩;have step:∀i,(hi:i+1 < ls.length)->ls[i].typ < ls[i+1].typ:=λi hi=>by
  have:=h (i+1) _ (ug hi);simp only [Nat.add_eq_zero_iff,ra,and_false,sK,tr,ud,um,t6] at this;have e:ls.getD i default=ls[i]:=by simp [ur,ug (show i < ls.length by omega)]
  rw [e] at this;exact this.2
 rw [tC];intro i j hi b a;obtain ⟨k,rfl⟩:∃k,j=i+1+k:=⟨j - (i+1),by omega⟩
 clear a
 induction k with
 | zero=>exact step i b
 | succ k ih=>exact Int.lt_trans (ih (by omega)) (step (i+1+k) b)
theorem Small.tail {x:GA} {r:List GA} (h:Small (x::r)):Small r:=by
 refine ⟨(GA.wfs_iff r).2 λy a=>(GA.wfs_iff _).1 h.1 y (by simp [a]),?_⟩;have:=h.2;simp only [GA.bks] at this;omega
def pathLt (a b:List zy):Prop:=(∃y q,b=a++y::q) \/ ∃p x y a' b',a=p++x::a'/\b=p++y::b'/\Op.bytesLess x y=true
theorem less_irr:∀(a:List UInt8),Op.bytesLess a a=false
 | []=>rfl
 | x::a=>by simp [Op.bytesLess,less_irr a]
theorem less_ne {a b:List UInt8} (h:Op.bytesLess a b=true):a ≠ b:=by
 rintro rfl;rw [less_irr] at h;cases h
def rowLt (r q:GE):Prop:=pathLt r.path q.path \/ (r.path=q.path/\r.leaf.typ < q.leaf.typ)
def leaf0:GC:=GC.mk (0:Int) (0:Int) (0:Int) (GF.mk (GK.mk (0:Int) (0:Int)) (0:Int)) ([]:zy) ([]:List GH) ([]:List GF)
theorem rows_head {t:List GA} {a:List zy} {r:GE} (h:r ∈ zu a t):∃x ∈ t,∃w,r.path=a++x.name::w:=by
 rw [yc,List.mem_flatMap] at h;obtain ⟨x,b,h⟩:=h;refine ⟨x,b,?_⟩;rw [xq,uR,tF] at h;rcases h with ⟨l,_,rfl⟩ | h
 ·exact ⟨[],rfl⟩
 ·have:=rows_pre x.subs (a++[x.name]) [];rw [tA] at this;rw [this,tF] at h;obtain ⟨q,_,rfl⟩:=h;exact ⟨q.path,by simp [preR]⟩
theorem rows_lt:∀(t:List GA) (d:Nat) (a:List zy),upB t=true->vI d t=true->(zu a t).Pairwise rowLt:=by
 refine vj (λ_ _ _ _=>List.Pairwise.nil) ?_;intro x r s B d a m n;rw [yc,tX,<- yc];rw [qR,uW] at m;simp only [vI,ud] at n;obtain ⟨c,i⟩:=n;rw [nodeB_eq] at c;simp only [ud] at c;obtain ⟨⟨⟨_,_⟩,b⟩,j⟩:=c;simp only [treeB,ud] at b;obtain ⟨k,_⟩:=leaves_up j;rw [tR];refine ⟨?_,B d a (qR r |>.2 m.2) i,λq g A f=>?_⟩
 ·rw [xq,tR];refine ⟨?_,s (d+1) _ b.1.2 b.2,λq g A f=>?_⟩
  ·rw [List.pairwise_map];exact k.imp λh=>.inr ⟨rfl,h⟩
  ·rw [tF] at g;obtain ⟨l,_,rfl⟩:=g;obtain ⟨y,_,w,e⟩:=rows_head f;exact .inl (.inl ⟨y.name,w,e⟩)
 ·have C:∃w,q.path=a++x.name::w:=by
   have:q ∈ zu a [x]:=by rw [yc];simpa using g
   obtain ⟨z,o,w,e⟩:=rows_head this;simp only [uL] at o;subst o;exact ⟨w,e⟩
  obtain ⟨w,p⟩:=C;obtain ⟨y,v,w',u⟩:=rows_head f;exact .inl (.inr ⟨a,x.name,y.name,w,w',p,u,m.1 y v⟩)
structure RowOk' (r:GE):Prop where
 path:qZ r.path=true
 leaf:leafB r.leaf=true
 ok:LeafOk r.leaf
theorem rows_ok:∀(t:List GA) (d:Nat) (a:List zy),Small t->treeB d t=true->a.length=d->a.all nameB=true->∀r ∈ zu a t,RowOk' r:=by
 have key:∀(t:List GA),(∀(d:Nat) (a:List zy),Small t->vI d t=true->d < 3->a.length=d->a.all nameB=true->∀r ∈ zu a t,RowOk' r):=by
  refine vj (λ_ _ _ _ _ _ _ _ h=>by simp [zu] at h) ?_;intro x r u i d a hs s hd j k q b;rw [yc,tX,uR,<- yc] at b;simp only [vI,ud] at s;obtain ⟨e,m⟩:=s;rcases b with b | b
  ·rw [nodeB_eq] at e;simp only [ud] at e;obtain ⟨⟨⟨p,_⟩,c⟩,o⟩:=e;have f:(a++[x.name]).all nameB=true:=by rw [tD,k];simpa using p
   rw [xq,uR,tF] at b;rcases b with ⟨l,g,rfl⟩ | b
   ·refine ⟨?_,(leaves_up o).2 l g,hs.leaf (by simp) g⟩;simp only [qZ,f,sj,uo,uk,uV,ud,um];omega
   ·simp only [treeB,ud,tn,List.isEmpty_iff,um] at c;rcases c.1.1 with h0 | h0
    ·rw [h0] at b;simp [zu] at b
    ·exact u (d+1) _ (hs.subs (by simp)) c.2 h0 (by simp [j]) f q b
  ·exact i d a hs.tail m hd j k q b
 intro t d a hs n j k r i;simp only [treeB,ud,tn,List.isEmpty_iff,um] at n;rcases n.1.1 with h0 | h0
 ·rw [h0] at i;simp [zu] at i
 ·exact key t d a hs n.2 h0 j k r i
theorem tree_nil (d:Nat):treeB d []=true:=by simp [treeB,vI,upB,allI]
theorem leafNew_tot (k:Int):∃v,qs k=some v:=by unfold qs;split <;> exact ⟨_,rfl⟩
theorem pathB_ne {p:List zy} (h:qZ p=true):p ≠ []:=by
 rintro rfl
 simp [qZ] at h
theorem pathAll {p:List zy} {f:zy->Option Bool} (b:∀x,f x=some (nameB x)):(lp (zq (λ(_:Nat) (a:zy) (_:Unit)=>(((f a).bind λv9=>(if (!v9)=true then some (.ret false) else some (.nxt ()))):Option (Out _ Unit))) p 0 ()) λ(_:Unit)=>some ((decide (((p).length:Int) >= (1:Int)))&&(decide (((p).length:Int)<=(3:Int)))))=some (qZ p):=by
 rw [loopL_all nameB false _ _ (λi x _=>by rw [b];cases nameB x <;> rfl),bnd1,bnd3];unfold qZ;cases h:p.all nameB <;> simp
theorem ref04MayPath_is (p:List zy):ref04MayPath p=some (qZ p):=pathAll ref04IsName_is
def vi (k:Int):Int:=if k=1 then 1 else if k=2 then 2 else if k=3 \/ k=4 then 3 else if k=5 then 4 else 0
def opB (o:GM):Bool:=decide (1<=o.kind)&&decide (o.kind<=5)&&qZ o.path&&decide (o.text.length<=40)&&decide (o.dots.length<=64) &&
 (if o.kind=1 then decide (-1000000<=o.n)&&decide (o.n<=1000000)&&(o.text==[])&&decide (o.dots.length=0)
   else decide (o.n=0)&&(decide (o.kind=4) || decide (o.dots.length=0))&&(o.dots.all wG&&rising o.dots))
theorem ref04Type_is (k:Int):ref04Type k=some (vi k):=by unfold ref04Type vi;grind
theorem opType_is (k:Int):opType k=some (vi k):=by
 unfold opType opXof vi;by_cases h:k < 1 \/ 5 < k
 ·have a:(decide (k < 1) || decide (k > 5))=true:=by simp;omega
  rw [up a];grind
 ·have a:¬ (decide (k < 1) || decide (k > 5))=true:=by simp;omega
  rw [uu a];rcases (show k=1 \/ k=2 \/ k=3 \/ k=4 \/ k=5 by omega) with rfl | rfl | rfl | rfl | rfl <;> rfl
theorem wrap_pred {i:Nat} (h0:0 < i) (a:i<=9223372036854775807):(IntKind.wrap .i64 ((i:Int) - 1))=((i - 1:Nat):Int):=by rw [yU (by omega)];omega
theorem opXdrops_is (o:GM):opXdrops o=some (decide (o.n=0)&&decide (o.text.length<=40)&&decide (o.dots.length<=64)&&(o.dots.all wG&&rising o.dots)):=by
 unfold opXdrops;by_cases a:o.n ≠ 0 \/ 40 < o.text.length \/ 64 < o.dots.length
 ·have b:((o.n != 0 || decide (((o.text).length:Int) > 40)) || decide (((o.dots).length:Int) > 64))=true:=by simp;omega
  rw [up b];congr 1;rw [eq_comm,te,te,te];left;rcases a with a | a | a
  ·exact .inl (.inl (uS a))
  ·exact .inl (.inr (uS (by omega)))
  ·exact .inr (uS (by omega))
 ·have b:¬ ((o.n != 0 || decide (((o.text).length:Int) > 40)) || decide (((o.dots).length:Int) > 64))=true:=by simp;omega
  rw [uu b,rising_loop]
  ·have c:o.n=0:=by omega
   have f:o.text.length<=40:=by omega
   have h:o.dots.length<=64:=by omega
   simp [c,f,h]
  ·intro i x d;have hi:i < o.dots.length:=(uc.1 d).1;simp only [dotMay_is,ua];by_cases h0:i=0
   ·subst h0;cases hd:wG x <;> simp [yf,xH,hd]
   ·have c:decide ((i:Int) > 0)=true:=by simp;omega
    have j:=wrap_pred (i:=i) (by omega) (by omega);rw [j,uB];have g:xH o.dots i x=dotLt (o.dots.getD (i - 1) default) x:=by unfold xH;rw [uS h0];rfl
    rw [zj (by intro _;omega),c,g];generalize o.dots.getD (i - 1) default=y;cases hd:wG x
    ·simp
    ·have e:=dotCmp_lt y x;simp only [dotCompare_is,tg,tr,uX,oB,ut,ua,e];cases dotLt y x <;> rfl
theorem nil_rises {ds:List GF} (h:ds.length=0):(ds.all wG&&rising ds)=true:=by
 have:ds=[]:=uP h;subst this;rfl
theorem lenB {α:Type} (l:List α):((l.length:Int)==0)=decide (l.length=0):=by
 rw [uJ];simp
theorem opMay_is (o:GM):opMay o=some (opB o):=by
 unfold opMay opXof opB;by_cases h:o.kind < 1 \/ 5 < o.kind
 ·have b:(decide (o.kind < 1) || decide (o.kind > 5))=true:=by simp;omega
  rw [up b];have c:(decide (1<=o.kind)&&decide (o.kind<=5))=false:=by rw [te];simp;omega
  simp [c]
 ·have b:¬ (decide (o.kind < 1) || decide (o.kind > 5))=true:=by simp;omega
  rw [uu b,opMayPath_is];have d:=nil_rises (ds:=o.dots);rcases (show o.kind=1 \/ o.kind=2 \/ o.kind=3 \/ o.kind=4 \/ o.kind=5 by omega) with a | a | a | a | a <;> rw [a] <;>
   simp only [yu,Int.toNat,ua,callOp,opXadds,opXplain,opXdrops_is,lenB] <;> generalize (o.dots.all wG&&rising o.dots)=R at d ⊢ <;> cases hp:qZ o.path <;> simp [a] <;> grind
theorem ref04May_is (o:GM):ref04May o=some (opB o):=by
 unfold ref04May opB;rw [ref04Type_is];simp only [ua,ref04MayPath_is];have g:=nil_rises (ds:=o.dots);by_cases h:o.kind < 1 \/ 5 < o.kind
 ·have j:(decide (1<=o.kind)&&decide (o.kind<=5))=false:=by rw [te];simp;omega
  have a:vi o.kind=0:=by unfold vi;grind
  simp [j,a]
 ·have a:(vi o.kind==0)=false:=by unfold vi;grind
  have f:(decide (1<=o.kind)&&decide (o.kind<=5))=true:=by simp;omega
  by_cases hb:40 < o.text.length \/ 64 < o.dots.length
  ·have b:(decide ((o.text.length:Int) > 40) || decide ((o.dots.length:Int) > 64))=true:=by simp;omega
   have c:(decide (o.text.length<=40)&&decide (o.dots.length<=64))=false:=by rw [te];simp;omega
   rw [a,f];cases hp:qZ o.path <;> simp at b c ⊢ <;> grind
  ·rw [rising_loop]
   ·have b:decide ((o.text.length:Int) > 40)=false:=uS (by omega);have c:decide ((o.dots.length:Int) > 64)=false:=uS (by omega);have p:decide (o.text.length<=40)=true:=uE (by omega);have q:decide (o.dots.length<=64)=true:=uE (by omega);have m:decide ((o.dots.length:Int) > 0)=!decide (o.dots.length=0):=by
     by_cases hd:o.dots.length=0
     ·rw [uE hd,uS (by omega)];rfl
     ·rw [uS hd,uE (by omega)];rfl
    rw [a,f,b,c,p,q,m,lenB];generalize (o.dots.all wG&&rising o.dots)=R at g ⊢;cases hp:qZ o.path
    ·simp
    ·by_cases k1:o.kind=1
     ·simp [k1]
     ·by_cases n0:o.n=0 <;> by_cases k4:o.kind=4 <;> by_cases d0:o.dots.length=0 <;> simp [k1,n0,k4,d0]
   ·intro i x e;have hi:i < o.dots.length:=(uc.1 e).1;simp only [ref03May_is,ua];by_cases h0:i=0
    ·subst h0;cases hd:wG x <;> simp [yf,xH]
    ·have r:decide ((i:Int) > 0)=true:=by simp;omega
     have l:=wrap_pred (i:=i) (by omega) (by omega);rw [l,uB,uB];have k:xH o.dots i x=dotLt (o.dots.getD (i - 1) default) x:=by unfold xH;rw [uS h0];rfl
     have d:o.dots.getD i default=x:=by rw [ur,e];rfl
     rw [zj (by intro _;omega),zj (by intro _;omega),r,k,d];generalize o.dots.getD (i - 1) default=y;cases hd:wG x
     ·simp
     ·simp only [ref03Less_is,tg,tr,uX,oB,ut,ua];cases dotLt y x <;> rfl
def ww (e:GJ):Bool:=wG e.dot&&decide (e.time >= 1)&&decide (e.time<=1099511627776)&&opB e.op
theorem opMayEvent_is (e:GJ):qx e=some (ww e):=by
 unfold qx ww;rw [dotMay_is,opMay_is];simp only [ua];cases (wG e.dot&&decide (e.time >= 1)&&decide (e.time<=1099511627776)) <;> rfl
theorem vU (e:GJ):wK e=some (ww e):=by
 unfold wK ww;rw [ref03May_is,ref04May_is];simp only [ua];cases (wG e.dot&&decide (e.time >= 1)&&decide (e.time<=1099511627776)) <;> rfl
end Go.Vv
namespace Go.Vv
open Go
theorem qK {σ ρ:Type} {f:σ->Option (Out ρ σ)} (c b:σ->Prop) (d:σ->Nat) (h:∀s,c s->(∃a,f s=some (.brk a)/\b a) \/ ∃a,f s=some (.nxt a)/\c a/\d a < d s):∀(k:Nat) (s:σ),d s=k->c s->∃a,ye f s=some (.inr a)/\b a:=by
 intro k
 induction k using Nat.strongRecOn with
 | _ k ih =>
  intro s l hi;rw [xr];rcases h s hi with ⟨a,e,g⟩ | ⟨a,e,i,j⟩
  ·exact ⟨a,by rw [e],g⟩
  ·rw [e];exact ih (d a) (by omega) a rfl i
theorem idxF_is {q:GC->Bool} {del:GC->Option Bool}:∀(L:List GC) (n:Nat),(∀x ∈ L,del x=some (q x)) ->
  (zq (λ(g:Nat) (d:GC) (_:Unit)=>(((del d).bind λi=>(if i=true then some (.ret (g:Int)) else some (.nxt ()))):Option (Out Int Unit))) L n ()=some (.inr ())/\∀x ∈ L,q x=false) \/
  ∃A x B,L=A++x::B/\q x=true/\(∀y ∈ A,q y=false)/\zq (λ(g:Nat) (d:GC) (_:Unit)=>(((del d).bind λi=>(if i=true then some (.ret (g:Int)) else some (.nxt ()))):Option (Out Int Unit))) L n ()=some (.inl ((n+A.length:Nat):Int))
 | [],n,_=>.inl ⟨rfl,by simp⟩
 | x::r,n,h=>by
  have b:=h x (by simp);cases hq:q x with
  | true=>exact .inr ⟨[],x,r,rfl,hq,by simp,by simp [zq,b,hq]⟩
  | false =>
   rcases idxF_is r (n+1) (λy a=>h y (by simp [a])) with ⟨e,c⟩ | ⟨A,y,B,rfl,j,c,e⟩
   ·refine .inl ⟨by simp only [zq,b,hq,ua];exact e,?_⟩;intro y a;rcases uD.1 a with rfl | a
    ·exact hq
    ·exact c y a
   ·refine .inr ⟨x::A,y,B,rfl,j,?_,?_⟩
    ·intro z f;rcases uD.1 f with rfl | f
     ·exact hq
     ·exact c z f
    ·simp only [zq,b,hq,ua];rw [show n+(x::A).length=n+1+A.length by simp only [uk];omega];exact e
theorem vA {a:Nat} (h:a<=16777216):IntKind.wrap .i64 ((a:Int)+1)=((a+1:Nat):Int):=wrap_add1 (uU (p5 h) (by decide))
noncomputable def delF (del:GC->Option Bool) (n:Nat):Int×Int×(List GC)->Option (Out (List GC) (Int×Int×(List GC))):=λs1=>((yf ((s1.2.2).length=n) ((if (decide (s1.2.1 < ((n:Nat):Int)))=true then ((yu s1.2.2 s1.2.1).bind λy14=>((del y14).bind λv15=>(if (!v15)=true then ((yu s1.2.2 s1.1).bind λy17=>some (.nxt ((IntKind.wrap .i64 (s1.1+(1:Int))),(IntKind.wrap .i64 (s1.2.1+(1:Int))),(s1.2.2.set s1.1.toNat y14)))) else some (.nxt (s1.1,(IntKind.wrap .i64 (s1.2.1+(1:Int))),s1.2.2))))) else some (.brk (s1.1,s1.2.1,s1.2.2))))))
theorem delR_eq (b:List GC) (a:GC->Option Bool):wr b a=((yI b a).bind λc=>(if (c==(-1:Int))=true then some b else (lp (ye (delF a b.length) (c,(IntKind.wrap .i64 (c+(1:Int))),b)) λ(s1:Int×Int×(List GC))=>(yf (0<=s1.1/\s1.1<=((b.length:Nat):Int)) (((slc (s1.2.2.take s1.1.toNat++List.replicate (b.length - s1.1.toNat) zLf) (0:Int) s1.1).bind λd=>some d)))))):=rfl
theorem delF_run {q:GC->Bool} {del:GC->Option Bool} {L0:List GC} (t:L0.length<=16777216) (h:∀x ∈ L0,del x=some (q x)) {a0 b0:Nat} (A:a0 < b0) (w:b0<=L0.length) (y:L0.take a0=(L0.take b0).filter λx=>!q x) :
  ∃m,ye (delF del L0.length) ((a0:Int),(b0:Int),L0)=some (.inr m)/\∃a:Nat,m.1=(a:Int)/\a < L0.length/\m.2.2.length=L0.length/\m.2.2.take a=L0.filter λx=>!q x:=by
 refine qK (f:=delF del L0.length) (λs=>∃a b:Nat,s.1=(a:Int)/\s.2.1=(b:Int)/\a < b/\b<=L0.length/\s.2.2.length=L0.length/\s.2.2.take a=(L0.take b).filter (λx=>!q x)/\s.2.2.drop b=L0.drop b)
  _ (λs=>L0.length - s.2.1.toNat) ?_ _ _ rfl ⟨a0,b0,rfl,rfl,A,w,rfl,y,rfl⟩
 rintro ⟨i,j,M⟩ ⟨a,b,u,v,B,r,e,k,n⟩
 simp only at u v e k n;subst u v;simp only [delF,yf,e,ut];by_cases hb:b < L0.length
 ·right;have z:M[b]?=L0[b]?:=by
   have:=congrArg (λl=>l[0]?) n;simpa [uF] using this
  have o:L0[b]?=some L0[b]:=ug hb;have hd:=h L0[b] (tU hb);have g:yu M (b:Int)=some L0[b]:=by simp [yu,z]
  have c:yu M (a:Int)=some (M[a]'(by omega)):=by simp [yu]
  rw [up (by simp;omega),g,ua,hd,ua];have d:L0.take (b+1)=L0.take b++[L0[b]]:=by rw [si,o];rfl
  cases hq:q L0[b] with
  | true =>
   refine ⟨((a:Int),((b+1:Nat):Int),M),by simp [vA (uU r t)],⟨a,b+1,rfl,rfl,by omega,by omega,e,?_,?_⟩,by simp;omega⟩
   ·rw [k,d,tp];simp [hq]
   ·have:=congrArg (λl=>l.drop 1) n;simpa [tB] using this
  | false =>
   refine ⟨(((a+1:Nat):Int),((b+1:Nat):Int),M.set a L0[b]),by simp [c,vA (uU r t),vA (show a<=16777216 by omega)],⟨a+1,b+1,rfl,rfl,by omega,by omega,by simpa using e,?_,?_⟩,by simp;omega⟩
   ·rw [si,rT (uh _),k,d,tp,uA (by omega)];simp [hq]
   ·have:=congrArg (λl=>l.drop 1) n;rw [rU (by omega)];simpa [tB] using this
 ·left;have p:b=L0.length:=by omega
  rw [uu (by simp;omega)];exact ⟨_,rfl,a,rfl,by omega,e,by rw [k,p,sf]⟩
theorem deleteR_is {q:GC->Bool} {del:GC->Option Bool} {L0:List GC} (j:L0.length<=16777216) (h:∀x ∈ L0,del x=some (q x)):wr L0 del=some (L0.filter λx=>!q x):=by
 rw [delR_eq];unfold yI;rcases idxF_is L0 0 h with ⟨e,b⟩ | ⟨A,x,B,g,n,b,e⟩
 ·rw [e];simp only [lp,ua,u2,ut];rw [tP.2 (λx k=>by rw [b x k];rfl)]
 ·rw [e];have c:L0.length=A.length+1+B.length:=by rw [g];simp;omega
  simp only [lp,ua,uZ];rw [uu (by simp <;> omega),vA (by omega)];obtain ⟨d,i,a,f,o,p,l⟩:=delF_run j h (a0:=A.length) (b0:=A.length+1) (by omega) (by omega) (by
   rw [g,pD,sd,uM (by omega),show A.length+1 - A.length=1 by omega,tp];simp only [sS,pH,tL,n,List.filter_nil];rw [tP.2 (λy m=>by rw [b y m];rfl)];simp)
  rw [i];simp only [yf];rw [up (by rw [f];omega),f];have hs:slc (d.2.2.take ((a:Int)).toNat++List.replicate (L0.length - ((a:Int)).toNat) zLf) (0:Int) (a:Int)=some (d.2.2.take a):=by
   unfold slc;rw [up (by simp;omega)];simp only [uB,ot,sq];rw [uY (by simp;omega),pj,oz]
  rw [hs,ua,l]

theorem less_tot:∀(a b:List UInt8),a=b \/ Op.bytesLess a b=true \/ Op.bytesLess b a=true
 | [],[]=>.inl rfl
 | [],_::_=>.inr (.inl rfl)
 | _::_,[]=>.inr (.inr rfl)
 | x::a,y::b=>by
  by_cases h:x=y
  ·subst h;rcases less_tot a b with rfl | h | h
   ·exact .inl rfl
   ·exact .inr (.inl (by simp [Op.bytesLess,h]))
   ·exact .inr (.inr (by simp [Op.bytesLess,h]))
  ·have c:x.toNat ≠ y.toNat:=λe=>h (UInt8.toNat_inj.1 e);rcases Nat.lt_or_gt_of_ne c with h | h
   ·exact .inr (.inl (by simp [Op.bytesLess,rH,h]))
   ·exact .inr (.inr (by simp [Op.bytesLess,rH,h]))
def pltB:List zy->List zy->Bool
 | _,[]=>false
 | [],_::_=>true
 | x::a,y::b=>Op.bytesLess x y || (decide (x=y)&&pltB a b)
theorem plt_irr:∀a,pltB a a=false
 | []=>rfl
 | x::a=>by simp [pltB,less_irr,plt_irr a]
theorem plt_trans:∀{a b c:List zy},pltB a b=true->pltB b c=true->pltB a c=true
 | _,[],_,h,_=>by cases ‹List zy› <;> simp [pltB] at h
 | _,_::_,[],_,h=>by simp [pltB] at h
 | [],_::_,_::_,_,_=>rfl
 | x::a,y::b,z::c,e,d=>by
  simp only [pltB,tn,ud,um] at *;rcases e with e | ⟨rfl,e⟩
  ·rcases d with d | ⟨rfl,d⟩
   ·exact .inl (less_trans e d)
   ·exact .inl e
  ·rcases d with d | ⟨rfl,d⟩
   ·exact .inl d
   ·exact .inr ⟨rfl,plt_trans e d⟩
theorem plt_path:∀{a b:List zy},pltB a b=true->pathLt a b
 | _,[],h=>by cases ‹List zy› <;> simp [pltB] at h
 | [],y::b,_=>.inl ⟨y,b,rfl⟩
 | x::a,y::b,h=>by
  simp only [pltB,tn,ud,um] at h;rcases h with h | ⟨rfl,h⟩
  ·exact .inr ⟨[],x,y,a,b,rfl,rfl,h⟩
  ·rcases plt_path h with ⟨z,q,rfl⟩ | ⟨p,u,v,a',d,rfl,rfl,c⟩
   ·exact .inl ⟨z,q,rfl⟩
   ·exact .inr ⟨x::p,u,v,a',d,rfl,rfl,c⟩
theorem path_plt {a b:List zy} (h:pathLt a b):pltB a b=true:=by
 rcases h with ⟨y,q,rfl⟩ | ⟨p,x,y,a',c,rfl,rfl,h⟩
 ·induction a with
  | nil=>rfl
  | cons x a ih=>simp [pltB,ih]
 ·induction p with
  | nil=>simp [pltB,h]
  | cons x a ih=>simp [pltB,ih]
def Key:=List zy×Int
def kltB (a b:Key):Bool:=pltB a.1 b.1 || (decide (a.1=b.1)&&decide (a.2 < b.2))
theorem klt_irr (a:Key):kltB a a=false:=by simp [kltB,plt_irr]
theorem klt_trans {a b c:Key} (e:kltB a b=true) (d:kltB b c=true):kltB a c=true:=by
 simp only [kltB,tn,ud,um] at *;rcases e with e | ⟨g,e⟩
 ·rcases d with d | ⟨f,d⟩
  ·exact .inl (plt_trans e d)
  ·rw [f] at e;exact .inl e
 ·rcases d with d | ⟨f,d⟩
  ·rw [<- g] at d;exact .inl d
  ·exact .inr ⟨g.trans f,by omega⟩
def ekey (e:GO):Key:=(e.path,e.typ)
def qh (r:GE):Key:=(r.path,r.leaf.typ)
theorem sortO_lt {α:Type} {c:α->α->Option Int} {cf:α->α->Int} {lt:α->α->Prop} {L R:List α} (v:∀x ∈ L,∀y ∈ L,c x y=some (cf x y)) (r:∀x y,cf x y < 0 ↔ lt x y) (l:∀x,¬ lt x x) (t:∀x y z,lt x y->lt y z->lt x z)
  (m:∀x ∈ L,∀y ∈ L,x=y \/ lt x y \/ lt y x) (n:R.Perm L) (hs:R.Pairwise lt) (w:L.length<=yK):sortO c L=some R:=by
 unfold sortO;rw [up (λx d y f=>by rw [v x d y f];rfl)];have hd:∀x ∈ L,∀y ∈ L,(c x y).getD 0 < 0 ↔ lt x y:=λx d y f=>by rw [v x d y f];exact r x y
 have i:∀x y,lt x y->¬ lt y x:=λx y j g=>l x (t _ _ _ j g);have u:R.Pairwise λa b=>¬ (c b a).getD 0 < 0:=by
  have:R.Pairwise λa b=>a ∈ L/\b ∈ L/\lt a b:=by
   refine pX ?_ hs;intro a b s p h;exact ⟨n.subset s,n.subset p,h⟩
  refine this.imp ?_
  rintro a b ⟨s,p,h⟩ g
  exact i _ _ h ((hd b p a s).1 g)
 refine sortF_of ⟨λx d h=>l x ((hd x d x d).1 h),λx y z d f k j g=>(hd x d z k).2 (t _ _ _ ((hd x d y f).1 j) ((hd y f z k).1 g)),λx y z d f k j g o=>?_⟩ w ⟨n,u⟩ ?_
 ·have o:=(hd x d z k).1 o;rcases m x d y f with rfl | h | h
  ·exact g ((hd _ f z k).2 o)
  ·exact j ((hd x d y f).2 h)
  ·exact g ((hd y f z k).2 (t _ _ _ h o))
 ·rintro M ⟨q,A⟩
  refine sorted_one (q.trans n.symm) A u λx y d f j g=>?_;have d:=q.subset d;have f:=q.subset f;rcases m x d y f with e | h | h
  ·exact e
  ·exact (j ((hd x d y f).2 h)).elim
  ·exact (g ((hd y f x d).2 h)).elim
theorem cmp_pos:∀{a b:List UInt8},Op.bytesLess b a=true->0 < Lib.compareBytes a b
 | [],b,h=>by cases b <;> simp [Op.bytesLess] at h
 | _::_,[],_=>by simp [Lib.compareBytes]
 | x::a,y::b,h=>by
  simp only [Op.bytesLess,tn,ud,um,sx] at h;rcases h with h | ⟨rfl,h⟩
  ·have d:y.toNat < x.toNat:=rH.1 h;have c:¬ x < y:=λe=>by have:=rH.1 e;omega
   simp [Lib.compareBytes,h,c]
  ·have:=cmp_pos h;simp [Lib.compareBytes,this]
def NLt (s:zy) (A:List GA):Prop:=∀y ∈ A,Op.bytesLess y.name s=true
def NGt (s:zy) (B:List GA):Prop:=∀y ∈ B,Op.bytesLess s y.name=true
theorem split_up {t:List GA} (s:zy) (h:upB t=true):(∃A B,t=A++B/\NLt s A/\NGt s B) \/ ∃A x B,t=A++x::B/\x.name=s/\NLt s A/\NGt s B:=by
 rw [qR] at h
 induction t with
 | nil=>exact .inl ⟨[],[],rfl,λ_ h=>by simp at h,λ_ h=>by simp at h⟩
 | cons x t ih =>
  obtain ⟨d,f⟩:=uW.1 h;rcases less_tot x.name s with e | e | e
  ·exact .inr ⟨[],x,t,rfl,e,λ_ h=>by simp at h,λy a=>by rw [<- e];exact d y a⟩
  ·rcases ih f with ⟨A,B,rfl,b,c⟩ | ⟨A,z,B,rfl,g,b,c⟩
   ·refine .inl ⟨x::A,B,rfl,λy a=>?_,c⟩;rcases uD.1 a with rfl | a
    ·exact e
    ·exact b y a
   ·refine .inr ⟨x::A,z,B,rfl,g,λy a=>?_,c⟩;rcases uD.1 a with rfl | a
    ·exact e
    ·exact b y a
  ·refine .inl ⟨[],x::t,rfl,λ_ h=>by simp at h,λy a=>?_⟩;rcases uD.1 a with rfl | a
   ·exact e
   ·exact less_trans e (d y a)
theorem bs_none {A B:List GA} {s:zy} (d:(A++B).length<=16777216) (g:NLt s A) (b:NGt s B):zp (A++B) s (λj f=>xM j f)=some ((A.length:Int),false):=by
 rw [bs_is (c:=A.length) d (by simp) λi m hi=>⟨_,layC1_is m s,λa=>by
   rw [uj a] at hi;exact cmp_less.2 (g m (uN hi)),λa=>by
   rw [ui a] at hi;exact pB (cmp_pos (b m (uN hi)))⟩]
 cases B with
 | nil=>simp
 | cons y B =>
  have e:(A++y::B).getD A.length default=y:=by simp
  have:=cmp_pos (b y (by simp));rw [up (by simp),e,layC1_is];have h:(Lib.compareBytes y.name s==0)=false:=by simp;omega
  simp [h]
theorem bs_some {A B:List GA} {x:GA} {s:zy} (b:(A++x::B).length<=16777216) (hs:x.name=s) (f:NLt s A) (g:NGt s B):zp (A++x::B) s (λh d=>xM h d)=some ((A.length:Int),true):=by
 subst hs;rw [bs_is (c:=A.length) b (by simp) λi m hi=>⟨_,layC1_is m x.name,λa=>by
   rw [uj a] at hi;exact cmp_less.2 (f m (uN hi)),λa=>by
   rw [ui a] at hi;rcases uD.1 (uN hi) with rfl | j
   ·rw [cmp_self];exact uT _
   ·exact pB (cmp_pos (g m j))⟩]
 have e:(A++x::B).getD A.length default=x:=by simp
 rw [up (by simp),e,layC1_is,cmp_self];simp
noncomputable def layIn (n:Nat) (path1:List zy) (kind2:Int) (l3:GC) (there4:Bool) (s1:zy×(List GC)×(List GA)):Option (List GA ⊕ ((List GC)×(List GA))):=((if (decide (((path1).length:Int) > (1:Int)))=true then ((slc path1 (1:Int) ((path1).length:Int)).bind λm20=>((xZ n s1.2.2 m20 kind2 l3 there4).bind λv21=>some (.inr (s1.2.1,v21)))) else ((xE s1.2.1).bind λv22=>((wr v22 (λx0=>diffXlayC2 x0 kind2)).bind λv23=>(if there4=true then ((diffXown l3).bind λv25=>(yf ((v23).length+(([v25]:List GC)).length<=yK) (((sortO (λx y=>diffXlayC3 x y) (v23++([v25]:List GC))).bind λv27=>some (.inr (v27,s1.2.2)))))) else some (.inr (v23,s1.2.2)))))):Option (_ ⊕ ((List GC)×(List GA))))
noncomputable def layRest (t0:List GA) (i:Int) (f:Bool) (nm:zy) (s2:(List GC)×(List GA)):Option (List GA):=((slc t0 (0:Int) i).bind λm28=>((xd m28).bind λv29=>(if (decide ((IntKind.wrap .i64 (((s2.1).length:Int)+((s2.2).length:Int))) > (0:Int)))=true then (yf ((v29).length+(([(GA.mk nm s2.1 s2.2)]:List GA)).length<=yK) ((if f=true then ((slc t0 (IntKind.wrap .i64 (i+(1:Int))) ((t0).length:Int)).bind λm35=>(yf (((v29++([(GA.mk nm s2.1 s2.2)]:List GA))).length+(m35).length<=yK) (some ((v29++([(GA.mk nm s2.1 s2.2)]:List GA))++m35)))) else ((slc t0 i ((t0).length:Int)).bind λm37=>(yf (((v29++([(GA.mk nm s2.1 s2.2)]:List GA))).length+(m37).length<=yK) (some ((v29++([(GA.mk nm s2.1 s2.2)]:List GA))++m37))))))) else (if f=true then ((slc t0 (IntKind.wrap .i64 (i+(1:Int))) ((t0).length:Int)).bind λm40=>(yf ((v29).length+(m40).length<=yK) (some (v29++m40)))) else ((slc t0 i ((t0).length:Int)).bind λm42=>(yf ((v29).length+(m42).length<=yK) (some (v29++m42))))))))
theorem layN_eq (n:Nat) (t0:List GA) (a:List zy) (c:Int) (f:GC) (b:Bool):xZ (n+1) t0 a c f b=((yu a (0:Int)).bind λj=>((zp t0 j (λi g=>xM i g)).bind λd=>((yu a (0:Int)).bind λh=>(lp ((if d.2=true then ((yu t0 d.1).bind λe=>some (.inr (e.name,e.leaves,e.subs))) else some (.inr (h,([]:List GC),([]:List GA)))):Option (_ ⊕ (zy×(List GC)×(List GA)))) λ(s1:zy×(List GC)×(List GA))=>(lp (layIn n a c f b s1) λ(s2:(List GC)×(List GA))=>layRest t0 d.1 d.2 s1.1 s2))))):=rfl
def qM (k:Int) (l:GC) (there:Bool) (ls:List GC):List GC:=if there=true then ls.filter (λx=>decide (x.typ < k))++[l]++ls.filter (λx=>decide (k < x.typ)) else ls.filter (λx=>!decide (x.typ=k))
theorem ups_inj {ls:List GC} (h:ls.Pairwise λx y=>x.typ < y.typ) {x y:GC} (c:x ∈ ls) (j:y ∈ ls) (e:x.typ=y.typ):x=y:=by
 induction ls with
 | nil=>simp at c
 | cons z r ih =>
  obtain ⟨g,i⟩:=uW.1 h;rcases uD.1 c with d | b <;> rcases uD.1 j with f | a
  ·rw [d,f]
  ·have:=g y a;rw [<- d] at this;omega
  ·have:=g x b;rw [<- f] at this;omega
  ·exact ih i b a
theorem layLs_up {k:Int} {l:GC} {there:Bool} {ls:List GC} (c:there=true->l.typ=k) (h:ls.Pairwise λx y=>x.typ < y.typ):(qM k l there ls).Pairwise λx y=>x.typ < y.typ:=by
 unfold qM;split
 ·rename_i d;have c:=c d;rw [tR,tR];refine ⟨⟨h.filter _,by simp,λx a y b=>?_⟩,h.filter _,λx a y b=>?_⟩
  ·have a:=(tf.1 a).2;simp at a b;subst b;omega
  ·have b:=(tf.1 b).2;simp at b;rcases uR.1 a with a | a
   ·have a:=(tf.1 a).2;simp at a;omega
   ·simp at a;subst a;omega
 ·exact h.filter _
theorem sortLs_is {k:Int} {l:GC} {ls:List GC} (d:l.typ=k) (g:ls.length<=16777216) (h:ls.Pairwise λx y=>x.typ < y.typ):sortO (λx y=>diffXlayC3 x y) (ls.filter (λx=>!decide (x.typ=k))++[l])=some (qM k l true ls):=by
 have i:=sr (λx:GC=>!decide (x.typ=k)) ls;refine sortO_lt (α:=GC) (cf:=λx y=>cmpI x.typ y.typ) (lt:=λx y=>x.typ < y.typ) (λx _ y _=>by unfold diffXlayC3;rw [cmpU8is];rfl) (λx y=>by unfold cmpI;split <;> (try split) <;> omega) (λx h=>by omega) (λx y z c f=>by omega) ?_ ?_ (layLs_up (λ_=>d) h) (yY (by simp;omega))
 ·intro x a y b;rcases Int.lt_trichotomy x.typ y.typ with e | e | e
  ·exact .inr (.inl e)
  ·left;rcases uR.1 a with a | a <;> rcases uR.1 b with b | b
   ·exact ups_inj h (tf.1 a).1 (tf.1 b).1 e
   ·have a:=(tf.1 a).2;simp at a b;subst b;omega
   ·have b:=(tf.1 b).2;simp at a b;subst a;omega
   ·simp at a b;rw [a,b]
  ·exact .inr (.inr e)
 ·unfold qM;rw [up rfl];have c:(ls.filter (λx=>decide (x.typ < k))++ls.filter (λx=>decide (k < x.typ))).Perm (ls.filter λx=>!decide (x.typ=k)):=by
   have:=pd (λx:GC=>decide (x.typ < k)) (ls.filter λx=>!decide (x.typ=k));rw [r7,r7] at this;refine List.Perm.trans (.of_eq ?_) this;congr 1 <;> refine pm λx _=>?_ <;> rw [uJ] <;> simp <;> omega
  rw [uy];refine List.Perm.trans (List.Perm.append_left _ List.perm_append_comm) ?_;rw [<- uy];exact c.append_right _
theorem layIn_leaf {n:Nat} {s:zy} {k:Int} {l:GC} {there:Bool} {c:zy} {ls:List GC} {sb:List GA} (e:there=true->l.typ=k/\LeafOk l) (a:ls.length<=16777216) (h:ls.Pairwise λx y=>x.typ < y.typ) :
  layIn n [s] k l there (c,ls,sb)=some (.inr (qM k l there ls,sb)):=by
 unfold layIn;have b:decide (((([s]:List zy).length:Int)) > 1)=false:=rfl;have g:=sr (λx:GC=>!decide (x.typ=k)) ls;simp only [b,ul,uG];rw [cloneLeaf_is (yY (by omega)),ua,deleteR_is (q:=λx=>decide (x.typ=k)) a (λx _=>by unfold diffXlayC2;rfl),ua];cases there with
 | false=>simp [qM]
 | true =>
  obtain ⟨f,d⟩:=e rfl;simp only [ut];rw [own_is d,ua,zj (yY (by simp;omega)),sortLs_is f a h,ua]
theorem layIn_sub {n:Nat} {s a:zy} {r:List zy} {k:Int} {l:GC} {there:Bool} {e:zy} {ls:List GC} {sb b:List GA} (f:(s::a::r).length<=16777216) (h:xZ n sb (a::r) k l there=some b):layIn n (s::a::r) k l there (e,ls,sb)=some (.inr (ls,b)):=by
 unfold layIn;have c:decide ((((s::a::r).length:Int)) > 1)=true:=uE (by simp only [uk];omega);simp only [c,ut];rw [vw ⟨by omega,by simp only [uk];omega,uT _⟩,ua];have d:((s::a::r).take (((s::a::r).length:Int)).toNat).drop (1:Int).toNat=a::r:=by rw [uB,sf];rfl
 rw [d,h,ua]
def fitN (nm:zy) (ls:List GC) (sb:List GA):List GA:=if ls.length+sb.length=0 then [] else [⟨nm,ls,sb⟩]
theorem layRest_is {A B:List GA} {m:List GA} {g:zy} {ls:List GC} {sb:List GA} {f:Bool} (d:m.length=if f=true then 1 else 0) (i:(A++m++B).length<=16777216) (n:ls.length<=16777216) (l:sb.length<=16777217) :
  layRest (A++m++B) (A.length:Int) f g (ls,sb)=some (A++fitN g ls sb++B):=by
 simp only [uo] at i;unfold layRest;rw [vw ⟨uT _,by omega,by simp;omega⟩,ua];have j:((A++m++B).take ((A.length:Int)).toNat).drop (0:Int).toNat=A:=by simp
 rw [j,cloneNode_is (yY (by omega)),ua];have h:∀(c:List GA),c.length<=A.length+1->((if f=true then ((slc (A++m++B) (IntKind.wrap .i64 ((A.length:Int)+(1:Int))) ((A++m++B).length:Int)).bind λb=>(yf (c.length+(b).length<=yK) (some (c++b)))) else ((slc (A++m++B) (A.length:Int) ((A++m++B).length:Int)).bind λa=>(yf (c.length+(a).length<=yK) (some (c++a))))):Option (List GA))=some (c++B):=by
  intro c o;cases f with
  | true =>
   simp only [ut] at d ⊢;rw [yU (by omega),vw ⟨by omega,by simp;omega,uT _⟩,ua];have e:((A++m++B).take (((A++m++B).length:Int)).toNat).drop ((A.length:Int)+1).toNat=B:=by
    rw [uB,sf,show ((A.length:Int)+1).toNat=(A++m).length by simp;omega,sO]
   rw [e,zj (yY (by omega))]
  | false =>
   simp only [ul,uG] at d ⊢;obtain rfl:=uP d;rw [vw ⟨by omega,by simp;omega,uT _⟩,ua];have e:((A++[]++B).take (((A++[]++B).length:Int)).toNat).drop ((A.length:Int)).toNat=B:=by
    simp only [uB];rw [sf,tA,sO]
   rw [e,zj (yY (by omega))]
 unfold fitN;have k:IntKind.wrap .i64 ((ls.length:Int)+(sb.length:Int))=(ls.length:Int)+(sb.length:Int):=yU (by omega);simp only [k];by_cases h0:ls.length+sb.length=0
 ·rw [up h0,uu (by simp;omega),tA];exact h A (by omega)
 ·rw [uu h0,up (by simp;omega),zj (yY (by simp;omega))];exact h (A++[⟨g,ls,sb⟩]) (by simp)

theorem leaves_of {ls:List GC} (h:ls.Pairwise λx y=>x.typ < y.typ) (b:∀l ∈ ls,leafB l=true):leavesB ls=true:=by
 unfold leavesB;rw [allI_iff];intro i x a;have c:=b x (uN a);simp only [c,uX];rcases i with _ | i
 ·rfl
 ·obtain ⟨hi,rfl⟩:=uc.1 a;have:=tC.1 h i (i+1) (by omega) hi (by omega);simp only [t6,tn,um];right;rw [ur,ug (by omega:i < ls.length)];exact this
theorem qF (a:List zy) (A B:List GA):zu a (A++B)=zu a A++zu a B:=by rw [yc,yc,yc,List.flatMap_append]
theorem rowsN_mem {a:List zy} {x:GA} {r:GE}:r ∈ wN a x ↔ (∃l ∈ x.leaves,r=⟨a++[x.name],l⟩) \/ r ∈ zu (a++[x.name]) x.subs:=by
 rw [xq,uR,tF];constructor
 ·rintro (⟨l,b,rfl⟩ | h)
  ·exact .inl ⟨l,b,rfl⟩
  ·exact .inr h
 ·rintro (⟨l,b,rfl⟩ | h)
  ·exact .inl ⟨l,b,rfl⟩
  ·exact .inr h
theorem qW {a:List zy} {x:GA}:zu a [x]=wN a x:=by simp [zu]
theorem fit_mem {a:List zy} {b:zy} {ls:List GC} {sb:List GA} {r:GE}:r ∈ zu a (fitN b ls sb) ↔ (∃l ∈ ls,r=⟨a++[b],l⟩) \/ r ∈ zu (a++[b]) sb:=by
 unfold fitN;split
 ·rename_i h;have d:ls=[]:=uP (by omega);have c:sb=[]:=uP (by omega);subst d c;simp [zu]
 ·rw [qW,rowsN_mem]
theorem len_rows (t:List GA) (a b:List zy):(zu a t).length=(zu b t).length:=by
 have d:=rows_pre t a [];have c:=rows_pre t b [];rw [tA] at d c;rw [d,c,uz,uz]
theorem vm:∀(t:List GA) (d:Nat),vI d t=true->t.length<=(zu [] t).length:=by
 refine vj (λ_ _=>tK _) ?_;intro x r e f d b;simp only [vI,ud] at b;have g:=f d b.2;have a:=b.1;rw [nodeB_eq] at a;simp only [ud,treeB,tv,te] at a;have c:=e (d+1) a.1.2.2;rw [show x::r=[x]++r from rfl,qF,qW,xq];simp only [uo,uz,uk,uV];rw [len_rows x.subs ([]++[x.name]) []];rcases a.1.1.2 with h | h
 ·cases hl:x.leaves with
  | nil=>rw [hl] at h;cases h
  | cons l ls=>simp only [uk];omega
 ·cases hl:x.subs with
  | nil=>rw [hl] at h;cases h
  | cons l ls=>rw [hl] at c;simp only [uk] at c;omega
theorem q9 {t:List GA} {x:GA} (a:x ∈ t):x.leaves.length+(zu [] x.subs).length<=(zu [] t).length:=by
 obtain ⟨A,B,rfl⟩:=pK a;rw [qF,show x::B=[x]++B from rfl,qF,qW,xq];simp only [uo,uz];rw [len_rows x.subs ([]++[x.name]) []];omega
theorem zN {d:Nat} {t:List GA} (h:treeB d t=true):upB t=true/\∀x ∈ t,nodeB d x=true:=by
 simp only [treeB,ud,xl,ux] at h;exact ⟨h.1.2,h.2⟩
theorem treeB_of {d:Nat} {t:List GA} (hd:d < 3) (b:upB t=true) (a:∀x ∈ t,nodeB d x=true):treeB d t=true:=by
 simp only [treeB,ud,xl,ux,b,hd,sZ,od,ou];exact a
theorem wE {d:Nat} {x:GA} (h:nodeB d x=true):nameB x.name=true/\treeB (d+1) x.subs=true/\leavesB x.leaves=true:=by
 rw [nodeB_eq] at h;simp only [ud] at h;exact ⟨h.1.1.1,h.1.2,h.2⟩
theorem find_node {d:Nat} {t:List GA} (s:zy) (h:treeB d t=true) (o:(zu [] t).length<=16777215):∃A m B f ls sb,t=A++m++B/\NLt s A/\NGt s B/\m.length=(if f=true then 1 else 0)/\zp t s (λn k=>xM n k)=some ((A.length:Int),f) /\
  ((if f=true then ((yu t (A.length:Int)).bind λe=>some (.inr (e.name,e.leaves,e.subs))) else some (.inr (s,([]:List GC),([]:List GA)))):Option (List GA ⊕ (zy×(List GC)×(List GA))))=some (.inr (s,ls,sb))/\treeB (d+1) sb=true/\leavesB ls=true /\
  ls.length+(zu [] sb).length<=(zu [] t).length/\∀a r,r ∈ zu a m ↔ (∃l ∈ ls,r=⟨a++[s],l⟩) \/ r ∈ zu (a++[s]) sb:=by
 obtain ⟨p,i⟩:=zN h;have q:t.length<=16777215:=uU (vm t d (by rw [xl];exact ux.2 i)) o;rcases split_up s p with ⟨A,B,rfl,c,b⟩ | ⟨A,x,B,rfl,g,c,b⟩
 ·refine ⟨A,[],B,false,[],[],by simp,c,b,rfl,bs_none (by omega) c b,rfl,tree_nil _,rfl,by simp [zu],λa r=>by simp [zu]⟩
 ·obtain ⟨u,n2,j⟩:=wE (i x (by simp));refine ⟨A,[x],B,true,x.leaves,x.subs,by simp,c,b,rfl,bs_some (by omega) g c b,?_,n2,j,q9 (by simp),λa r=>?_⟩
  ·rw [up rfl,zC (x:=x) (by simp),ua,g]
  ·rw [qW,rowsN_mem,g]
theorem rows_off {s:zy} {A:List GA} (h:∀y ∈ A,y.name ≠ s) {a q:List zy} {r:GE} (f:r ∈ zu a A):r.path ≠ a++s::q:=by
 obtain ⟨x,b,w,e⟩:=rows_head f;rw [e];intro c;have:=p7 c;injection this with d _;exact h x b d
theorem NLt.ne {s:zy} {A:List GA} (h:NLt s A):∀y ∈ A,y.name ≠ s:=λy a=>less_ne (h y a)
theorem NGt.ne {s:zy} {A:List GA} (h:NGt s A):∀y ∈ A,y.name ≠ s:=λy a=>(less_ne (h y a)).symm
theorem lay_fin {d:Nat} {A m B:List GA} {s:zy} {ls:List GC} {sb:List GA} (hd:d < 3) (h:treeB d (A++m++B)=true) (g:NLt s A) (f:NGt s B) (hs:nameB s=true) (j:leavesB ls=true) (i:treeB (d+1) sb=true):treeB d (A++fitN s ls sb++B)=true:=by
 obtain ⟨u,n⟩:=zN h;rw [qR,tR,tR] at u;have c:∀x ∈ A,∀y ∈ B,Op.bytesLess x.name y.name=true:=λx a y b=>less_trans (g x a) (f y b);have e:∀x ∈ fitN s ls sb,x=⟨s,ls,sb⟩/\¬ ls.length+sb.length=0:=λx a=>by
  unfold fitN at a;split at a
  ·simp at a
  ·rename_i h0;simp at a;exact ⟨a,h0⟩
 refine treeB_of hd ?_ ?_
 ·rw [qR,tR,tR];refine ⟨⟨u.1.1,?_,λx a y b=>by rw [(e y b).1];exact g x a⟩,u.2.1,λx a y b=>?_⟩
  ·unfold fitN;split <;> simp
  ·rcases uR.1 a with a | a
   ·exact c x a y b
   ·rw [(e x a).1];exact f y b
 ·intro x a;rcases uR.1 a with a | a
  ·rcases uR.1 a with a | a
   ·exact n x (by simp [a])
   ·obtain ⟨rfl,h0⟩:=e x a;rw [nodeB_eq];simp only [hs,j,i,sj,uX,tv,te];cases ls with
    | cons _ _=>exact .inl rfl
    | nil=>cases sb with
     | cons _ _=>exact .inr rfl
     | nil=>simp at h0
  ·exact n x (by simp [a])
theorem fit_len (s:zy) (ls:List GC) (sb:List GA):(fitN s ls sb).length<=1:=by unfold fitN;split <;> simp
theorem layLs_mem {k:Int} {l:GC} {there:Bool} {ls:List GC} {x:GC}:x ∈ qM k l there ls ↔ (x ∈ ls/\x.typ ≠ k) \/ (there=true/\x=l):=by
 unfold qM;cases there with
 | false=>simp
 | true =>
  simp only [ut,uR,tf,uL,um,ou];constructor
  ·rintro ((⟨h,a⟩ | h) | ⟨h,a⟩)
   ·exact .inl ⟨h,by omega⟩
   ·exact .inr h
   ·exact .inl ⟨h,by omega⟩
  ·rintro (⟨h,a⟩ | h)
   ·rcases pL a with b | b
    ·exact .inl (.inl ⟨h,b⟩)
    ·exact .inr ⟨h,b⟩
   ·exact .inl (.inr h)
theorem lay_is {k:Int} {l:GC} {there:Bool} (z:there=true->l.typ=k/\leafB l=true/\LeafOk l):∀(p:List zy) (t:List GA) (d n:Nat),p ≠ []->p.all nameB=true->d+p.length<=3->treeB d t=true->(zu [] t).length<=16777215->p.length < n ->
  ∃t',xZ n t p k l there=some t'/\treeB d t'=true/\t'.length<=t.length+1/\∀a r,r ∈ zu a t' ↔ (r ∈ zu a t/\qh r ≠ (a++p,k)) \/ (there=true/\r=⟨a++p,l⟩)
 | [],_,_,_,h,_,_,_,_,_=>absurd rfl h
 | _::_,_,_,0,_,_,_,_,_,h=>by omega
 | s::q,t,d,n+1,_,hp,hd,ht,hw,hn=>by
  simp only [tc,ud,uk] at hp hd hn;obtain ⟨A,m,B,f,ls,sb,rfl,E,D,M,K,I,o,y,N,u⟩:=find_node s ht hw;have J:yu (s::q) (0:Int)=some s:=rfl;obtain ⟨C,F⟩:=leaves_up y;have O:(A++m++B).length<=16777215:=uU (vm _ d (by rw [xl];exact ux.2 (zN ht).2)) hw;have V:=λg b=>fit_len s g b;have i:∀g b,(A++fitN s g b++B).length<=(A++m++B).length+1:=λg b=>by
   have:=fit_len s g b;simp only [uo];omega
  rw [layN_eq,J,ua,K,ua,ua];simp only [];rw [I,yp];cases q with
  | nil =>
   rw [layIn_leaf (λh=>⟨(z h).1,(z h).2.2⟩) (by omega) C,yp,layRest_is M (by omega) (by
    have:(qM k l there ls).length<=ls.length+1:=by
     unfold qM;split
     ·have w:=pd (λx:GC=>decide (x.typ < k)) ls;have v:=w.length_eq;have W:(ls.filter λx=>decide (k < x.typ)).length<=(ls.filter λx=>!decide (x.typ < k)).length:=by
       have:(ls.filter λx=>decide (k < x.typ))=(ls.filter λx=>!decide (x.typ < k)).filter (λx=>decide (k < x.typ)):=by
        rw [r7];refine pm λx _=>?_;rw [uJ];simp;omega
       rw [this];exact sr _ _
      simp only [uo,uk,uV] at v ⊢;omega
     ·exact rm (sr _ _)
    omega) (by have:=vm sb (d+1) (by rw [xl];exact ux.2 (zN o).2);omega)]
   refine ⟨_,rfl,lay_fin (by omega) ht E D hp.1 (leaves_of (layLs_up (λh=>(z h).1) C) λx j=>?_) o,i _ _,λa r=>?_⟩
   ·rcases layLs_mem.1 j with h | ⟨h,rfl⟩
    ·exact F x h.1
    ·exact (z h).2.1
   ·simp only [qF,uR,fit_mem,u];have H:r ∈ zu a A->qh r ≠ (a++[s],k):=λh e=>rows_off E.ne h (congrArg Prod.fst e);have L:r ∈ zu a B->qh r ≠ (a++[s],k):=λh e=>rows_off D.ne h (congrArg Prod.fst e);have G:r ∈ zu (a++[s]) sb->qh r ≠ (a++[s],k):=λh e=>by
     have:=(rows_path sb _ r h).1;rw [show r.path=a++[s] from congrArg Prod.fst e] at this;omega
    constructor
    ·rintro ((h | ⟨x,j,rfl⟩ | h) | h)
     ·exact .inl ⟨.inl (.inl h),H h⟩
     ·rcases layLs_mem.1 j with ⟨w,v⟩ | ⟨w,rfl⟩
      ·exact .inl ⟨.inl (.inr (.inl ⟨x,w,rfl⟩)),λe=>v (congrArg Prod.snd e)⟩
      ·exact .inr ⟨w,rfl⟩
     ·exact .inl ⟨.inl (.inr (.inr h)),G h⟩
     ·exact .inl ⟨.inr h,L h⟩
    ·rintro (⟨(h | ⟨x,j,rfl⟩ | h) | h,v⟩ | ⟨w,rfl⟩)
     ·exact .inl (.inl h)
     ·exact .inl (.inr (.inl ⟨x,layLs_mem.2 (.inl ⟨j,λe=>v (by rw [<- e];rfl)⟩),rfl⟩))
     ·exact .inl (.inr (.inr h))
     ·exact .inr h
     ·exact .inl (.inr (.inl ⟨l,layLs_mem.2 (.inr ⟨w,rfl⟩),rfl⟩))
  | cons c q =>
   obtain ⟨b,Q,R,Y,T⟩:=lay_is z (c::q) sb (d+1) n (by simp) hp.2 (by simp only [uk] at hd ⊢;omega) o (by omega) (by omega);have U:=vm sb (d+1) (by rw [xl];exact ux.2 (zN o).2);rw [layIn_sub (by simp only [uk] at hd ⊢;omega) Q,yp,layRest_is M (by omega) (by omega) (by omega)];refine ⟨_,rfl,lay_fin (by omega) ht E D hp.1 y R,i _ _,λa r=>?_⟩;simp only [qF,uR,fit_mem,u,T];have P:a++[s]++c::q=a++s::c::q:=by simp
   rw [P];have H:r ∈ zu a A->qh r ≠ (a++s::c::q,k):=λh e=>rows_off E.ne h (congrArg Prod.fst e);have L:r ∈ zu a B->qh r ≠ (a++s::c::q,k):=λh e=>rows_off D.ne h (congrArg Prod.fst e);have G:∀x,r=⟨a++[s],x⟩->qh r ≠ (a++s::c::q,k):=λx h e=>by
    rw [h] at e;have:=congrArg List.length (congrArg Prod.fst e);simp [qh] at this
   constructor
   ·rintro ((h | ⟨x,j,h⟩ | (h | h)) | h)
    ·exact .inl ⟨.inl (.inl h),H h⟩
    ·exact .inl ⟨.inl (.inr (.inl ⟨x,j,h⟩)),G x h⟩
    ·exact .inl ⟨.inl (.inr (.inr h.1)),h.2⟩
    ·exact .inr h
    ·exact .inl ⟨.inr h,L h⟩
   ·rintro (⟨(h | ⟨x,j,h⟩ | h) | h,v⟩ | h)
    ·exact .inl (.inl h)
    ·exact .inl (.inr (.inl ⟨x,j,h⟩))
    ·exact .inl (.inr (.inr (.inl ⟨h,v⟩)))
    ·exact .inr h
    ·exact .inl (.inr (.inr (.inr h)))

theorem rowLt_iff {r q:GE}:rowLt r q ↔ kltB (qh r) (qh q)=true:=by
 unfold rowLt kltB qh;simp only [tn,ud,um];constructor
 ·rintro (h | h)
  ·exact .inl (path_plt h)
  ·exact .inr h
 ·rintro (h | h)
  ·exact .inl (plt_path h)
  ·exact .inr h
theorem sorted_ext {α:Type} {lt:α->α->Prop} (a:∀x,¬ lt x x) (f:∀x y z,lt x y->lt y z->lt x z):∀{L M:List α},L.Pairwise lt->M.Pairwise lt->(∀x,x ∈ L ↔ x ∈ M)->L=M
 | [],[],_,_,_=>rfl
 | [],y::M,_,_,h=>by have:=(h y).2 (by simp);simp at this
 | x::L,[],_,_,h=>by have:=(h x).1 (by simp);simp at this
 | x::L,y::M,h1,h2,h=>by
  obtain ⟨g,l⟩:=uW.1 h1;obtain ⟨d,j⟩:=uW.1 h2;have e:x=y:=by
   rcases uD.1 ((h x).1 (by simp)) with e | i
   ·exact e
   ·rcases uD.1 ((h y).2 (by simp)) with e | k
    ·exact e.symm
    ·exact (a x (f _ _ _ (g y k) (d x i))).elim
  subst e;rw [sorted_ext a f l j λz=>?_];constructor
  ·intro c;rcases uD.1 ((h z).1 (by simp [c])) with e | b
   ·subst e;exact (a _ (g _ c)).elim
   ·exact b
  ·intro c;rcases uD.1 ((h z).2 (by simp [c])) with e | b
   ·subst e;exact (a _ (d _ c)).elim
   ·exact b
theorem filter_app_left {α:Type} {P:α->Bool} {A B:List α} (c:∀x ∈ A,P x=true) (b:∀x ∈ B,P x=false):(A++B).filter P=A/\(A++B).filter (λx=>!P x)=B:=by
 rw [tp,tp,tP.2 c,tH.2 (λx a=>by simp [b x a]),tH.2 (λx a=>by simp [c x a]),tP.2 (λx a=>by simp [b x a])];simp
theorem app_split {α:Type} {P:α->Bool} {A B C D:List α} (h:A++B=C++D) (i:∀x ∈ A,P x=true) (e:∀x ∈ B,P x=false) (f:∀x ∈ C,P x=true) (g:∀x ∈ D,P x=false):A=C/\B=D:=by
 obtain ⟨a,b⟩:=filter_app_left i e;obtain ⟨c,d⟩:=filter_app_left f g;exact ⟨by rw [<- a,<- c,h],by rw [<- b,<- d,h]⟩
theorem rowsN_head {a:List zy} {x:GA} {r:GE} (h:r ∈ wN a x):∃w,r.path=a++x.name::w:=by
 rw [<- qW] at h;obtain ⟨y,b,w,e⟩:=rows_head h;simp only [uL] at b;subst b;exact ⟨w,e⟩
theorem rowsN_ne {d:Nat} {x:GA} (h:nodeB d x=true) (a:List zy):∃r L,wN a x=r::L:=by
 have b:=vm [x] d (by simp [vI,h]);rw [len_rows [x] [] a,qW] at b;cases e:wN a x with
 | nil=>rw [e] at b;simp at b
 | cons r L=>exact ⟨r,L,rfl⟩
def hasN (n:Nat) (s:zy) (r:GE):Bool:=decide ((r.path.drop n).head?=some s)
theorem hasN_is (a w:List zy) (s b:zy) {r:GE} (h:r.path=a++b::w):hasN a.length s r=decide (b=s):=by
 unfold hasN;rw [h,sO];simp
theorem rows_inj:∀(t:List GA) (d:Nat) (a:List zy) (t':List GA),treeB d t=true->treeB d t'=true->zu a t=zu a t'->t=t':=by
 have key:∀(t:List GA) (d:Nat) (a:List zy) (t':List GA),(∀x ∈ t,nodeB d x=true)->upB t=true->(∀x ∈ t',nodeB d x=true)->upB t'=true->zu a t=zu a t'->t=t':=by
  refine vj ?_ ?_
  ·intro d a t' _ _ h _ e;cases t' with
   | nil=>rfl
   | cons y r =>
    obtain ⟨q,L,g⟩:=rowsN_ne (h y (by simp)) a;rw [zu,zu,g] at e;simp at e
  ·intro x r F J d a t' m p n2 o e;cases t' with
   | nil =>
    obtain ⟨q,L,g⟩:=rowsN_ne (m x (by simp)) a;rw [zu,zu,g] at e;simp at e
   | cons y s =>
    rw [qR,uW] at p o;have e:wN a x++zu a r=wN a y++zu a s:=e;have c:x.name=y.name:=by
     obtain ⟨q,L,g⟩:=rowsN_ne (m x (by simp)) a;obtain ⟨K,L',C⟩:=rowsN_ne (n2 y (by simp)) a;have D:=e;rw [g,C] at D;injection D with H _;subst H;obtain ⟨w,n⟩:=rowsN_head (a:=a) (x:=x) (r:=q) (by rw [g];simp);obtain ⟨w',i⟩:=rowsN_head (a:=a) (x:=y) (r:=q) (by rw [C];simp);rw [n] at i;have:=p7 i;injection this
    obtain ⟨A,G⟩:=app_split (P:=hasN a.length x.name) e
     (λq b=>by obtain ⟨w,h⟩:=rowsN_head b;rw [hasN_is a w _ _ h];simp)
     (λq b=>by
      obtain ⟨z,f,w,h⟩:=rows_head b;rw [hasN_is a w _ _ h];exact uS (less_ne (p.1 z f)).symm)
     (λq b=>by obtain ⟨w,h⟩:=rowsN_head b;rw [hasN_is a w _ _ h,c];simp)
     (λq b=>by
      obtain ⟨z,f,w,h⟩:=rows_head b;rw [hasN_is a w _ _ h,c];exact uS (less_ne (o.1 z f)).symm)
    have E:=J d a s (λz f=>m z (by simp [f])) ((qR r).2 p.2) (λz f=>n2 z (by simp [f])) ((qR s).2 o.2) G;rw [xq,xq,<- c] at A;obtain ⟨I,u⟩:=app_split (P:=λq=>decide (q.path.length=a.length+1)) A
     (λq b=>by obtain ⟨l,_,rfl⟩:=tF.1 b;simp)
     (λq b=>by have:=(rows_path _ _ q b).1;simp at this;exact uS (by omega))
     (λq b=>by obtain ⟨l,_,rfl⟩:=tF.1 b;simp)
     (λq b=>by have:=(rows_path _ _ q b).1;simp at this;exact uS (by omega))
    have k:x.leaves=y.leaves:=by
     have:=congrArg (List.map (·.leaf)) I;simpa [rN,rl] using this
    obtain ⟨_,v,_⟩:=wE (m x (by simp));obtain ⟨_,B,_⟩:=wE (n2 y (by simp));have j:=F (d+1) (a++[x.name]) y.subs (zN v).2 (zN v).1 (zN B).2 (zN B).1 u;cases x;cases y;simp only at c k j;rw [c,k,j,E]
 intro t d a t' n i e;exact key t d a t' (zN n).2 (zN n).1 (zN i).2 (zN i).1 e
theorem rows_sorted {d:Nat} {t:List GA} (h:treeB d t=true) (a:List zy):(zu a t).Pairwise λr q=>kltB (qh r) (qh q)=true:=by
 have:=rows_lt t d a (zN h).1 (by rw [xl];exact ux.2 (zN h).2);exact this.imp λh=>rowLt_iff.1 h
theorem rows_ext {t t':List GA} (b:treeB 0 t=true) (a:treeB 0 t'=true) (h:∀r,r ∈ zu [] t ↔ r ∈ zu [] t'):t=t' :=
 rows_inj t 0 [] t' b a (sorted_ext (lt:=λr q=>kltB (qh r) (qh q)=true) (λx h=>by rw [klt_irr] at h;cases h) (λ_ _ _=>klt_trans) (rows_sorted b []) (rows_sorted a []) h)
theorem sorted_key {α:Type} {key:α->Key} {L:List α} (h:L.Pairwise λr q=>kltB (key r) (key q)=true) {x y:α} (c:x ∈ L) (j:y ∈ L) (e:key x=key y):x=y:=by
 induction L with
 | nil=>simp at c
 | cons z r ih =>
  obtain ⟨g,i⟩:=uW.1 h;rcases uD.1 c with d | b <;> rcases uD.1 j with f | a
  ·rw [d,f]
  ·have:=g y a;rw [<- d,e,klt_irr] at this;cases this
  ·have:=g x b;rw [<- f,e,klt_irr] at this;cases this
  ·exact ih i b a

theorem first_is {α:Type} {q:α->Bool} {del:α->Option Bool}:∀(L:List α) (n:Nat),(∀x ∈ L,del x=some (q x)) ->
  (zq (λ(g:Nat) (d:α) (_:Unit)=>(((del d).bind λi=>(if i=true then some (.ret (g:Int)) else some (.nxt ()))):Option (Out Int Unit))) L n ()=some (.inr ())/\∀x ∈ L,q x=false) \/
  ∃A x B,L=A++x::B/\q x=true/\(∀y ∈ A,q y=false)/\zq (λ(g:Nat) (d:α) (_:Unit)=>(((del d).bind λi=>(if i=true then some (.ret (g:Int)) else some (.nxt ()))):Option (Out Int Unit))) L n ()=some (.inl ((n+A.length:Nat):Int))
 | [],n,_=>.inl ⟨rfl,by simp⟩
 | x::r,n,h=>by
  have b:=h x (by simp);cases hq:q x with
  | true=>exact .inr ⟨[],x,r,rfl,hq,by simp,by simp [zq,b,hq]⟩
  | false =>
   rcases first_is r (n+1) (λy a=>h y (by simp [a])) with ⟨e,c⟩ | ⟨A,y,B,rfl,j,c,e⟩
   ·refine .inl ⟨by simp only [zq,b,hq,ua];exact e,?_⟩;intro y a;rcases uD.1 a with rfl | a
    ·exact hq
    ·exact c y a
   ·refine .inr ⟨x::A,y,B,rfl,j,?_,?_⟩
    ·intro z f;rcases uD.1 f with rfl | f
     ·exact hq
     ·exact c z f
    ·simp only [zq,b,hq,ua];rw [show n+(x::A).length=n+1+A.length by simp only [uk];omega];exact e
def node0:GA:=GA.mk ([]:zy) ([]:List GC) ([]:List GA)
def nodeOf (t:List GA) (s:zy):Option GA:=t.find? λx=>x.name==s
theorem linear_is (t:List GA) (s:zy):qD t s=some (match nodeOf t s with | some x=>(x,true) | none=>(node0,false)):=by
 unfold qD xU;rcases first_is (q:=λx:GA=>x.name==s) (del:=λc=>treeXlinearC1 c s) t 0 (λx _=>rfl) with ⟨e,h⟩ | ⟨A,x,B,rfl,f,b,e⟩
 ·rw [e];have:nodeOf t s=none:=rD.2 λx a=>by rw [h x a];simp
  rw [this];rfl
 ·rw [e];have:nodeOf (A++x::B) s=some x:=by
   unfold nodeOf;rw [List.find?_append,rD.2 (λy d=>by rw [b y d];simp),pA,f];rfl
  rw [this];simp only [lp,ua,uZ];rw [uu (by simp),zC (x:=x) (by simp)];rfl
def vd:List GA->List zy->Option GA
 | _,[]=>none
 | t,[s]=>nodeOf t s
 | t,s::c::q=>(nodeOf t s).bind λx=>vd x.subs (c::q)
noncomputable def tlF:Nat->zy->(List GA)×Bool×zy×(List GC)×(List GA)->Option (Out ((GC×Bool) ⊕ (Bool×zy×(List GC)×(List GA))) ((List GA)×Bool×zy×(List GC)×(List GA))):=(λ(_:Nat) (x2:zy) (s2:(List GA)×Bool×zy×(List GC)×(List GA))=>(((qD s2.1 x2).bind λv47=>(if (!v47.2)=true then some (.brk (s2.1,v47.2,v47.1.name,v47.1.leaves,v47.1.subs)) else some (.nxt (v47.1.subs,v47.2,v47.1.name,v47.1.leaves,v47.1.subs))))))
noncomputable def tlR (kind2:Int) (s1:Bool×zy×(List GC)×(List GA)):Option (GC×Bool):=((yI s1.2.2.1 (λx0=>treeLeafC1 x0 kind2)).bind λv49=>((if (((!s1.1) || (decide (v49 < (0:Int))))==false)=true then qs kind2 else some default).bind λv50=>(if (((!s1.1) || (decide (v49 < (0:Int)))) || (v50.typ==(0:Int)))=true then ((qs kind2).bind λv52=>some (v52,false)) else ((yu s1.2.2.1 v49).bind λy53=>((yQ y53.items).bind λv54=>((y4 y53.tombs).bind λv55=>some ((GC.mk y53.typ y53.n y53.time y53.dot y53.text v54 v55),true)))))))
theorem tl_eq (t0:List GA) (a:List zy) (b:Int):qS t0 a b=(lp ((lp (zq tlF a 0 (t0,(decide (((a).length:Int) > (0:Int))),([]:zy),([]:List GC),([]:List GA))) λ(s2:(List GA)×Bool×zy×(List GC)×(List GA))=>some (.inr (s2.2.1,s2.2.2.1,s2.2.2.2.1,s2.2.2.2.2))):Option ((GC×Bool) ⊕ (Bool×zy×(List GC)×(List GA)))) (tlR b)):=rfl
theorem tl_walk:∀(p:List zy) (n:Nat) (t:List GA) (z:Bool×zy×(List GC)×(List GA)),p ≠ [] ->
  match vd t p with
  | some x=>zq tlF p n (t,z)=some (.inr (x.subs,true,x.name,x.leaves,x.subs))
  | none=>∃u,zq tlF p n (t,z)=some (.inr (u,false,([]:zy),([]:List GC),([]:List GA)))
 | [],_,_,_,h=>absurd rfl h
 | [s],n,t,z,_=>by
  simp only [vd,zq,tlF,linear_is,ua];cases nodeOf t s with
  | none=>exact ⟨t,rfl⟩
  | some x=>rfl
 | s::c::q,n,t,z,_=>by
  have b:=λu z=>tl_walk (c::q) (n+1) u z (by simp);simp only [vd];cases e:nodeOf t s with
  | none=>exact ⟨t,by rw [zq];simp only [tlF,linear_is,e,ua];rfl⟩
  | some x =>
   have a:tlF n s (t,z)=some (.nxt (x.subs,true,x.name,x.leaves,x.subs)):=by simp only [tlF,linear_is,e,ua];rfl
   have:=b x.subs (true,x.name,x.leaves,x.subs);rw [zq,a,ua];exact this
theorem nodeOf_split {t:List GA} (s:zy) (h:upB t=true):(nodeOf t s=none/\∀y ∈ t,y.name ≠ s) \/ ∃A x B,t=A++x::B/\nodeOf t s=some x/\x.name=s/\(∀y ∈ A,y.name ≠ s)/\∀y ∈ B,y.name ≠ s:=by
 rcases split_up s h with ⟨A,B,rfl,b,c⟩ | ⟨A,x,B,rfl,d,b,c⟩
 ·left;have:∀y ∈ A++B,y.name ≠ s:=λy a=>by
   rcases uR.1 a with a | a
   ·exact b.ne y a
   ·exact c.ne y a
  exact ⟨rD.2 λy a=>by simp [this y a],this⟩
 ·refine .inr ⟨A,x,B,rfl,?_,d,b.ne,c.ne⟩;unfold nodeOf;rw [List.find?_append,rD.2 (λy a=>by simp [b.ne y a]),pA];simp [d]
theorem row_at:∀(p:List zy) (t:List GA) (d:Nat) (a:List zy) (l:GC),p ≠ []->treeB d t=true->(GE.mk (a++p) l ∈ zu a t ↔ ∃x,vd t p=some x/\l ∈ x.leaves)
 | [],_,_,_,_,h,_=>absurd rfl h
 | s::q,t,d,a,l,_,h=>by
  obtain ⟨D,u⟩:=zN h;rcases nodeOf_split s D with ⟨e,E⟩ | ⟨A,x,B,rfl,e,z,C,r⟩
  ·have k:vd t (s::q)=none:=by cases q <;> simp [vd,e]
   rw [k];constructor
   ·intro b;exact (rows_off E b rfl).elim
   ·rintro ⟨x,h,_⟩;cases h
  ·rw [qF,show x::B=[x]++B from rfl,qF,qW,uR,uR,rowsN_mem,z];have j:¬ GE.mk (a++s::q) l ∈ zu a A:=λb=>rows_off C b rfl;have m:¬ GE.mk (a++s::q) l ∈ zu a B:=λb=>rows_off r b rfl;have f:=(wE (u x (by simp))).2.1;cases q with
   | nil =>
    have w:¬ GE.mk (a++[s]) l ∈ zu (a++[s]) x.subs:=λb=>by
     have:=(rows_path _ _ _ b).1;simp at this
    have k:vd (A++x::B) [s]=some x:=e;have g:vd (A++([x]++B)) [s]=some x:=e;rw [g];constructor
    ·rintro (h | (⟨y,n,h⟩ | h) | h)
     ·exact (j h).elim
     ·injection h with _ h;subst h;exact ⟨x,rfl,n⟩
     ·exact (w h).elim
     ·exact (m h).elim
    ·rintro ⟨y,h,v⟩
     injection h with h;subst h;exact .inr (.inl (.inl ⟨l,v,rfl⟩))
   | cons c q =>
    have i:=row_at (c::q) x.subs (d+1) (a++[s]) l (by simp) f;have o:a++[s]++c::q=a++s::c::q:=by simp
    rw [o] at i;have g:vd (A++([x]++B)) (s::c::q)=vd x.subs (c::q):=by
     show (nodeOf (A++x::B) s).bind _=_;rw [e];rfl
    rw [g,i];constructor
    ·rintro (h | (⟨y,n,h⟩ | h) | h)
     ·exact (j h).elim
     ·injection h with h _;have:=congrArg List.length h;simp at this
     ·exact h
     ·exact (m h).elim
    ·intro h;exact .inr (.inl (.inr h))
theorem row_mk {r:GE} {p:List zy} {k:Int} (h:qh r=(p,k)):r=GE.mk ([]++p) r.leaf:=by
 have e:r.path=p:=congrArg Prod.fst h;cases r;simp only at e;rw [e];rfl
theorem leafNew_typ {k:Int} (h:1<=k/\k<=4):∃v,qs k=some v/\v.typ=k:=by
 unfold qs;rw [uu (by simp;omega)];exact ⟨_,rfl,rfl⟩
theorem tlR_none {k:Int} (s:zy):∃v,tlR k (false,s,([]:List GC),([]:List GA))=some (v,false):=by
 obtain ⟨v,e⟩:=leafNew_tot k;refine ⟨v,?_⟩;unfold tlR yI;simp [zq,lp,e]
theorem treeLeaf_is {t:List GA} (h:treeB 0 t=true) (j:∀r ∈ zu [] t,LeafOk r.leaf) {p:List zy} (w:p ≠ []) {k:Int} (E:1<=k/\k<=4) :
  (∃l,GE.mk p l ∈ zu [] t/\l.typ=k/\qS t p k=some (l,true)) \/ ((∀r ∈ zu [] t,qh r ≠ (p,k))/\∃v,qS t p k=some (v,false)):=by
 have c:=tl_walk p 0 t (decide ((p.length:Int) > 0),([]:zy),([]:List GC),([]:List GA)) w;have o:=λl=>row_at p t 0 [] l w h;rw [tl_eq];cases e:vd t p with
 | none =>
  rw [e] at c;obtain ⟨u,c⟩:=c;right;refine ⟨λr a g=>?_,?_⟩
  ·have:=row_mk g;rw [this] at a;obtain ⟨x,d,_⟩:=(o _).1 a;rw [e] at d;cases d
  ·rw [c];exact tlR_none []
 | some x =>
  rw [e] at c;simp only at c;rw [c];simp only [yp];obtain ⟨v0,s,n2⟩:=leafNew_typ E;unfold tlR yI;rcases first_is (q:=λy:GC=>y.typ==k) (del:=λD=>treeLeafC1 D k) x.leaves 0 (λx _=>rfl) with ⟨m,d⟩ | ⟨A,y,B,f,d,H,m⟩
  ·right;refine ⟨λr a g=>?_,v0,?_⟩
   ·have:=row_mk g;rw [this] at a;obtain ⟨G,i,C⟩:=(o _).1 a;rw [e] at i;injection i with i;subst i;have:=d _ C;simp only [rV] at this;exact this (congrArg Prod.snd g)
   ·simp only [];rw [m];simp [lp,s]
  ·left;have F:y ∈ x.leaves:=by rw [f];simp
   have b:GE.mk ([]++p) y ∈ zu [] t:=(o y).2 ⟨x,e,F⟩;have n:y.typ=k:=by simpa using d
   have z:=j _ b;refine ⟨y,b,n,?_⟩;simp only [];rw [m];simp only [lp,ua,uZ];have c1:((!true) || (decide (((A.length:Nat):Int) < (0:Int))))=false:=by simp
   rw [c1];simp only [u2,ut,s,ua,tr,n2];rw [uu (by simp;omega),f,zC (x:=y) (by simp),ua,cloneItem_is (yY (rm z.items)),ua,cloneDot_is (yY (rm z.tombs)),ua]

structure EOk (e:GO):Prop where
 path:qZ e.path=true
 typ:1<=e.typ/\e.typ<=4
 any:e.had=true \/ e.has=true
 ne:e.had=true->e.has=true->e.was ≠ e.is
 was1:e.had=true->leafB e.was=true/\LeafOk e.was/\e.was.typ=e.typ
 was0:e.had=false->e.was=leaf0
 is1:e.has=true->leafB e.is=true/\LeafOk e.is/\e.is.typ=e.typ
 is0:e.has=false->e.is=leaf0
theorem sub_len {α:Type} {lt:α->α->Prop} (a:∀x,¬ lt x x):∀(L M:List α),L.Pairwise lt->(∀x ∈ L,x ∈ M)->L.length<=M.length
 | [],_,_,_=>tK _
 | x::L,M,h,hs=>by
  obtain ⟨g,f⟩:=uW.1 h;obtain ⟨A,B,rfl⟩:=pK (hs x (by simp));have:=sub_len a L (A++B) f λy d=>by
   have b:=hs y (by simp [d]);have c:y ≠ x:=λe=>a x (by have:=g y d;rwa [e] at this);simp only [uR,uD] at b ⊢;rcases b with h | h | h
   ·exact .inl h
   ·exact (c h).elim
   ·exact .inr h
  simp only [uo,uk] at this ⊢;omega
theorem qJ {p:List zy} (h:qZ p=true):p ≠ []/\p.length<=3/\p.all nameB=true:=by
 refine ⟨pathB_ne h,?_⟩;simp only [qZ,ud,um] at h;exact ⟨h.1.2,h.2⟩
theorem lay_all {k:Int} {l:GC} {there:Bool} {p:List zy} {t:List GA} (i:there=true->l.typ=k/\leafB l=true/\LeafOk l) (o:qZ p=true) (d:treeB 0 t=true) (f:(zu [] t).length<=16777215) :
  ∃t',diffXlay t p k l there=some t'/\treeB 0 t'=true/\(zu [] t').length<=(zu [] t).length+1/\∀r,r ∈ zu [] t' ↔ (r ∈ zu [] t/\qh r ≠ (p,k)) \/ (there=true/\r=⟨p,l⟩):=by
 obtain ⟨g,y,e⟩:=qJ o;obtain ⟨t',w,c,_,a⟩:=lay_is i p t 0 (p.length+1) g e (by omega) d f (by omega);have a:=a [];simp only [u6] at a;refine ⟨t',qc (p.length+1) λn v=>?_,c,?_,a⟩
 ·obtain ⟨u,j,m,_,b⟩:=lay_is i p t 0 n g e (by omega) d f (by omega);have b:=b [];simp only [u6] at b;rw [j,rows_ext m c λr=>by rw [b,a]]
 ·have:=sub_len (lt:=λr q=>kltB (qh r) (qh q)=true) (λx h=>by rw [klt_irr] at h;cases h) (zu [] t') (zu [] t++[⟨p,l⟩]) (rows_sorted c []) λr s=>by
   rcases (a r).1 s with h | h
   ·simp [h.1]
   ·simp [h.2]
  simpa using this
structure EFits (t:List GA) (e:GO):Prop where
 had:e.had=true->GE.mk e.path e.was ∈ zu [] t
 new:e.had=false->∀r ∈ zu [] t,qh r ≠ ekey e
end Go.Vv
namespace Go.Vv
open Go
theorem idxI_is {q:GH->Bool} {del:GH->Option Bool}:∀(L:List GH) (n:Nat),(∀x ∈ L,del x=some (q x)) ->
  (zq (λ(g:Nat) (d:GH) (_:Unit)=>(((del d).bind λi=>(if i=true then some (.ret (g:Int)) else some (.nxt ()))):Option (Out Int Unit))) L n ()=some (.inr ())/\∀x ∈ L,q x=false) \/
  ∃A x B,L=A++x::B/\q x=true/\(∀y ∈ A,q y=false)/\zq (λ(g:Nat) (d:GH) (_:Unit)=>(((del d).bind λi=>(if i=true then some (.ret (g:Int)) else some (.nxt ()))):Option (Out Int Unit))) L n ()=some (.inl ((n+A.length:Nat):Int))
 | [],n,_=>.inl ⟨rfl,by simp⟩
 | x::r,n,h=>by
  have b:=h x (by simp);cases hq:q x with
  | true=>exact .inr ⟨[],x,r,rfl,hq,by simp,by simp [zq,b,hq]⟩
  | false =>
   rcases idxI_is r (n+1) (λy a=>h y (by simp [a])) with ⟨e,c⟩ | ⟨A,y,B,rfl,j,c,e⟩
   ·refine .inl ⟨by simp only [zq,b,hq,ua];exact e,?_⟩;intro y a;rcases uD.1 a with rfl | a
    ·exact hq
    ·exact c y a
   ·refine .inr ⟨x::A,y,B,rfl,j,?_,?_⟩
    ·intro z f;rcases uD.1 f with rfl | f
     ·exact hq
     ·exact c z f
    ·simp only [zq,b,hq,ua];rw [show n+(x::A).length=n+1+A.length by simp only [uk];omega];exact e
noncomputable def delI (del:GH->Option Bool) (n:Nat):Int×Int×(List GH)->Option (Out (List GH) (Int×Int×(List GH))):=λs1=>((yf ((s1.2.2).length=n) ((if (decide (s1.2.1 < ((n:Nat):Int)))=true then ((yu s1.2.2 s1.2.1).bind λy14=>((del y14).bind λv15=>(if (!v15)=true then ((yu s1.2.2 s1.1).bind λy17=>some (.nxt ((IntKind.wrap .i64 (s1.1+(1:Int))),(IntKind.wrap .i64 (s1.2.1+(1:Int))),(s1.2.2.set s1.1.toNat y14)))) else some (.nxt (s1.1,(IntKind.wrap .i64 (s1.2.1+(1:Int))),s1.2.2))))) else some (.brk (s1.1,s1.2.1,s1.2.2))))))
theorem delRI_eq (b:List GH) (a:GH->Option Bool):xJ b a=((yJ b a).bind λc=>(if (c==(-1:Int))=true then some b else (lp (ye (delI a b.length) (c,(IntKind.wrap .i64 (c+(1:Int))),b)) λ(s1:Int×Int×(List GH))=>(yf (0<=s1.1/\s1.1<=((b.length:Nat):Int)) (((slc (s1.2.2.take s1.1.toNat++List.replicate (b.length - s1.1.toNat) (GH.mk (0:Int) (GF.mk (GK.mk (0:Int) (0:Int)) (0:Int)) ([]:zy))) (0:Int) s1.1).bind λd=>some d)))))):=rfl
theorem delI_run {q:GH->Bool} {del:GH->Option Bool} {L0:List GH} (t:L0.length<=16777216) (h:∀x ∈ L0,del x=some (q x)) {a0 b0:Nat} (A:a0 < b0) (w:b0<=L0.length) (y:L0.take a0=(L0.take b0).filter λx=>!q x) :
  ∃m,ye (delI del L0.length) ((a0:Int),(b0:Int),L0)=some (.inr m)/\∃a:Nat,m.1=(a:Int)/\a < L0.length/\m.2.2.length=L0.length/\m.2.2.take a=L0.filter λx=>!q x:=by
 refine qK (f:=delI del L0.length) (λs=>∃a b:Nat,s.1=(a:Int)/\s.2.1=(b:Int)/\a < b/\b<=L0.length/\s.2.2.length=L0.length/\s.2.2.take a=(L0.take b).filter (λx=>!q x)/\s.2.2.drop b=L0.drop b)
  _ (λs=>L0.length - s.2.1.toNat) ?_ _ _ rfl ⟨a0,b0,rfl,rfl,A,w,rfl,y,rfl⟩
 rintro ⟨i,j,M⟩ ⟨a,b,u,v,B,r,e,k,n⟩
 simp only at u v e k n;subst u v;simp only [delI,yf,e,ut];by_cases hb:b < L0.length
 ·right;have z:M[b]?=L0[b]?:=by
   have:=congrArg (λl=>l[0]?) n;simpa [uF] using this
  have o:L0[b]?=some L0[b]:=ug hb;have hd:=h L0[b] (tU hb);have g:yu M (b:Int)=some L0[b]:=by simp [yu,z]
  have c:yu M (a:Int)=some (M[a]'(by omega)):=by simp [yu]
  rw [up (by simp;omega),g,ua,hd,ua];have d:L0.take (b+1)=L0.take b++[L0[b]]:=by rw [si,o];rfl
  cases hq:q L0[b] with
  | true =>
   refine ⟨((a:Int),((b+1:Nat):Int),M),by simp [vA (uU r t)],⟨a,b+1,rfl,rfl,by omega,by omega,e,?_,?_⟩,by simp;omega⟩
   ·rw [k,d,tp];simp [hq]
   ·have:=congrArg (λl=>l.drop 1) n;simpa [tB] using this
  | false =>
   refine ⟨(((a+1:Nat):Int),((b+1:Nat):Int),M.set a L0[b]),by simp [c,vA (uU r t),vA (show a<=16777216 by omega)],⟨a+1,b+1,rfl,rfl,by omega,by omega,by simpa using e,?_,?_⟩,by simp;omega⟩
   ·rw [si,rT (uh _),k,d,tp,uA (by omega)];simp [hq]
   ·have:=congrArg (λl=>l.drop 1) n;rw [rU (by omega)];simpa [tB] using this
 ·left;have p:b=L0.length:=by omega
  rw [uu (by simp;omega)];exact ⟨_,rfl,a,rfl,by omega,e,by rw [k,p,sf]⟩
theorem deleteI_is {q:GH->Bool} {del:GH->Option Bool} {L0:List GH} (j:L0.length<=16777216) (h:∀x ∈ L0,del x=some (q x)):xJ L0 del=some (L0.filter λx=>!q x):=by
 rw [delRI_eq];unfold yJ;rcases idxI_is L0 0 h with ⟨e,b⟩ | ⟨A,x,B,g,n,b,e⟩
 ·rw [e];simp only [lp,ua,u2,ut];rw [tP.2 (λx k=>by rw [b x k];rfl)]
 ·rw [e];have c:L0.length=A.length+1+B.length:=by rw [g];simp;omega
  simp only [lp,ua,uZ];rw [uu (by simp <;> omega),vA (by omega)];obtain ⟨d,i,a,f,o,p,l⟩:=delI_run j h (a0:=A.length) (b0:=A.length+1) (by omega) (by omega) (by
   rw [g,pD,sd,uM (by omega),show A.length+1 - A.length=1 by omega,tp];simp only [sS,pH,tL,n,List.filter_nil];rw [tP.2 (λy m=>by rw [b y m];rfl)];simp)
  rw [i];simp only [yf];rw [up (by rw [f];omega),f];have hs:slc (d.2.2.take ((a:Int)).toNat++List.replicate (L0.length - ((a:Int)).toNat) (GH.mk (0:Int) (GF.mk (GK.mk (0:Int) (0:Int)) (0:Int)) ([]:zy))) (0:Int) (a:Int)=some (d.2.2.take a):=by
   unfold slc;rw [up (by simp;omega)];simp only [uB,ot,sq];rw [uY (by simp;omega),pj,oz]
  rw [hs,ua,l]
theorem bsI_loop {a:GH->GH->Option Int} {x:List GH} {s:GH} {c:Nat} (q:x.length<=1048576) (p:∀i n,x[i]?=some n->∃v,a n s=some v/\(i < c->v < 0)/\(c<=i->0<=v)) :
  ∀(k lo hi:Nat),hi - lo<=k->lo<=c->c<=hi->hi<=x.length->ye (ρ:=Int×Bool) (λ(s1:Int×Int)=>((if (decide (s1.1 < s1.2))=true then ((yu x (IntKind.wrap .i64 ((Int.fdiv (IntKind.wrap .u64 ((IntKind.wrap .i64 (s1.1+s1.2)))) (2 ^ (min (1:Int).toNat (IntKind.bits .u64))))))).bind λj=>((a j s).bind λb=>(if (decide (b < (0:Int)))=true then some (.nxt ((IntKind.wrap .i64 ((IntKind.wrap .i64 ((Int.fdiv (IntKind.wrap .u64 ((IntKind.wrap .i64 (s1.1+s1.2)))) (2 ^ (min (1:Int).toNat (IntKind.bits .u64))))))+(1:Int))),s1.2)) else some (.nxt (s1.1,(IntKind.wrap .i64 ((Int.fdiv (IntKind.wrap .u64 ((IntKind.wrap .i64 (s1.1+s1.2)))) (2 ^ (min (1:Int).toNat (IntKind.bits .u64))))))))))) else some (.brk (s1.1,s1.2))):Option (Out _ (Int×Int)))) ((lo:Int),(hi:Int))=some (.inr ((c:Int),(c:Int))):=by
 intro k
 induction k with
 | zero =>
  intro lo hi o f g hh;obtain rfl:lo=hi:=by omega
  obtain rfl:lo=c:=by omega
  rw [xr];simp
 | succ k ih =>
  intro lo hi o f g hh;rw [xr];by_cases hlt:lo < hi
  ·have hd:decide ((lo:Int) < (hi:Int))=true:=uE (by omega);simp only [hd,ut,half_mid hlt (by omega)];have d:(lo+hi) / 2 < x.length:=by omega
   rw [wM d,ua];obtain ⟨v,h,l,m⟩:=p ((lo+hi) / 2) _ (ug d);rw [h,ua];by_cases hcm:(lo+hi) / 2 < c
   ·rw [uE (l hcm),up rfl];simp only;have e:IntKind.wrap .i64 ((((lo+hi) / 2:Nat):Int)+1)=(((lo+hi) / 2+1:Nat):Int):=by rw [yU (by omega)];omega
    rw [e];exact ih _ _ (by omega) (by omega) g hh
   ·rw [uS (by have:=m (by omega);omega)];simp only [ul,uG];exact ih _ _ (by omega) f (by omega) (by omega)
  ·obtain rfl:lo=hi:=by omega
   obtain rfl:lo=c:=by omega
   simp
theorem bsI_is {a:GH->GH->Option Int} {x:List GH} {s:GH} {c:Nat} (b:x.length<=1048576) (d:c<=x.length) (e:∀i n,x[i]?=some n->∃v,a n s=some v/\(i < c->v < 0)/\(c<=i->0<=v)) :
  zT x s a=(if c < x.length then a (x.getD c default) s else some 1).bind λv=>some ((c:Int),(decide (c < x.length)&&(v==0))):=by
 unfold zT;have:=bsI_loop b e x.length 0 x.length (by omega) (tK _) d (uh _);simp only [pt] at this;rw [show ((0:Int),(x.length:Int))=(((0:Nat):Int),(x.length:Int)) from rfl] at *;rw [this];simp only [lp];by_cases h:c < x.length
 ·have hd:decide ((c:Int) < (x.length:Int))=true:=uE (by omega);simp only [hd,h,ut,uB,u2,sZ,uX];rw [zj (by intro _;omega)]
 ·have hd:decide ((c:Int) < (x.length:Int))=false:=uS (by omega);simp only [hd,h,uG,sK,rx,ua];rw [zj (by intro hh;cases hh)];simp

def dd:List GF->List GF
 | []=>[]
 | [x]=>[x]
 | x::y::r=>if x=y then dd (y::r) else x::dd (y::r)
theorem dd_snoc:∀(A:List GF) (x y:GF),dd (A++[x,y])=if x=y then dd (A++[x]) else dd (A++[x])++[y]
 | [],x,y=>by by_cases h:x=y <;> simp [dd,h]
 | [a],x,y=>by
  by_cases h:x=y
  ·subst h;by_cases h2:a=x <;> simp [dd,h2]
  ·by_cases h2:a=x <;> simp [dd,h2,h]
 | a::b::A,x,y=>by
  have c:=dd_snoc (b::A) x y;simp only [tS] at c ⊢;simp only [dd];rw [c];by_cases h:a=b <;> by_cases h2:x=y <;> simp [h,h2]
theorem dd_mem:∀(L:List GF) (d:GF),d ∈ dd L ↔ d ∈ L
 | [],_=>by simp [dd]
 | [x],_=>by simp [dd]
 | x::y::r,d=>by
  simp only [dd];split
  ·rename_i h;subst h;rw [dd_mem (x::r) d];simp
  ·rw [uD,dd_mem (y::r) d];simp
theorem dd_strict {lt:GF->GF->Prop} (d:∀a b,¬ lt b a->a=b \/ lt a b) (k:∀a b c,lt a b->lt b c->lt a c):∀(L:List GF),L.Pairwise (λa b=>¬ lt b a)->(dd L).Pairwise lt
 | [],_=>by simp [dd]
 | [x],_=>by simp [dd]
 | x::y::r,h=>by
  have i:=(uW.1 h).2;have j:=dd_strict d k (y::r) i;simp only [dd];split
  ·exact j
  ·rename_i g;refine uW.2 ⟨λz f=>?_,j⟩;rw [dd_mem] at f;have e:lt x y:=(d x y ((uW.1 h).1 y (by simp))).resolve_left g;rcases uD.1 f with rfl | f
   ·exact e
   ·rcases d y z ((uW.1 i).1 z f) with rfl | l
    ·exact e
    ·exact k _ _ _ e l
def nn (L:List GF):Prop:=∀i a b,L[i]?=some a->L[i+1]?=some b->a ≠ b
theorem take_snoc2 {L:List GF} {n:Nat} {a b:GF} (c:L[n]?=some a) (d:L[n+1]?=some b):L.take (n+2)=L.take n++[a,b]:=by
 rw [si,si,c,d];simp
theorem dd_step {L:List GF} {n:Nat} {a b:GF} (c:L[n]?=some a) (d:L[n+1]?=some b):dd (L.take (n+2))=if a=b then dd (L.take (n+1)) else dd (L.take (n+1))++[b]:=by
 rw [take_snoc2 c d,dd_snoc,si,c];rfl
noncomputable def cmpIn (n:Nat) (s1:Int):Int×Int×(List GF)->Option (Out (Out (List GF) Int) (Int×Int×(List GF))):=λ(s2:Int×Int×(List GF))=>((yf ((s2.2.2).length=n) ((if (decide (s2.2.1 < ((n - s1.toNat:Nat):Int)))=true then ((yu (s2.2.2.drop s1.toNat) s2.2.1).bind λy51=>((yu (s2.2.2.drop s1.toNat) (IntKind.wrap .i64 (s2.2.1 - (1:Int)))).bind λy52=>(if (!(y51.actor.rep==y52.actor.rep&&(y51.actor.inc==y52.actor.inc&&(y51.seq==y52.seq&&true))))=true then ((yu (s2.2.2.drop s1.toNat) s2.2.1).bind λy54=>((yu s2.2.2 s2.1).bind λy55=>some (.nxt ((IntKind.wrap .i64 (s2.1+(1:Int))),(IntKind.wrap .i64 (s2.2.1+(1:Int))),(s2.2.2.set s2.1.toNat y54))))) else some (.nxt (s2.1,(IntKind.wrap .i64 (s2.2.1+(1:Int))),s2.2.2))))) else some (.brk (s2.1,s2.2.1,s2.2.2))))))
theorem wrap_p1 {i:Nat} (h0:0 < i) (a:i<=9223372036854775807):(IntKind.wrap .i64 ((i:Int) - 1))=((i - 1:Nat):Int):=wrap_pred h0 a
theorem cmpIn_run {L:List GF} (G:L.length<=16777216) {k0:Nat} (z:0 < k0) (J:k0 < L.length) {a:GF} (B:L[k0 - 1]?=some a) (A:L[k0]?=some a) (D:dd (L.take k0)=L.take k0) :
  ∃k,ye (cmpIn L.length (k0:Int)) ((k0:Int),1,L)=some (.inr k)/\∃m:Nat,k.1=(m:Int)/\m<=L.length/\k.2.2.length=L.length/\k.2.2.take m=dd L:=by
 refine qK (f:=cmpIn L.length (k0:Int)) (λs=>∃m b:Nat,s.1=(m:Int)/\s.2.1=(b:Int)/\1<=b/\k0+b<=L.length/\m+1<=k0+b/\s.2.2.length=L.length/\s.2.2.take m=dd (L.take (k0+b))/\s.2.2.drop (k0+b - 1)=L.drop (k0+b - 1))
  _ (λs=>L.length - s.2.1.toNat) ?_ _ _ rfl ⟨k0,1,rfl,rfl,uh _,by omega,by omega,rfl,?_,by simp⟩
 ·rintro ⟨i,j,M⟩ ⟨m,b,u,x,I,E,H,d,o,q⟩
  simp only at u x d o q;subst u x;simp only [cmpIn,yf,d,ut,uB];by_cases hb:k0+b < L.length
  ·right;have h:∀t,k0+b - 1<=t->M[t]?=L[t]?:=λt F=>by
    have:=congrArg (λl=>l[t - (k0+b - 1)]?) q;simp only [uF] at this
    rwa [show k0+b - 1+(t - (k0+b - 1))=t by omega] at this
   have r:L[k0+b]?=some L[k0+b]:=ug hb;have hb1:k0+b - 1 < L.length:=by omega
   have w:L[k0+b - 1]?=some (L[k0+b - 1]'hb1):=ug hb1;have v:yu (M.drop k0) (b:Int)=some L[k0+b]:=by simp only [yu,uB,uF];rw [up (by omega),h _ (by omega),r]
   have C:yu (M.drop k0) (IntKind.wrap .i64 ((b:Int) - 1))=some (L[k0+b - 1]'hb1):=by
    rw [wrap_p1 (by omega) (by omega)];simp only [yu,uB,uF];rw [up (by omega),show k0+(b - 1)=k0+b - 1 by omega,h _ (by omega),w]
   have y:yu M (m:Int)=some (M[m]'(by omega)):=by simp [yu]
   have c:=dd_step (L:=L) (n:=k0+b - 1) w (by rw [show k0+b - 1+1=k0+b by omega];exact r);rw [show k0+b - 1+2=k0+(b+1) by omega,show k0+b - 1+1=k0+b by omega] at c;have g:M.drop (k0+(b+1) - 1)=L.drop (k0+(b+1) - 1):=by
    have:=congrArg (λl=>l.drop 1) q;simp only [tB] at this
    rwa [show k0+b - 1+1=k0+(b+1) - 1 by omega] at this
   rw [up (by simp;omega),v,ua,C,ua];rw [dotEq];by_cases he:L[k0+b]=L[k0+b - 1]'hb1
   ·refine ⟨((m:Int),((b+1:Nat):Int),M),by simp [he,vA (show b<=16777216 by omega)],⟨m,b+1,rfl,rfl,by omega,by omega,by omega,d,?_,g⟩,by simp;omega⟩;rw [c,up he.symm];exact o
   ·refine ⟨(((m+1:Nat):Int),((b+1:Nat):Int),M.set m L[k0+b]),?_,⟨m+1,b+1,rfl,rfl,by omega,by omega,by omega,by simpa using d,?_,?_⟩,by simp;omega⟩
    ·simp [he,v,y,vA (show b<=16777216 by omega),vA (show m<=16777216 by omega)]
    ·rw [c,uu (λe=>he e.symm),<- o,si,rT (uh _),uA (by omega)];rfl
    ·rw [rU (by omega)];exact g
  ·left;have p:k0+b=L.length:=by omega
   rw [uu (by simp;omega)];exact ⟨_,rfl,m,rfl,by omega,d,by rw [o,p,sf]⟩
 ·have:=dd_step (L:=L) (n:=k0 - 1) B (by rw [show k0 - 1+1=k0 by omega];exact A);rw [show k0 - 1+2=k0+1 by omega,show k0 - 1+1=k0 by omega,up rfl] at this;rw [this,D]
noncomputable def cmpOut (s0:List GF):Int->Option (Out (List GF) Int):=λ(s1:Int)=>((if (decide (s1 < ((s0).length:Int)))=true then ((yu s0 s1).bind λy35=>((yu s0 (IntKind.wrap .i64 (s1 - (1:Int)))).bind λy36=>(if (y35.actor.rep==y36.actor.rep&&(y35.actor.inc==y36.actor.inc&&(y35.seq==y36.seq&&true)))=true then (yf (0<=s1/\s1<=((s0.length:Nat):Int)) ((lp (ye (cmpIn s0.length s1) (s1,(1:Int),s0)) λ(s2:Int×Int×(List GF))=>(yf (0<=s2.1/\s2.1<=((s0.length:Nat):Int)) (((slc (s2.2.2.take s2.1.toNat++List.replicate (s0.length - s2.1.toNat) (GF.mk (GK.mk (0:Int) (0:Int)) (0:Int))) (0:Int) s2.1).bind λm57=>some (.ret m57))))))) else some (.nxt (IntKind.wrap .i64 (s1+(1:Int))))))) else some (.brk s1)))
theorem compact_eq (a:List GF):wA a=(if (decide (((a).length:Int) < (2:Int)))=true then some a else (lp (ye (cmpOut a) (1:Int)) λ(_:Int)=>some a)):=rfl
theorem cmpOut_run {L:List GF} (o:L.length<=16777216):∀(n k:Nat),L.length - k=n->0 < k->k<=L.length->dd (L.take k)=L.take k->lp (ye (cmpOut L) (k:Int)) (λ(_:Int)=>some L)=some (dd L):=by
 intro n
 induction n with
 | zero =>
  intro k l h0 hk hd;have:k=L.length:=by omega
  subst this;rw [xr];simp only [cmpOut];rw [uu (by simp)];simp only [lp];rw [sf] at hd;rw [hd]
 | succ n ih =>
  intro k l h0 hk hd;have b:k < L.length:=by omega
  have d:L[k]?=some L[k]:=ug b;have hk1:k - 1 < L.length:=by omega
  have f:L[k - 1]?=some (L[k - 1]'hk1):=ug hk1;rw [xr];have i:yu L (k:Int)=some L[k]:=by simp [yu]
  have j:yu L (IntKind.wrap .i64 ((k:Int) - 1))=some (L[k - 1]'hk1):=by
   rw [wrap_p1 h0 (by omega)];simp only [yu,uB];rw [up (by omega),f]
  have c:=dd_step (L:=L) (n:=k - 1) f (by rw [show k - 1+1=k by omega];exact d);rw [show k - 1+2=k+1 by omega,show k - 1+1=k by omega] at c;by_cases he:L[k]=L[k - 1]'hk1
  ·obtain ⟨h,q,m,g,r,s,p⟩:=cmpIn_run o h0 b (a:=L[k]) (by rw [he];exact f) d hd;have hs:slc (h.2.2.take ((m:Int)).toNat++List.replicate (L.length - ((m:Int)).toNat) (GF.mk (GK.mk (0:Int) (0:Int)) (0:Int))) (0:Int) (m:Int)=some (h.2.2.take m):=by
    unfold slc;rw [up (by simp;omega)];simp only [uB,ot,sq];rw [uY (by simp;omega),pj,oz]
   have:cmpOut L (k:Int)=some (.ret (dd L)):=by
    simp only [cmpOut];rw [up (by simp;omega),i,ua,j,ua,dotEq,up (by simp [he])];rw [zj (by omega),q];simp only [lp];rw [zj (by rw [g];omega),g,hs,ua,p]
   rw [this];rfl
  ·have:cmpOut L (k:Int)=some (.nxt ((k+1:Nat):Int)):=by
    simp only [cmpOut];rw [up (by simp;omega),i,ua,j,ua,dotEq,uu (by simp [he]),vA (by omega)]
   rw [this];refine ih (k+1) (by omega) (by omega) (by omega) ?_;rw [c,uu (λe=>he e.symm),hd,si,d];rfl
theorem compact_is {L:List GF} (a:L.length<=16777216):wA L=some (dd L):=by
 rw [compact_eq];by_cases h:L.length < 2
 ·rw [up (by simp;omega)]
  match L,h with
  | [],_=>rfl
  | [x],_=>rfl
  | _::_::_,h=>simp at h;omega
 ·rw [uu (by simp;omega)];have:=cmpOut_run a (L.length - 1) 1 rfl (by omega) (by omega) (by
   match L,h with
   | x::y::r,_=>rfl
   | [],h=>simp at h
   | [x],h=>simp at h)
  exact this

theorem dlt_irr (a:GF):dotLt a a=false:=by simp [dotLt]
theorem dlt_tr {a b c:GF} (e:dotLt a b=true) (d:dotLt b c=true):dotLt a c=true:=by
 unfold dotLt at *;grind
theorem dlt_tot (a b:GF):a=b \/ dotLt a b=true \/ dotLt b a=true:=by
 rcases a with ⟨⟨f,e⟩,a3⟩;rcases b with ⟨⟨c,d⟩,g⟩
 simp only [dotLt,GF.mk.injEq,GK.mk.injEq];grind
theorem ilt_tr {a b c:GH} (e:aheadI a b=true) (d:aheadI b c=true):aheadI a c=true:=by
 unfold aheadI dotLt at *;grind
theorem ahead_pre {α:Type} {lt:α->α->Bool} (d:∀a b c,lt a b=true->lt b c=true->lt a c=true) (x:α):∀(L:List α),L.Pairwise (λa b=>lt a b=true)->∀(i:Nat) (y:α),L[i]?=some y->(lt y x=true ↔ i < (L.takeWhile λy=>lt y x).length)
 | [],_,i,y,h=>by simp at h
 | z::r,hs,i,y,h=>by
  obtain ⟨g,e⟩:=uW.1 hs;cases i with
  | zero =>
   simp only [pc,un] at h;subst h;cases hz:lt z x <;> simp [sa,hz]
  | succ i =>
   simp only [s6] at h;have j:=ahead_pre d x r e i y h;cases hz:lt z x with
   | true=>simp [sa,hz,j]
   | false =>
    simp only [sa,hz,ul,uG,uV,Nat.not_lt_zero,iff_false];intro f;have:=d _ _ _ (g y (uN h)) f;rw [hz] at this;cases this
theorem take_tw {α:Type} (p:α->Bool):∀L:List α,L.take (L.takeWhile p).length=L.takeWhile p
 | []=>rfl
 | x::r=>by cases h:p x <;> simp [sa,h,take_tw p r]
theorem drop_tw {α:Type} (p:α->Bool):∀L:List α,L.drop (L.takeWhile p).length=L.dropWhile p
 | []=>rfl
 | x::r=>by cases h:p x <;> simp [sa,List.dropWhile_cons,h,drop_tw p r]
theorem tw_le {α:Type} (p:α->Bool):∀L:List α,(L.takeWhile p).length<=L.length
 | []=>by simp
 | x::r=>by have:=tw_le p r;cases h:p x <;> simp [sa,h] <;> omega
theorem tw_add {α:Type} (p:α->Bool) (L:List α):(L.takeWhile p).length+(L.dropWhile p).length=L.length:=by
 rw [<- uo,tQ]
theorem tw_all {α:Type} (p:α->Bool):∀(L:List α),∀y ∈ L.takeWhile p,p y=true
 | [],y,h=>by simp at h
 | x::r,y,h=>by
  cases hx:p x with
  | true =>
   rw [sa,up hx] at h;rcases uD.1 h with rfl | h
   ·exact hx
   ·exact tw_all p r y h
  | false=>rw [sa,uu (by simp [hx])] at h;simp at h
theorem pw_of_next {α:Type} {lt:α->α->Prop} (f:∀a b c,lt a b->lt b c->lt a c):∀(L:List α),(∀i a b,L[i]?=some a->L[i+1]?=some b->lt a b)->L.Pairwise lt
 | [],_=>.nil
 | [x],_=>by simp
 | x::y::r,h=>by
  have e:=pw_of_next f (y::r) λi a b j g=>h (i+1) a b (by simpa using j) (by simpa using g);have h0:=h 0 x y rfl rfl;refine uW.2 ⟨λz d=>?_,e⟩;rcases uD.1 d with rfl | d
  ·exact h0
  ·exact f _ _ _ h0 ((uW.1 e).1 z d)
theorem rise_pw {L:List GH} (h:riseB L=true):L.Pairwise λa b=>aheadI a b=true:=by
 refine pw_of_next (lt:=λa b=>aheadI a b=true) (λ_ _ _=>ilt_tr) L λi a b d c=>?_;have:=allI_iff.1 h (i+1) b c;simp only [Nat.succ_ne_zero,sK,tr,prevI,t6,ur,d,pr] at this;exact this
theorem rising_pw {L:List GF} (h:rising L=true):L.Pairwise λa b=>dotLt a b=true:=by
 rw [rising_allI] at h;refine pw_of_next (lt:=λa b=>dotLt a b=true) (λ_ _ _=>dlt_tr) L λi a b d c=>?_;have:=allI_iff.1 h (i+1) b c;simp only [xH,Nat.succ_ne_zero,sK,tr,t6,ur,d,pr] at this;exact this
theorem strict_ext {α:Type} {lt:α->α->Prop} (d:∀a,¬ lt a a) (l:∀a b c,lt a b->lt b c->lt a c):∀(A B:List α),A.Pairwise lt->B.Pairwise lt->(∀x,x ∈ A ↔ x ∈ B)->A=B
 | [],[],_,_,_=>rfl
 | [],b::B,_,_,h=>by have:=(h b).2 (by simp);simp at this
 | a::A,[],_,_,h=>by have:=(h a).1 (by simp);simp at this
 | a::A,b::B,hA,hB,h=>by
  obtain ⟨m,n⟩:=uW.1 hA;obtain ⟨k,o⟩:=uW.1 hB;have j:a=b:=by
   rcases uD.1 ((h a).1 (by simp)) with e | f
   ·exact e
   ·rcases uD.1 ((h b).2 (by simp)) with e | g
    ·exact e.symm
    ·exact (d _ (l _ _ _ (m b g) (k a f))).elim
  subst j;rw [strict_ext d l A B n o λx=>?_];have i:=h x;simp only [uD] at i;constructor
  ·intro f;rcases i.1 (.inr f) with rfl | g
   ·exact (d _ (m _ f)).elim
   ·exact g
  ·intro f;rcases i.2 (.inr f) with rfl | g
   ·exact (d _ (k _ f)).elim
   ·exact g
def layP (L:List GH) (x:GH):List GH:=if (L.any λy=>decide (y.dot=x.dot))=true then L else L.takeWhile (λy=>aheadI y x)++([x]++L.dropWhile λy=>aheadI y x)
def burP (L:List GF) (d:GF):List GF:=if (L.any λy=>decide (y=d))=true then L else L.takeWhile (λy=>dotLt y d)++([d]++L.dropWhile λy=>dotLt y d)
theorem firstI_pos {α:Type} (p:α->Bool) (L:List α):decide (firstI p L >= 0)=L.any p:=firstI_any p L
theorem slcT {α:Type} (L:List α) (n:Nat) (h:n<=L.length):slc L (n:Int) (L.length:Int)=some (L.drop n):=by
 unfold slc;rw [up (by omega)];simp
theorem tw_loop {α:Type} {L:List α} (p:α->Bool) {f:List α×Int->Option (Out (List α) (List α×Int))} (j:∀(A:List α) (i:Nat) (y:α),A.length=i->L[i]?=some y->f (A,(i:Int))=if p y=true then some (.nxt (A++[y],((i+1:Nat):Int))) else some (.brk (A,(i:Int))))
  (h:∀A:List α,f (A,(L.length:Int))=some (.brk (A,(L.length:Int)))):∀(n i:Nat),L.length - i=n->i<=(L.takeWhile p).length ->
  ye f (L.take i,(i:Int))=some (.inr (L.takeWhile p,((L.takeWhile p).length:Int))):=by
 intro n
 induction n with
 | zero =>
  intro i o hi;have q:=tw_le p L;have g:i=L.length:=by omega
  subst g;rw [xr,h];have r:(L.takeWhile p).length=L.length:=by omega
  have k:=take_tw p L;rw [r] at k ⊢;rw [k]
 | succ n ih =>
  intro i o hi;have b:i < L.length:=by omega
  have m:L[i]?=some L[i]:=ug b;have c:L.takeWhile p=L.take i++(L.drop i).takeWhile p:=by
   have j:L.take i=(L.takeWhile p).take i:=by
    conv=>lhs;rw [<- tQ (p:=p) (l:=L)]
    rw [uY hi]
   have h:∀y ∈ L.take i,p y=true:=by
    rw [j];intro y s;exact tw_all _ _ _ (pw s)
   conv=>lhs;rw [<- sG i L]
   rw [List.takeWhile_append_of_pos h]
  have d:L.drop i=L[i]::L.drop (i+1):=(re b).symm;have a:(L.take i).length=i:=by simp;omega
  rw [xr,j _ _ _ a m];cases ha:p L[i] with
  | true =>
   simp only [ut];have e:L.take i++[L[i]]=L.take (i+1):=by rw [si,m];rfl
   rw [e];refine ih (i+1) (by omega) ?_;rw [c,d,sa,up ha];simp;omega
  | false =>
   simp only [ul,uG];have e:L.takeWhile p=L.take i:=by rw [c,d,sa,uu (by simp [ha])];simp
   rw [e,a]
noncomputable def layF (L:List GH) (x:GH):(List GH)×Int->Option (Out (List GH) ((List GH)×Int)):=(λ(s1:(List GH)×Int)=>((yf (((decide (s1.2 < ((L).length:Int)))==true)=true->0<=s1.2/\s1.2 < ((L).length:Int)) ((yf (((decide (s1.2 < ((L).length:Int)))==true)=true->0<=s1.2/\s1.2 < ((L).length:Int)) (((if ((decide (s1.2 < ((L).length:Int)))==true)=true then vF (((L).getD s1.2.toNat default).time) (((L).getD s1.2.toNat default).dot) x.time x.dot else some default).bind λv21=>(if ((decide (s1.2 < ((L).length:Int)))&&v21)=true then ((yu L s1.2).bind λy23=>(yf ((s1.1).length+(([y23]:List GH)).length<=yK) (some (.nxt ((s1.1++([y23]:List GH)),(IntKind.wrap .i64 (s1.2+(1:Int)))))))) else some (.brk (s1.1,s1.2)))))))):Option (Out _ ((List GH)×Int))))
theorem lay_loop {L:List GH} (g:L.length<=16777216) (x:GH):ye (layF L x) ([],0)=some (.inr (L.takeWhile (λy=>aheadI y x),((L.takeWhile λy=>aheadI y x).length:Int))):=by
 refine tw_loop (λy=>aheadI y x) (f:=layF L x) (λA i y h a=>?_) (λA=>?_) L.length 0 (by omega) (tK _)
 ·have e:i < L.length:=(uc.1 a).1;have hd:decide ((i:Int) < (L.length:Int))=true:=uE (by omega);have d:L.getD i default=y:=by simp [ur,a]
  have c:yu L (i:Int)=some y:=by simp [yu,a]
  simp only [layF,hd];rw [zj (by intro _;omega),zj (by intro _;omega)];simp only [u2,ut,uB,d,ref05Ahead_is,ua,uX];have b:(if y.time ≠ x.time then decide (y.time < x.time) else dotLt y.dot x.dot)=aheadI y x:=rfl;rw [b];cases ha:aheadI y x with
  | true=>simp only [ut];rw [c,ua,zj (by simp [yK];omega),vA (by omega)]
  | false=>rfl
 ·have hd:decide ((L.length:Int) < (L.length:Int))=false:=uS (by omega);simp only [layF,hd];rw [zj (by simp),zj (by simp)];simp
theorem refLay_is {L:List GH} (c:L.length<=16777215) (x:GH):ref05Lay L x=some (layP L x):=by
 unfold ref05Lay;rw [ref05Item_is,ua,firstI_pos];unfold layP;cases h:L.any λy=>decide (y.dot=x.dot) with
 | true=>simp only [ut];rw [zj (by simp [yK];omega)];rfl
 | false =>
  simp only [ul,uG];have a:=lay_loop (L:=L) (by omega) x;unfold layF at a;have b:=tw_le (λy=>aheadI y x) L;have d:=tw_add (λy=>aheadI y x) L;rw [a];simp only [lp];rw [zj (by simp [yK];omega),slcT _ _ b,ua,drop_tw,zj (by simp [yK];omega)];simp
noncomputable def burF (L:List GF) (x:GF):(List GF)×Int->Option (Out (List GF) ((List GF)×Int)):=(λ(s1:(List GF)×Int)=>((yf (((decide (s1.2 < ((L).length:Int)))==true)=true->0<=s1.2/\s1.2 < ((L).length:Int)) (((if ((decide (s1.2 < ((L).length:Int)))==true)=true then vV ((L).getD s1.2.toNat default) x else some default).bind λv16=>(if ((decide (s1.2 < ((L).length:Int)))&&v16)=true then ((yu L s1.2).bind λy18=>(yf ((s1.1).length+(([y18]:List GF)).length<=yK) (some (.nxt ((s1.1++([y18]:List GF)),(IntKind.wrap .i64 (s1.2+(1:Int)))))))) else some (.brk (s1.1,s1.2)))))):Option (Out _ ((List GF)×Int))))
theorem bury_loop {L:List GF} (e:L.length<=16777216) (x:GF):ye (burF L x) ([],0)=some (.inr (L.takeWhile (λy=>dotLt y x),((L.takeWhile λy=>dotLt y x).length:Int))):=by
 refine tw_loop (λy=>dotLt y x) (f:=burF L x) (λA i y g a=>?_) (λA=>?_) L.length 0 (by omega) (tK _)
 ·have d:i < L.length:=(uc.1 a).1;have hd:decide ((i:Int) < (L.length:Int))=true:=uE (by omega);have c:L.getD i default=y:=by simp [ur,a]
  have b:yu L (i:Int)=some y:=by simp [yu,a]
  simp only [burF,hd];rw [zj (by intro _;omega)];simp only [u2,ut,uB,c,ref03Less_is,ua,uX];cases ha:dotLt y x with
  | true=>simp only [ut];rw [b,ua,zj (by simp [yK];omega),vA (by omega)]
  | false=>rfl
 ·have hd:decide ((L.length:Int) < (L.length:Int))=false:=uS (by omega);simp only [burF,hd];rw [zj (by simp)];simp
theorem refBury_is {L:List GF} (c:L.length<=16777215) (x:GF):ref05Bury L x=some (burP L x):=by
 unfold ref05Bury;rw [vS,ua];unfold burP;cases h:L.any λy=>decide (y=x) with
 | true=>simp only [ut]
 | false =>
  simp only [ul,uG];have a:=bury_loop (L:=L) (by omega) x;unfold burF at a;have b:=tw_le (λy=>dotLt y x) L;have d:=tw_add (λy=>dotLt y x) L;rw [a];simp only [lp];rw [zj (by simp [yK];omega),slcT _ _ b,ua,drop_tw,zj (by simp [yK];omega)];simp

theorem sortO_le {α:Type} {c:α->α->Option Int} {cf:α->α->Int} {lt:α->α->Prop} {L R:List α} (v:∀x ∈ L,∀y ∈ L,c x y=some (cf x y)) (q:∀x y,cf x y < 0 ↔ lt x y) (k:∀x,¬ lt x x) (t:∀x y z,lt x y->lt y z->lt x z)
  (l:∀x ∈ L,∀y ∈ L,x=y \/ lt x y \/ lt y x) (m:R.Perm L) (hs:R.Pairwise λa b=>¬ lt b a) (w:L.length<=yK):sortO c L=some R:=by
 unfold sortO;rw [up (λx d y f=>by rw [v x d y f];rfl)];have hd:∀x ∈ L,∀y ∈ L,(c x y).getD 0 < 0 ↔ lt x y:=λx d y f=>by rw [v x d y f];exact q x y
 have r:∀x y,lt x y->¬ lt y x:=λx y i g=>k x (t _ _ _ i g);have u:R.Pairwise λa b=>¬ (c b a).getD 0 < 0:=by
  have:R.Pairwise λa b=>a ∈ L/\b ∈ L/\¬ lt b a:=by
   refine pX ?_ hs;intro a b s o h;exact ⟨m.subset s,m.subset o,h⟩
  refine this.imp ?_
  rintro a b ⟨s,o,h⟩ g
  exact h ((hd b o a s).1 g)
 refine sortF_of ⟨λx d h=>k x ((hd x d x d).1 h),λx y z d f j i g=>(hd x d z j).2 (t _ _ _ ((hd x d y f).1 i) ((hd y f z j).1 g)),λx y z d f j i g n=>?_⟩ w ⟨m,u⟩ ?_
 ·have n:=(hd x d z j).1 n;rcases l x d y f with rfl | h | h
  ·exact g ((hd _ f z j).2 n)
  ·exact i ((hd x d y f).2 h)
  ·exact g ((hd y f z j).2 (t _ _ _ h n))
 ·rintro M ⟨p,A⟩
  refine sorted_one (p.trans m.symm) A u λx y d f i g=>?_;have d:=p.subset d;have f:=p.subset f;rcases l x d y f with e | h | h
  ·exact e
  ·exact (i ((hd x d y f).2 h)).elim
  ·exact (g ((hd y f x d).2 h)).elim
theorem dotCmp_iff (a b:GF):dotCmp a b < 0 ↔ dotLt a b=true:=by rw [<- dotCmp_neg];simp
def srt (L:List GF):List GF:=L.mergeSort λa b=>!dotLt b a
theorem srt_pw (L:List GF):(srt L).Pairwise λa b=>¬ dotLt b a=true:=by
 have:=List.pairwise_mergeSort (le:=λa b=>!dotLt b a) (λa b c f d=>by
  simp only [tv] at *;cases h:dotLt c a with
  | false=>rfl
  | true =>
   rcases dlt_tot a b with rfl | e | e
   ·rw [d] at h;cases h
   ·rw [dlt_tr h e] at d;cases d
   ·rw [f] at e;cases e) (λa b=>by
  cases h:dotLt b a with
  | false=>rfl
  | true =>
   cases d:dotLt a b with
   | false=>rfl
   | true=>have:=dlt_tr h d;rw [dlt_irr] at this;cases this) L
 refine this.imp λ{a b} h=>?_;simpa using h
theorem srt_perm (L:List GF):(srt L).Perm L:=List.mergeSort_perm ..
theorem sortDots_is {L:List GF} (c:L.length<=yK):sortO (λx y=>vf x y) L=some (srt L) :=
 sortO_le (cf:=dotCmp) (lt:=λa b=>dotLt a b=true) (λx _ y _=>dotCompare_is x y) dotCmp_iff (λx=>by simp [dlt_irr]) (λ_ _ _=>dlt_tr) (λx _ y _=>dlt_tot x y) (srt_perm L) (srt_pw L) c
theorem bur_mem (L:List GF) (d x:GF):x ∈ burP L d ↔ x=d \/ x ∈ L:=by
 unfold burP;split
 ·rename_i h;rw [rP] at h;obtain ⟨y,a,e⟩:=h;have e:=tm e;subst e;constructor
  ·exact .inr
  ·rintro (rfl | h)
   ·exact a
   ·exact h
 ·have h:x ∈ L ↔ x ∈ L.takeWhile (λy=>dotLt y d) \/ x ∈ L.dropWhile (λy=>dotLt y d):=by
   rw [<- uR,tQ]
  rw [h];simp only [uR,uL];constructor
  ·rintro (h | h | h)
   ·exact .inr (.inl h)
   ·exact .inl h
   ·exact .inr (.inr h)
  ·rintro (h | h | h)
   ·exact .inr (.inl h)
   ·exact .inl h
   ·exact .inr (.inr h)
theorem dw_not {α:Type} {lt:α->α->Bool} (f:∀a b c,lt a b=true->lt b c=true->lt a c=true) (x:α) {L:List α} (hs:L.Pairwise (λa b=>lt a b=true)):∀y ∈ L.dropWhile (λy=>lt y x),lt y x=false:=by
 intro y d;rw [<- drop_tw] at d;obtain ⟨j,e⟩:=tj.1 d;rw [uF] at e;have:=ahead_pre f x L hs _ y e;cases h:lt y x with
 | false=>rfl
 | true=>have:=this.1 h;omega
theorem ins_pw {α:Type} {lt:α->α->Bool} (n:∀a b c,lt a b=true->lt b c=true->lt a c=true) {x:α} {L:List α} (hs:L.Pairwise (λa b=>lt a b=true)) (k:∀y ∈ L,lt y x=true \/ lt x y=true):(L.takeWhile (λy=>lt y x)++([x]++L.dropWhile λy=>lt y x)).Pairwise λa b=>lt a b=true:=by
 have f:=hs;rw [<- tQ (p:=λy=>lt y x) (l:=L)] at f;obtain ⟨m,i,j⟩:=tR.1 f;have hd:∀y ∈ L.dropWhile (λy=>lt y x),lt x y=true:=λy g=>by
  rcases k y (og _ |>.subset g) with h | h
  ·rw [dw_not n x hs y g] at h;cases h
  ·exact h
 refine tR.2 ⟨m,tR.2 ⟨by simp,i,λa e b d=>?_⟩,λa e b d=>?_⟩
 ·rw [uL] at e;subst e;exact hd b d
 ·rcases uR.1 d with d | d
  ·rw [uL] at d;subst d;exact tw_all (λy=>lt y b) _ _ e
  ·exact j a e b d
theorem bur_pw {L:List GF} (d:GF) (h:L.Pairwise λa b=>dotLt a b=true):(burP L d).Pairwise λa b=>dotLt a b=true:=by
 unfold burP;split
 ·exact h
 ·rename_i e;refine ins_pw (lt:=dotLt) (λ_ _ _=>dlt_tr) h λy f=>?_;rcases dlt_tot y d with rfl | c | c
  ·exfalso;apply e;rw [rP];exact ⟨y,f,by simp⟩
  ·exact .inl c
  ·exact .inr c
theorem bur_len (L:List GF) (d:GF):(burP L d).length<=L.length+1:=by
 unfold burP;split
 ·omega
 ·have:=tw_add (λy=>dotLt y d) L;simp;omega
def burs (L ds:List GF):List GF:=ds.foldl burP L
theorem burs_mem:∀(ds L:List GF) (x:GF),x ∈ burs L ds ↔ x ∈ ds \/ x ∈ L
 | [],L,x=>by simp [burs]
 | d::ds,L,x=>by
  have:=burs_mem ds (burP L d) x;simp only [burs,sI] at this ⊢;rw [this,bur_mem];simp only [uD];constructor
  ·rintro (h | h | h)
   ·exact .inl (.inr h)
   ·exact .inl (.inl h)
   ·exact .inr h
  ·rintro ((h | h) | h)
   ·exact .inr (.inl h)
   ·exact .inl h
   ·exact .inr (.inr h)
theorem burs_pw:∀(ds:List GF) {L:List GF},L.Pairwise (λa b=>dotLt a b=true)->(burs L ds).Pairwise λa b=>dotLt a b=true
 | [],_,h=>h
 | d::ds,_,h=>burs_pw ds (bur_pw d h)
theorem burs_len:∀(ds L:List GF),(burs L ds).length<=L.length+ds.length
 | [],L=>by simp [burs]
 | d::ds,L=>by
  have a:=burs_len ds (burP L d);have b:=bur_len L d;simp only [burs,sI,uk] at a ⊢;omega
theorem burs_eq {L ds:List GF} (h:L.Pairwise λa b=>dotLt a b=true):dd (srt (L++ds))=burs L ds:=by
 refine strict_ext (lt:=λa b=>dotLt a b=true) (λa=>by simp [dlt_irr]) (λ_ _ _=>dlt_tr) _ _ (dd_strict (lt:=λa b=>dotLt a b=true) (λa b c=>?_) (λ_ _ _=>dlt_tr) _ (srt_pw _)) (burs_pw ds h) λx=>?_
 ·rcases dlt_tot a b with e | e | e
  ·exact .inl e
  ·exact .inr e
  ·exact (c e).elim
 ·rw [dd_mem,(srt_perm _).mem_iff,burs_mem,uR];exact Or.comm
theorem layC_is (a b:GH):∃v,yW a b=some v/\(v < 0 ↔ aheadI a b=true):=by
 have h:=leafAhead_is a.time a.dot b.time b.dot;unfold leafAhead at h;unfold yW;cases hc:vY a.time a.dot b.time b.dot with
 | none=>rw [hc] at h;cases h
 | some v =>
  rw [hc] at h;simp only [ua,un] at h;refine ⟨v,rfl,?_⟩;have:aheadI a b=decide (v < 0):=h.symm;rw [this];simp
theorem searchI {L:List GH} (j:L.length<=1048576) (hs:L.Pairwise λa b=>aheadI a b=true) (x:GH):∃b,zT L x (λk g=>yW k g)=some (((L.takeWhile λy=>aheadI y x).length:Int),b):=by
 have l:=tw_le (λy=>aheadI y x) L;have m:∀i n,L[i]?=some n->∃v,yW n x=some v/\(i < (L.takeWhile λy=>aheadI y x).length->v < 0)/\((L.takeWhile λy=>aheadI y x).length<=i->0<=v):=λi n hi=>by
  obtain ⟨v,e,d⟩:=layC_is n x;have f:=ahead_pre (lt:=aheadI) (λ_ _ _=>ilt_tr) x L hs i n hi;refine ⟨v,e,λh=>d.2 (f.2 h),λh=>?_⟩;rcases Int.lt_or_le v 0 with c | c
  ·have:=f.1 (d.1 c);omega
  ·exact c
 rw [bsI_is j l m];by_cases h:(L.takeWhile λy=>aheadI y x).length < L.length
 ·rw [up h];obtain ⟨v,e,_⟩:=layC_is (L.getD (L.takeWhile λy=>aheadI y x).length default) x;rw [e];exact ⟨_,rfl⟩
 ·rw [uu h];exact ⟨_,rfl⟩
theorem insO_is {L:List GH} (b:L.length<=1048576) (x:GH) {n:Nat} (a:n<=L.length):insO L (n:Int) [x]=some (L.take n++([x]++L.drop n)):=by
 unfold insO;rw [up ⟨⟨by omega,by omega⟩,by simp,by simp [yK];omega⟩,uB]
theorem progLay_is {L:List GH} (f:L.length<=1048576) (hs:L.Pairwise λa b=>aheadI a b=true) (x:GH) :
  ((leafXhas L x.dot).bind λc=>(if c=true then some L else ((zT L x (λi g=>yW i g)).bind λd=>((insO L d.1 ([x]:List GH)).bind λv39=>some v39))))=some (layP L x):=by
 rw [leafXhas_is,ua];unfold layP;cases h:L.any λy=>decide (y.dot=x.dot) with
 | true=>rfl
 | false =>
  simp only [ul,uG];obtain ⟨b,e⟩:=searchI f hs x;rw [e,ua,insO_is f x (tw_le _ _),ua,take_tw,drop_tw]
theorem containsDot_is (L:List GF) (d:GF):xV L d=some (L.any λy=>decide (y=d)):=by
 unfold xV qU;have:=first_loop (α:=GF) (f:=λx=>some (decide (x=d))) (q:=λx=>decide (x=d)) L (λ_ _=>rfl);have e:∀(b:Nat) (a:GF),(if (d.actor.rep==a.actor.rep&&(d.actor.inc==a.actor.inc&&(d.seq==a.seq&&true)))=true then some (.ret (b:Int)) else some (.nxt ()):Option (Out Int Unit))=((some (decide (a=d)):Option Bool).bind λv=>if v=true then some (.ret (b:Int)) else some (.nxt ())):=λb a=>by
  rw [dotEq,ua];have:decide (d=a)=decide (a=d):=rB.2 eq_comm;rw [this]
 simp only [e];rw [this,ua,firstI_pos]
theorem dropC_is (x:GH) (e:GJ):wp x e=some (e.op.dots.any λy=>decide (y=x.dot)):=by
 unfold wp;rw [containsDot_is];rfl

def xA (l:GC) (e:GJ):GC :=
 if e.op.kind=1 then { l with n:=IntKind.wrap .i64 (l.n+e.op.n) }
 else if e.op.kind=2 then (if (decide (l.time=0) || (if l.time ≠ e.time then decide (l.time < e.time) else dotLt l.dot e.dot))=true then { l with time:=e.time,dot:=e.dot,text:=e.op.text } else l)
 else if e.op.kind=3 then (if (l.tombs.any λy=>decide (y=e.dot))=true then l else { l with items:=layP l.items ⟨0,e.dot,e.op.text⟩ })
 else if e.op.kind=4 then { l with items:=l.items.filter (λx=>!(e.op.dots.any λy=>decide (y=x.dot))),tombs:=burs l.tombs e.op.dots }
 else { l with items:=layP l.items ⟨e.time,e.dot,e.op.text⟩ }
def zeroLf:GC:=GC.mk (0:Int) (0:Int) (0:Int) (GF.mk (GK.mk (0:Int) (0:Int)) (0:Int)) ([]:zy) ([]:List GH) ([]:List GF)
def applyW (l:GC) (e:GJ):GC×Int:=if (!leafB l || !ww e)=true then (zeroLf,2) else if vi e.op.kind ≠ l.typ then (zeroLf,15) else (xA l e,0)
theorem riseB_of {l:GC} (h:leafB l=true):l.items.Pairwise λa b=>aheadI a b=true:=by
 unfold leafB at h;split at h
 ·simp only [ud,um] at h;rw [h.1.2];exact .nil
 ·split at h
  ·simp only [ud,um] at h;rw [h.1.1.2];exact .nil
  ·split at h
   ·simp only [ud] at h;exact rise_pw h.1.2.1.2
   ·split at h
    ·simp only [ud] at h;exact rise_pw h.2.1.2
    ·cases h
theorem tombs_of {l:GC} (h:leafB l=true):l.tombs.Pairwise λa b=>dotLt a b=true:=by
 unfold leafB at h;split at h
 ·simp only [ud,um] at h;rw [h.2];exact .nil
 ·split at h
  ·simp only [ud,um] at h;rw [h.1.2];exact .nil
  ·split at h
   ·simp only [ud,tombsB] at h;exact rising_pw h.2.1.2
   ·split at h
    ·simp only [ud,um] at h;rw [h.1.2];exact .nil
    ·cases h
theorem apart_of_leaf {l:GC} (h:leafB l=true):∀x ∈ l.items,∀d ∈ l.tombs,d ≠ x.dot:=by
 intro x a d hd;unfold leafB at h;split at h
 ·simp only [ud,um] at h;rw [h.2] at hd;simp at hd
 ·split at h
  ·simp only [ud,um] at h;rw [h.1.2] at hd;simp at hd
  ·split at h
   ·simp only [ud,tombsB] at h;have:=ux.1 h.2.2 d hd
    rintro rfl
    simp only [tv,sm,um] at this;exact this x a rfl
   ·split at h
    ·simp only [ud,um] at h;rw [h.1.2] at hd;simp at hd
    ·cases h
theorem kind_of {e:GJ} (h:ww e=true):1<=e.op.kind/\e.op.kind<=5:=by
 simp only [ww,opB,ud,um] at h;exact ⟨h.2.1.1.1.1.1,h.2.1.1.1.1.2⟩
theorem dots_of {e:GJ} (h:ww e=true):e.op.dots.length<=64:=by
 simp only [ww,opB,ud,um] at h;exact h.2.1.2
theorem leafApply_is {l:GC} (e:GJ) (hi:l.items.length<=1048576) (f:l.tombs.length<=1048576):leafApply l e=some (applyW l e):=by
 unfold leafApply applyW;rw [leafMay_is (by unfold maxLen;omega) (by unfold maxLen;omega),ua];cases hl:leafB l with
 | false=>simp [zeroLf]
 | true =>
  simp only [tg,tr,u2,ut,opMayEvent_is,ua];cases he:ww e with
  | false=>simp [zeroLf]
  | true =>
   simp only [tg,ul,uG,opType_is,ua];by_cases hk:vi e.op.kind=l.typ
   ·rw [uu (show ¬ (vi e.op.kind != l.typ)=true by simp [hk]),uu (show ¬ vi e.op.kind ≠ l.typ by simp [hk])];rw [cloneItem_is (by unfold yK;omega),ua,cloneDot_is (by unfold yK;omega),ua];unfold xA;by_cases h1:e.op.kind=1
    ·simp only [h1,ut,ua]
    simp only [h1,uG];by_cases h2:e.op.kind=2
    ·simp only [h2,ut,leafAhead_is,ua];have d:(l.time==(0:Int))=decide (l.time=0):=by rw [uJ];simp
     rw [d];cases h0:decide (l.time=0) with
     | true=>simp
     | false =>
      simp only [u2,ut,ua,tr];generalize (if l.time ≠ e.time then decide (l.time < e.time) else dotLt l.dot e.dot)=b;cases b <;> rfl
    simp only [h2,uG];by_cases h3:e.op.kind=3
    ·simp only [h3,ut,containsDot_is,ua];have:=progLay_is hi (riseB_of hl) ⟨0,e.dot,e.op.text⟩;simp only at this;rw [this];cases l.tombs.any (λy=>decide (y=e.dot)) <;> rfl
    simp only [h3,uG];have hd:=dots_of he;by_cases h4:e.op.kind=4
    ·simp only [h4,ut];rw [zj (by unfold yK;omega),sortDots_is (by simp [yK];omega),ua,compact_is (by rw [(srt_perm _).length_eq];simp;omega),ua,
      deleteI_is (q:=λx=>e.op.dots.any λy=>decide (y=x.dot)) (by omega) (λx _=>dropC_is x e),ua,burs_eq (tombs_of hl)]
     rfl
    simp only [h4,uG];have c:e.op.kind=5:=by have:=kind_of he;omega
    simp only [c,ut];have:=progLay_is hi (riseB_of hl) ⟨e.time,e.dot,e.op.text⟩;simp only at this;rw [this];rfl
   ·have a:(vi e.op.kind != l.typ)=true:=by simp [hk]
    simp only [a,ut,hk,oA,pi,ul,uG,zeroLf]
theorem refTombs_fold:∀(ds L:List GF) (n:Nat),L.length+ds.length<=16777215->zq (λ(e:Nat) (b:GF) (s1:(List GF))=>(((ref05Bury s1 b).bind λa=>some (.nxt a)):Option (Out (GC×Int) (List GF)))) ds n L=some (.inr (burs L ds))
 | [],L,n,_=>rfl
 | d::ds,L,n,h=>by
  simp only [uk] at h;have c:=bur_len L d;simp only [zq];rw [refBury_is (by omega),ua];exact refTombs_fold ds (burP L d) (n+1) (by omega)
theorem refLeft_is (L:List GH) (T:List GF) (c:L.length<=16777215):ref05Left L T=some (L.filter λx=>!(T.any λy=>decide (y=x.dot))):=by
 unfold ref05Left;have:∀(L s:List GH) (n:Nat),s.length+L.length<=16777215->zq (λ(d:Nat) (b:GH) (s1:(List GH))=>(((vT T b.dot).bind λa=>(if (!a)=true then (yf ((s1).length+(([b]:List GH)).length<=yK) (some (.nxt (s1++([b]:List GH))))) else some (.nxt s1))):Option (Out (List GH) (List GH)))) L n s=some (.inr (s++L.filter λx=>!(T.any λy=>decide (y=x.dot)))):=by
  intro L
  induction L with
  | nil=>intro s n _;simp [zq]
  | cons x r ih =>
   intro s n h;simp only [uk] at h;simp only [zq,vS,ua];cases hx:T.any λy=>decide (y=x.dot) with
   | true =>
    simp only [tg,ul,uG];rw [tL,uu (by simp [hx])];have:=ih s (n+1) (by omega);simp only [vS,ua] at this;exact this
   | false =>
    simp only [sR,ut];rw [zj (by simp [yK];omega),tL,up (by simp [hx])];have:=ih (s++[x]) (n+1) (by simp;omega);simp only [vS,ua,uy,List.singleton_append] at this;exact this
 rw [this L [] 0 (by simpa using c)];rfl
theorem refApply_is {l:GC} (e:GJ) (hi:l.items.length<=1048576) (n:l.tombs.length<=1048576) (h0:0<=l.time):ref05Apply l e=some (applyW l e):=by
 unfold ref05Apply applyW;rw [ref05May_is (by unfold maxLen;omega) (by unfold maxLen;omega) h0,ua];cases hl:leafB l with
 | false=>simp [zeroLf]
 | true =>
  simp only [tg,tr,u2,ut,vU,ua];cases he:ww e with
  | false=>simp [zeroLf]
  | true =>
   simp only [tg,ul,uG,ref04Type_is,ua];by_cases hk:vi e.op.kind=l.typ
   ·rw [uu (show ¬ (vi e.op.kind != l.typ)=true by simp [hk]),uu (show ¬ vi e.op.kind ≠ l.typ by simp [hk])];unfold xA;by_cases h1:e.op.kind=1
    ·simp only [h1,u2,ut]
    have m:(e.op.kind==(1:Int))=false:=by simp [h1]
    simp only [h1,m,ul,uG];by_cases h2:e.op.kind=2
    ·simp only [h2,u2,ut,ref05Ahead_is,ua];have i:(l.time==(0:Int))=decide (l.time=0):=by rw [uJ];simp
     rw [i];cases h0:decide (l.time=0) with
     | true=>simp
     | false =>
      simp only [u2,ut,ua,tr];generalize (if l.time ≠ e.time then decide (l.time < e.time) else dotLt l.dot e.dot)=b;cases b <;> rfl
    have n2:(e.op.kind==(2:Int))=false:=by simp [h2]
    simp only [h2,n2,ul,uG];by_cases a:e.op.kind=3
    ·simp only [a,u2,ut,vS,ua];cases l.tombs.any (λy=>decide (y=e.dot)) with
     | true=>rfl
     | false=>simp only [sR,ut,ul,uG];rw [refLay_is (by omega)];rfl
    have g:(e.op.kind==(3:Int))=false:=by simp [a]
    simp only [a,g,ul,uG];have hd:=dots_of he;by_cases h4:e.op.kind=4
    ·simp only [h4,u2,ut];rw [refTombs_fold _ _ _ (by omega)];simp only [lp];rw [refLeft_is _ _ (by omega),ua];congr 3;refine pm λx j=>?_;congr 1;rw [uJ,rP,rP];constructor
     ·rintro ⟨d,hd,h⟩
      have h:=tm h;rcases (burs_mem _ _ _).1 hd with a | a
      ·exact ⟨d,a,by simp [h]⟩
      ·exact (apart_of_leaf hl x j d a h).elim
     ·rintro ⟨d,hd,h⟩
      exact ⟨d,(burs_mem _ _ _).2 (.inl hd),h⟩
    have k:(e.op.kind==(4:Int))=false:=by simp [h4]
    simp only [h4,k,ul,uG];have f:e.op.kind=5:=by have:=kind_of he;omega
    simp only [f,u2,ut];rw [refLay_is (by omega)];rfl
   ·have c:(vi e.op.kind != l.typ)=true:=by simp [hk]
    simp only [c,ut,hk,oA,pi,ul,uG,zeroLf]

end Go.Vv
