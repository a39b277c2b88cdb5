/- Plain laws, as far as they are leaned on. -/
import Derived.Test.YtonoilllklmacaaGreatD
import Derived.Test.YtonoilllklmacaaGreatVvY
set_option linter.all false
namespace Go.Vv
open Go
variable {i c n d:Nat} {b:UInt8} {σ:Type} {L:List GF} {f there:Bool} {q:GF->Bool} {l x:GC} {a:GE} {ls L0 A B:List GC} {ds:List GE} {del:GC->Option Bool} {k:Int} {cmp:GF->GF->Option Int} {e:GH} {y:GF}
structure GK where
 path:(List zx)
 leaf:GC
 deriving DecidableEq,Inhabited
structure GN where
 path:(List zx)
 typ:Int
 had:Bool
 has:Bool
 was:GC
 is:GC
 deriving DecidableEq,Inhabited
def GK.wf (x:GK):Prop:=(x.path.length<=maxLen/\∀y ∈ x.path,y.length<=maxLen)/\(GC.wf x.leaf)
def GN.wf (x:GN):Prop:=(x.path.length<=maxLen/\∀y ∈ x.path,y.length<=maxLen)/\(InK .u8 x.typ)/\(True)/\(True)/\(GC.wf x.was)/\(GC.wf x.is)
def GK.bk (x:GK):Nat:=(((x.path.map (λs=>s.length+1)).sum+1)+(GC.bk x.leaf+0))+1
def GN.bk (x:GN):Nat:=(((x.path.map (λs=>s.length+1)).sum+1)+(1+(1+(1+(GC.bk x.was+(GC.bk x.is+0))))))+1
noncomputable def xO (n0:GA) (name1:zx):Option Int :=
 ((stringsCompare n0.name name1).bind λv1=>some v1)
noncomputable def ww (s0:(List GC)) (del1:(GC->Option Bool)):Option (List GC) :=
 ((yw s0 del1).bind λv1=>(if (v1==(-1:Int))=true then some s0 else (lp (yI (λ(s1:Int×Int×(List GC))=>((yM ((s1.2.2).length=s0.length) ((if (decide (s1.2.1 < ((s0.length:Nat):Int)))=true then ((yB s1.2.2 s1.2.1).bind λy14=>((del1 y14).bind λv15=>(if (!v15)=true then ((yB s1.2.2 s1.1).bind λy17=>some (.nxt ((IntKind.wrap .i64 (s1.1+(1:Int))),(IntKind.wrap .i64 (s1.2.1+(1:Int))),(s1.2.2.set s1.1.toNat y14)))) else some (.nxt (s1.1,(IntKind.wrap .i64 (s1.2.1+(1:Int))),s1.2.2))))) else some (.brk (s1.1,s1.2.1,s1.2.2))))):Option (Out _ (Int×Int×(List GC))))) (v1,(IntKind.wrap .i64 (v1+(1:Int))),s0)) λ(s1:Int×Int×(List GC))=>(yM (0<=s1.1/\s1.1<=((s0.length:Nat):Int)) (((slc (s1.2.2.take s1.1.toNat++List.replicate (s0.length - s1.1.toNat) zLf) (0:Int) s1.1).bind λm19=>some m19))))))
noncomputable def diffXlayC2 (x0:GC) (c0:Int):Option Bool :=
 some (x0.typ==c0)
noncomputable def diffXown (l0:GC):Option GC :=
 ((yC l0.items).bind λv1=>((yW l0.tombs).bind λv2=>some (GC.mk l0.typ l0.n l0.time l0.dot l0.text v1 v2)))
noncomputable def diffXlayC3 (x0:GC) (y1:GC):Option Int :=
 ((x8 x0.typ y1.typ).bind λv1=>some v1)
noncomputable def xZ:Nat->(t0:(List GA))->(path1:(List zx))->(kind2:Int)->(l3:GC)->(there4:Bool)->Option (List GA)
 | 0,_,_,_,_,_=>none
 | n+1,t0,path1,kind2,l3,there4=>((yB path1 (0:Int)).bind λy1=>((zq t0 y1 (λx0 x1=>xO x0 x1)).bind λv2=>((yB path1 (0:Int)).bind λy3=>(lp ((if v2.2=true then ((yB t0 v2.1).bind λy7=>some (.inr (y7.name,y7.leaves,y7.subs))) else some (.inr (y3,([]:List GC),([]:List GA)))):Option (_ ⊕ (zx×(List GC)×(List GA)))) λ(s1:zx×(List GC)×(List GA))=>(lp ((if (decide (((path1).length:Int) > (1:Int)))=true then ((slc path1 (1:Int) ((path1).length:Int)).bind λm20=>((xZ n s1.2.2 m20 kind2 l3 there4).bind λv21=>some (.inr (s1.2.1,v21)))) else ((xC s1.2.1).bind λv22=>((ww v22 (λx0=>diffXlayC2 x0 kind2)).bind λv23=>(if there4=true then ((diffXown l3).bind λv25=>(yM ((v23).length+(([v25]:List GC)).length<=lim) (((sortO (λx y=>diffXlayC3 x y) (v23++([v25]:List GC))).bind λv27=>some (.inr (v27,s1.2.2)))))) else some (.inr (v23,s1.2.2)))))):Option (_ ⊕ ((List GC)×(List GA)))) λ(s2:(List GC)×(List GA))=>((slc t0 (0:Int) v2.1).bind λm28=>((xc m28).bind λv29=>(if (decide ((IntKind.wrap .i64 (((s2.1).length:Int)+((s2.2).length:Int))) > (0:Int)))=true then (yM ((v29).length+(([(GA.mk s1.1 s2.1 s2.2)]:List GA)).length<=lim) ((if v2.2=true then ((slc t0 (IntKind.wrap .i64 (v2.1+(1:Int))) ((t0).length:Int)).bind λm35=>(yM (((v29++([(GA.mk s1.1 s2.1 s2.2)]:List GA))).length+(m35).length<=lim) (some ((v29++([(GA.mk s1.1 s2.1 s2.2)]:List GA))++m35)))) else ((slc t0 v2.1 ((t0).length:Int)).bind λm37=>(yM (((v29++([(GA.mk s1.1 s2.1 s2.2)]:List GA))).length+(m37).length<=lim) (some ((v29++([(GA.mk s1.1 s2.1 s2.2)]:List GA))++m37))))))) else (if v2.2=true then ((slc t0 (IntKind.wrap .i64 (v2.1+(1:Int))) ((t0).length:Int)).bind λm40=>(yM ((v29).length+(m40).length<=lim) (some (v29++m40)))) else ((slc t0 v2.1 ((t0).length:Int)).bind λm42=>(yM ((v29).length+(m42).length<=lim) (some (v29++m42)))))))))))))
noncomputable def diffXlay (t0:(List GA)) (path1:(List zx)) (kind2:Int) (l3:GC) (there4:Bool):Option (List GA):=anyN λn=>xZ n t0 path1 kind2 l3 there4
def alnum (b:UInt8):Bool:=(decide (97<=b.toNat)&&decide (b.toNat<=122)) || (decide (65<=b.toNat)&&decide (b.toNat<=90)) || (decide (48<=b.toNat)&&decide (b.toNat<=57))
def other (r:Int):Bool:=!((decide (97<=r)&&decide (r<=122)) || (decide (65<=r)&&decide (r<=90)) || (decide (48<=r)&&decide (r<=57)))
def runeIdx (q:Int->Bool) (s:List UInt8) (i:Nat):Int :=
 if h:i < s.length then (if q (dec s i).1 then i else if (dec s i).2=0 then -1 else runeIdx q s (i+(dec s i).2)) else -1
termination_by s.length - i
decreasing_by omega
theorem dec_width (s:List UInt8) (i:Nat) (h:i < s.length):1<=(dec s i).2:=by
 have hs:i < (⟨s.toArray⟩:ByteArray).size:=by simpa [ByteArray.size] using h
 by_cases ha:((⟨s.toArray⟩:ByteArray)[i]'hs).toNat < 128
 ·unfold dec;rw [decode_ascii _ i hs ha];exact ug _
 ·exact (decode_high _ i hs (by omega)).2
theorem dec_low {s:List UInt8} (j:s[i]?=some b) (h:b.toNat < 128):dec s i=(b.toNat,1):=by
 have g:i < s.length:=(uc.1 j).1;have hs:i < (⟨s.toArray⟩:ByteArray).size:=by simpa [ByteArray.size] using g
 have e:((⟨s.toArray⟩:ByteArray)[i]'hs)=b:=by
  have m:((⟨s.toArray⟩:ByteArray)[i]'hs)=s[i]:=rfl
  simp_all
 unfold dec;rw [decode_ascii _ i hs (by simp_all),e]
theorem dec_hi {s:List UInt8} (j:s[i]?=some b) (h:128<=b.toNat):128<=(dec s i).1:=by
 have g:i < s.length:=(uc.1 j).1;have hs:i < (⟨s.toArray⟩:ByteArray).size:=by simpa [ByteArray.size] using g
 have e:((⟨s.toArray⟩:ByteArray)[i]'hs)=b:=by
  have m:((⟨s.toArray⟩:ByteArray)[i]'hs)=s[i]:=rfl
  simp_all
 exact (decode_high _ i hs (by simp_all)).1
theorem other_alnum:other (b.toNat:Int)=!alnum b:=by
 unfold other alnum;congr 1
 grind
theorem rune_all {s:List UInt8} (h:s.all alnum=true):∀(n i:Nat),s.length - i=n->runeIdx other s i=-1
 | n,i,hn=>by
  rw [runeIdx.eq_def];by_cases hi:i < s.length
  ·rw [pR hi];have m:s[i]?=some s[i]:=uh hi;have j:alnum s[i]=true:=by simp_all
   have g:s[i].toNat < 128:=by
    unfold alnum at j
    grind
   rw [dec_low m g];simp only [other_alnum,j,tR,um,uJ,Nat.one_ne_zero];exact rune_all h (s.length - (i+1)) (i+1) rfl
  ·grind
 termination_by n=>n
 decreasing_by omega
theorem rune_some {s:List UInt8} {k:Nat} {b:UInt8} (h:s[k]?=some b) (m:alnum b=false):∀(n i:Nat),k - i=n->i<=k->0<=runeIdx other s i
 | n,i,hn,hik=>by
  have o:k < s.length:=(uc.1 h).1;have hi:i < s.length:=by omega
  rw [runeIdx.eq_def,pR hi];by_cases ho:other ((dec s i).1:Nat)=true
  ·simp_all
  ·rw [uM ho];have hc:s[i]?=some s[i]:=uh hi;have g:s[i].toNat < 128:=by
    refine Decidable.byContradiction λhh=>ho ?_;have:=dec_hi hc (by omega);unfold other;simp;omega
   rw [dec_low hc g] at ho ⊢;rw [other_alnum] at ho;have j:i ≠ k:=by
    grind
   simp only [Nat.one_ne_zero,uJ];exact rune_some h m (k - (i+1)) (i+1) rfl (by omega)
 termination_by n=>n
 decreasing_by omega

def nameB (s:zx):Bool:=decide (1<=s.length)&&decide (s.length<=12)&&s.all alnum
def pathB (p:List zx):Bool:=decide (1<=p.length)&&decide (p.length<=3)&&p.all nameB
theorem bnd1 (n:Nat):decide ((n:Int) >= 1)=decide (1<=n):=rT.2 (by omega)
theorem bnd12 (n:Nat):decide ((n:Int)<=12)=decide (n<=12):=rT.2 (by omega)
theorem bnd3 (n:Nat):decide ((n:Int)<=3)=decide (n<=3):=rT.2 (by omega)
theorem ref04IsName_is (s:zx):ref04IsName s=some (nameB s):=by
 unfold ref04IsName nameB;rw [loopL_all alnum false]
 ·split
  ·grind
  ·rename_i h;simp only [tC,uk] at h;have j:1<=s.length:=by omega
   have g:s.length<=12:=by omega
   cases ha:s.all alnum <;> simp [j,g]
 ·intro i x _;unfold alnum
  grind
theorem rune_loop (q:Int->Bool) (s:zx) {f:Nat->Option (Out Int Nat)} (g:∀i,f i=if i < s.length then (if q (dec s i).1=true then some (.ret (i:Int)) else some (.nxt (i+(dec s i).2))) else some (.brk i)) :
  ∀(k i:Nat),s.length - i=k->lp (yI f i) (λ_=>some (-1:Int))=some (runeIdx q s i)
 | k,i,hk=>by
  rw [yS,runeIdx.eq_def,g];by_cases h:i < s.length
  ·have j:=dec_width s i h;rw [uz h,pR h];by_cases hq:q (dec s i).1=true
   ·simp [hq]
   ·have h0:¬ (dec s i).2=0:=by omega
    simp only [uM hq,uM h0];exact rune_loop q s g (s.length - (i+(dec s i).2)) _ rfl
  ·rw [uM h,dif_neg h];rfl
 termination_by k=>k
 decreasing_by omega
theorem stringsContains_other (s:zx):wc s (λx=>opIsNameC1 x)=some (!s.all alnum):=by
 have e:(λx=>opIsNameC1 x)=λx=>some (other x):=by
  funext x;unfold opIsNameC1 other;congr 1
  grind
 unfold wc vR vp;rw [e,rune_loop other s (λi=>by simp) _ 0 rfl];simp only [ua];congr 1;cases h:s.all alnum with
 | true=>rw [rune_all h _ 0 rfl];rfl
 | false =>
  rw [List.all_eq_false] at h;obtain ⟨b,j,m⟩:=h;obtain ⟨k,g,rfl⟩:=pd j;have:=rune_some (uh g) (by simp_all) _ 0 rfl (tD _);simp [this]
theorem opIsName_is (s:zx):opIsName s=some (nameB s):=by
 unfold opIsName nameB;rw [stringsContains_other,bnd1,bnd12];cases h1:decide (1<=s.length) <;> cases h2:decide (s.length<=12) <;> simp
theorem contains_is {f:zx->Option Bool} {q:zx->Bool} (p:List zx) (g:∀x ∈ p,f x=some (q x)):xg p f=some (p.any q):=by
 unfold xg wv;rw [first_loop p g];simp only [ua,firstI_any]
theorem opMayPath_is (p:List zx):opMayPath p=some (pathB p):=by
 unfold opMayPath pathB;rw [contains_is (q:=λs=>!nameB s) p (λx _=>by unfold opMayPathC1;rw [opIsName_is];rfl),bnd1,bnd3];have e:p.any (λs=>!nameB s)=!p.all nameB:=by grind
 rw [e];cases h1:decide (1<=p.length) <;> cases h2:decide (p.length<=3) <;> simp
def actorB (a:GI):Bool:=decide (a.rep < 16)&&decide (a.inc >= 1)&&decide (a.inc<=4)
def vz (d:GE):Bool:=actorB d.actor&&decide (d.seq >= 1)&&decide (d.seq<=1048576)
theorem dotMay_is (d:GE):dotMay d=some (vz d):=rfl
theorem ref03MayActor_is (a:GI):qm a=some (actorB a):=by
 unfold qm actorB
 grind
theorem ref03May_is (d:GE):ref03May d=some (vz d):=by unfold ref03May;rw [ref03MayActor_is];rfl
def ym (a b:GE):Bool:=if a.actor.rep ≠ b.actor.rep then decide (a.actor.rep < b.actor.rep) else if a.actor.inc ≠ b.actor.inc then decide (a.actor.inc < b.actor.inc) else decide (a.seq < b.seq)
theorem ref03Less_is (a b:GE):qG a b=some (ym a b):=by
 unfold qG ym
 grind
def cmpI (a b:Int):Int:=if a < b then -1 else if b < a then 1 else 0
theorem cmpU8is (a b:Int):x8 a b=some (cmpI a b):=by
 unfold x8 vM cmpI;simp only [sr,ua,um,uJ,uk,gt_iff_lt]
 grind
theorem cmpU32is (a b:Int):wV a b=some (cmpI a b):=by
 unfold wV vi cmpI;simp only [sr,ua,um,uJ,uk,gt_iff_lt]
 grind
theorem cmpU64is (a b:Int):wp a b=some (cmpI a b):=by
 unfold wp vh cmpI;simp only [sr,ua,um,uJ,uk,gt_iff_lt]
 grind
def or2 (a b:Int):Int:=if a ≠ 0 then a else b
theorem cmpOr2_is (a b:Int):cmpOrInt [a,b]=some (or2 a b):=by
 unfold cmpOrInt or2;by_cases h1:a=0 <;> by_cases h2:b=0 <;> simp [zD,h1,h2]
def actorCmp (a b:GI):Int:=or2 (cmpI a.rep b.rep) (cmpI a.inc b.inc)
def dotCmp (a b:GE):Int:=or2 (actorCmp a.actor b.actor) (cmpI a.seq b.seq)
theorem dotXcompare_is (a b:GI):dotXcompare a b=some (actorCmp a b):=by
 unfold dotXcompare;rw [cmpU8is,cmpU32is];simp only [ua];rw [cmpOr2_is];rfl
theorem dotCompare_is (a b:GE):wJ a b=some (dotCmp a b):=by
 unfold wJ;rw [dotXcompare_is,cmpU64is];simp only [ua];rw [cmpOr2_is];rfl
theorem dotCmp_lt (a b:GE):decide (dotCmp a b >= 0)=!ym a b:=by
 unfold dotCmp actorCmp ym cmpI or2
 grind

def xR:List GE->Bool
 | a::b::r=>ym a b&&xR (b::r)
 | _=>true
def wu (ds:List GE) (i:Nat) (x:GE):Bool:=decide (i=0) || ym (ds.getD (i - 1) default) x
theorem rising_loop (ds:List GE) {g:Nat->GE->Unit->Option (Out Bool Unit)}
  (s:∀i x,ds[i]?=some x->g i x ()=if (vz x&&wu ds i x)=true then some (.nxt ()) else some (.ret false)) :
  lp (zD g ds 0 ()) (λ_=>some true)=some (ds.all vz&&xR ds):=by
 have key:∀(L pre:List GE),ds=pre++L->lp (zD g L pre.length ()) (λ_=>some true)=some (L.all vz&&xR (match pre.getLast? with | some y=>y::L | none=>L)):=by
  intro L
  induction L with
  | nil=>intro pre h;cases hp:pre.getLast? <;> simp [zD,xR]
  | cons x t ih =>
   intro pre h;have u:ds[pre.length]?=some x:=by rw [h];simp
   have j:=ih (pre++[x]) (by rw [h];simp);simp only [uq,ux,u6,tx,List.getLast?_append,pG,rI] at j;simp only [zD,s _ _ u];cases hp:pre.getLast? with
   | none =>
    have m:pre=[]:=pr.1 hp;subst m;simp only [u6,tx] at j ⊢;cases hd:vz x <;> simp [wu,hd,j]
   | some y =>
    have o:pre ≠ []:=by grind
    have h0:0 < pre.length:=pa.2 o;have p:ds.getD (pre.length - 1) default=y:=by
     grind
    have r:wu ds pre.length x=ym y x:=by
     unfold wu;rw [p]
     simp_all
    rw [r];cases hd:vz x <;> cases hlt:ym y x <;> simp [hd,hlt,j,xR]
 have:=key ds [] rfl
 simp_all
theorem same_loop {α:Type} [DecidableEq α] (M:List α) {eq:α->α->Bool} (g:∀a b,eq a b=decide (a=b)) {f:Nat->α->Unit->Option (Out Bool Unit)} :
  ∀(L:List α) (i:Nat),L.length+i=M.length->(∀j x,L[j]?=some x->f (i+j) x ()=(yB M ((i+j:Nat):Int)).bind λy=>if (!eq x y)=true then some (.ret false) else some (.nxt ())) ->
  zD f L i ()=if L=M.drop i then some (.inr ()) else some (.inl false)
 | [],i,hl,_=>by
  rw [tj (by simp_all)];rfl
 | x::t,i,hl,h=>by
  simp only [ux] at hl;have hi:i < M.length:=by omega
  have h0:=h 0 x rfl;simp only [tL] at h0;rw [idx_at hi] at h0;have o:=same_loop M g (f:=f) t (i+1) (by omega) (λj y m=>by have:=h (j+1) y m;rw [show i+1+j=i+(j+1) by omega];exact this);have e:M.drop i=M[i]::M.drop (i+1):=(sV hi).symm;simp only [zD,h0,ua,g,e]
  grind
theorem dotEq (a b:GE):(a.actor.rep==b.actor.rep&&(a.actor.inc==b.actor.inc&&(a.seq==b.seq&&true)))=decide (a=b):=by
 rcases a with ⟨⟨j,h⟩,a3⟩;rcases b with ⟨⟨g,m⟩,o⟩
 grind
theorem slicesEqualDot_is (L M:List GE):vC L M=some (decide (L=M)):=by
 unfold vC;by_cases hl:L.length=M.length
 ·have e:((L.length:Int) != (M.length:Int))=false:=by simp;omega
  rw [e,same_loop M dotEq L 0 (by omega) (λj x g=>by simp)];by_cases h:L=M <;> simp [h]
 ·have e:((L.length:Int) != (M.length:Int))=true:=by simp;omega
  rw [e,u9 (λh=>hl (by rw [h]))];rfl
section
variable {α ρ:Type}
def allI (g:Nat->α->Bool) (L:List α):Bool:=L.zipIdx.all λp=>g p.2 p.1
theorem allI_iff {g:Nat->α->Bool} {L:List α}:allI g L=true ↔ ∀i x,L[i]?=some x->g i x=true:=by
 unfold allI;rw [ur];constructor
 ·intro h i x j;exact h (x,i) (List.mem_zipIdx_iff_getElem?.2 j)
 ·grind
theorem loopL_allI (g:Nat->α->Bool) {r:ρ} {f:Nat->α->Unit->Option (Out ρ Unit)}:∀(L:List α) (k:Nat),(∀i x,L[i]?=some x->f (k+i) x ()=if g (k+i) x=true then some (.nxt ()) else some (.ret r)) ->
  zD f L k ()=if ((L.zipIdx k).all λp=>g p.2 p.1)=true then some (.inr ()) else some (.inl r)
 | [],_,_=>rfl
 | x::t,k,h=>by
  have h0:=h 0 x rfl;simp only [tL] at h0;have j:=loopL_allI g (f:=f) (r:=r) t (k+1) (λi y m=>by have:=h (i+1) y (by simp_all);rw [show k+1+i=k+(i+1) by omega];exact this);simp only [zD,h0,pz,tf]
  grind
theorem lp_all (g:Nat->α->Bool) {r:σ} {L:List α} {f:Nat->α->Unit->Option (Out σ Unit)} {rest:Unit->Option σ} (h:∀i x,L[i]?=some x->f i x ()=if g i x=true then some (.nxt ()) else some (.ret r)) :
  lp (zD f L 0 ()) rest=if allI g L=true then rest () else some r:=by
 rw [loopL_allI g L 0 (λi x j=>by simpa using h i x j)];unfold allI;split <;> rfl
theorem lp_all0 (g:α->Bool) {r:σ} {L:List α} {f:Nat->α->Unit->Option (Out σ Unit)} {rest:Unit->Option σ} (m:∀i x,L[i]?=some x->f i x ()=if g x=true then some (.nxt ()) else some (.ret r)) :
  lp (zD f L 0 ()) rest=if L.all g=true then rest () else some r:=by
 rw [lp_all (λ_=>g) m];have:allI (λ_=>g) L=L.all g:=by
  rw [tu,allI_iff,ur];exact ⟨λh x j=>by obtain ⟨i,hi⟩:=u2.1 j;exact h i x hi,λh i x j=>h x (uX j)⟩
 rw [this]
end
theorem qB {j:Nat} (g:j+1<=maxLen):IntKind.wrap .i64 (((j+1:Nat):Int) - 1)=(j:Int):=by
 simp only [maxLen] at g;rw [w64n (by omega)];omega
theorem wrap_add1 {j:Nat} (g:j+1<=maxLen):IntKind.wrap .i64 ((j:Int)+1)=((j+1:Nat):Int):=by
 simp only [maxLen] at g;rw [w64n (by omega)];omega
theorem pos_succ (j:Nat):decide (((j+1:Nat):Int) > 0)=true:=u1 (by omega)
def timeB (n:Int):Bool:=decide (n >= 1)&&decide (n<=1099511627776)
def yc (a b:GF):Bool:=if a.time ≠ b.time then decide (a.time < b.time) else ym a.dot b.dot
theorem leafXisTime_is (n:Int):leafXisTime n=some (timeB n):=rfl
theorem leafXisText_is (s:zx):qK s=some (decide (s.length<=40)):=by unfold qK;rw [rT.2 (show ((s.length:Int)<=40) ↔ s.length<=40 by omega)]
theorem dotCmp_neg (a b:GE):decide (dotCmp a b < 0)=ym a b:=by
 have h:=dotCmp_lt a b
 grind
theorem leafAhead_is (a:Int) (d:GE) (b:Int) (o:GE):vY a d b o=some (if a ≠ b then decide (a < b) else ym d o):=by
 unfold vY vX;rw [cmpU64is,dotCompare_is];simp only [ua,cmpOr2_is];congr 1;by_cases h:a=b
 ·subst h;have:cmpI a a=0:=by unfold cmpI;simp
  simp [or2,this,dotCmp_neg]
 ·have:cmpI a b ≠ 0:=by unfold cmpI;split <;> (try split) <;> omega
  simp only [or2,this,ne_eq,rJ,ut,h];unfold cmpI;rw [tu];simp only [uk];split <;> (try split) <;> omega
theorem ref05Ahead_is (a:Int) (d:GE) (b:Int) (o:GE):vF a d b o=some (if a ≠ b then decide (a < b) else ym d o):=by
 unfold vF;by_cases h:a=b <;> simp [h,ref03Less_is]
def prevI {α:Type} [Inhabited α] (L:List α) (i:Nat):α:=L.getD (i - 1) default
def qO (timed:Bool) (x:GF):Bool:=vz x.dot&&decide (x.text.length<=40)&&(if timed then timeB x.time else decide (x.time=0))
def riseB (L:List GF):Bool:=allI (λi x=>decide (i=0) || yc (prevI L i) x) L
def onceB (L:List GF):Bool:=decide ((L.map (·.dot)).Nodup)
theorem eqb_iff (a b:GE):GE.eqb a b=decide (a=b):=by unfold GE.eqb;exact dotEq a b
def keysM (m:List (GE×Int)):List GE:=m.map (·.1)
theorem mput_keys (m:List (GE×Int)) (k:GE) (v:Int):keysM (qg GE.eqb m k v)=if k ∈ keysM m then keysM m else keysM m++[k]:=by
 induction m with
 | nil=>simp [qg,keysM]
 | cons e r ih =>
  simp only [qg,eqb_iff];by_cases h:k=e.1
  ·simp [h,keysM]
  ·simp only [u9 h,um,uJ,keysM,uw,uP] at ih ⊢
   grind
theorem twice_fold:∀(L:List GF) (m:List (GE×Int)),(keysM m).Nodup ->
  (L.foldl (λs x=>qg GE.eqb s x.dot (IntKind.wrap .i64 ((yQ GE.eqb 0 s x.dot)+1))) m).length<=m.length+L.length /\
  ((L.foldl (λs x=>qg GE.eqb s x.dot (IntKind.wrap .i64 ((yQ GE.eqb 0 s x.dot)+1))) m).length=m.length+L.length ↔ (keysM m++L.map (·.dot)).Nodup)
 | [],m,h=>by simp [h]
 | x::t,m,h=>by
  simp only [tU];have g:=mput_keys m x.dot (IntKind.wrap .i64 ((yQ GE.eqb 0 m x.dot)+1));generalize hm:qg GE.eqb m x.dot (IntKind.wrap .i64 ((yQ GE.eqb 0 m x.dot)+1))=m' at g;have r:m'.length=(keysM m').length:=by simp [keysM]
  have o:m.length=(keysM m).length:=by simp [keysM]
  by_cases hx:x.dot ∈ keysM m
  ·rw [uz hx] at g;have j:=twice_fold t m' (by simp_all)
   grind
  ·rw [uM hx] at g;have p:(keysM m++[x.dot]).Nodup:=by
    grind
   have j:=twice_fold t m' (by simp_all)
   grind
theorem leafXtwice_is (L:List GF):leafXtwice L=some (!onceB L):=by
 unfold leafXtwice;rw [loopL_fold (λs x=>qg GE.eqb s x.dot (IntKind.wrap .i64 ((yQ GE.eqb 0 s x.dot)+1))) L 0 [] (λ_ _ _ _=>rfl)];have h:=twice_fold L [] (by simp [keysM]);simp only [u6,tx,keysM,tr,uI] at h;simp only [yO,onceB];congr 1
 grind
theorem leafXitems_is (u:L.length<=maxLen) (g:Bool):leafXitems L g=some (L.all (qO g)&&riseB L&&onceB L):=by
 unfold leafXitems;rw [lp_all (r:=false) (λi x=>qO g x&&(decide (i=0) || yc (prevI L i) x))]
 ·rw [leafXtwice_is];have e:allI (λi x=>qO g x&&(decide (i=0) || yc (prevI L i) x)) L=(L.all (qO g)&&riseB L):=by
   rw [tu,ud,riseB,allI_iff,allI_iff,ur];constructor
   ·intro h;exact ⟨λx m=>by obtain ⟨i,hi⟩:=u2.1 m;have:=h i x hi;simp only [ud] at this;exact this.1,λi x m=>by simp_all⟩
   ·grind
  grind
 ·intro i x m;have hi:i < L.length:=(uc.1 m).1;simp only [dotMay_is,leafXisText_is,leafXisTime_is,ua,leafAhead_is];have s:qO g x=(vz x.dot&&decide (x.text.length<=40)&&(g==timeB x.time)&&(g || decide (x.time=0))):=by
   unfold qO;cases g
   ·by_cases h0:x.time=0
    ·simp [h0,show timeB 0=false from rfl]
    ·simp [h0]
   ·simp
  rw [s];cases hd:vz x.dot
  ·simp
  cases ht:decide (x.text.length<=40)
  ·simp
  by_cases htt:g=timeB x.time
  ·have t:(x.time != 0)=!decide (x.time=0):=by rw [tu];simp
   have o:(g==timeB x.time)=true:=by simp_all
   rw [t,o];cases hzz:(g || decide (x.time=0))
   ·simp_all
   have:(!g&&!decide (x.time=0))=false:=by grind
   rw [this];rcases i with _ | j
   ·simp [yM,htt]
   ·rw [qB (by omega),pos_succ];have p:(j:Int) < (L.length:Int):=by omega
    simp [yM,p,prevI,yc,htt]
    grind
  ·grind

theorem itemEq (a b:GF):(a.time==b.time&&(a.dot.actor.rep==b.dot.actor.rep&&(a.dot.actor.inc==b.dot.actor.inc&&(a.dot.seq==b.dot.seq&&(a.text==b.text&&true)))))=decide (a=b):=by
 rcases a with ⟨a0,⟨⟨j,h⟩,a3⟩,a4⟩;rcases b with ⟨b0,⟨⟨g,m⟩,p⟩,o⟩
 grind
theorem slicesEqualItem_is (L M:List GF):va L M=some (decide (L=M)):=by
 unfold va;by_cases hl:L.length=M.length
 ·have e:((L.length:Int) != (M.length:Int))=false:=by simp;omega
  rw [e,same_loop M itemEq L 0 (by omega) (λj x g=>by simp)];by_cases h:L=M <;> simp [h]
 ·have e:((L.length:Int) != (M.length:Int))=true:=by simp;omega
  rw [e,u9 (λh=>hl (by rw [h]))];rfl
theorem leafSame_is (a b:GC):leafSame a b=some (decide (a=b)):=by
 unfold leafSame;simp only [slicesEqualItem_is,slicesEqualDot_is,dotEq];rcases a with ⟨a0,m,j,a3,a4,a5,t⟩;rcases b with ⟨b0,g,p,s,r,h,o⟩
 simp only [GC.mk.injEq]
 grind
def dot0:GE:=⟨⟨0,0⟩,0⟩
def zeroB (l:GC):Bool:=decide (l.time=0)&&decide (l.dot=dot0)&&decide (l.text=[])
def tombsB (l:GC):Bool:=l.tombs.all vz&&xR l.tombs&&l.tombs.all (λd=>!l.items.any λx=>decide (x.dot=d))
def leafB (l:GC):Bool :=
 if l.typ=1 then zeroB l&&decide (l.items=[])&&decide (l.tombs=[])
 else if l.typ=2 then decide (l.n=0)&&decide (l.items=[])&&decide (l.tombs=[])&&(if l.time=0 then decide (l.dot=dot0)&&decide (l.text=[]) else timeB l.time&&vz l.dot&&decide (l.text.length<=40))
 else if l.typ=3 then decide (l.n=0)&&zeroB l&&(l.items.all (qO false)&&riseB l.items&&onceB l.items)&&tombsB l
 else if l.typ=4 then decide (l.n=0)&&zeroB l&&decide (l.tombs=[])&&(l.items.all (qO true)&&riseB l.items&&onceB l.items)
 else false
theorem containsItem_is {f:GF->Option Bool} (p:List GF) (g:∀x ∈ p,f x=some (q x)):xu p f=some (p.any q):=by
 unfold xu yK;rw [first_loop p g,ua,firstI_any]
theorem leafXhas_is (L:List GF) (d:GE):leafXhas L d=some (L.any λx=>decide (x.dot=d)):=by
 unfold leafXhas;rw [containsItem_is (q:=λx=>decide (x.dot=d)) L (λx _=>by unfold leafXhasC1;rw [dotEq]),ua]
theorem rising_allI (ds:List GE):xR ds=allI (λi x=>wu ds i x) ds:=by
 have h:=rising_loop ds (g:=λi x _=>if (vz x&&wu ds i x)=true then some (.nxt ()) else some (.ret false)) (λ_ _ _=>rfl);have key:∀(L pre:List GE),ds=pre++L->xR (match pre.getLast? with | some y=>y::L | none=>L)=(L.zipIdx pre.length).all λp=>wu ds p.2 p.1:=by
  intro L
  induction L with
  | nil=>intro pre _;cases pre.getLast? <;> simp [xR]
  | cons x t ih =>
   intro pre hd;have j:=ih (pre++[x]) (by rw [hd];simp);simp only [uq,ux,u6,tx,List.getLast?_append,pG,rI] at j;simp only [pz,tf];cases hp:pre.getLast? with
   | none =>
    have m:pre=[]:=pr.1 hp;subst m;simp only [u6,tx] at j ⊢;rw [j];simp [wu]
   | some y =>
    have o:pre ≠ []:=by grind
    have h0:0 < pre.length:=pa.2 o;have r:ds.getD (pre.length - 1) default=y:=by
     grind
    have s:wu ds pre.length x=ym y x:=by
     unfold wu;rw [r,u9 (by omega)];rfl
    rw [s,<- j];simp [xR]
 simpa [allI] using key ds [] rfl
theorem leafXtombs_is (o:l.tombs.length<=maxLen):leafXtombs l=some (tombsB l):=by
 unfold leafXtombs;rw [lp_all (r:=false) (λi x=>vz x&&wu l.tombs i x&&!(l.items.any λy=>decide (y.dot=x)))]
 ·have e:allI (λi x=>vz x&&wu l.tombs i x&&!(l.items.any λy=>decide (y.dot=x))) l.tombs=tombsB l:=by
   unfold tombsB;rw [tu,rising_allI,ud,ud,allI_iff,allI_iff,ur,ur];constructor
   ·intro h;refine ⟨⟨λx g=>?_,λi x g=>?_⟩,λx g=>?_⟩
    ·obtain ⟨i,hi⟩:=u2.1 g;have:=h i x hi;simp only [ud] at this;exact this.1.1
    ·simp_all
    ·obtain ⟨i,hi⟩:=u2.1 g;have:=h i x hi;simp only [ud] at this;exact this.2
   ·grind
  grind
 ·intro i x g;have hi:i < l.tombs.length:=(uc.1 g).1;simp only [dotMay_is,ua,dotCompare_is,leafXhas_is];cases hd:vz x
  ·rfl
  rcases i with _ | j
  ·cases hh:(l.items.any λy=>decide (y.dot=x)) <;> simp [yM,wu]
  ·rw [qB (by omega),pos_succ];have p:(j:Int) < (l.tombs.length:Int):=by omega
   have m:wu l.tombs (j+1) x=ym (l.tombs.getD j default) x:=by rfl
   have e:=dotCmp_lt (l.tombs.getD j default) x;rw [zu (by omega),m,uy]
   grind
theorem leafMay_is (hi:l.items.length<=maxLen) (o:l.tombs.length<=maxLen):vu l=some (leafB l):=by
 unfold vu leafB;simp only [leafSame_is,leafXisTime_is,dotMay_is,leafXisText_is,leafXitems_is hi,leafXtombs_is o,dotEq,ua];rcases l with ⟨t,n,h,d,j,g,m⟩
 simp only [GC.mk.injEq,zeroB,rR,dot0];by_cases h1:t=1
 ·simp only [h1,ut];congr 1;rw [tu];simp [rj]
  grind
 by_cases h2:t=2
 ·subst h2;by_cases h0:h=0
  ·subst h0;by_cases hd:d=⟨⟨0,0⟩,0⟩
   ·by_cases hx:j=[]
    ·simp [hd,hx];rw [tu];simp [rj]
    ·simp_all
   ·have v:((0:Int)==0&&!decide (d=⟨⟨0,0⟩,0⟩))=true:=by simp [hd]
    simp [hd];intro r;rcases d with ⟨⟨u,p⟩,s⟩
    simp_all
  ·cases htt:timeB h <;> cases hdd:vz d <;> cases hxx:decide (j.length<=40) <;> simp_all [rj]
   grind
 by_cases h3:t=3
 ·subst h3;cases ha:(g.all (qO false)&&riseB g&&onceB g) <;> cases hb:tombsB ⟨3,n,h,d,j,g,m⟩ <;> simp [rj]
  grind
 by_cases h4:t=4
 ·subst h4;cases ha:(g.all (qO true)&&riseB g&&onceB g) <;> simp [rj]
  grind
 simp_all

theorem ref05Item_is (L:List GF) (d:GE):ref05Item L d=some (firstI (λx=>decide (x.dot=d)) L):=by
 unfold ref05Item;rw [loopL_first (λx:GF=>decide (x.dot=d)) (λi _=>(i:Int)) _ _ (λi x _=>by rw [dotEq])];unfold firstI;cases h:L.findIdx? (λx=>decide (x.dot=d)) with
 | none=>simp
 | some j =>
  obtain ⟨g,_⟩:=sG.1 h
  simp_all
theorem ref05Tomb_is (L:List GE) (d:GE):qF L d=some (L.any λx=>decide (x=d)):=by
 unfold qF;rw [lp_all0 (r:=true) (λx:GE=>!decide (x=d)) (λi x _=>by rw [dotEq];cases decide (x=d) <;> rfl)]
 grind
theorem first_nodup (L:List GF):(∀(i:Nat) (x:GF),L[i]?=some x->firstI (λy:GF=>decide (y.dot=x.dot)) L=(i:Int)) ↔ (L.map (·.dot)).Nodup:=by
 constructor
 ·intro h;rw [pp,tv];intro i j hi g m e;simp only [ul] at hi g;simp only [rk] at e;have s:=h i _ (uh hi);have r:=h j _ (uh g)
  grind
 ·intro h i x p;obtain ⟨hi,rfl⟩:=uc.1 p;unfold firstI;have:L.findIdx? (λy=>decide (y.dot=L[i].dot))=some i:=by
   rw [sG];refine ⟨hi,by simp,λj g=>?_⟩;have o:j < L.length:=by omega
   simp only [uk];intro e;rw [pp,tv] at h
   simp_all
  rw [this]
def itemR (t:Int) (x:GF):Bool:=vz x.dot&&decide (x.text.length<=40)&&(decide (t ≠ 3) || decide (x.time=0))&&(decide (t ≠ 4) || timeB x.time)
def tailB (l:GC):Bool:=l.items.all (itemR l.typ)&&onceB l.items&&l.items.all (λx=>!(l.tombs.any λy=>decide (y=x.dot)))&&riseB l.items&&(l.tombs.all vz&&xR l.tombs)
theorem items_allI (l:GC):allI (λi x=>itemR l.typ x&&(decide (firstI (λy:GF=>decide (y.dot=x.dot)) l.items=(i:Int))&&(!(l.tombs.any λy=>decide (y=x.dot))&&(decide (i=0) || yc (prevI l.items i) x)))) l.items =
  (l.items.all (itemR l.typ)&&onceB l.items&&l.items.all (λx=>!(l.tombs.any λy=>decide (y=x.dot)))&&riseB l.items):=by
 rw [tu,allI_iff];simp only [ud,uk,onceB,riseB,allI_iff,ur,<- first_nodup];constructor
 ·intro h;refine ⟨⟨⟨λx g=>?_,λi x g=>(h i x g).2.1⟩,λx g=>?_⟩,λi x g=>(h i x g).2.2.2⟩
  ·obtain ⟨i,hi⟩:=u2.1 g;exact (h i x hi).1
  ·obtain ⟨i,hi⟩:=u2.1 g;exact (h i x hi).2.2.1
 ·grind
theorem tombs_allI (ds:List GE):allI (λi x=>vz x&&wu ds i x) ds=(ds.all vz&&xR ds):=by
 rw [tu,allI_iff,rising_allI];simp only [ud,allI_iff,ur];constructor
 ·intro h;exact ⟨λx g=>by obtain ⟨i,hi⟩:=u2.1 g;exact (h i x hi).1,λi x g=>(h i x g).2⟩
 ·grind
theorem ref05May_is (hi:l.items.length<=maxLen) (N:l.tombs.length<=maxLen) (h0:0<=l.time):wP l=some (leafB l):=by
 unfold wP;simp only [ref03May_is,ref05Item_is,ref05Tomb_is,ref05Ahead_is,ref03Less_is,ua,dotEq];generalize hT:lp (zD _ l.items 0 ()) _=T;have K:decide ((l.items.length:Int) > 0)=!decide (l.items=[]):=by cases l.items <;> simp
 have M:decide ((l.tombs.length:Int) > 0)=!decide (l.tombs=[]):=by cases l.tombs <;> simp
 have p:T=some (tailB l):=by
  rw [<- hT,lp_all (r:=false) (λi x=>itemR l.typ x&&(decide (firstI (λy:GF=>decide (y.dot=x.dot)) l.items=(i:Int))&&(!(l.tombs.any λy=>decide (y=x.dot))&&(decide (i=0) || yc (prevI l.items i) x))))]
  ·rw [lp_all (r:=false) (λi x=>vz x&&wu l.tombs i x)]
   ·rw [items_allI,tombs_allI];unfold tailB;cases (l.items.all (itemR l.typ)&&onceB l.items&&l.items.all (λx=>!(l.tombs.any λy=>decide (y=x.dot)))&&riseB l.items) <;> cases (l.tombs.all vz&&xR l.tombs) <;> simp
   ·intro i x v;have u:i < l.tombs.length:=(uc.1 v).1;have o:l.tombs.getD i default=x:=by grind
    rcases i with _ | j
    ·cases hd:vz x <;> simp [yM,wu]
    ·rw [qB (by omega),pos_succ,uy,uy,o];have z:wu l.tombs (j+1) x=ym (l.tombs.getD j default) x:=by rfl
     rw [zu (by omega),zu (by omega),z]
     grind
  ·intro i x v;have u:i < l.items.length:=(uc.1 v).1;have D:decide ((x.text.length:Int) > 40)=!decide (x.text.length<=40):=by grind
   have I:(((l.typ==4)&&(decide (x.time < 1) || decide (x.time > 1099511627776))))=!(decide (l.typ ≠ 4) || timeB x.time):=by
    rw [tu];simp [timeB]
   have E:((l.typ==3)&&(x.time != 0))=!(decide (l.typ ≠ 3) || decide (x.time=0)):=by grind
   rw [D,I,E];have hc:(((!vz x.dot || !decide (x.text.length<=40)) || !(decide (l.typ ≠ 3) || decide (x.time=0))) || !(decide (l.typ ≠ 4) || timeB x.time))=!itemR l.typ x:=by unfold itemR;simp only [Bool.not_and]
   rw [hc];have J:(firstI (λy:GF=>decide (y.dot=x.dot)) l.items != (i:Int))=!decide (firstI (λy:GF=>decide (y.dot=x.dot)) l.items=(i:Int)):=by rfl
   cases hr:itemR l.typ x
   ·simp
   simp only [tR,BEq.rfl,ut,ua,tg];rw [J];cases hf:decide (firstI (λy:GF=>decide (y.dot=x.dot)) l.items=(i:Int))
   ·simp
   cases htb:l.tombs.any λy=>decide (y=x.dot)
   ·rcases i with _ | j
    ·rfl
    ·rw [qB (by omega),pos_succ,uy];rw [zu (by omega),zu (by omega)];have z:(if (l.items.getD j default).time ≠ x.time then decide ((l.items.getD j default).time < x.time) else ym (l.items.getD j default).dot x.dot)=yc (prevI l.items (j+1)) x:=rfl
     grind
   ·simp
 subst p;clear hT;rw [K,M];have G:(l.time != 0)=!decide (l.time=0):=by rfl
 have F:(l.time==0)=decide (l.time=0):=by rfl
 have z3:(l.text==([]:zx))=decide (l.text=[]):=by grind
 have z4:decide (l.time > 1099511627776)=!decide (l.time<=1099511627776):=by grind
 have z5:decide ((l.text.length:Int) > 40)=!decide (l.text.length<=40):=by grind
 have t:zeroB l=(decide (l.time=0)&&decide (l.dot=dot0)&&decide (l.text=[])):=rfl;have H:(l.dot.actor.rep==0&&(l.dot.actor.inc==0&&(l.dot.seq==0&&true)))=decide (l.dot=dot0):=dotEq l.dot dot0;rw [G,F,z3,z4,z5,H];by_cases h1:l.typ=1
 ·have hi:decide (l.items=[])=true->tailB l=(l.tombs.all vz&&xR l.tombs):=by
   intro h;have:=tc h;unfold tailB;rw [this];simp [onceB,riseB,allI]
  unfold leafB;simp only [h1,ut,t];cases hi2:decide (l.items=[])
  ·simp
  ·rw [hi hi2];cases ht2:decide (l.tombs=[])
   ·simp
   ·have:=tc ht2;rw [this];cases decide (l.time=0) <;> cases decide (l.dot=dot0) <;> cases decide (l.text=[]) <;> simp [xR]
 by_cases h2:l.typ=2
 ·have hi:decide (l.items=[])=true->tailB l=(l.tombs.all vz&&xR l.tombs):=by
   intro h;have:=tc h;unfold tailB;rw [this];simp [onceB,riseB,allI]
  unfold leafB;have m:timeB l.time=(!decide (l.time=0)&&decide (l.time<=1099511627776)):=by
   unfold timeB;rw [tu];simp;omega
  simp only [h2,ut,m];cases hn:decide (l.n=0)
  ·simp_all
  ·have g:l.n=0:=tc hn;cases hi2:decide (l.items=[])
   ·simp [g]
   ·rw [hi hi2];cases ht2:decide (l.tombs=[])
    ·simp [g]
    ·have:=tc ht2;rw [this];by_cases ht0:l.time=0
     ·cases hdd:decide (l.dot=dot0) <;> cases htx:decide (l.text=[]) <;> simp [g,ht0,xR]
     ·cases hm:decide (l.time<=1099511627776) <;> cases hdd:vz l.dot <;> cases htx:decide (l.text.length<=40) <;> simp [g,ht0,xR]
 by_cases h3:l.typ=3
 ·have w:(λx=>itemR 3 x)=qO false:=by
   funext x;unfold itemR qO;simp
  have s:tailB l=(l.items.all (qO false)&&riseB l.items&&onceB l.items&&tombsB l):=by
   unfold tailB tombsB
   grind
  unfold leafB;simp only [h3,s,t];cases hn:decide (l.n=0)
  ·simp_all
  ·have g:l.n=0:=tc hn;cases decide (l.time=0) <;> cases decide (l.dot=dot0) <;> cases decide (l.text=[]) <;> simp [g]
 by_cases h4:l.typ=4
 ·have w:(λx=>itemR 4 x)=qO true:=by
   funext x;unfold itemR qO;simp
  have s:decide (l.tombs=[])=true->tailB l=(l.items.all (qO true)&&riseB l.items&&onceB l.items):=by
   intro h;have:=tc h;unfold tailB;rw [h4,show itemR 4=qO true from w,this];cases l.items.all (qO true) <;> cases onceB l.items <;> cases riseB l.items <;> simp [xR]
  unfold leafB;simp only [h4,t];cases hn:decide (l.n=0)
  ·simp_all
  ·have g:l.n=0:=tc hn;cases ht2:decide (l.tombs=[])
   ·simp [g]
   ·rw [s ht2];cases decide (l.time=0) <;> cases decide (l.dot=dot0) <;> cases decide (l.text=[]) <;> simp [g]
 have C:l.typ < 1 \/ 4 < l.typ:=by omega
 have:(decide (l.typ < 1) || decide (l.typ > 4))=true:=by simp;omega
 unfold leafB
 simp_all

mutual
def GA.dep:GA->Nat
 | ⟨_,_,sb⟩=>GA.deps sb+1
def GA.deps:List GA->Nat
 | []=>0
 | x::r=>max x.dep (GA.deps r)
end
theorem vw {x:GA}:∀{t:List GA},x ∈ t->x.dep<=GA.deps t
 | [],h=>by cases h
 | y::r,h=>by
  simp only [GA.deps];rcases uP.1 h with rfl | h
  ·omega
  ·have:=vw h;omega
theorem xU (x:GA):GA.deps x.subs+1=x.dep:=by cases x;simp [GA.dep]
def Small (t:List GA):Prop:=GA.wfs t/\GA.bks t<=16777216
theorem bk_pos (x:GA):1<=x.bk:=by cases x;simp only [GA.bk];omega
theorem len_bks:∀t:List GA,t.length<=GA.bks t
 | []=>by simp_all
 | x::r=>by have:=len_bks r;have:=bk_pos x;simp only [GA.bks,ux];omega
theorem bk_mem {x:GA}:∀{t:List GA},x ∈ t->x.bk<=GA.bks t
 | [],h=>by cases h
 | y::r,h=>by
  simp only [GA.bks];rcases uP.1 h with rfl | h
  ·omega
  ·have:=bk_mem h;omega
theorem sum_len {α:Type} {f:α->Nat} (h:∀x,1<=f x):∀l:List α,l.length<=(l.map f).sum
 | []=>by simp
 | x::r=>by have:=sum_len h r;have:=h x;simp only [ux,uw,px];omega
theorem sum_mem {α:Type} {f:α->Nat} {x:α}:∀{l:List α},x ∈ l->f x<=(l.map f).sum
 | [],h=>by cases h
 | y::r,h=>by
  simp only [uw,px];rcases uP.1 h with rfl | h
  ·omega
  ·have:=sum_mem (f:=f) h;omega
theorem bk_node (x:GA):x.name.length+1+((x.leaves.map GC.bk).sum+1)+(GA.bks x.subs+1)<=x.bk:=by cases x;simp only [GA.bk];omega
theorem Small.subs {t:List GA} (h:Small t) {x:GA} (g:x ∈ t):Small x.subs:=by
 refine ⟨?_,by have:=bk_mem g;have:=bk_node x;have:=h.2;omega⟩;have:=(GA.wfs_iff t).1 h.1 x g;cases x;simp only [GA.wf] at this;exact this.2.2
theorem Small.len {t:List GA} (h:Small t):t.length<=16777216:=uA (len_bks t) h.2
structure LeafOk (l:GC):Prop where
 items:l.items.length<=16777216
 tombs:l.tombs.length<=16777216
 time:0<=l.time
theorem Small.leaf {t:List GA} (h:Small t) {x:GA} (j:x ∈ t) {l:GC} (g:l ∈ x.leaves):LeafOk l:=by
 have r:=bk_mem j;have o:=bk_node x;have v:=h.2;have p:l.bk<=_:=sum_mem (f:=GC.bk) g;have u:(l.items.map GF.bk).sum+1+((l.tombs.map GE.bk).sum+1)<=l.bk:=by unfold GC.bk;omega
 have m:=sum_len (f:=GF.bk) (λx=>by unfold GF.bk;omega) l.items;have s:=sum_len (f:=GE.bk) (λx=>by unfold GE.bk;omega) l.tombs;refine ⟨by omega,by omega,?_⟩;have:=(GA.wfs_iff t).1 h.1 x j;cases x;simp only [GA.wf] at this;have:=this.2.1.2 l g;unfold GC.wf at this;have:=this.2.2.1;unfold InK at this;simp [IntKind.min,IntKind.max,IntKind.signed,IntKind.bits] at this;omega
theorem Small.leaves {t:List GA} (h:Small t) {x:GA} (g:x ∈ t):x.leaves.length<=16777216:=by
 have o:=bk_mem g;have m:=bk_node x;have p:=h.2;have j:=sum_len (f:=GC.bk) (λx=>by unfold GC.bk;omega) x.leaves;omega
def upB (t:List GA):Bool:=allI (λi x=>decide (i=0) || Op.bytesLess (t.getD (i - 1) default).name x.name) t
def leavesB (ls:List GC):Bool:=allI (λi l=>leafB l&&(decide (i=0) || decide ((ls.getD (i - 1) default).typ < l.typ))) ls
mutual
def nodeB (d:Nat):GA->Bool
 | ⟨nm,ls,sb⟩=>nameB nm&&!(ls.isEmpty&&sb.isEmpty)&&((sb.isEmpty || decide (d+1 < 3))&&upB sb&&wT (d+1) sb)&&leavesB ls
def wT (d:Nat):List GA->Bool
 | []=>true
 | x::r=>nodeB d x&&wT d r
end
def treeB (d:Nat) (t:List GA):Bool:=(t.isEmpty || decide (d < 3))&&upB t&&wT d t
theorem yZ (d:Nat):∀t,wT d t=t.all (nodeB d)
 | []=>rfl
 | x::r=>by simp only [wT,tf,yZ d r]
theorem vH (d:Nat) (x:GA):nodeB d x=(nameB x.name&&!(x.leaves.isEmpty&&x.subs.isEmpty)&&treeB (d+1) x.subs&&leavesB x.leaves):=by cases x;rfl
theorem up_nodes (d:Nat) (t:List GA):allI (λi x=>nodeB d x&&(decide (i=0) || Op.bytesLess (t.getD (i - 1) default).name x.name)) t=(upB t&&wT d t):=by
 rw [tu,allI_iff,yZ];simp only [ud,upB,allI_iff,ur];constructor
 ·intro h;exact ⟨λi x g=>(h i x g).2,λx g=>by obtain ⟨i,hi⟩:=u2.1 g;exact (h i x hi).1⟩
 ·grind
theorem lenE {α:Type} (l:List α):((l.length:Int)==0)=l.isEmpty:=by cases l <;> simp;omega
theorem treeXmayN_is:∀(n:Nat) (t:List GA) (d:Nat),GA.deps t < n->d<=3->Small t->qC n t (d:Int)=some (treeB d t)
 | 0,_,_,h,_,_=>by omega
 | n+1,t,d,h,hd,hs=>by
  unfold qC;by_cases hc:(decide ((t.length:Int) > 0)&&((d:Int)==3))=true
  ·rw [uz hc];simp only [ud,uk,rR] at hc;have:t.isEmpty=false:=by grind
   have g:decide (d < 3)=false:=u9 (by omega);simp [treeB,this,g]
  ·rw [uM hc];have v:(t.isEmpty || decide (d < 3))=true:=by
    simp only [ud,uk,rR] at hc;cases t with
    | nil=>rfl
    | cons x r=>simp at hc ⊢;omega
   have N:=hs.len;rw [lp_all (r:=false) (λi x=>nodeB d x&&(decide (i=0) || Op.bytesLess (t.getD (i - 1) default).name x.name)),up_nodes]
   ·unfold treeB;rw [v,uS]
    grind
   ·intro i x C;have hi:i < t.length:=(uc.1 C).1;have p:=uX C;have D:=vw p;have G:=xU x;have E:0 < t.length:=by omega
    have g:d < 3:=by
     grind
    have J:IntKind.wrap .i64 ((d:Int)+1)=((d+1:Nat):Int):=by rw [w64n (by omega)];omega
    have M:=treeXmayN_is n x.subs (d+1) (by omega) (by omega) (hs.subs p);have F:=hs.leaves p;have hsl:=(hs.subs p).len;have u:IntKind.wrap .i64 ((x.leaves.length:Int)+(x.subs.length:Int))=((x.leaves.length+x.subs.length:Nat):Int):=by rw [w64n (by omega)];omega
    have I:((((x.leaves.length+x.subs.length:Nat):Int))==0)=(x.leaves.isEmpty&&x.subs.isEmpty):=by
     cases h1:x.leaves <;> cases h2:x.subs <;> simp <;> omega
    rw [opIsName_is,J,M,u,I,vH];have w:lp (zD (λ(n2:Nat) (z:GC) (H:Unit)=>(((vu z).bind λo=>(yM ((((!o)==false)&&((decide ((n2:Int) > (0:Int)))==true))=true->0<=(IntKind.wrap .i64 ((n2:Int) - (1:Int)))/\(IntKind.wrap .i64 ((n2:Int) - (1:Int))) < ((x.leaves).length:Int)) ((if ((!o) || ((decide ((n2:Int) > (0:Int)))&&(decide (((x.leaves).getD (IntKind.wrap .i64 ((n2:Int) - (1:Int))).toNat default).typ >= z.typ))))=true then some (.ret (.ret false)) else some (.nxt ()))))):Option (Out (Out Bool Unit) Unit))) x.leaves 0 ()) (λ(H:Unit)=>some (.nxt ()))=if leavesB x.leaves=true then some (.nxt ()) else some (.ret false):=by
     rw [lp_all (r:=.ret false) (λi l=>leafB l&&(decide (i=0) || decide ((x.leaves.getD (i - 1) default).typ < l.typ)))]
     ·rfl
     ·intro j l m;have K:j < x.leaves.length:=(uc.1 m).1;have s:=hs.leaf p (uX m);rw [leafMay_is (by have:=s.items;simp only [maxLen];omega) (by have:=s.tombs;simp only [maxLen];omega)];simp only [ua];rcases j with _ | j
      ·cases leafB l <;> simp [yM]
      ·rw [qB (by simp only [maxLen];omega),pos_succ,uy,zu (by omega)]
       grind
    rw [w];simp only [ua];rcases i with _ | j
    ·cases nameB x.name <;> cases (x.leaves.isEmpty&&x.subs.isEmpty) <;> cases treeB (d+1) x.subs <;> cases leavesB x.leaves <;> simp [yM]
    ·rw [qB (by simp only [maxLen];omega),pos_succ,uy,zu (by omega),rC]
     grind
theorem vA {t:List GA} (h:Small t):treeMay t=some (treeB 0 t):=by
 unfold treeMay treeXmay;have:=qb (g:=λn=>qC n t 0) (r:=treeB 0 t) (GA.deps t+1) (λn j=>by have:=treeXmayN_is n t 0 (by omega) (by omega) h;simpa using this)
 simp_all
theorem ref07XmayN_is:∀(n:Nat) (t:List GA) (d:Nat),GA.deps t < n->d<=3->Small t->vD n t (d:Int)=some (treeB d t)
 | 0,_,_,h,_,_=>by omega
 | n+1,t,d,h,hd,hs=>by
  unfold vD;have I:=hs.len;rw [lp_all (r:=false) (λi x=>decide (d < 3)&&(nodeB d x&&(decide (i=0) || Op.bytesLess (t.getD (i - 1) default).name x.name)))]
  ·have e:allI (λi x=>decide (d < 3)&&(nodeB d x&&(decide (i=0) || Op.bytesLess (t.getD (i - 1) default).name x.name))) t=treeB d t:=by
    unfold treeB;rw [Bool.and_assoc,<- up_nodes];cases hd3:decide (d < 3)
    ·cases t with
     | nil=>rfl
     | cons x r=>simp [allI]
    ·simp
   grind
  ·intro i x v;have hi:i < t.length:=(uc.1 v).1;have o:=uX v;have w:=vw o;have C:=xU x;have p:decide ((d:Int) >= 3)=!decide (d < 3):=by grind
   rw [p];by_cases hd3:d < 3
   ·have E:IntKind.wrap .i64 ((d:Int)+1)=((d+1:Nat):Int):=by rw [w64n (by omega)];omega
    have H:=ref07XmayN_is n x.subs (d+1) (by omega) (by omega) (hs.subs o);have z:=hs.leaves o;rw [ref04IsName_is,E,H,vH,lenE,lenE];have u:lp (zD (λ(n2:Nat) (F:GC) (D:Unit)=>(((wP F).bind λv50=>(yM ((((!v50)==false)&&((decide ((n2:Int) > (0:Int)))==true))=true->0<=(IntKind.wrap .i64 ((n2:Int) - (1:Int)))/\(IntKind.wrap .i64 ((n2:Int) - (1:Int))) < ((x.leaves).length:Int)) ((yM ((((!v50)==false)&&((decide ((n2:Int) > (0:Int)))==true))=true->0<=(n2:Int)/\(n2:Int) < ((x.leaves).length:Int)) ((if ((!v50) || ((decide ((n2:Int) > (0:Int)))&&(decide (((x.leaves).getD (IntKind.wrap .i64 ((n2:Int) - (1:Int))).toNat default).typ >= ((x.leaves).getD (n2:Int).toNat default).typ))))=true then some (.ret (.ret false)) else some (.nxt ()))))))):Option (Out (Out Bool Unit) Unit))) x.leaves 0 ()) (λ(D:Unit)=>some (.nxt ()))=if leavesB x.leaves=true then some (.nxt ()) else some (.ret false):=by
     rw [lp_all (r:=.ret false) (λi l=>leafB l&&(decide (i=0) || decide ((x.leaves.getD (i - 1) default).typ < l.typ)))]
     ·rfl
     ·intro j l m;have G:j < x.leaves.length:=(uc.1 m).1;have s:x.leaves.getD j default=l:=by simp_all
      have g:=hs.leaf o (uX m);rw [ref05May_is (by have:=g.items;simp only [maxLen];omega) (by have:=g.tombs;simp only [maxLen];omega) g.time];simp only [ua];rcases j with _ | j
      ·cases leafB l <;> simp [yM]
      ·rw [qB (by simp only [maxLen];omega),pos_succ,uy,uy,s,zu (by omega),zu (by omega)]
       grind
    rw [u,u1 hd3];simp only [ua,tR,tg,uS,BEq.rfl,ut];rcases i with _ | j
    ·cases nameB x.name <;> cases (x.leaves.isEmpty&&x.subs.isEmpty) <;> cases treeB (d+1) x.subs <;> cases leavesB x.leaves <;> simp [yM]
    ·rw [qB (by simp only [maxLen];omega),pos_succ,uy,zu (by omega),rC]
     grind
   ·rw [u9 hd3];rfl
theorem ref07May_is {t:List GA} (h:Small t):ref07May t=some (treeB 0 t):=by
 unfold ref07May ref07Xmay;have:=qb (g:=λn=>vD n t 0) (r:=treeB 0 t) (GA.deps t+1) (λn j=>by have:=ref07XmayN_is n t 0 (by omega) (by omega) h;simpa using this)
 simp_all

theorem loopW_end {ρ:Type} {f:σ->Option (Out ρ σ)} (j:σ->Prop) (m:σ->Nat) (h:∀s,j s->(∃g,f s=some (.brk g)) \/ ∃g,f s=some (.nxt g)/\j g/\m g < m s):∀(k:Nat) (s:σ),m s=k->j s->∃g,yI f s=some (.inr g):=by
 intro k
 induction k using Nat.strongRecOn with
 | _ k ih =>
  intro s o hi;rw [yS];rcases h s hi with ⟨g,e⟩ | ⟨g,e,r,p⟩
  ·simp_all
  ·grind
theorem lpW_end {ρ:Type} {f:σ->Option (Out ρ σ)} {rest:σ->Option ρ} (g:σ->Prop) (m:σ->Nat) (p:∀s,∃v,rest s=some v) (o:σ) (hi:g o) (h:∀s,g s->(∃j,f s=some (.brk j)) \/ ∃j,f s=some (.nxt j)/\g j/\m j < m s):∃v,lp (yI f o) rest=some v:=by
 obtain ⟨j,e⟩:=loopW_end g m h _ o rfl hi
 simp_all
theorem idx_mem {α:Type} {L:List α} {i:Int} {x:α} (h:yB L i=some x):x ∈ L:=by
 unfold yB at h
 grind
theorem size_tot:∀(n:Nat) (t:List GA) (d:Int),GA.deps t < n->Small t->∃v,xS n t d=some v
 | 0,_,_,h,_=>by omega
 | n+1,t,d,h,hs=>by
  unfold xS;have I:=hs.len;refine lpW_end (λs=>0<=s.2/\s.2<=(t.length:Int)) (λs=>(t.length - s.2.toNat)) (λ_=>⟨_,rfl⟩) _ ⟨by simp,by simp⟩ (λs hi=>?_);rcases s with ⟨a,i⟩
  obtain ⟨k,rfl⟩:∃k:Nat,i=(k:Int):=⟨i.toNat,by have:=hi.1;simp at this;omega⟩
  by_cases hc:(decide ((k:Int) < (t.length:Int))&&decide (d < 10))=true
  ·right;simp only [ud,uk] at hc;have u:k < t.length:=by omega
   have z:t[k] ∈ t:=rl u;have D:=vw z;have F:=xU t[k];obtain ⟨v,G⟩:=size_tot n t[k].subs (IntKind.wrap .i64 (d+1)) (by omega) (hs.subs z);have E:=hs.leaves z;obtain ⟨j,C⟩:=loopW_end (ρ:=Out Int (Int×Int)) (σ:=Int×Int) (f:=λj:Int×Int=>(((yB t (k:Int)).bind λr=>(if decide (j.2 < ((r.leaves).length:Int))=true then ((yB t (k:Int)).bind λo=>((yB o.leaves j.2).bind λg=>(lp (zD (λ(H:Nat) (w:GF) (p:Int)=>(some (.nxt (IntKind.wrap .i64 ((IntKind.wrap .i64 (p+(1:Int)))+((w.text).length:Int)))):Option (Out _ Int))) g.items 0 (IntKind.wrap .i64 ((IntKind.wrap .i64 ((IntKind.wrap .i64 (j.1+(1:Int)))+((g.text).length:Int)))+((g.tombs).length:Int)))) λ(p:Int)=>some (.nxt (p,(IntKind.wrap .i64 (j.2+(1:Int)))))))) else some (.brk (j.1,j.2)))):Option (Out (Out Int (Int×Int)) (Int×Int))))
    (λs=>0<=s.2/\s.2<=(t[k].leaves.length:Int)) (λs=>(t[k].leaves.length - s.2.toNat)) (λs hi=>by
     rcases s with ⟨b,i⟩
     obtain ⟨q,rfl⟩:∃q:Nat,i=(q:Int):=⟨i.toNat,by have:=hi.1;simp at this;omega⟩
     simp only [idx_at u,ua];by_cases hq:q < t[k].leaves.length
     ·right;have m:decide ((q:Int) < (t[k].leaves.length:Int))=true:=by simpa using hq
      simp only [m,ut,idx_at hq,ua];rw [loopL_fold (λ(p:Int) (w:GF)=>IntKind.wrap .i64 ((IntKind.wrap .i64 (p+(1:Int)))+((w.text).length:Int))) _ 0 _ (λ_ _ _ _=>rfl),yO];refine ⟨_,rfl,?_,?_⟩
      ·simp only;rw [w64n (by omega)];omega
      ·simp only;rw [w64n (by omega)];omega
     ·left;have m:decide ((q:Int) < (t[k].leaves.length:Int))=false:=by simp;omega
      simp only [m];exact ⟨_,rfl⟩) _ ((IntKind.wrap .i64 ((IntKind.wrap .i64 ((IntKind.wrap .i64 (a+(1:Int)))+((t[k].name).length:Int)))+v)),(0:Int)) rfl ⟨by simp,by simp⟩
   refine ⟨(j.1,IntKind.wrap .i64 ((k:Int)+1)),?_,?_,?_⟩
   ·simp only [hc,rW,uT,ut,idx_at u,ua,G];simp only [idx_at u,ua] at C;rw [C];rfl
   ·simp only;rw [w64n (by omega)];omega
   ·simp only;rw [w64n (by omega)];omega
  ·left;refine ⟨(a,(k:Int)),?_⟩;simp only at hc ⊢
   grind
theorem size_fuel:∀(n m:Nat) (t:List GA) (d:Int),GA.deps t < n->GA.deps t < m->xS n t d=xS m t d
 | 0,_,_,_,h,_=>by omega
 | _+1,0,_,_,_,h=>by omega
 | n+1,m+1,t,d,h1,h2=>by
  unfold xS;congr 2;funext s;split
  ·cases hx:yB t s.2 with
   | none=>rfl
   | some y =>
    have g:=vw (idx_mem hx);have j:=xU y;simp only [ua];rw [size_fuel n m y.subs _ (by omega) (by omega)]
  ·rfl
theorem ref07Great_tot {t:List GA} (h:Small t):∃b,qx t=some b:=by
 unfold qx ref07Xsize;obtain ⟨v,g⟩:∃v,∀n,GA.deps t+1<=n->xS n t 0=some v:=by
  obtain ⟨v,g⟩:=size_tot (GA.deps t+1) t 0 (by omega) h;exact ⟨v,λn j=>by rw [size_fuel n (GA.deps t+1) t 0 (by omega) (by omega)];exact g⟩
 rw [qb (GA.deps t+1) g]
 simp_all

theorem clone_is {α:Type} {L:List α} (h:L.length<=lim):(nilq L λg=>(if g=true then some ([]:List α) else (yM ((([]:List α)).length+L.length<=lim) (some (([]:List α)++L)))))=some L:=by
 refine nilq_of ?_ λe=>by subst e;rfl
 rw [zu (by simpa using h)];simp
theorem qa (h:L.length<=lim):yC L=some L:=clone_is h
theorem cloneDot_is {L:List GE} (h:L.length<=lim):yW L=some L:=clone_is h
mutual
def rowsN (a:List zx):GA->List GK
 | ⟨nm,ls,sb⟩=>ls.map (λl=>GK.mk (a++[nm]) l)++zC (a++[nm]) sb
def zC (a:List zx):List GA->List GK
 | []=>[]
 | x::r=>rowsN a x++zC a r
end
mutual
def keepN (is:List zx->Bool) (a:List zx):GA->GA
 | ⟨nm,ls,sb⟩=>⟨nm,if is (a++[nm])=true then ls else [],keepL is (a++[nm]) sb⟩
def keepL (is:List zx->Bool) (a:List zx):List GA->List GA
 | []=>[]
 | x::r=>if (keepN is a x).leaves.isEmpty&&(keepN is a x).subs.isEmpty then keepL is a r else keepN is a x::keepL is a r
end
theorem rowsN_eq (a:List zx) (x:GA):rowsN a x=x.leaves.map (λl=>GK.mk (a++[x.name]) l)++zC (a++[x.name]) x.subs:=by cases x;rfl
theorem xd (a:List zx):∀t,zC a t=t.flatMap (rowsN a)
 | []=>rfl
 | x::r=>by simp only [zC,sq,xd a r]
theorem qJ {α j ρ:Type} (p:α->Bool) (g:α->j) {f:Nat->α->List j->Option (Out ρ (List j))}:∀(L:List α) (i:Nat) (s:List j),s.length+L.length<=lim->(∀i x s,x ∈ L->s.length+1<=lim->f i x s=if p x=true then some (.nxt (s++[g x])) else some (.nxt s)) ->
  zD f L i s=some (.inr (s++(L.filter p).map g))
 | [],_,s,_,_=>by simp [zD]
 | x::t,i,s,hl,h=>by
  simp only [ux] at hl;simp only [zD,h i x s (tT ..) (by omega),tX];cases hp:p x
  ·simp only [um,uJ];exact qJ p g t (i+1) s (by omega) λi x s m=>h i x s (tJ _ m)
  ·simp only [ut];rw [qJ p g t (i+1) (s++[g x]) (by simp;omega) λi x s m=>h i x s (tJ _ m)];simp
theorem deps_bks:∀(n:Nat) (t:List GA),GA.deps t<=n->GA.deps t<=GA.bks t:=by
 intro n
 induction n with
 | zero=>intro t g;omega
 | succ n ih =>
  intro t
  induction t with
  | nil=>intro _;simp [GA.deps]
  | cons x r ihr =>
   intro g;simp only [GA.deps] at g ⊢;simp only [GA.bks];have m:=ihr (by omega);have h:=xU x;have o:=ih x.subs (by omega);have j:=bk_node x;omega
theorem Small.dep {t:List GA} (h:Small t):GA.deps t<=16777216:=uA (deps_bks _ t (ug _)) h.2
theorem x7:∀{a b c:List UInt8},Op.bytesLess a b=true->Op.bytesLess b c=true->Op.bytesLess a c=true
 | _,[],_,h,_=>by cases ‹List UInt8› <;> simp [Op.bytesLess] at h
 | a,b::y,[],_,h=>by simp [Op.bytesLess] at h
 | [],b::y,c::z,_,_=>rfl
 | a::x,b::y,c::z,j,g=>by
  simp only [Op.bytesLess,tC,uk,ud,rR] at j g ⊢;rcases j with j | ⟨rfl,j⟩
  ·grind
  ·rcases g with g | ⟨rfl,g⟩
   ·simp_all
   ·right;exact ⟨rfl,x7 j g⟩
theorem qr (t:List GA):upB t=true ↔ t.Pairwise (λx y=>Op.bytesLess x.name y.name=true):=by
 unfold upB;rw [allI_iff];constructor
 ·intro h;rw [tv];intro i j hi g m;obtain ⟨k,rfl⟩:∃k,j=i+1+k:=⟨j - i - 1,by omega⟩
  induction k with
  | zero =>
   have:=h (i+1) _ (uh g)
   simp_all
  | succ k ih =>
   have o:=ih (by omega) (by omega);have:=h (i+1+(k+1)) _ (uh g);simp only [tC,uk] at this;rcases this with h0 | h0
   ·omega
   ·rw [show i+1+(k+1) - 1=i+1+k by omega,tI,uh (by omega)] at h0;exact x7 o h0
 ·intro h i x p;rcases i with _ | i
  ·rfl
  ·rw [tv] at h
   grind
section
variable (is:List zx->Bool)
theorem w9 {M:List GA->Prop} (h0:M []) (g:∀x r,M x.subs->M r->M (x::r)):∀t,M t:=by
 have key:∀(n:Nat) (t:List GA),GA.deps t<=n->M t:=by
  intro n
  induction n with
  | zero =>
   intro t h;cases t with
   | nil=>exact h0
   | cons x r=>simp only [GA.deps] at h;have:=xU x;omega
  | succ n ih =>
   intro t
   induction t with
   | nil=>intro _;exact h0
   | cons x r ihr =>
    intro h;simp only [GA.deps] at h;have:=xU x
    grind
 exact λt=>key _ t (ug _)
theorem keep_small:∀(t:List GA) (a:List zx),(GA.wfs t->GA.wfs (keepL is a t))/\GA.bks (keepL is a t)<=GA.bks t:=by
 refine w9 (λa=>⟨λh=>h,ug _⟩) ?_;intro x r j g a;have o:(keepN is a x).bk<=x.bk:=by
  have:=(j (a++[x.name])).2;cases x with
  | mk nm ls sb =>
   simp only [keepN,GA.bk] at this ⊢
   grind
 have m:x.wf->(keepN is a x).wf:=by
  have:=(j (a++[x.name])).1;cases x with
  | mk nm ls sb =>
   simp only [keepN,GA.wf] at this ⊢
   grind
 simp only [keepL];split
 ·refine ⟨λh=>(g a).1 (by simp only [GA.wfs] at h;exact h.2),?_⟩;have:=(g a).2;simp only [GA.bks];omega
 ·refine ⟨λh=>?_,?_⟩
  ·simp only [GA.wfs] at h ⊢;exact ⟨m h.1,(g a).1 h.2⟩
  ·have:=(g a).2;simp only [GA.bks];omega
theorem Small.keep {t:List GA} (h:Small t) (a:List zx):Small (keepL is a t):=⟨(keep_small is t a).1 h.1,uA (keep_small is t a).2 h.2⟩
end
theorem ref05Same_refl (l:GC):ref05Same l l=some true:=by
 unfold ref05Same;simp only [dotEq,itemEq];rw [uM (by simp),lp_all (r:=false) (λ_ _=>true),lp_all (r:=false) (λ_ _=>true)]
 ·simp [allI]
 ·intro i x g;have hi:=(uc.1 g).1;have h:l.tombs[i]=x:=(uc.1 g).2;rw [idx_at hi,h];simp
 ·intro i x g;have hi:=(uc.1 g).1;have h:l.items[i]=x:=(uc.1 g).2;rw [idx_at hi,h];simp
theorem ref07SameN_refl:∀(n:Nat) (t:List GA),GA.deps t < n->qw n t t=some true
 | 0,_,h=>by omega
 | n+1,t,h=>by
  unfold qw;rw [uM (by simp),lp_all (r:=false) (λ_ _=>true)]
  ·simp [allI]
  ·intro i x m;have hi:=(uc.1 m).1;have s:t[i]=x:=(uc.1 m).2;have hd:t.getD i default=x:=by simp_all
   have p:=vw (uX m);have v:=xU x;rw [idx_at hi,s];simp only [ua,uy,hd,ref07SameN_refl n x.subs (by omega)];rw [zu (by omega),zu (by omega),zu (by omega),zu (by omega)];rw [lp_all (r:=.ret false) (λ_ _=>true)]
   ·simp [allI]
   ·intro j l o;have u:=(uc.1 o).1;have g:x.leaves[j]=l:=(uc.1 o).2;rw [idx_at u,g];simp [ref05Same_refl]
theorem ref07Same_refl (t:List GA):qE t t=some true:=by
 unfold qE;exact qb (GA.deps t+1) λn g=>ref07SameN_refl n t (by omega)

theorem small_of {t:List GA} (h:t.length<=maxLen/\∀y ∈ t,GA.wf y) (g:(t.map GA.bk).sum<=16777216):Small t:=⟨(GA.wfs_iff t).2 h.2,by rw [GA.bks_eq];exact g⟩
theorem half_mid {lo hi:Nat} (h:lo < hi) (p:hi<=4611686018427387904):IntKind.wrap .i64 (Int.fdiv (IntKind.wrap .u64 (IntKind.wrap .i64 ((lo:Int)+(hi:Int)))) (2 ^ (min (1:Int).toNat (IntKind.bits .u64))))=(((lo+hi) / 2:Nat):Int):=by
 have g:IntKind.wrap .i64 ((lo:Int)+(hi:Int))=((lo+hi:Nat):Int):=by rw [w64n (by omega)];omega
 have o:IntKind.wrap .u64 (((lo+hi:Nat):Int))=((lo+hi:Nat):Int):=by rw [IntKind.wrap_u64];omega
 have j:(2:Int) ^ (min (1:Int).toNat (IntKind.bits .u64))=2:=by decide
 rw [g,o,j,Int.fdiv_eq_ediv_of_nonneg _ (by decide)];have m:((lo+hi:Nat):Int) / 2=(((lo+hi) / 2:Nat):Int):=by omega
 rw [m,w64n (by omega)]
theorem bs_loop {cmp:GA->zx->Option Int} {x:List GA} {s:zx} (z:x.length<=16777216) (r:∀i n,x[i]?=some n->∃v,cmp n s=some v/\(i < c->v < 0)/\(c<=i->0<=v)) :
  ∀(k lo hi:Nat),hi - lo<=k->lo<=c->c<=hi->hi<=x.length->yI (ρ:=Int×Bool) (λ(g:Int×Int)=>((if (decide (g.1 < g.2))=true then ((yB x (IntKind.wrap .i64 ((Int.fdiv (IntKind.wrap .u64 ((IntKind.wrap .i64 (g.1+g.2)))) (2 ^ (min (1:Int).toNat (IntKind.bits .u64))))))).bind λt=>((cmp t s).bind λh=>(if (decide (h < (0:Int)))=true then some (.nxt ((IntKind.wrap .i64 ((IntKind.wrap .i64 ((Int.fdiv (IntKind.wrap .u64 ((IntKind.wrap .i64 (g.1+g.2)))) (2 ^ (min (1:Int).toNat (IntKind.bits .u64))))))+(1:Int))),g.2)) else some (.nxt (g.1,(IntKind.wrap .i64 ((Int.fdiv (IntKind.wrap .u64 ((IntKind.wrap .i64 (g.1+g.2)))) (2 ^ (min (1:Int).toNat (IntKind.bits .u64))))))))))) else some (.brk (g.1,g.2))):Option (Out _ (Int×Int)))) ((lo:Int),(hi:Int))=some (.inr ((c:Int),(c:Int))):=by
 intro k
 induction k with
 | zero =>
  intro lo hi p j hc hh;obtain rfl:lo=hi:=by omega
  obtain rfl:lo=c:=by omega
  rw [yS];simp
 | succ k ih =>
  intro lo hi p j hc hh;rw [yS];by_cases hlt:lo < hi
  ·have hd:decide ((lo:Int) < (hi:Int))=true:=u1 (by omega);simp only [hd,ut,half_mid hlt (by omega)];have m:(lo+hi) / 2 < x.length:=by omega
   rw [idx_at m,ua];obtain ⟨v,u,o,w⟩:=r ((lo+hi) / 2) _ (uh m);rw [u,ua];by_cases hcm:(lo+hi) / 2 < c
   ·rw [u1 (o hcm),uz rfl];simp only;have e:IntKind.wrap .i64 ((((lo+hi) / 2:Nat):Int)+1)=(((lo+hi) / 2+1:Nat):Int):=by rw [w64n (by omega)];omega
    rw [e];exact ih _ _ (by omega) (by omega) hc hh
   ·rw [u9 (by omega)];simp only [um,uJ];exact ih _ _ (by omega) j (by omega) (by omega)
  ·grind
theorem bs_is {cmp:GA->zx->Option Int} {x:List GA} {s:zx} (j:x.length<=16777216) (hc:c<=x.length) (g:∀i n,x[i]?=some n->∃v,cmp n s=some v/\(i < c->v < 0)/\(c<=i->0<=v)) :
  zq x s cmp=(if c < x.length then cmp (x.getD c default) s else some 1).bind λv=>some ((c:Int),(decide (c < x.length)&&(v==0))):=by
 unfold zq;have:=bs_loop j g x.length 0 x.length (by omega) (tD _) hc (ug _);simp only [rU] at this;rw [show ((0:Int),(x.length:Int))=(((0:Nat):Int),(x.length:Int)) from rfl] at *;rw [this];simp only [lp];by_cases h:c < x.length
 ·have hd:decide ((c:Int) < (x.length:Int))=true:=u1 (by omega);simp only [hd,h,ut,uy,uW,rW,uS];rw [zu (by omega)]
 ·have hd:decide ((c:Int) < (x.length:Int))=false:=u9 (by omega);simp only [hd,h,uJ,rm,rG,ua];rfl
theorem cmp_less {a b:List UInt8}:Lib.compareBytes a b < 0 ↔ Op.bytesLess a b=true:=by
 induction a generalizing b with
 | nil=>cases b <;> simp [Lib.compareBytes,Op.bytesLess]
 | cons x a ih =>
  cases b with
  | nil=>simp [Lib.compareBytes,Op.bytesLess]
  | cons y b =>
   simp only [Lib.compareBytes,Op.bytesLess]
   grind
theorem cmp_self (a:List UInt8):Lib.compareBytes a a=0:=by
 induction a with
 | nil=>rfl
 | cons x a ih=>simp [Lib.compareBytes,ih]
theorem layC1_is (n:GA) (s:zx):xO n s=some (Lib.compareBytes n.name s):=rfl
theorem cloneLeaf_is {L:List GC} (h:L.length<=lim):xC L=some L:=clone_is h
theorem cloneNode_is {L:List GA} (h:L.length<=lim):xc L=some L:=clone_is h
theorem yJ (h:n<=16777217):n<=lim:=uA h (by decide)
theorem own_is (h:LeafOk l):diffXown l=some l:=by
 unfold diffXown;rw [qa (yJ (sI h.items)),ua,cloneDot_is (yJ (sI h.tombs)),ua]
def preR (a:List zx) (r:GK):GK:=⟨a++r.path,r.leaf⟩
theorem rows_pre:∀(t:List GA) (a b:List zx),zC (a++b) t=(zC b t).map (preR a):=by
 refine w9 (λ_ _=>rfl) ?_;intro x r h g a b;rw [xd,xd,sq,sq,<- xd,<- xd,g,tN];congr 1;rw [rowsN_eq,rowsN_eq,uC,h,tN,rF];rfl
theorem rows_path:∀(t:List GA) (a:List zx) (r:GK),r ∈ zC a t->a.length < r.path.length/\r.path.length<=a.length+GA.deps t:=by
 refine w9 (λ_ _ h=>by simp [zC] at h) ?_;intro x r s m a q g;rw [xd,sq,uG,<- xd] at g;have o:x.dep<=GA.deps (x::r):=vw (by simp);have j:=xU x;have p:GA.deps r<=GA.deps (x::r):=by
  simp only [GA.deps];omega
 rcases g with g | g
 ·rw [rowsN_eq,uG,tz] at g
  grind
 ·grind
theorem wB (h:leavesB ls=true):ls.Pairwise (λx y=>x.typ < y.typ)/\∀l ∈ ls,leafB l=true:=by
 unfold leavesB at h;rw [allI_iff] at h;have r:∀l ∈ ls,leafB l=true:=λl p=>by
  obtain ⟨i,hi⟩:=u2.1 p
  grind
 refine ⟨?_,r⟩;have g:∀i,(hi:i+1 < ls.length)->ls[i].typ < ls[i+1].typ:=λi hi=>by
  have:=h (i+1) _ (uh hi)
  grind
 rw [tv];intro i j hi o m;obtain ⟨k,rfl⟩:∃k,j=i+1+k:=⟨j - (i+1),by omega⟩
 clear m
 induction k with
 | zero=>exact g i o
 | succ k ih=>exact Int.lt_trans (ih (by omega)) (g (i+1+k) o)
theorem Small.tail {x:GA} {r:List GA} (h:Small (x::r)):Small r:=by
 refine ⟨(GA.wfs_iff r).2 λy g=>(GA.wfs_iff _).1 h.1 y (by simp [g]),?_⟩;have:=h.2;simp only [GA.bks] at this;omega
def pathLt (a b:List zx):Prop:=(∃y q,b=a++y::q) \/ ∃p x y a' b',a=p++x::a'/\b=p++y::b'/\Op.bytesLess x y=true
theorem less_irr:∀(a:List UInt8),Op.bytesLess a a=false
 | []=>rfl
 | x::a=>by simp [Op.bytesLess,less_irr a]
theorem less_ne {a b:List UInt8} (h:Op.bytesLess a b=true):a ≠ b:=by
 rintro rfl;rw [less_irr] at h;cases h
def rowLt (r q:GK):Prop:=pathLt r.path q.path \/ (r.path=q.path/\r.leaf.typ < q.leaf.typ)
theorem rows_head {t:List GA} {a:List zx} {r:GK} (h:r ∈ zC a t):∃x ∈ t,∃w,r.path=a++x.name::w:=by
 rw [xd,List.mem_flatMap] at h;obtain ⟨x,g,h⟩:=h;refine ⟨x,g,?_⟩;rw [rowsN_eq,uG,tz] at h;rcases h with ⟨l,_,rfl⟩ | h
 ·simp_all
 ·have:=rows_pre x.subs (a++[x.name]) [];rw [sY] at this;rw [this,tz] at h;obtain ⟨q,_,rfl⟩:=h;exact ⟨q.path,by simp [preR]⟩
theorem rows_lt:∀(t:List GA) (d:Nat) (a:List zx),upB t=true->wT d t=true->(zC a t).Pairwise rowLt:=by
 refine w9 (λ_ _ _ _=>List.Pairwise.nil) ?_;intro x r H G d a u C;rw [xd,sq,<- xd];rw [qr,uL] at u;simp only [wT,ud] at C;obtain ⟨j,s⟩:=C;rw [vH] at j;simp only [ud] at j;obtain ⟨⟨⟨_,_⟩,g⟩,v⟩:=j;simp only [treeB,ud] at g;obtain ⟨p,_⟩:=wB v;rw [tp];refine ⟨?_,G d a (qr r |>.2 u.2) s,λq o J m=>?_⟩
 ·rw [rowsN_eq,tp];refine ⟨?_,H (d+1) _ g.1.2 g.2,λq o J m=>?_⟩
  ·rw [sJ];exact p.imp λh=>.inr ⟨rfl,h⟩
  ·rw [tz] at o;obtain ⟨l,_,rfl⟩:=o;obtain ⟨y,_,w,e⟩:=rows_head m;exact .inl (.inl ⟨y.name,w,e⟩)
 ·have D:∃w,q.path=a++x.name::w:=by
   have:q ∈ zC a [x]:=by rw [xd];simpa using o
   obtain ⟨z,K,w,e⟩:=rows_head this
   simp_all
  obtain ⟨w,I⟩:=D;obtain ⟨y,F,w',E⟩:=rows_head m;exact .inl (.inr ⟨a,x.name,y.name,w,w',I,E,u.1 y F⟩)
structure RowOk' (r:GK):Prop where
 path:pathB r.path=true
 leaf:leafB r.leaf=true
 ok:LeafOk r.leaf
theorem rows_ok:∀(t:List GA) (d:Nat) (a:List zx),Small t->treeB d t=true->a.length=d->a.all nameB=true->∀r ∈ zC a t,RowOk' r:=by
 have key:∀(t:List GA),(∀(d:Nat) (a:List zx),Small t->wT d t=true->d < 3->a.length=d->a.all nameB=true->∀r ∈ zC a t,RowOk' r):=by
  refine w9 (λ_ _ _ _ _ _ _ _ h=>by simp [zC] at h) ?_;intro x r E s d a hs C hd v D q g;rw [xd,sq,uG,<- xd] at g;simp only [wT,ud] at C;obtain ⟨m,u⟩:=C;rcases g with g | g
  ·rw [vH] at m;simp only [ud] at m;obtain ⟨⟨⟨F,_⟩,j⟩,w⟩:=m;have p:(a++[x.name]).all nameB=true:=by simp_all
   rw [rowsN_eq,uG,tz] at g;rcases g with ⟨l,o,rfl⟩ | g
   ·refine ⟨?_,(wB w).2 l o,hs.leaf (by simp) o⟩;simp only [pathB,p,sA,uq,ux,u6,ud,uk];omega
   ·simp only [treeB,ud,tC,pH,uk] at j;rcases j.1.1 with h0 | h0
    ·rw [h0] at g;simp [zC] at g
    ·exact E (d+1) _ (hs.subs (by simp)) j.2 h0 (by simp [v]) p q g
  ·exact s d a hs.tail u hd v D q g
 intro t d a hs z v D r s;simp only [treeB,ud,tC,pH,uk] at z;rcases z.1.1 with h0 | h0
 ·rw [h0] at s;simp [zC] at s
 ·grind
theorem small_nil:Small []:=⟨(GA.wfs_iff []).2 (by simp),by simp [GA.bks]⟩
theorem qX (d:Nat):treeB d []=true:=by rfl
theorem leafNew_tot (k:Int):∃v,vt k=some v:=by unfold vt;split <;> exact ⟨_,rfl⟩
theorem pathB_ne {p:List zx} (h:pathB p=true):p ≠ []:=by
 rintro rfl
 simp [pathB] at h
def typeB (k:Int):Int:=if k=1 then 1 else if k=2 then 2 else if k=3 \/ k=4 then 3 else if k=5 then 4 else 0
def opB (o:GL):Bool:=decide (1<=o.kind)&&decide (o.kind<=5)&&pathB o.path&&decide (o.text.length<=40)&&decide (o.dots.length<=64) &&
 (if o.kind=1 then decide (-1000000<=o.n)&&decide (o.n<=1000000)&&(o.text==[])&&decide (o.dots.length=0)
   else decide (o.n=0)&&(decide (o.kind=4) || decide (o.dots.length=0))&&(o.dots.all vz&&xR o.dots))
theorem opType_is (k:Int):opType k=some (typeB k):=by
 unfold opType opXof typeB;by_cases h:k < 1 \/ 5 < k
 ·grind
 ·have g:¬ (decide (k < 1) || decide (k > 5))=true:=by simp;omega
  rw [uM g];rcases (show k=1 \/ k=2 \/ k=3 \/ k=4 \/ k=5 by omega) with rfl | rfl | rfl | rfl | rfl <;> rfl
theorem wrap_pred (h0:0 < i) (g:i<=9223372036854775807):(IntKind.wrap .i64 ((i:Int) - 1))=((i - 1:Nat):Int):=by rw [w64n (by omega)];omega
theorem opXdrops_is (o:GL):opXdrops o=some (decide (o.n=0)&&decide (o.text.length<=40)&&decide (o.dots.length<=64)&&(o.dots.all vz&&xR o.dots)):=by
 unfold opXdrops;by_cases hc:o.n ≠ 0 \/ 40 < o.text.length \/ 64 < o.dots.length
 ·grind
 ·have h:¬ ((o.n != 0 || decide (((o.text).length:Int) > 40)) || decide (((o.dots).length:Int) > 64))=true:=by simp;omega
  rw [uM h,rising_loop]
  ·simp_all
  ·intro i x p;have hi:i < o.dots.length:=(uc.1 p).1;simp only [dotMay_is,ua];by_cases h0:i=0
   ·subst h0;cases hd:vz x <;> simp [yM,wu,hd]
   ·have m:decide ((i:Int) > 0)=true:=by simp;omega
    have g:=wrap_pred (i:=i) (by omega) (by omega);rw [g,uy];have j:wu o.dots i x=ym (o.dots.getD (i - 1) default) x:=by unfold wu;rw [u9 h0];rfl
    rw [zu (by omega),m,j];generalize o.dots.getD (i - 1) default=y;cases hd:vz x
    ·simp
    ·have e:=dotCmp_lt y x;simp only [dotCompare_is,tR,tg,uS,BEq.rfl,ut,ua,e]
     grind
theorem nil_rises (h:ds.length=0):(ds.all vz&&xR ds)=true:=by
 have:ds=[]:=uH h;subst this;rfl
theorem lenB {α:Type} (l:List α):((l.length:Int)==0)=decide (l.length=0):=by
 grind
theorem opMay_is (o:GL):opMay o=some (opB o):=by
 unfold opMay opXof opB;by_cases h:o.kind < 1 \/ 5 < o.kind
 ·grind
 ·have m:¬ (decide (o.kind < 1) || decide (o.kind > 5))=true:=by simp;omega
  rw [uM m,opMayPath_is];have j:=nil_rises (ds:=o.dots);rcases (show o.kind=1 \/ o.kind=2 \/ o.kind=3 \/ o.kind=4 \/ o.kind=5 by omega) with g | g | g | g | g <;> rw [g] <;>
   simp only [yB,Int.toNat,ua,callOp,opXadds,opXplain,opXdrops_is,lenB] <;> generalize (o.dots.all vz&&xR o.dots)=R at j ⊢ <;> cases hp:pathB o.path <;> simp [g] <;> grind
def eventB (e:GH):Bool:=vz e.dot&&decide (e.time >= 1)&&decide (e.time<=1099511627776)&&opB e.op
theorem opMayEvent_is (e:GH):opMayEvent e=some (eventB e):=by
 unfold opMayEvent eventB;rw [dotMay_is,opMay_is];simp only [ua]
 grind
theorem loopW_inv {ρ:Type} {f:σ->Option (Out ρ σ)} (m j:σ->Prop) (o:σ->Nat) (h:∀s,m s->(∃g,f s=some (.brk g)/\j g) \/ ∃g,f s=some (.nxt g)/\m g/\o g < o s):∀(k:Nat) (s:σ),o s=k->m s->∃g,yI f s=some (.inr g)/\j g:=by
 intro k
 induction k using Nat.strongRecOn with
 | _ k ih =>
  intro s p hi;rw [yS]
  grind
theorem idxF_is {q:GC->Bool} {del:GC->Option Bool}:∀(L:List GC) (n:Nat),(∀x ∈ L,del x=some (q x)) ->
  (zD (λ(g:Nat) (j:GC) (_:Unit)=>(((del j).bind λo=>(if o=true then some (.ret (g:Int)) else some (.nxt ()))):Option (Out Int Unit))) L n ()=some (.inr ())/\∀x ∈ L,q x=false) \/
  ∃A x B,L=A++x::B/\q x=true/\(∀y ∈ A,q y=false)/\zD (λ(g:Nat) (j:GC) (_:Unit)=>(((del j).bind λo=>(if o=true then some (.ret (g:Int)) else some (.nxt ()))):Option (Out Int Unit))) L n ()=some (.inl ((n+A.length:Nat):Int))
 | [],n,_=>.inl ⟨rfl,by simp⟩
 | x::r,n,h=>by
  have m:=h x (by simp);cases hq:q x with
  | true=>exact .inr ⟨[],x,r,rfl,hq,by simp,by simp [zD,m,hq]⟩
  | false =>
   rcases idxF_is r (n+1) (λy p=>h y (by simp [p])) with ⟨e,s⟩ | ⟨A,y,B,rfl,t,s,e⟩
   ·refine .inl ⟨by simp only [zD,m,hq,ua];exact e,?_⟩
    simp_all
   ·refine .inr ⟨x::A,y,B,rfl,t,?_,?_⟩
    ·simp_all
    ·simp only [zD,m,hq,ua]
     grind
theorem we {a:Nat} (h:a<=16777216):IntKind.wrap .i64 ((a:Int)+1)=((a+1:Nat):Int):=wrap_add1 (uA (pD h) (by decide))
noncomputable def delF (del:GC->Option Bool) (n:Nat):Int×Int×(List GC)->Option (Out (List GC) (Int×Int×(List GC))):=λs1=>((yM ((s1.2.2).length=n) ((if (decide (s1.2.1 < ((n:Nat):Int)))=true then ((yB s1.2.2 s1.2.1).bind λy14=>((del y14).bind λv15=>(if (!v15)=true then ((yB s1.2.2 s1.1).bind λy17=>some (.nxt ((IntKind.wrap .i64 (s1.1+(1:Int))),(IntKind.wrap .i64 (s1.2.1+(1:Int))),(s1.2.2.set s1.1.toNat y14)))) else some (.nxt (s1.1,(IntKind.wrap .i64 (s1.2.1+(1:Int))),s1.2.2))))) else some (.brk (s1.1,s1.2.1,s1.2.2))))))
theorem delR_eq (h:List GC) (g:GC->Option Bool):ww h g=((yw h g).bind λo=>(if (o==(-1:Int))=true then some h else (lp (yI (delF g h.length) (o,(IntKind.wrap .i64 (o+(1:Int))),h)) λ(j:Int×Int×(List GC))=>(yM (0<=j.1/\j.1<=((h.length:Nat):Int)) (((slc (j.2.2.take j.1.toNat++List.replicate (h.length - j.1.toNat) zLf) (0:Int) j.1).bind λm=>some m)))))):=rfl
theorem delF_run {q:GC->Bool} (z:L0.length<=16777216) (h:∀x ∈ L0,del x=some (q x)) {a0 b0:Nat} (E:a0 < b0) (D:b0<=L0.length) (H:L0.take a0=(L0.take b0).filter λx=>!q x) :
  ∃o,yI (delF del L0.length) ((a0:Int),(b0:Int),L0)=some (.inr o)/\∃a:Nat,o.1=(a:Int)/\a < L0.length/\o.2.2.length=L0.length/\o.2.2.take a=L0.filter λx=>!q x:=by
 refine loopW_inv (f:=delF del L0.length) (λs=>∃a b:Nat,s.1=(a:Int)/\s.2.1=(b:Int)/\a < b/\b<=L0.length/\s.2.2.length=L0.length/\s.2.2.take a=(L0.take b).filter (λx=>!q x)/\s.2.2.drop b=L0.drop b)
  _ (λs=>L0.length - s.2.1.toNat) ?_ _ _ rfl ⟨a0,b0,rfl,rfl,E,D,rfl,H,rfl⟩
 rintro ⟨i,j,M⟩ ⟨a,b,v,C,J,w,t,u,p⟩
 simp only at v C t u p;subst v C;simp only [delF,yM,t,ut];by_cases hb:b < L0.length
 ·right;have G:M[b]?=L0[b]?:=by
   have:=congrArg (λl=>l[0]?) p
   grind
  have F:L0[b]?=some L0[b]:=uh hb;have hd:=h L0[b] (rl hb);have m:yB M (b:Int)=some L0[b]:=by simp [yB,G]
  have g:yB M (a:Int)=some (M[a]'(by omega)):=by simp [yB]
  rw [uz (by simp;omega),m,ua,hd,ua];have r:L0.take (b+1)=L0.take b++[L0[b]]:=by simp_all
  cases hq:q L0[b] with
  | true =>
   refine ⟨((a:Int),((b+1:Nat):Int),M),by simp [we (uA w z)],⟨a,b+1,rfl,rfl,by omega,by omega,t,?_,?_⟩,by simp;omega⟩
   ·grind
   ·have:=congrArg (λl=>l.drop 1) p;simpa [tn] using this
  | false =>
   refine ⟨(((a+1:Nat):Int),((b+1:Nat):Int),M.set a L0[b]),by simp [g,we (uA w z),we (show a<=16777216 by omega)],⟨a+1,b+1,rfl,rfl,by omega,by omega,by simp_all,?_,?_⟩,by simp;omega⟩
   ·rw [tB,sL (ug _),u,r,tE,uD (by omega)];simp [hq]
   ·have:=congrArg (λl=>l.drop 1) p;rw [sM (by omega)];simpa [tn] using this
 ·left;have I:b=L0.length:=by omega
  rw [uM (by simp;omega)]
  grind
theorem deleteR_is {q:GC->Bool} (s:L0.length<=16777216) (h:∀x ∈ L0,del x=some (q x)):ww L0 del=some (L0.filter λx=>!q x):=by
 rw [delR_eq];unfold yw;rcases idxF_is L0 0 h with ⟨e,m⟩ | ⟨A,x,B,r,p,m,e⟩
 ·rw [e];simp only [lp,ua,uW,ut];rw [tG.2 (λx z=>by simp_all)]
 ·rw [e];have j:L0.length=A.length+1+B.length:=by grind
  simp only [lp,ua,tx];rw [uM (by simp_all),we (by omega)];obtain ⟨g,t,a,o,C,u,v⟩:=delF_run s h (a0:=A.length) (b0:=A.length+1) (by omega) (by omega) (by
   rw [r,pg,tV,uK (by omega),show A.length+1 - A.length=1 by omega,tE];simp only [sK,pQ,tX,p,List.filter_nil];rw [tG.2 (λy w=>by simp_all)];simp)
  rw [t];simp only [yM];rw [uz (by omega),o];have hs:slc (g.2.2.take ((a:Int)).toNat++List.replicate (L0.length - ((a:Int)).toNat) zLf) (0:Int) (a:Int)=some (g.2.2.take a):=by
   unfold slc
   grind
  simp_all

theorem less_tot:∀(a b:List UInt8),a=b \/ Op.bytesLess a b=true \/ Op.bytesLess b a=true
 | [],[]=>.inl rfl
 | [],_::_=>.inr (.inl rfl)
 | _::_,[]=>.inr (.inr rfl)
 | x::a,y::b=>by
  by_cases h:x=y
  ·subst h;rcases less_tot a b with rfl | h | h
   ·simp_all
   ·exact .inr (.inl (by simp [Op.bytesLess,h]))
   ·exact .inr (.inr (by simp [Op.bytesLess,h]))
  ·have g:x.toNat ≠ y.toNat:=λe=>h (UInt8.toNat_inj.1 e);rcases Nat.lt_or_gt_of_ne g with h | h
   ·exact .inr (.inl (by simp [Op.bytesLess,rO,h]))
   ·exact .inr (.inr (by simp [Op.bytesLess,rO,h]))
def pltB:List zx->List zx->Bool
 | _,[]=>false
 | [],_::_=>true
 | x::a,y::b=>Op.bytesLess x y || (decide (x=y)&&pltB a b)
theorem plt_irr:∀a,pltB a a=false
 | []=>rfl
 | x::a=>by simp [pltB,less_irr,plt_irr a]
theorem plt_trans:∀{a b c:List zx},pltB a b=true->pltB b c=true->pltB a c=true
 | _,[],_,h,_=>by cases ‹List zx› <;> simp [pltB] at h
 | _,_::_,[],_,h=>by simp [pltB] at h
 | [],_::_,_::_,_,_=>rfl
 | x::a,y::b,z::c,j,g=>by
  simp only [pltB,tC,ud,uk] at *;rcases j with j | ⟨rfl,j⟩
  ·rcases g with g | ⟨rfl,g⟩
   ·exact .inl (x7 j g)
   ·simp_all
  ·rcases g with g | ⟨rfl,g⟩
   ·simp_all
   ·exact .inr ⟨rfl,plt_trans j g⟩
theorem plt_path:∀{a b:List zx},pltB a b=true->pathLt a b
 | _,[],h=>by cases ‹List zx› <;> simp [pltB] at h
 | [],y::b,_=>.inl ⟨y,b,rfl⟩
 | x::a,y::b,h=>by
  simp only [pltB,tC,ud,uk] at h;rcases h with h | ⟨rfl,h⟩
  ·exact .inr ⟨[],x,y,a,b,rfl,rfl,h⟩
  ·rcases plt_path h with ⟨z,q,rfl⟩ | ⟨p,u,v,a',g,rfl,rfl,j⟩
   ·exact .inl ⟨z,q,rfl⟩
   ·exact .inr ⟨x::p,u,v,a',g,rfl,rfl,j⟩
theorem path_plt {a b:List zx} (h:pathLt a b):pltB a b=true:=by
 rcases h with ⟨y,q,rfl⟩ | ⟨p,x,y,a',g,rfl,rfl,h⟩
 ·induction a with
  | nil=>rfl
  | cons x a ih=>simp [pltB,ih]
 ·induction p with
  | nil=>simp [pltB,h]
  | cons x a ih=>simp [pltB,ih]
def Key:=List zx×Int
def kltB (a b:Key):Bool:=pltB a.1 b.1 || (decide (a.1=b.1)&&decide (a.2 < b.2))
theorem klt_irr (a:Key):kltB a a=false:=by simp [kltB,plt_irr]
theorem klt_trans {a b c:Key} (h:kltB a b=true) (g:kltB b c=true):kltB a c=true:=by
 simp only [kltB,tC,ud,uk] at *;rcases h with h | ⟨j,h⟩
 ·rcases g with g | ⟨m,g⟩
  ·exact .inl (plt_trans h g)
  ·simp_all
 ·grind
def wo (r:GK):Key:=(r.path,r.leaf.typ)
theorem sortO_lt {α:Type} {c:α->α->Option Int} {cf:α->α->Int} {lt:α->α->Prop} {L R:List α} (hc:∀x ∈ L,∀y ∈ L,c x y=some (cf x y)) (w:∀x y,cf x y < 0 ↔ lt x y) (p:∀x,¬ lt x x) (u:∀x y z,lt x y->lt y z->lt x z)
  (D:∀x ∈ L,∀y ∈ L,x=y \/ lt x y \/ lt y x) (t:R.Perm L) (hs:R.Pairwise lt) (E:L.length<=lim):sortO c L=some R:=by
 unfold sortO;rw [uz (λx g y j=>by simp_all)];have hd:∀x ∈ L,∀y ∈ L,(c x y).getD 0 < 0 ↔ lt x y:=λx g y j=>by simp_all
 have r:∀x y,lt x y->¬ lt y x:=λx y o m=>p x (u _ _ _ o m);have v:R.Pairwise λa b=>¬ (c b a).getD 0 < 0:=by
  have:R.Pairwise λa b=>a ∈ L/\b ∈ L/\lt a b:=by
   refine py ?_ hs
   grind
  refine this.imp ?_
  simp_all
 refine sortF_of ⟨λx g h=>p x ((hd x g x g).1 h),λx y z g j s o m=>(hd x g z s).2 (u _ _ _ ((hd x g y j).1 o) ((hd y j z s).1 m)),λx y z g j s o m G=>?_⟩ E ⟨t,v⟩ ?_
 ·grind
 ·rintro M ⟨F,C⟩
  refine sorted_one (F.trans t.symm) C v λx y g j o m=>?_
  grind
theorem cmp_pos:∀{a b:List UInt8},Op.bytesLess b a=true->0 < Lib.compareBytes a b
 | [],b,h=>by cases b <;> simp [Op.bytesLess] at h
 | _::_,[],_=>by simp [Lib.compareBytes]
 | x::a,y::b,h=>by
  simp only [Op.bytesLess,tC,ud,uk,rR] at h;rcases h with h | ⟨rfl,h⟩
  ·have j:y.toNat < x.toNat:=rO.1 h;have g:¬ x < y:=λe=>by grind
   simp [Lib.compareBytes,h,g]
  ·have:=cmp_pos h;simp [Lib.compareBytes,this]
def NLt (s:zx) (A:List GA):Prop:=∀y ∈ A,Op.bytesLess y.name s=true
def NGt (s:zx) (B:List GA):Prop:=∀y ∈ B,Op.bytesLess s y.name=true
theorem split_up {t:List GA} (s:zx) (h:upB t=true):(∃A B,t=A++B/\NLt s A/\NGt s B) \/ ∃A x B,t=A++x::B/\x.name=s/\NLt s A/\NGt s B:=by
 rw [qr] at h
 induction t with
 | nil=>exact .inl ⟨[],[],rfl,λ_ h=>by simp at h,λ_ h=>by simp at h⟩
 | cons x t ih =>
  obtain ⟨p,o⟩:=uL.1 h;rcases less_tot x.name s with e | e | e
  ·exact .inr ⟨[],x,t,rfl,e,λ_ h=>by simp at h,λy g=>by simp_all⟩
  ·rcases ih o with ⟨A,B,rfl,m,j⟩ | ⟨A,z,B,rfl,r,m,j⟩
   ·refine .inl ⟨x::A,B,rfl,λy g=>?_,j⟩;rcases uP.1 g with rfl | g
    ·exact e
    ·exact m y g
   ·refine .inr ⟨x::A,z,B,rfl,r,λy g=>?_,j⟩
    grind
  ·refine .inl ⟨[],x::t,rfl,λ_ h=>by simp at h,λy g=>?_⟩;rcases uP.1 g with rfl | g
   ·exact e
   ·exact x7 e (p y g)
theorem bs_none {A B:List GA} {s:zx} (r:(A++B).length<=16777216) (j:NLt s A) (g:NGt s B):zq (A++B) s (λh p=>xO h p)=some ((A.length:Int),false):=by
 rw [bs_is (c:=A.length) r (by simp) λi m hi=>⟨_,layC1_is m s,λhc=>by
   rw [un hc] at hi;exact cmp_less.2 (j m (uX hi)),λhc=>by
   rw [uj hc] at hi;exact Int.le_of_lt (cmp_pos (g m (uX hi)))⟩]
 cases B with
 | nil=>simp
 | cons y B =>
  have e:(A++y::B).getD A.length default=y:=by simp
  have:=cmp_pos (g y (by simp));rw [uz (by simp),e,layC1_is];have o:(Lib.compareBytes y.name s==0)=false:=by simp;omega
  simp [o]
theorem bs_some {A B:List GA} {x:GA} {s:zx} (r:(A++x::B).length<=16777216) (hs:x.name=s) (j:NLt s A) (p:NGt s B):zq (A++x::B) s (λg o=>xO g o)=some ((A.length:Int),true):=by
 subst hs;rw [bs_is (c:=A.length) r (by simp) λi m hi=>⟨_,layC1_is m x.name,λhc=>by
   rw [un hc] at hi;exact cmp_less.2 (j m (uX hi)),λhc=>by
   rw [uj hc] at hi;rcases uP.1 (uX hi) with rfl | h
   ·rw [cmp_self];exact tY _
   ·exact Int.le_of_lt (cmp_pos (p m h))⟩]
 have e:(A++x::B).getD A.length default=x:=by simp
 rw [uz (by simp),e,layC1_is,cmp_self];simp
noncomputable def layIn (n:Nat) (path1:List zx) (kind2:Int) (l3:GC) (there4:Bool) (s1:zx×(List GC)×(List GA)):Option (List GA ⊕ ((List GC)×(List GA))):=((if (decide (((path1).length:Int) > (1:Int)))=true then ((slc path1 (1:Int) ((path1).length:Int)).bind λm20=>((xZ n s1.2.2 m20 kind2 l3 there4).bind λv21=>some (.inr (s1.2.1,v21)))) else ((xC s1.2.1).bind λv22=>((ww v22 (λx0=>diffXlayC2 x0 kind2)).bind λv23=>(if there4=true then ((diffXown l3).bind λv25=>(yM ((v23).length+(([v25]:List GC)).length<=lim) (((sortO (λx y=>diffXlayC3 x y) (v23++([v25]:List GC))).bind λv27=>some (.inr (v27,s1.2.2)))))) else some (.inr (v23,s1.2.2)))))):Option (_ ⊕ ((List GC)×(List GA))))
noncomputable def layRest (t0:List GA) (i:Int) (f:Bool) (nm:zx) (s2:(List GC)×(List GA)):Option (List GA):=((slc t0 (0:Int) i).bind λm28=>((xc m28).bind λv29=>(if (decide ((IntKind.wrap .i64 (((s2.1).length:Int)+((s2.2).length:Int))) > (0:Int)))=true then (yM ((v29).length+(([(GA.mk nm s2.1 s2.2)]:List GA)).length<=lim) ((if f=true then ((slc t0 (IntKind.wrap .i64 (i+(1:Int))) ((t0).length:Int)).bind λm35=>(yM (((v29++([(GA.mk nm s2.1 s2.2)]:List GA))).length+(m35).length<=lim) (some ((v29++([(GA.mk nm s2.1 s2.2)]:List GA))++m35)))) else ((slc t0 i ((t0).length:Int)).bind λm37=>(yM (((v29++([(GA.mk nm s2.1 s2.2)]:List GA))).length+(m37).length<=lim) (some ((v29++([(GA.mk nm s2.1 s2.2)]:List GA))++m37))))))) else (if f=true then ((slc t0 (IntKind.wrap .i64 (i+(1:Int))) ((t0).length:Int)).bind λm40=>(yM ((v29).length+(m40).length<=lim) (some (v29++m40)))) else ((slc t0 i ((t0).length:Int)).bind λm42=>(yM ((v29).length+(m42).length<=lim) (some (v29++m42))))))))
theorem layN_eq (n:Nat) (t0:List GA) (g:List zx) (j:Int) (r:GC) (h:Bool):xZ (n+1) t0 g j r h=((yB g (0:Int)).bind λw=>((zq t0 w (λs v=>xO s v)).bind λm=>((yB g (0:Int)).bind λt=>(lp ((if m.2=true then ((yB t0 m.1).bind λo=>some (.inr (o.name,o.leaves,o.subs))) else some (.inr (t,([]:List GC),([]:List GA)))):Option (_ ⊕ (zx×(List GC)×(List GA)))) λ(p:zx×(List GC)×(List GA))=>(lp (layIn n g j r h p) λ(u:(List GC)×(List GA))=>layRest t0 m.1 m.2 p.1 u))))):=rfl
def qL (k:Int) (l:GC) (there:Bool) (ls:List GC):List GC:=if there=true then ls.filter (λx=>decide (x.typ < k))++[l]++ls.filter (λx=>decide (k < x.typ)) else ls.filter (λx=>!decide (x.typ=k))
theorem ups_inj (h:ls.Pairwise λx y=>x.typ < y.typ) {x y:GC} (g:x ∈ ls) (j:y ∈ ls) (e:x.typ=y.typ):x=y:=by
 induction ls with
 | nil=>simp at g
 | cons z r ih =>
  obtain ⟨o,m⟩:=uL.1 h
  grind
theorem layLs_up (g:there=true->l.typ=k) (h:ls.Pairwise λx y=>x.typ < y.typ):(qL k l there ls).Pairwise λx y=>x.typ < y.typ:=by
 unfold qL;split
 ·rename_i m;have g:=g m;rw [tp,tp];refine ⟨⟨h.filter _,by simp,λx o y j=>?_⟩,h.filter _,λx o y j=>?_⟩
  ·simp_all
  ·grind
 ·grind
theorem sortLs_is (m:l.typ=k) (r:ls.length<=16777216) (h:ls.Pairwise λx y=>x.typ < y.typ):sortO (λx y=>diffXlayC3 x y) (ls.filter (λx=>!decide (x.typ=k))++[l])=some (qL k l true ls):=by
 have p:=s6 (λx:GC=>!decide (x.typ=k)) ls;refine sortO_lt (α:=GC) (cf:=λx y=>cmpI x.typ y.typ) (lt:=λx y=>x.typ < y.typ) (λx _ y _=>by unfold diffXlayC3;rw [cmpU8is];rfl) (λx y=>by unfold cmpI;split <;> (try split) <;> omega) (λx h=>by omega) (λx y z o s=>by omega) ?_ ?_ (layLs_up (λ_=>m) h) (yJ (by simp;omega))
 ·intro x j y g;rcases Int.lt_trichotomy x.typ y.typ with e | e | e
  ·omega
  ·left;rcases uG.1 j with j | j <;> rcases uG.1 g with g | g
   ·exact ups_inj h (tO.1 j).1 (tO.1 g).1 e
   ·simp_all
   ·simp_all
   ·simp_all
  ·omega
 ·unfold qL;rw [uz rfl];have o:(ls.filter (λx=>decide (x.typ < k))++ls.filter (λx=>decide (k < x.typ))).Perm (ls.filter λx=>!decide (x.typ=k)):=by
   have:=rE (λx:GC=>decide (x.typ < k)) (ls.filter λx=>!decide (x.typ=k));rw [sW,sW] at this;refine List.Perm.trans (.of_eq ?_) this;congr 1 <;> refine su λx _=>?_ <;> rw [tu] <;> simp <;> omega
  grind
theorem layIn_leaf {s:zx} {m:zx} {sb:List GA} (j:there=true->l.typ=k/\LeafOk l) (g:ls.length<=16777216) (h:ls.Pairwise λx y=>x.typ < y.typ) :
  layIn n [s] k l there (m,ls,sb)=some (.inr (qL k l there ls,sb)):=by
 unfold layIn;have o:decide (((([s]:List zx).length:Int)) > 1)=false:=rfl;have t:=s6 (λx:GC=>!decide (x.typ=k)) ls;simp only [o,um,uJ];rw [cloneLeaf_is (yJ (by omega)),ua,deleteR_is (q:=λx=>decide (x.typ=k)) g (λx _=>by rfl),ua];cases there with
 | false=>simp [qL]
 | true =>
  obtain ⟨r,p⟩:=j rfl;simp only [ut];rw [own_is p,ua,zu (yJ (by simp;omega)),sortLs_is r g h,ua]
theorem layIn_sub {s a:zx} {r:List zx} {j:zx} {sb g:List GA} (o:(s::a::r).length<=16777216) (h:xZ n sb (a::r) k l there=some g):layIn n (s::a::r) k l there (j,ls,sb)=some (.inr (ls,g)):=by
 unfold layIn;have m:decide ((((s::a::r).length:Int)) > 1)=true:=u1 (by grind);simp only [m,ut];rw [slc_at ⟨by omega,by grind,tY _⟩,ua];have p:((s::a::r).take (((s::a::r).length:Int)).toNat).drop (1:Int).toNat=a::r:=by rw [uy,sj];rfl
 simp_all
def fitN (nm:zx) (ls:List GC) (sb:List GA):List GA:=if ls.length+sb.length=0 then [] else [⟨nm,ls,sb⟩]
theorem layRest_is {A B:List GA} {m:List GA} {o:zx} {sb:List GA} (j:m.length=if f=true then 1 else 0) (s:(A++m++B).length<=16777216) (v:ls.length<=16777216) (u:sb.length<=16777217) :
  layRest (A++m++B) (A.length:Int) f o (ls,sb)=some (A++fitN o ls sb++B):=by
 simp only [uq] at s;unfold layRest;rw [slc_at ⟨tY _,by omega,by simp;omega⟩,ua];have r:((A++m++B).take ((A.length:Int)).toNat).drop (0:Int).toNat=A:=by simp
 rw [r,cloneNode_is (yJ (by omega)),ua];have t:∀(c:List GA),c.length<=A.length+1->((if f=true then ((slc (A++m++B) (IntKind.wrap .i64 ((A.length:Int)+(1:Int))) ((A++m++B).length:Int)).bind λh=>(yM (c.length+(h).length<=lim) (some (c++h)))) else ((slc (A++m++B) (A.length:Int) ((A++m++B).length:Int)).bind λg=>(yM (c.length+(g).length<=lim) (some (c++g))))):Option (List GA))=some (c++B):=by
  intro c hc;cases f with
  | true =>
   simp only [ut] at j ⊢;rw [w64n (by omega),slc_at ⟨by omega,by simp;omega,tY _⟩,ua];have e:((A++m++B).take (((A++m++B).length:Int)).toNat).drop ((A.length:Int)+1).toNat=B:=by
    rw [uy,sj,show ((A.length:Int)+1).toNat=(A++m).length by simp;omega,rb]
   rw [e,zu (yJ (by omega))]
  | false =>
   simp only [um,uJ] at j ⊢;obtain rfl:=uH j;rw [slc_at ⟨by omega,by simp;omega,tY _⟩,ua];have e:((A++[]++B).take (((A++[]++B).length:Int)).toNat).drop ((A.length:Int)).toNat=B:=by
    grind
   rw [e,zu (yJ (by omega))]
 unfold fitN;have p:IntKind.wrap .i64 ((ls.length:Int)+(sb.length:Int))=(ls.length:Int)+(sb.length:Int):=w64n (by omega);simp only [p];by_cases h0:ls.length+sb.length=0
 ·simp_all
 ·rw [uM h0,uz (by simp;omega),zu (yJ (by simp;omega))]
  grind

theorem leaves_of (h:ls.Pairwise λx y=>x.typ < y.typ) (m:∀l ∈ ls,leafB l=true):leavesB ls=true:=by
 unfold leavesB;rw [allI_iff];intro i x g;have j:=m x (uX g);simp only [j,uS];rcases i with _ | i
 ·rfl
 ·obtain ⟨hi,rfl⟩:=uc.1 g;have:=tv.1 h i (i+1) (by omega) hi (by omega)
  grind
theorem wn (a:List zx) (A B:List GA):zC a (A++B)=zC a A++zC a B:=by rw [xd,xd,xd,List.flatMap_append]
theorem rowsN_mem {a:List zx} {x:GA} {r:GK}:r ∈ rowsN a x ↔ (∃l ∈ x.leaves,r=⟨a++[x.name],l⟩) \/ r ∈ zC (a++[x.name]) x.subs:=by
 rw [rowsN_eq,uG,tz]
 grind
theorem wO {a:List zx} {x:GA}:zC a [x]=rowsN a x:=by simp [zC]
theorem fit_mem {a:List zx} {g:zx} {sb:List GA} {r:GK}:r ∈ zC a (fitN g ls sb) ↔ (∃l ∈ ls,r=⟨a++[g],l⟩) \/ r ∈ zC (a++[g]) sb:=by
 unfold fitN;split
 ·rename_i h;have m:ls=[]:=uH (by omega);have j:sb=[]:=uH (by omega);subst m j;simp [zC]
 ·rw [wO,rowsN_mem]
theorem len_rows (t:List GA) (a b:List zx):(zC a t).length=(zC b t).length:=by
 have h:=rows_pre t a [];have g:=rows_pre t b []
 simp_all
theorem vG:∀(t:List GA) (d:Nat),wT d t=true->t.length<=(zC [] t).length:=by
 refine w9 (λ_ _=>tD _) ?_;intro x r p o d j;simp only [wT,ud] at j;have s:=o d j.2;have g:=j.1;rw [vH] at g;simp only [ud,treeB,so,Bool.and_eq_false_iff] at g;have m:=p (d+1) g.1.2.2;rw [show x::r=[x]++r from rfl,wn,wO,rowsN_eq];simp only [uq,ul,ux,u6];rw [len_rows x.subs ([]++[x.name]) []];rcases g.1.1.2 with h | h
 ·cases hl:x.leaves with
  | nil=>rw [hl] at h;cases h
  | cons l ls=>simp only [ux];omega
 ·cases hl:x.subs with
  | nil=>rw [hl] at h;cases h
  | cons l ls=>rw [hl] at m;simp only [ux] at m;omega
theorem vV {t:List GA} {x:GA} (g:x ∈ t):x.leaves.length+(zC [] x.subs).length<=(zC [] t).length:=by
 obtain ⟨A,B,rfl⟩:=List.append_of_mem g;rw [wn,show x::B=[x]++B from rfl,wn,wO,rowsN_eq];simp only [uq,ul];rw [len_rows x.subs ([]++[x.name]) []];omega
theorem zV {t:List GA} (h:treeB d t=true):upB t=true/\∀x ∈ t,nodeB d x=true:=by
 simp only [treeB,ud,yZ,ur] at h
 simp_all
theorem treeB_of {t:List GA} (hd:d < 3) (h:upB t=true) (g:∀x ∈ t,nodeB d x=true):treeB d t=true:=by
 simp only [treeB,ud,yZ,ur,h,hd,rW,pL,pE];exact g
theorem xF {x:GA} (h:nodeB d x=true):nameB x.name=true/\treeB (d+1) x.subs=true/\leavesB x.leaves=true:=by
 rw [vH] at h
 simp_all
theorem find_node {t:List GA} (s:zx) (h:treeB d t=true) (C:(zC [] t).length<=16777215):∃A m B f ls sb,t=A++m++B/\NLt s A/\NGt s B/\m.length=(if f=true then 1 else 0)/\zq t s (λv D=>xO v D)=some ((A.length:Int),f) /\
  ((if f=true then ((yB t (A.length:Int)).bind λo=>some (.inr (o.name,o.leaves,o.subs))) else some (.inr (s,([]:List GC),([]:List GA)))):Option (List GA ⊕ (zx×(List GC)×(List GA))))=some (.inr (s,ls,sb))/\treeB (d+1) sb=true/\leavesB ls=true /\
  ls.length+(zC [] sb).length<=(zC [] t).length/\∀a r,r ∈ zC a m ↔ (∃l ∈ ls,r=⟨a++[s],l⟩) \/ r ∈ zC (a++[s]) sb:=by
 obtain ⟨z,u⟩:=zV h;have E:t.length<=16777215:=uA (vG t d (by rw [yZ];exact ur.2 u)) C;rcases split_up s z with ⟨A,B,rfl,j,g⟩ | ⟨A,x,B,rfl,p,j,g⟩
 ·refine ⟨A,[],B,false,[],[],by simp,j,g,rfl,bs_none (by omega) j g,rfl,qX _,rfl,by simp [zC],λa r=>by simp [zC]⟩
 ·obtain ⟨F,n2,w⟩:=xF (u x (by simp));refine ⟨A,[x],B,true,x.leaves,x.subs,by simp,j,g,rfl,bs_some (by omega) p j g,?_,n2,w,vV (by simp),λa r=>?_⟩
  ·rw [uz rfl,zK (x:=x) (by simp),ua,p]
  ·rw [wO,rowsN_mem,p]
theorem rows_off {s:zx} {A:List GA} (h:∀y ∈ A,y.name ≠ s) {a q:List zx} {r:GK} (g:r ∈ zC a A):r.path ≠ a++s::q:=by
 obtain ⟨x,j,w,e⟩:=rows_head g
 simp_all
theorem NLt.ne {s:zx} {A:List GA} (h:NLt s A):∀y ∈ A,y.name ≠ s:=λy g=>less_ne (h y g)
theorem NGt.ne {s:zx} {A:List GA} (h:NGt s A):∀y ∈ A,y.name ≠ s:=λy g=>(less_ne (h y g)).symm
theorem lay_fin {A m B:List GA} {s:zx} {sb:List GA} (hd:d < 3) (h:treeB d (A++m++B)=true) (r:NLt s A) (p:NGt s B) (hs:nameB s=true) (w:leavesB ls=true) (v:treeB (d+1) sb=true):treeB d (A++fitN s ls sb++B)=true:=by
 obtain ⟨u,n⟩:=zV h;rw [qr,tp,tp] at u;have t:∀x ∈ A,∀y ∈ B,Op.bytesLess x.name y.name=true:=λx g y j=>x7 (r x g) (p y j);have o:∀x ∈ fitN s ls sb,x=⟨s,ls,sb⟩/\¬ ls.length+sb.length=0:=λx g=>by
  unfold fitN at g
  simp_all
 refine treeB_of hd ?_ ?_
 ·rw [qr,tp,tp];refine ⟨⟨u.1.1,?_,λx g y j=>by rw [(o y j).1];exact r x g⟩,u.2.1,λx g y j=>?_⟩
  ·unfold fitN;split <;> simp
  ·rcases uG.1 g with g | g
   ·simp_all
   ·rw [(o x g).1];exact p y j
 ·intro x g;rcases uG.1 g with g | g
  ·rcases uG.1 g with g | g
   ·simp_all
   ·obtain ⟨rfl,h0⟩:=o x g;rw [vH]
    grind
  ·simp_all
theorem fit_len (s:zx) (ls:List GC) (sb:List GA):(fitN s ls sb).length<=1:=by unfold fitN;split <;> simp
theorem layLs_mem:x ∈ qL k l there ls ↔ (x ∈ ls/\x.typ ≠ k) \/ (there=true/\x=l):=by
 unfold qL
 grind
theorem lay_is {k:Int} {l:GC} {there:Bool} (G:there=true->l.typ=k/\leafB l=true/\LeafOk l):∀(p:List zx) (t:List GA) (d n:Nat),p ≠ []->p.all nameB=true->d+p.length<=3->treeB d t=true->(zC [] t).length<=16777215->p.length < n ->
  ∃t',xZ n t p k l there=some t'/\treeB d t'=true/\t'.length<=t.length+1/\∀a r,r ∈ zC a t' ↔ (r ∈ zC a t/\wo r ≠ (a++p,k)) \/ (there=true/\r=⟨a++p,l⟩)
 | [],_,_,_,h,_,_,_,_,_=>absurd rfl h
 | _::_,_,_,0,_,_,_,_,_,h=>by omega
 | s::q,t,d,n+1,_,hp,hd,ht,hw,hn=>by
  simp only [tf,ud,ux] at hp hd hn;obtain ⟨A,m,B,f,ls,sb,rfl,H,F,N,J,K,u,D,M,v⟩:=find_node s ht hw;have I:yB (s::q) (0:Int)=some s:=rfl;obtain ⟨z,X⟩:=wB D;have S:(A++m++B).length<=16777215:=uA (vG _ d (by rw [yZ];exact ur.2 (zV ht).2)) hw;have R:=λo g=>fit_len s o g;have j:∀o g,(A++fitN s o g++B).length<=(A++m++B).length+1:=λo g=>by
   grind
  rw [layN_eq,I,ua,J,ua,ua];simp only [];rw [K,yO];cases q with
  | nil =>
   rw [layIn_leaf (λh=>⟨(G h).1,(G h).2.2⟩) (by omega) z,yO,layRest_is N (by omega) (by
    have:(qL k l there ls).length<=ls.length+1:=by
     unfold qL;split
     ·have w:=rE (λx:GC=>decide (x.typ < k)) ls;have E:=w.length_eq;have Y:(ls.filter λx=>decide (k < x.typ)).length<=(ls.filter λx=>!decide (x.typ < k)).length:=by
       have:(ls.filter λx=>decide (k < x.typ))=(ls.filter λx=>!decide (x.typ < k)).filter (λx=>decide (k < x.typ)):=by
        rw [sW];refine su λx _=>?_;rw [tu];simp;omega
       grind
      grind
     ·grind
    omega) (by have:=vG sb (d+1) (by rw [yZ];exact ur.2 (zV u).2);omega)]
   refine ⟨_,rfl,lay_fin (by omega) ht H F hp.1 (leaves_of (layLs_up (λh=>(G h).1) z) λx C=>?_) u,j _ _,λa r=>?_⟩
   ·rcases layLs_mem.1 C with h | ⟨h,rfl⟩
    ·simp_all
    ·simp_all
   ·simp only [wn,uG,fit_mem,v];have O:r ∈ zC a A->wo r ≠ (a++[s],k):=λh e=>rows_off H.ne h (congrArg Prod.fst e);have W:r ∈ zC a B->wo r ≠ (a++[s],k):=λh e=>rows_off F.ne h (congrArg Prod.fst e);have Q:r ∈ zC (a++[s]) sb->wo r ≠ (a++[s],k):=λh e=>by
     have:=(rows_path sb _ r h).1;rw [show r.path=a++[s] from congrArg Prod.fst e] at this;omega
    constructor
    ·rintro ((h | ⟨x,C,rfl⟩ | h) | h)
     ·grind
     ·rcases layLs_mem.1 C with ⟨w,E⟩ | ⟨w,rfl⟩
      ·exact .inl ⟨.inl (.inr (.inl ⟨x,w,rfl⟩)),λe=>E (congrArg Prod.snd e)⟩
      ·simp_all
     ·grind
     ·grind
    ·rintro (⟨(h | ⟨x,C,rfl⟩ | h) | h,E⟩ | ⟨w,rfl⟩)
     ·simp_all
     ·exact .inl (.inr (.inl ⟨x,layLs_mem.2 (.inl ⟨C,λe=>E (by rw [<- e];rfl)⟩),rfl⟩))
     ·simp_all
     ·simp_all
     ·exact .inl (.inr (.inl ⟨l,layLs_mem.2 (.inr ⟨w,rfl⟩),rfl⟩))
  | cons c q =>
   obtain ⟨g,T,P,Z,U⟩:=lay_is G (c::q) sb (d+1) n (by simp) hp.2 (by omega) u (by omega) (by omega);have hsl:=vG sb (d+1) (by rw [yZ];exact ur.2 (zV u).2);rw [layIn_sub (by grind) T,yO,layRest_is N (by omega) (by omega) (by omega)];refine ⟨_,rfl,lay_fin (by omega) ht H F hp.1 D P,j _ _,λa r=>?_⟩;simp only [wn,uG,fit_mem,v,U];have V:a++[s]++c::q=a++s::c::q:=by simp
   rw [V];have O:r ∈ zC a A->wo r ≠ (a++s::c::q,k):=λh e=>rows_off H.ne h (congrArg Prod.fst e);have W:r ∈ zC a B->wo r ≠ (a++s::c::q,k):=λh e=>rows_off F.ne h (congrArg Prod.fst e);have Q:∀x,r=⟨a++[s],x⟩->wo r ≠ (a++s::c::q,k):=λx h e=>by
    rw [h] at e;have:=congrArg List.length (congrArg Prod.fst e);simp [wo] at this
   grind

theorem rowLt_iff {r q:GK}:rowLt r q ↔ kltB (wo r) (wo q)=true:=by
 unfold rowLt kltB wo;simp only [tC,ud,uk];constructor
 ·rintro (h | h)
  ·exact .inl (path_plt h)
  ·simp_all
 ·rintro (h | h)
  ·exact .inl (plt_path h)
  ·simp_all
theorem sorted_ext {α:Type} {lt:α->α->Prop} (g:∀x,¬ lt x x) (j:∀x y z,lt x y->lt y z->lt x z):∀{L M:List α},L.Pairwise lt->M.Pairwise lt->(∀x,x ∈ L ↔ x ∈ M)->L=M
 | [],[],_,_,_=>rfl
 | [],y::M,_,_,h=>by have:=(h y).2 (by simp);simp at this
 | x::L,[],_,_,h=>by have:=(h x).1 (by simp);simp at this
 | x::L,y::M,h1,h2,h=>by
  obtain ⟨r,m⟩:=uL.1 h1;obtain ⟨p,o⟩:=uL.1 h2;have e:x=y:=by
   rcases uP.1 ((h x).1 (by simp)) with e | t
   ·exact e
   ·rcases uP.1 ((h y).2 (by simp)) with e | s
    ·simp_all
    ·grind
  subst e;rw [sorted_ext g j m o λz=>?_]
  grind
theorem filter_app_left {α:Type} {P:α->Bool} {A B:List α} (h:∀x ∈ A,P x=true) (j:∀x ∈ B,P x=false):(A++B).filter P=A/\(A++B).filter (λx=>!P x)=B:=by
 rw [tE,tE,tG.2 h,tW.2 (λx g=>by simp_all),tW.2 (λx g=>by simp_all),tG.2 (λx g=>by simp_all)];simp
theorem app_split {α:Type} {P:α->Bool} {A B C D:List α} (h:A++B=C++D) (m:∀x ∈ A,P x=true) (g:∀x ∈ B,P x=false) (o:∀x ∈ C,P x=true) (j:∀x ∈ D,P x=false):A=C/\B=D:=by
 obtain ⟨a,b⟩:=filter_app_left m g;obtain ⟨c,d⟩:=filter_app_left o j
 simp_all
theorem rowsN_head {a:List zx} {x:GA} {r:GK} (h:r ∈ rowsN a x):∃w,r.path=a++x.name::w:=by
 rw [<- wO] at h;obtain ⟨y,g,w,e⟩:=rows_head h
 simp_all
theorem rowsN_ne {x:GA} (h:nodeB d x=true) (a:List zx):∃r L,rowsN a x=r::L:=by
 have g:=vG [x] d (by simp [wT,h]);rw [len_rows [x] [] a,wO] at g;cases e:rowsN a x with
 | nil=>rw [e] at g;simp at g
 | cons r L=>exact ⟨r,L,rfl⟩
def hasN (n:Nat) (s:zx) (r:GK):Bool:=decide ((r.path.drop n).head?=some s)
theorem hasN_is (a w:List zx) (s g:zx) {r:GK} (h:r.path=a++g::w):hasN a.length s r=decide (g=s):=by
 unfold hasN;rw [h,rb];simp
theorem rows_inj:∀(t:List GA) (d:Nat) (a:List zx) (t':List GA),treeB d t=true->treeB d t'=true->zC a t=zC a t'->t=t':=by
 have key:∀(t:List GA) (d:Nat) (a:List zx) (t':List GA),(∀x ∈ t,nodeB d x=true)->upB t=true->(∀x ∈ t',nodeB d x=true)->upB t'=true->zC a t=zC a t'->t=t':=by
  refine w9 ?_ ?_
  ·intro d a t' _ _ h _ e;cases t' with
   | nil=>rfl
   | cons y r =>
    obtain ⟨q,L,o⟩:=rowsN_ne (h y (by simp)) a;rw [zC,zC,o] at e;simp at e
  ·intro x r R Q d a t' p E n2 v e;cases t' with
   | nil =>
    obtain ⟨q,L,o⟩:=rowsN_ne (p x (by simp)) a;rw [zC,zC,o] at e;simp at e
   | cons y s =>
    rw [qr,uL] at E v;have e:rowsN a x++zC a r=rowsN a y++zC a s:=e;have m:x.name=y.name:=by
     obtain ⟨q,L,o⟩:=rowsN_ne (p x (by simp)) a;obtain ⟨T,L',H⟩:=rowsN_ne (n2 y (by simp)) a;have I:=e;rw [o,H] at I;injection I with M _;subst M;obtain ⟨w,C⟩:=rowsN_head (a:=a) (x:=x) (r:=q) (by rw [o];simp);obtain ⟨w',u⟩:=rowsN_head (a:=a) (x:=y) (r:=q) (by rw [H];simp)
     simp_all
    obtain ⟨G,N⟩:=app_split (P:=hasN a.length x.name) e
     (λq g=>by obtain ⟨w,h⟩:=rowsN_head g;rw [hasN_is a w _ _ h];simp)
     (λq g=>by
      obtain ⟨z,j,w,h⟩:=rows_head g;rw [hasN_is a w _ _ h];exact u9 (less_ne (E.1 z j)).symm)
     (λq g=>by obtain ⟨w,h⟩:=rowsN_head g;rw [hasN_is a w _ _ h,m];simp)
     (λq g=>by
      obtain ⟨z,j,w,h⟩:=rows_head g;rw [hasN_is a w _ _ h,m];exact u9 (less_ne (v.1 z j)).symm)
    have U:=Q d a s (λz j=>p z (by simp [j])) ((qr r).2 E.2) (λz j=>n2 z (by simp [j])) ((qr s).2 v.2) N;rw [rowsN_eq,rowsN_eq,<- m] at G;obtain ⟨O,D⟩:=app_split (P:=λq=>decide (q.path.length=a.length+1)) G
     (λq g=>by grind)
     (λq g=>by have:=(rows_path _ _ q g).1;simp at this;exact u9 (by omega))
     (λq g=>by grind)
     (λq g=>by have:=(rows_path _ _ q g).1;simp at this;exact u9 (by omega))
    have K:x.leaves=y.leaves:=by
     have:=congrArg (List.map (·.leaf)) O;simpa [rF,s9] using this
    obtain ⟨_,F,_⟩:=xF (p x (by simp));obtain ⟨_,J,_⟩:=xF (n2 y (by simp));have S:=R (d+1) (a++[x.name]) y.subs (zV F).2 (zV F).1 (zV J).2 (zV J).1 D;cases x;cases y
    simp_all
 intro t d a t' C u e;exact key t d a t' (zV C).2 (zV C).1 (zV u).2 (zV u).1 e
theorem rows_sorted {t:List GA} (h:treeB d t=true) (a:List zx):(zC a t).Pairwise λr q=>kltB (wo r) (wo q)=true:=by
 have:=rows_lt t d a (zV h).1 (by rw [yZ];exact ur.2 (zV h).2);exact this.imp λh=>rowLt_iff.1 h
theorem rows_ext {t t':List GA} (j:treeB 0 t=true) (g:treeB 0 t'=true) (h:∀r,r ∈ zC [] t ↔ r ∈ zC [] t'):t=t' :=
 rows_inj t 0 [] t' j g (sorted_ext (lt:=λr q=>kltB (wo r) (wo q)=true) (λx h=>by rw [klt_irr] at h;cases h) (λ_ _ _=>klt_trans) (rows_sorted j []) (rows_sorted g []) h)
theorem sorted_key {α:Type} {key:α->Key} {L:List α} (h:L.Pairwise λr q=>kltB (key r) (key q)=true) {x y:α} (s:x ∈ L) (t:y ∈ L) (e:key x=key y):x=y:=by
 induction L with
 | nil=>simp at s
 | cons z r ih =>
  obtain ⟨p,u⟩:=uL.1 h;rcases uP.1 s with m | g <;> rcases uP.1 t with o | j
  ·rw [m,o]
  ·have:=p y j;rw [<- m,e,klt_irr] at this;cases this
  ·have:=p x g;rw [<- o,e,klt_irr] at this;cases this
  ·simp_all

theorem first_is {α:Type} {q:α->Bool} {del:α->Option Bool}:∀(L:List α) (n:Nat),(∀x ∈ L,del x=some (q x)) ->
  (zD (λ(g:Nat) (j:α) (_:Unit)=>(((del j).bind λo=>(if o=true then some (.ret (g:Int)) else some (.nxt ()))):Option (Out Int Unit))) L n ()=some (.inr ())/\∀x ∈ L,q x=false) \/
  ∃A x B,L=A++x::B/\q x=true/\(∀y ∈ A,q y=false)/\zD (λ(g:Nat) (j:α) (_:Unit)=>(((del j).bind λo=>(if o=true then some (.ret (g:Int)) else some (.nxt ()))):Option (Out Int Unit))) L n ()=some (.inl ((n+A.length:Nat):Int))
 | [],n,_=>.inl ⟨rfl,by simp⟩
 | x::r,n,h=>by
  have m:=h x (by simp);cases hq:q x with
  | true=>exact .inr ⟨[],x,r,rfl,hq,by simp,by simp [zD,m,hq]⟩
  | false =>
   rcases first_is r (n+1) (λy p=>h y (by simp [p])) with ⟨e,s⟩ | ⟨A,y,B,rfl,t,s,e⟩
   ·refine .inl ⟨by simp only [zD,m,hq,ua];exact e,?_⟩
    simp_all
   ·refine .inr ⟨x::A,y,B,rfl,t,?_,?_⟩
    ·simp_all
    ·simp only [zD,m,hq,ua]
     grind
def node0:GA:=GA.mk ([]:zx) ([]:List GC) ([]:List GA)
def nodeOf (t:List GA) (s:zx):Option GA:=t.find? λx=>x.name==s
theorem linear_is (t:List GA) (s:zx):xn t s=some (match nodeOf t s with | some x=>(x,true) | none=>(node0,false)):=by
 unfold xn xW;rcases first_is (q:=λx:GA=>x.name==s) (del:=λg=>treeXlinearC1 g s) t 0 (λx _=>rfl) with ⟨e,h⟩ | ⟨A,x,B,rfl,m,j,e⟩
 ·rw [e];have:nodeOf t s=none:=t7.2 λx o=>by simp_all
  rw [this];rfl
 ·rw [e];have:nodeOf (A++x::B) s=some x:=by
   unfold nodeOf
   grind
  rw [this];simp only [lp,ua,tx];rw [uM (by simp),zK (x:=x) (by simp)];rfl
def x6:List GA->List zx->Option GA
 | _,[]=>none
 | t,[s]=>nodeOf t s
 | t,s::c::q=>(nodeOf t s).bind λx=>x6 x.subs (c::q)
noncomputable def tlF:Nat->zx->(List GA)×Bool×zx×(List GC)×(List GA)->Option (Out ((GC×Bool) ⊕ (Bool×zx×(List GC)×(List GA))) ((List GA)×Bool×zx×(List GC)×(List GA))):=(λ(_:Nat) (x2:zx) (s2:(List GA)×Bool×zx×(List GC)×(List GA))=>(((xn s2.1 x2).bind λv47=>(if (!v47.2)=true then some (.brk (s2.1,v47.2,v47.1.name,v47.1.leaves,v47.1.subs)) else some (.nxt (v47.1.subs,v47.2,v47.1.name,v47.1.leaves,v47.1.subs))))))
noncomputable def tlR (kind2:Int) (s1:Bool×zx×(List GC)×(List GA)):Option (GC×Bool):=((yw s1.2.2.1 (λx0=>treeLeafC1 x0 kind2)).bind λv49=>((if (((!s1.1) || (decide (v49 < (0:Int))))==false)=true then vt kind2 else some default).bind λv50=>(if (((!s1.1) || (decide (v49 < (0:Int)))) || (v50.typ==(0:Int)))=true then ((vt kind2).bind λv52=>some (v52,false)) else ((yB s1.2.2.1 v49).bind λy53=>((yC y53.items).bind λv54=>((yW y53.tombs).bind λv55=>some ((GC.mk y53.typ y53.n y53.time y53.dot y53.text v54 v55),true)))))))
theorem tl_eq (t0:List GA) (g:List zx) (h:Int):wq t0 g h=(lp ((lp (zD tlF g 0 (t0,(decide (((g).length:Int) > (0:Int))),([]:zx),([]:List GC),([]:List GA))) λ(j:(List GA)×Bool×zx×(List GC)×(List GA))=>some (.inr (j.2.1,j.2.2.1,j.2.2.2.1,j.2.2.2.2))):Option ((GC×Bool) ⊕ (Bool×zx×(List GC)×(List GA)))) (tlR h)):=rfl
theorem tl_walk:∀(p:List zx) (n:Nat) (t:List GA) (z:Bool×zx×(List GC)×(List GA)),p ≠ [] ->
  match x6 t p with
  | some x=>zD tlF p n (t,z)=some (.inr (x.subs,true,x.name,x.leaves,x.subs))
  | none=>∃u,zD tlF p n (t,z)=some (.inr (u,false,([]:zx),([]:List GC),([]:List GA)))
 | [],_,_,_,h=>absurd rfl h
 | [s],n,t,z,_=>by
  simp only [x6,zD,tlF,linear_is,ua];cases nodeOf t s with
  | none=>exact ⟨t,rfl⟩
  | some x=>rfl
 | s::c::q,n,t,z,_=>by
  have g:=λu z=>tl_walk (c::q) (n+1) u z (by simp);simp only [x6];cases e:nodeOf t s with
  | none=>exact ⟨t,by rw [zD];simp only [tlF,linear_is,e,ua];rfl⟩
  | some x =>
   have j:tlF n s (t,z)=some (.nxt (x.subs,true,x.name,x.leaves,x.subs)):=by simp only [tlF,linear_is,e,ua];rfl
   have:=g x.subs (true,x.name,x.leaves,x.subs);rw [zD,j,ua];omega
theorem nodeOf_split {t:List GA} (s:zx) (h:upB t=true):(nodeOf t s=none/\∀y ∈ t,y.name ≠ s) \/ ∃A x B,t=A++x::B/\nodeOf t s=some x/\x.name=s/\(∀y ∈ A,y.name ≠ s)/\∀y ∈ B,y.name ≠ s:=by
 rcases split_up s h with ⟨A,B,rfl,j,m⟩ | ⟨A,x,B,rfl,o,j,m⟩
 ·left;have:∀y ∈ A++B,y.name ≠ s:=λy g=>by
   rcases uG.1 g with g | g
   ·exact j.ne y g
   ·exact m.ne y g
  exact ⟨t7.2 λy g=>by simp_all,this⟩
 ·refine .inr ⟨A,x,B,rfl,?_,o,j.ne,m.ne⟩;unfold nodeOf;rw [List.find?_append,t7.2 (λy g=>by simp [j.ne y g]),rz];simp [o]
theorem row_at:∀(p:List zx) (t:List GA) (d:Nat) (a:List zx) (l:GC),p ≠ []->treeB d t=true->(GK.mk (a++p) l ∈ zC a t ↔ ∃x,x6 t p=some x/\l ∈ x.leaves)
 | [],_,_,_,_,h,_=>absurd rfl h
 | s::q,t,d,a,l,_,h=>by
  obtain ⟨u,w⟩:=zV h;rcases nodeOf_split s u with ⟨e,r⟩ | ⟨A,x,B,rfl,e,v,C,o⟩
  ·have m:x6 t (s::q)=none:=by cases q <;> simp [x6,e]
   rw [m];constructor
   ·intro g;exact (rows_off r g rfl).elim
   ·simp_all
  ·rw [wn,show x::B=[x]++B from rfl,wn,wO,uG,uG,rowsN_mem,v];have E:¬ GK.mk (a++s::q) l ∈ zC a A:=λg=>rows_off C g rfl;have H:¬ GK.mk (a++s::q) l ∈ zC a B:=λg=>rows_off o g rfl;have j:=(xF (w x (by simp))).2.1;cases q with
   | nil =>
    have F:¬ GK.mk (a++[s]) l ∈ zC (a++[s]) x.subs:=λg=>by
     have:=(rows_path _ _ _ g).1;simp at this
    have m:x6 (A++x::B) [s]=some x:=e
    simp_all
   | cons c q =>
    have z:=row_at (c::q) x.subs (d+1) (a++[s]) l (by simp) j;have D:a++[s]++c::q=a++s::c::q:=by simp
    rw [D] at z;have G:x6 (A++([x]++B)) (s::c::q)=x6 x.subs (c::q):=by
     show (nodeOf (A++x::B) s).bind _=_;rw [e];rfl
    simp_all
theorem row_mk {r:GK} {p:List zx} (h:wo r=(p,k)):r=GK.mk ([]++p) r.leaf:=by
 have e:r.path=p:=congrArg Prod.fst h;cases r;simp only at e;rw [e];rfl
theorem leafNew_typ (h:1<=k/\k<=4):∃v,vt k=some v/\v.typ=k:=by
 unfold vt;rw [uM (by simp;omega)]
 simp_all
theorem tlR_none (s:zx):∃v,tlR k (false,s,([]:List GC),([]:List GA))=some (v,false):=by
 obtain ⟨v,e⟩:=leafNew_tot k;refine ⟨v,?_⟩;unfold tlR yw;simp [zD,lp,e]
theorem treeLeaf_is {t:List GA} (h:treeB 0 t=true) (z:∀r ∈ zC [] t,LeafOk r.leaf) {p:List zx} (E:p ≠ []) {k:Int} (J:1<=k/\k<=4) :
  (∃l,GK.mk p l ∈ zC [] t/\l.typ=k/\wq t p k=some (l,true)) \/ ((∀r ∈ zC [] t,wo r ≠ (p,k))/\∃v,wq t p k=some (v,false)):=by
 have m:=tl_walk p 0 t (decide ((p.length:Int) > 0),([]:zx),([]:List GC),([]:List GA)) E;have G:=λl=>row_at p t 0 [] l E h;rw [tl_eq];cases e:x6 t p with
 | none =>
  rw [e] at m;obtain ⟨u,m⟩:=m;right;refine ⟨λr j o=>?_,?_⟩
  ·have:=row_mk o
   grind
  ·rw [m];exact tlR_none []
 | some x =>
  rw [e] at m;simp only at m;rw [m];simp only [yO];obtain ⟨v0,O,n2⟩:=leafNew_typ J;unfold tlR yw;rcases first_is (q:=λy:GC=>y.typ==k) (del:=λI=>treeLeafC1 I k) x.leaves 0 (λx _=>rfl) with ⟨H,D⟩ | ⟨A,y,B,w,D,P,H⟩
  ·right;refine ⟨λr j o=>?_,v0,?_⟩
   ·have:=row_mk o;rw [this] at j;obtain ⟨Q,s,K⟩:=(G _).1 j;rw [e] at s;injection s with s;subst s;have:=D _ K;simp only [rt] at this;exact this (congrArg Prod.snd o)
   ·simp_all
  ·left;have N:y ∈ x.leaves:=by simp_all
   have g:GK.mk ([]++p) y ∈ zC [] t:=(G y).2 ⟨x,e,N⟩;have C:y.typ=k:=by simp_all
   have F:=z _ g;refine ⟨y,g,C,?_⟩;simp only [];rw [H];simp only [lp,ua,tx];have M:((!true) || (decide (((A.length:Nat):Int) < (0:Int))))=false:=by simp
   rw [M];simp only [uW,ut,O,ua,tg,n2];rw [uM (by simp;omega),w,zK (x:=y) (by simp),ua,qa (yJ (sI F.items)),ua,cloneDot_is (yJ (sI F.tombs)),ua]

theorem sub_len {α:Type} {lt:α->α->Prop} (g:∀x,¬ lt x x):∀(L M:List α),L.Pairwise lt->(∀x ∈ L,x ∈ M)->L.length<=M.length
 | [],_,_,_=>tD _
 | x::L,M,h,hs=>by
  obtain ⟨o,j⟩:=uL.1 h;obtain ⟨A,B,rfl⟩:=List.append_of_mem (hs x (by simp));have:=sub_len g L (A++B) j λy m=>by
   grind
  grind
theorem qH {p:List zx} (h:pathB p=true):p ≠ []/\p.length<=3/\p.all nameB=true:=by
 refine ⟨pathB_ne h,?_⟩;simp only [pathB,ud,uk] at h
 simp_all
theorem lay_all {p:List zx} {t:List GA} (v:there=true->l.typ=k/\leafB l=true/\LeafOk l) (D:pathB p=true) (s:treeB 0 t=true) (w:(zC [] t).length<=16777215) :
  ∃t',diffXlay t p k l there=some t'/\treeB 0 t'=true/\(zC [] t').length<=(zC [] t).length+1/\∀r,r ∈ zC [] t' ↔ (r ∈ zC [] t/\wo r ≠ (p,k)) \/ (there=true/\r=⟨p,l⟩):=by
 obtain ⟨z,F,o⟩:=qH D;obtain ⟨t',I,m,_,g⟩:=lay_is v p t 0 (p.length+1) z o (by omega) s w (by omega);have g:=g [];simp only [uI] at g;refine ⟨t',qb (p.length+1) λn H=>?_,m,?_,g⟩
 ·obtain ⟨u,C,E,_,j⟩:=lay_is v p t 0 n z o (by omega) s w (by omega);have j:=j [];simp only [uI] at j;rw [C,rows_ext E m λr=>by rw [j,g]]
 ·have:=sub_len (lt:=λr q=>kltB (wo r) (wo q)=true) (λx h=>by rw [klt_irr] at h;cases h) (zC [] t') (zC [] t++[⟨p,l⟩]) (rows_sorted m []) λr G=>by
   grind
  simp_all
theorem idxI_is {q:GF->Bool} {del:GF->Option Bool}:∀(L:List GF) (n:Nat),(∀x ∈ L,del x=some (q x)) ->
  (zD (λ(g:Nat) (j:GF) (_:Unit)=>(((del j).bind λo=>(if o=true then some (.ret (g:Int)) else some (.nxt ()))):Option (Out Int Unit))) L n ()=some (.inr ())/\∀x ∈ L,q x=false) \/
  ∃A x B,L=A++x::B/\q x=true/\(∀y ∈ A,q y=false)/\zD (λ(g:Nat) (j:GF) (_:Unit)=>(((del j).bind λo=>(if o=true then some (.ret (g:Int)) else some (.nxt ()))):Option (Out Int Unit))) L n ()=some (.inl ((n+A.length:Nat):Int))
 | [],n,_=>.inl ⟨rfl,by simp⟩
 | x::r,n,h=>by
  have m:=h x (by simp);cases hq:q x with
  | true=>exact .inr ⟨[],x,r,rfl,hq,by simp,by simp [zD,m,hq]⟩
  | false =>
   rcases idxI_is r (n+1) (λy p=>h y (by simp [p])) with ⟨e,s⟩ | ⟨A,y,B,rfl,t,s,e⟩
   ·refine .inl ⟨by simp only [zD,m,hq,ua];exact e,?_⟩
    simp_all
   ·refine .inr ⟨x::A,y,B,rfl,t,?_,?_⟩
    ·simp_all
    ·simp only [zD,m,hq,ua]
     grind
noncomputable def delI (del:GF->Option Bool) (n:Nat):Int×Int×(List GF)->Option (Out (List GF) (Int×Int×(List GF))):=λs1=>((yM ((s1.2.2).length=n) ((if (decide (s1.2.1 < ((n:Nat):Int)))=true then ((yB s1.2.2 s1.2.1).bind λy14=>((del y14).bind λv15=>(if (!v15)=true then ((yB s1.2.2 s1.1).bind λy17=>some (.nxt ((IntKind.wrap .i64 (s1.1+(1:Int))),(IntKind.wrap .i64 (s1.2.1+(1:Int))),(s1.2.2.set s1.1.toNat y14)))) else some (.nxt (s1.1,(IntKind.wrap .i64 (s1.2.1+(1:Int))),s1.2.2))))) else some (.brk (s1.1,s1.2.1,s1.2.2))))))
theorem delRI_eq (h:List GF) (g:GF->Option Bool):xH h g=((yK h g).bind λo=>(if (o==(-1:Int))=true then some h else (lp (yI (delI g h.length) (o,(IntKind.wrap .i64 (o+(1:Int))),h)) λ(j:Int×Int×(List GF))=>(yM (0<=j.1/\j.1<=((h.length:Nat):Int)) (((slc (j.2.2.take j.1.toNat++List.replicate (h.length - j.1.toNat) (GF.mk (0:Int) (GE.mk (GI.mk (0:Int) (0:Int)) (0:Int)) ([]:zx))) (0:Int) j.1).bind λm=>some m)))))):=rfl
theorem delI_run {del:GF->Option Bool} {L0:List GF} (z:L0.length<=16777216) (h:∀x ∈ L0,del x=some (q x)) {a0 b0:Nat} (E:a0 < b0) (D:b0<=L0.length) (H:L0.take a0=(L0.take b0).filter λx=>!q x) :
  ∃o,yI (delI del L0.length) ((a0:Int),(b0:Int),L0)=some (.inr o)/\∃a:Nat,o.1=(a:Int)/\a < L0.length/\o.2.2.length=L0.length/\o.2.2.take a=L0.filter λx=>!q x:=by
 refine loopW_inv (f:=delI del L0.length) (λs=>∃a b:Nat,s.1=(a:Int)/\s.2.1=(b:Int)/\a < b/\b<=L0.length/\s.2.2.length=L0.length/\s.2.2.take a=(L0.take b).filter (λx=>!q x)/\s.2.2.drop b=L0.drop b)
  _ (λs=>L0.length - s.2.1.toNat) ?_ _ _ rfl ⟨a0,b0,rfl,rfl,E,D,rfl,H,rfl⟩
 rintro ⟨i,j,M⟩ ⟨a,b,v,C,J,w,t,u,p⟩
 simp only at v C t u p;subst v C;simp only [delI,yM,t,ut];by_cases hb:b < L0.length
 ·right;have G:M[b]?=L0[b]?:=by
   have:=congrArg (λl=>l[0]?) p
   grind
  have F:L0[b]?=some L0[b]:=uh hb;have hd:=h L0[b] (rl hb);have m:yB M (b:Int)=some L0[b]:=by simp [yB,G]
  have g:yB M (a:Int)=some (M[a]'(by omega)):=by simp [yB]
  rw [uz (by simp;omega),m,ua,hd,ua];have r:L0.take (b+1)=L0.take b++[L0[b]]:=by simp_all
  cases hq:q L0[b] with
  | true =>
   refine ⟨((a:Int),((b+1:Nat):Int),M),by simp [we (uA w z)],⟨a,b+1,rfl,rfl,by omega,by omega,t,?_,?_⟩,by simp;omega⟩
   ·grind
   ·have:=congrArg (λl=>l.drop 1) p;simpa [tn] using this
  | false =>
   refine ⟨(((a+1:Nat):Int),((b+1:Nat):Int),M.set a L0[b]),by simp [g,we (uA w z),we (show a<=16777216 by omega)],⟨a+1,b+1,rfl,rfl,by omega,by omega,by simp_all,?_,?_⟩,by simp;omega⟩
   ·rw [tB,sL (ug _),u,r,tE,uD (by omega)];simp [hq]
   ·have:=congrArg (λl=>l.drop 1) p;rw [sM (by omega)];simpa [tn] using this
 ·left;have I:b=L0.length:=by omega
  rw [uM (by simp;omega)]
  grind
theorem deleteI_is {del:GF->Option Bool} {L0:List GF} (s:L0.length<=16777216) (h:∀x ∈ L0,del x=some (q x)):xH L0 del=some (L0.filter λx=>!q x):=by
 rw [delRI_eq];unfold yK;rcases idxI_is L0 0 h with ⟨e,m⟩ | ⟨A,x,B,r,p,m,e⟩
 ·rw [e];simp only [lp,ua,uW,ut];rw [tG.2 (λx z=>by simp_all)]
 ·rw [e];have j:L0.length=A.length+1+B.length:=by grind
  simp only [lp,ua,tx];rw [uM (by simp_all),we (by omega)];obtain ⟨g,t,a,o,C,u,v⟩:=delI_run s h (a0:=A.length) (b0:=A.length+1) (by omega) (by omega) (by
   rw [r,pg,tV,uK (by omega),show A.length+1 - A.length=1 by omega,tE];simp only [sK,pQ,tX,p,List.filter_nil];rw [tG.2 (λy w=>by simp_all)];simp)
  rw [t];simp only [yM];rw [uz (by omega),o];have hs:slc (g.2.2.take ((a:Int)).toNat++List.replicate (L0.length - ((a:Int)).toNat) (GF.mk (0:Int) (GE.mk (GI.mk (0:Int) (0:Int)) (0:Int)) ([]:zx))) (0:Int) (a:Int)=some (g.2.2.take a):=by
   unfold slc
   grind
  simp_all
theorem bsI_loop {x:List GF} {s:GF} (z:x.length<=1048576) (r:∀i n,x[i]?=some n->∃v,cmp n s=some v/\(i < c->v < 0)/\(c<=i->0<=v)) :
  ∀(k lo hi:Nat),hi - lo<=k->lo<=c->c<=hi->hi<=x.length->yI (ρ:=Int×Bool) (λ(g:Int×Int)=>((if (decide (g.1 < g.2))=true then ((yB x (IntKind.wrap .i64 ((Int.fdiv (IntKind.wrap .u64 ((IntKind.wrap .i64 (g.1+g.2)))) (2 ^ (min (1:Int).toNat (IntKind.bits .u64))))))).bind λt=>((cmp t s).bind λh=>(if (decide (h < (0:Int)))=true then some (.nxt ((IntKind.wrap .i64 ((IntKind.wrap .i64 ((Int.fdiv (IntKind.wrap .u64 ((IntKind.wrap .i64 (g.1+g.2)))) (2 ^ (min (1:Int).toNat (IntKind.bits .u64))))))+(1:Int))),g.2)) else some (.nxt (g.1,(IntKind.wrap .i64 ((Int.fdiv (IntKind.wrap .u64 ((IntKind.wrap .i64 (g.1+g.2)))) (2 ^ (min (1:Int).toNat (IntKind.bits .u64))))))))))) else some (.brk (g.1,g.2))):Option (Out _ (Int×Int)))) ((lo:Int),(hi:Int))=some (.inr ((c:Int),(c:Int))):=by
 intro k
 induction k with
 | zero =>
  intro lo hi p j hc hh;obtain rfl:lo=hi:=by omega
  obtain rfl:lo=c:=by omega
  rw [yS];simp
 | succ k ih =>
  intro lo hi p j hc hh;rw [yS];by_cases hlt:lo < hi
  ·have hd:decide ((lo:Int) < (hi:Int))=true:=u1 (by omega);simp only [hd,ut,half_mid hlt (by omega)];have m:(lo+hi) / 2 < x.length:=by omega
   rw [idx_at m,ua];obtain ⟨v,u,o,w⟩:=r ((lo+hi) / 2) _ (uh m);rw [u,ua];by_cases hcm:(lo+hi) / 2 < c
   ·rw [u1 (o hcm),uz rfl];simp only;have e:IntKind.wrap .i64 ((((lo+hi) / 2:Nat):Int)+1)=(((lo+hi) / 2+1:Nat):Int):=by rw [w64n (by omega)];omega
    rw [e];exact ih _ _ (by omega) (by omega) hc hh
   ·rw [u9 (by omega)];simp only [um,uJ];exact ih _ _ (by omega) j (by omega) (by omega)
  ·grind
theorem bsI_is {x:List GF} {s:GF} (j:x.length<=1048576) (hc:c<=x.length) (g:∀i n,x[i]?=some n->∃v,cmp n s=some v/\(i < c->v < 0)/\(c<=i->0<=v)) :
  z7 x s cmp=(if c < x.length then cmp (x.getD c default) s else some 1).bind λv=>some ((c:Int),(decide (c < x.length)&&(v==0))):=by
 unfold z7;have:=bsI_loop j g x.length 0 x.length (by omega) (tD _) hc (ug _);simp only [rU] at this;rw [show ((0:Int),(x.length:Int))=(((0:Nat):Int),(x.length:Int)) from rfl] at *;rw [this];simp only [lp];by_cases h:c < x.length
 ·have hd:decide ((c:Int) < (x.length:Int))=true:=u1 (by omega);simp only [hd,h,ut,uy,uW,rW,uS];rw [zu (by omega)]
 ·have hd:decide ((c:Int) < (x.length:Int))=false:=u9 (by omega);simp only [hd,h,uJ,rm,rG,ua];rfl

def dd:List GE->List GE
 | []=>[]
 | [x]=>[x]
 | x::y::r=>if x=y then dd (y::r) else x::dd (y::r)
theorem dd_snoc:∀(A:List GE) (x y:GE),dd (A++[x,y])=if x=y then dd (A++[x]) else dd (A++[x])++[y]
 | [],x,y=>by by_cases h:x=y <;> simp [dd,h]
 | [a],x,y=>by
  by_cases h:x=y
  ·subst h;by_cases h2:a=x <;> simp [dd,h2]
  ·by_cases h2:a=x <;> simp [dd,h2,h]
 | a::b::A,x,y=>by
  have g:=dd_snoc (b::A) x y;simp only [tP] at g ⊢;simp only [dd]
  grind
theorem dd_mem:∀(L:List GE) (d:GE),d ∈ dd L ↔ d ∈ L
 | [],_=>by simp [dd]
 | [x],_=>by simp [dd]
 | x::y::r,d=>by
  simp only [dd];split
  ·rename_i h;subst h;rw [dd_mem (x::r) d];simp
  ·rw [uP,dd_mem (y::r) d];simp
theorem dd_strict {lt:GE->GE->Prop} (g:∀a b,¬ lt b a->a=b \/ lt a b) (s:∀a b c,lt a b->lt b c->lt a c):∀(L:List GE),L.Pairwise (λa b=>¬ lt b a)->(dd L).Pairwise lt
 | [],_=>by simp [dd]
 | [x],_=>by simp [dd]
 | x::y::r,h=>by
  have p:=(uL.1 h).2;have o:=dd_strict g s (y::r) p;simp only [dd];split
  ·exact o
  ·rename_i m;refine uL.2 ⟨λz j=>?_,o⟩;rw [dd_mem] at j;have t:lt x y:=(g x y ((uL.1 h).1 y (by simp))).resolve_left m;rcases uP.1 j with rfl | j
   ·omega
   ·rcases g y z ((uL.1 p).1 z j) with rfl | u
    ·omega
    ·grind
theorem take_snoc2 {L:List GE} {b:GE} (g:L[n]?=some a) (h:L[n+1]?=some b):L.take (n+2)=L.take n++[a,b]:=by
 rw [tB,tB,g,h];simp
theorem dd_step {L:List GE} {b:GE} (g:L[n]?=some a) (h:L[n+1]?=some b):dd (L.take (n+2))=if a=b then dd (L.take (n+1)) else dd (L.take (n+1))++[b]:=by
 rw [take_snoc2 g h,dd_snoc,tB,g];rfl
noncomputable def cmpIn (n:Nat) (s1:Int):Int×Int×(List GE)->Option (Out (Out (List GE) Int) (Int×Int×(List GE))):=λ(s2:Int×Int×(List GE))=>((yM ((s2.2.2).length=n) ((if (decide (s2.2.1 < ((n - s1.toNat:Nat):Int)))=true then ((yB (s2.2.2.drop s1.toNat) s2.2.1).bind λy51=>((yB (s2.2.2.drop s1.toNat) (IntKind.wrap .i64 (s2.2.1 - (1:Int)))).bind λy52=>(if (!(y51.actor.rep==y52.actor.rep&&(y51.actor.inc==y52.actor.inc&&(y51.seq==y52.seq&&true))))=true then ((yB (s2.2.2.drop s1.toNat) s2.2.1).bind λy54=>((yB s2.2.2 s2.1).bind λy55=>some (.nxt ((IntKind.wrap .i64 (s2.1+(1:Int))),(IntKind.wrap .i64 (s2.2.1+(1:Int))),(s2.2.2.set s2.1.toNat y54))))) else some (.nxt (s2.1,(IntKind.wrap .i64 (s2.2.1+(1:Int))),s2.2.2))))) else some (.brk (s2.1,s2.2.1,s2.2.2))))))
theorem wrap_p1 (h0:0 < i) (g:i<=9223372036854775807):(IntKind.wrap .i64 ((i:Int) - 1))=((i - 1:Nat):Int):=wrap_pred h0 g
theorem cmpIn_run {L:List GE} (S:L.length<=16777216) {k0:Nat} (G:0 < k0) (O:k0 < L.length) {a:GE} (H:L[k0 - 1]?=some a) (E:L[k0]?=some a) (T:dd (L.take k0)=L.take k0) :
  ∃o,yI (cmpIn L.length (k0:Int)) ((k0:Int),1,L)=some (.inr o)/\∃m:Nat,o.1=(m:Int)/\m<=L.length/\o.2.2.length=L.length/\o.2.2.take m=dd L:=by
 refine loopW_inv (f:=cmpIn L.length (k0:Int)) (λs=>∃m b:Nat,s.1=(m:Int)/\s.2.1=(b:Int)/\1<=b/\k0+b<=L.length/\m+1<=k0+b/\s.2.2.length=L.length/\s.2.2.take m=dd (L.take (k0+b))/\s.2.2.drop (k0+b - 1)=L.drop (k0+b - 1))
  _ (λs=>L.length - s.2.1.toNat) ?_ _ _ rfl ⟨k0,1,rfl,rfl,ug _,by omega,by omega,rfl,?_,by simp⟩
 ·rintro ⟨i,j,M⟩ ⟨m,b,w,D,P,R,Q,r,v,u⟩
  simp only at w D r v u;subst w D;simp only [cmpIn,yM,r,ut,uy];by_cases hb:k0+b < L.length
  ·right;have p:∀t,k0+b - 1<=t->M[t]?=L[t]?:=λt N=>by
    have:=congrArg (λl=>l[t - (k0+b - 1)]?) u
    grind
   have C:L[k0+b]?=some L[k0+b]:=uh hb;have hb1:k0+b - 1 < L.length:=by omega
   have I:L[k0+b - 1]?=some (L[k0+b - 1]'hb1):=uh hb1;have z:yB (M.drop k0) (b:Int)=some L[k0+b]:=by simp only [yB,uy,uB];rw [uz (by omega),p _ (by omega),C]
   have F:yB (M.drop k0) (IntKind.wrap .i64 ((b:Int) - 1))=some (L[k0+b - 1]'hb1):=by
    rw [wrap_p1 (by omega) (by omega)];simp only [yB,uy,uB]
    grind
   have J:yB M (m:Int)=some (M[m]'(by omega)):=by simp [yB]
   have g:=dd_step (L:=L) (n:=k0+b - 1) I (by rw [show k0+b - 1+1=k0+b by omega];exact C);rw [show k0+b - 1+2=k0+(b+1) by omega,show k0+b - 1+1=k0+b by omega] at g;have h:M.drop (k0+(b+1) - 1)=L.drop (k0+(b+1) - 1):=by
    have:=congrArg (λl=>l.drop 1) u;simp only [tn] at this
    rwa [show k0+b - 1+1=k0+(b+1) - 1 by omega] at this
   rw [uz (by simp;omega),z,ua,F,ua];rw [dotEq];by_cases he:L[k0+b]=L[k0+b - 1]'hb1
   ·refine ⟨((m:Int),((b+1:Nat):Int),M),by simp [he,we (show b<=16777216 by omega)],⟨m,b+1,rfl,rfl,by omega,by omega,by omega,r,?_,h⟩,by simp;omega⟩
    simp_all
   ·refine ⟨(((m+1:Nat):Int),((b+1:Nat):Int),M.set m L[k0+b]),?_,⟨m+1,b+1,rfl,rfl,by omega,by omega,by omega,by simp_all,?_,?_⟩,by simp;omega⟩
    ·simp [he,z,J,we (show b<=16777216 by omega),we (show m<=16777216 by omega)]
    ·rw [g,uM (λe=>he e.symm),<- v,tB,sL (ug _),uD (by omega)];rfl
    ·rw [sM (by omega)];exact h
  ·left;have K:k0+b=L.length:=by omega
   rw [uM (by simp;omega)]
   grind
 ·have:=dd_step (L:=L) (n:=k0 - 1) H (by rw [show k0 - 1+1=k0 by omega];exact E)
  grind
noncomputable def cmpOut (s0:List GE):Int->Option (Out (List GE) Int):=λ(s1:Int)=>((if (decide (s1 < ((s0).length:Int)))=true then ((yB s0 s1).bind λy35=>((yB s0 (IntKind.wrap .i64 (s1 - (1:Int)))).bind λy36=>(if (y35.actor.rep==y36.actor.rep&&(y35.actor.inc==y36.actor.inc&&(y35.seq==y36.seq&&true)))=true then (yM (0<=s1/\s1<=((s0.length:Nat):Int)) ((lp (yI (cmpIn s0.length s1) (s1,(1:Int),s0)) λ(s2:Int×Int×(List GE))=>(yM (0<=s2.1/\s2.1<=((s0.length:Nat):Int)) (((slc (s2.2.2.take s2.1.toNat++List.replicate (s0.length - s2.1.toNat) (GE.mk (GI.mk (0:Int) (0:Int)) (0:Int))) (0:Int) s2.1).bind λm57=>some (.ret m57))))))) else some (.nxt (IntKind.wrap .i64 (s1+(1:Int))))))) else some (.brk s1)))
theorem compact_eq (g:List GE):xX g=(if (decide (((g).length:Int) < (2:Int)))=true then some g else (lp (yI (cmpOut g) (1:Int)) λ(_:Int)=>some g)):=rfl
theorem cmpOut_run {L:List GE} (v:L.length<=16777216):∀(n k:Nat),L.length - k=n->0 < k->k<=L.length->dd (L.take k)=L.take k->lp (yI (cmpOut L) (k:Int)) (λ(_:Int)=>some L)=some (dd L):=by
 intro n
 induction n with
 | zero =>
  intro k w h0 hk hd;have:k=L.length:=by omega
  subst this;rw [yS];simp only [cmpOut]
  simp_all
 | succ n ih =>
  intro k w h0 hk hd;have g:k < L.length:=by omega
  have j:L[k]?=some L[k]:=uh g;have hk1:k - 1 < L.length:=by omega
  have r:L[k - 1]?=some (L[k - 1]'hk1):=uh hk1;rw [yS];have s:yB L (k:Int)=some L[k]:=by simp [yB]
  have p:yB L (IntKind.wrap .i64 ((k:Int) - 1))=some (L[k - 1]'hk1):=by
   rw [wrap_p1 h0 (by omega)];simp only [yB,uy];rw [uz (by omega),r]
  have h:=dd_step (L:=L) (n:=k - 1) r (by rw [show k - 1+1=k by omega];exact j);rw [show k - 1+2=k+1 by omega,show k - 1+1=k by omega] at h;by_cases he:L[k]=L[k - 1]'hk1
  ·obtain ⟨o,t,m,z,C,D,u⟩:=cmpIn_run v h0 g (a:=L[k]) (by simp_all) j hd;have hs:slc (o.2.2.take ((m:Int)).toNat++List.replicate (L.length - ((m:Int)).toNat) (GE.mk (GI.mk (0:Int) (0:Int)) (0:Int))) (0:Int) (m:Int)=some (o.2.2.take m):=by
    unfold slc;rw [uz (by simp;omega)];simp only [uy,Int.toNat_zero,sa]
    grind
   have:cmpOut L (k:Int)=some (.ret (dd L)):=by
    simp only [cmpOut];rw [uz (by simp;omega),s,ua,p,ua,dotEq,uz (by simp [he])];rw [zu (by omega),t];simp only [lp];rw [zu (by omega),z,hs,ua,u]
   simp_all
  ·have:cmpOut L (k:Int)=some (.nxt ((k+1:Nat):Int)):=by
    simp only [cmpOut];rw [uz (by simp;omega),s,ua,p,ua,dotEq,uM (by simp [he]),we (by omega)]
   rw [this];refine ih (k+1) (by omega) (by omega) (by omega) ?_;rw [h,uM (λe=>he e.symm),hd,tB,j];rfl
theorem compact_is {L:List GE} (g:L.length<=16777216):xX L=some (dd L):=by
 rw [compact_eq];by_cases h:L.length < 2
 ·rw [uz (by simp;omega)]
  match L,h with
  | [],_=>rfl
  | [x],_=>rfl
  | _::_::_,h=>simp at h;omega
 ·rw [uM (by simp;omega)];have:=cmpOut_run g (L.length - 1) 1 rfl (by omega) (by omega) (by
   match L,h with
   | x::y::r,_=>rfl
   | [],h=>simp at h
   | [x],h=>simp at h)
  omega

theorem dlt_irr (a:GE):ym a a=false:=by simp [ym]
theorem dlt_tr {b c:GE} (g:ym a b=true) (h:ym b c=true):ym a c=true:=by
 unfold ym at *;grind
theorem dlt_tot (a b:GE):a=b \/ ym a b=true \/ ym b a=true:=by
 rcases a with ⟨⟨j,h⟩,a3⟩;rcases b with ⟨⟨g,m⟩,o⟩
 simp only [ym,GE.mk.injEq,GI.mk.injEq];grind
theorem ilt_irr (a:GF):yc a a=false:=by simp [yc,dlt_irr]
theorem ilt_tr {a b c:GF} (h:yc a b=true) (g:yc b c=true):yc a c=true:=by
 unfold yc ym at *;grind
theorem ahead_pre {α:Type} {lt:α->α->Bool} (g:∀a b c,lt a b=true->lt b c=true->lt a c=true) (x:α):∀(L:List α),L.Pairwise (λa b=>lt a b=true)->∀(i:Nat) (y:α),L[i]?=some y->(lt y x=true ↔ i < (L.takeWhile λy=>lt y x).length)
 | [],_,i,y,h=>by simp at h
 | z::r,hs,i,y,h=>by
  obtain ⟨o,m⟩:=uL.1 hs;cases i with
  | zero =>
   simp only [sR,ui] at h;subst h;cases hz:lt z x <;> simp [tH,hz]
  | succ i =>
   simp only [pC] at h;have j:=ahead_pre g x r m i y h;cases hz:lt z x with
   | true=>simp [tH,hz,j]
   | false =>
    simp only [tH,hz,um,uJ,u6,Nat.not_lt_zero,iff_false]
    grind
theorem take_tw {α:Type} (p:α->Bool):∀L:List α,L.take (L.takeWhile p).length=L.takeWhile p
 | []=>rfl
 | x::r=>by cases h:p x <;> simp [tH,h,take_tw p r]
theorem drop_tw {α:Type} (p:α->Bool):∀L:List α,L.drop (L.takeWhile p).length=L.dropWhile p
 | []=>rfl
 | x::r=>by cases h:p x <;> simp [tH,List.dropWhile_cons,h,drop_tw p r]
theorem tw_le {α:Type} (p:α->Bool):∀L:List α,(L.takeWhile p).length<=L.length
 | []=>by simp
 | x::r=>by have:=tw_le p r;cases h:p x <;> simp [tH,h] <;> omega
theorem tw_add {α:Type} (p:α->Bool) (L:List α):(L.takeWhile p).length+(L.dropWhile p).length=L.length:=by
 rw [<- uq,u5]
theorem tw_all {α:Type} (p:α->Bool):∀(L:List α),∀y ∈ L.takeWhile p,p y=true
 | [],y,h=>by simp at h
 | x::r,y,h=>by
  cases hx:p x with
  | true =>
   rw [tH,uz hx] at h;rcases uP.1 h with rfl | h
   ·exact hx
   ·exact tw_all p r y h
  | false=>rw [tH,uM (by simp [hx])] at h;simp at h
theorem pw_of_next {α:Type} {lt:α->α->Prop} (j:∀a b c,lt a b->lt b c->lt a c):∀(L:List α),(∀i a b,L[i]?=some a->L[i+1]?=some b->lt a b)->L.Pairwise lt
 | [],_=>.nil
 | [x],_=>by simp
 | x::y::r,h=>by
  have m:=pw_of_next j (y::r) λi a b p o=>h (i+1) a b (by simp_all) (by simp_all);have h0:=h 0 x y rfl rfl;refine uL.2 ⟨λz g=>?_,m⟩;rcases uP.1 g with rfl | g
  ·exact h0
  ·exact j _ _ _ h0 ((uL.1 m).1 z g)
theorem rise_pw (h:riseB L=true):L.Pairwise λa b=>yc a b=true:=by
 refine pw_of_next (lt:=λa b=>yc a b=true) (λ_ _ _=>ilt_tr) L λi a b j g=>?_;have:=allI_iff.1 h (i+1) b g;simp only [Nat.succ_ne_zero,rm,tg,prevI,rC,tI,j,ri] at this;omega
theorem rising_pw {L:List GE} (h:xR L=true):L.Pairwise λa b=>ym a b=true:=by
 rw [rising_allI] at h;refine pw_of_next (lt:=λa b=>ym a b=true) (λ_ _ _=>dlt_tr) L λi a b j g=>?_;have:=allI_iff.1 h (i+1) b g;simp only [wu,Nat.succ_ne_zero,rm,tg,rC,tI,j,ri] at this;omega
theorem strict_ext {α:Type} {lt:α->α->Prop} (j:∀a,¬ lt a a) (m:∀a b c,lt a b->lt b c->lt a c):∀(A B:List α),A.Pairwise lt->B.Pairwise lt->(∀x,x ∈ A ↔ x ∈ B)->A=B
 | [],[],_,_,_=>rfl
 | [],b::B,_,_,h=>by have:=(h b).2 (by simp);simp at this
 | a::A,[],_,_,h=>by have:=(h a).1 (by simp);simp at this
 | a::A,b::B,hA,hB,h=>by
  obtain ⟨s,o⟩:=uL.1 hA;obtain ⟨r,p⟩:=uL.1 hB;have g:a=b:=by
   rcases uP.1 ((h a).1 (by simp)) with e | u
   ·exact e
   ·rcases uP.1 ((h b).2 (by simp)) with e | t
    ·simp_all
    ·grind
  subst g;rw [strict_ext j m A B o p λx=>?_]
  grind
def layP (L:List GF) (x:GF):List GF:=if (L.any λy=>decide (y.dot=x.dot))=true then L else L.takeWhile (λy=>yc y x)++([x]++L.dropWhile λy=>yc y x)
def burP (L:List GE) (d:GE):List GE:=if (L.any λy=>decide (y=d))=true then L else L.takeWhile (λy=>ym y d)++([d]++L.dropWhile λy=>ym y d)
theorem firstI_pos {α:Type} (p:α->Bool) (L:List α):decide (firstI p L >= 0)=L.any p:=firstI_any p L
theorem slcT {α:Type} (L:List α) (n:Nat) (h:n<=L.length):slc L (n:Int) (L.length:Int)=some (L.drop n):=by
 unfold slc
 simp_all
theorem tw_loop {α:Type} {L:List α} (p:α->Bool) {f:List α×Int->Option (Out (List α) (List α×Int))} (r:∀(A:List α) (i:Nat) (y:α),A.length=i->L[i]?=some y->f (A,(i:Int))=if p y=true then some (.nxt (A++[y],((i+1:Nat):Int))) else some (.brk (A,(i:Int))))
  (s:∀A:List α,f (A,(L.length:Int))=some (.brk (A,(L.length:Int)))):∀(n i:Nat),L.length - i=n->i<=(L.takeWhile p).length ->
  yI f (L.take i,(i:Int))=some (.inr (L.takeWhile p,((L.takeWhile p).length:Int))):=by
 intro n
 induction n with
 | zero =>
  intro i w hi;have u:=tw_le p L;have o:i=L.length:=by omega
  subst o;rw [yS,s];have C:(L.takeWhile p).length=L.length:=by omega
  have z:=take_tw p L
  grind
 | succ n ih =>
  intro i w hi;have g:i < L.length:=by omega
  have t:L[i]?=some L[i]:=uh g;have h:L.takeWhile p=L.take i++(L.drop i).takeWhile p:=by
   have r:L.take i=(L.takeWhile p).take i:=by
    conv=>lhs;rw [<- u5 (p:=p) (l:=L)]
    grind
   have s:∀y ∈ L.take i,p y=true:=by
    rw [r];intro y v;exact tw_all _ _ _ (List.mem_of_mem_take v)
   conv=>lhs;rw [<- rM i L]
   simp_all
  have m:L.drop i=L[i]::L.drop (i+1):=(sV g).symm;have j:(L.take i).length=i:=by simp;omega
  rw [yS,r _ _ _ j t];cases ha:p L[i] with
  | true =>
   simp only [ut];have e:L.take i++[L[i]]=L.take (i+1):=by grind
   rw [e];refine ih (i+1) (by omega) ?_;rw [h,m,tH,uz ha]
   grind
  | false =>
   simp only [um,uJ];have e:L.takeWhile p=L.take i:=by rw [h,m,tH,uM (by simp [ha])];simp
   grind
noncomputable def layF (L:List GF) (x:GF):(List GF)×Int->Option (Out (List GF) ((List GF)×Int)):=(λ(s1:(List GF)×Int)=>((yM (((decide (s1.2 < ((L).length:Int)))==true)=true->0<=s1.2/\s1.2 < ((L).length:Int)) ((yM (((decide (s1.2 < ((L).length:Int)))==true)=true->0<=s1.2/\s1.2 < ((L).length:Int)) (((if ((decide (s1.2 < ((L).length:Int)))==true)=true then vF (((L).getD s1.2.toNat default).time) (((L).getD s1.2.toNat default).dot) x.time x.dot else some default).bind λv21=>(if ((decide (s1.2 < ((L).length:Int)))&&v21)=true then ((yB L s1.2).bind λy23=>(yM ((s1.1).length+(([y23]:List GF)).length<=lim) (some (.nxt ((s1.1++([y23]:List GF)),(IntKind.wrap .i64 (s1.2+(1:Int)))))))) else some (.brk (s1.1,s1.2)))))))):Option (Out _ ((List GF)×Int))))
theorem lay_loop (p:L.length<=16777216) (x:GF):yI (layF L x) ([],0)=some (.inr (L.takeWhile (λy=>yc y x),((L.takeWhile λy=>yc y x).length:Int))):=by
 refine tw_loop (λy=>yc y x) (f:=layF L x) (λA i y r m=>?_) (λA=>?_) L.length 0 (by omega) (tD _)
 ·have o:i < L.length:=(uc.1 m).1;have hd:decide ((i:Int) < (L.length:Int))=true:=u1 (by omega);have g:L.getD i default=y:=by simp_all
  have h:yB L (i:Int)=some y:=by simp [yB,m]
  simp only [layF,hd];rw [zu (by omega),zu (by omega)];simp only [uW,ut,uy,g,ref05Ahead_is,ua,uS];have j:(if y.time ≠ x.time then decide (y.time < x.time) else ym y.dot x.dot)=yc y x:=rfl;rw [j];cases ha:yc y x with
  | true=>simp only [ut];rw [h,ua,zu (by simp [lim];omega),we (by omega)]
  | false=>rfl
 ·have hd:decide ((L.length:Int) < (L.length:Int))=false:=u9 (by omega);simp only [layF,hd];rfl
theorem refLay_is (m:L.length<=16777215) (x:GF):ref05Lay L x=some (layP L x):=by
 unfold ref05Lay;rw [ref05Item_is,ua,firstI_pos];unfold layP;cases h:L.any λy=>decide (y.dot=x.dot) with
 | true=>simp only [ut];rw [zu (by simp [lim];omega)];rfl
 | false =>
  simp only [um,uJ];have g:=lay_loop (L:=L) (by omega) x;unfold layF at g;have j:=tw_le (λy=>yc y x) L;have o:=tw_add (λy=>yc y x) L;rw [g];simp only [lp];rw [zu (by simp [lim];omega),slcT _ _ j,ua,drop_tw,zu (by simp [lim];omega)];simp
noncomputable def burF (L:List GE) (x:GE):(List GE)×Int->Option (Out (List GE) ((List GE)×Int)):=(λ(s1:(List GE)×Int)=>((yM (((decide (s1.2 < ((L).length:Int)))==true)=true->0<=s1.2/\s1.2 < ((L).length:Int)) (((if ((decide (s1.2 < ((L).length:Int)))==true)=true then qG ((L).getD s1.2.toNat default) x else some default).bind λv16=>(if ((decide (s1.2 < ((L).length:Int)))&&v16)=true then ((yB L s1.2).bind λy18=>(yM ((s1.1).length+(([y18]:List GE)).length<=lim) (some (.nxt ((s1.1++([y18]:List GE)),(IntKind.wrap .i64 (s1.2+(1:Int)))))))) else some (.brk (s1.1,s1.2)))))):Option (Out _ ((List GE)×Int))))
theorem bury_loop {L:List GE} (o:L.length<=16777216) (x:GE):yI (burF L x) ([],0)=some (.inr (L.takeWhile (λy=>ym y x),((L.takeWhile λy=>ym y x).length:Int))):=by
 refine tw_loop (λy=>ym y x) (f:=burF L x) (λA i y p j=>?_) (λA=>?_) L.length 0 (by omega) (tD _)
 ·have m:i < L.length:=(uc.1 j).1;have hd:decide ((i:Int) < (L.length:Int))=true:=u1 (by omega);have g:L.getD i default=y:=by simp_all
  have h:yB L (i:Int)=some y:=by simp [yB,j]
  simp only [burF,hd];rw [zu (by omega)];simp only [uW,ut,uy,g,ref03Less_is,ua,uS];cases ha:ym y x with
  | true=>simp only [ut];rw [h,ua,zu (by simp [lim];omega),we (by omega)]
  | false=>rfl
 ·have hd:decide ((L.length:Int) < (L.length:Int))=false:=u9 (by omega);simp only [burF,hd];rfl
theorem refBury_is {L:List GE} (m:L.length<=16777215) (x:GE):vT L x=some (burP L x):=by
 unfold vT;rw [ref05Tomb_is,ua];unfold burP;cases h:L.any λy=>decide (y=x) with
 | true=>simp only [ut]
 | false =>
  simp only [um,uJ];have g:=bury_loop (L:=L) (by omega) x;unfold burF at g;have j:=tw_le (λy=>ym y x) L;have o:=tw_add (λy=>ym y x) L;rw [g];simp only [lp];rw [zu (by simp [lim];omega),slcT _ _ j,ua,drop_tw,zu (by simp [lim];omega)];simp

theorem sortO_le {α:Type} {c:α->α->Option Int} {cf:α->α->Int} {lt:α->α->Prop} {L R:List α} (hc:∀x ∈ L,∀y ∈ L,c x y=some (cf x y)) (w:∀x y,cf x y < 0 ↔ lt x y) (p:∀x,¬ lt x x) (u:∀x y z,lt x y->lt y z->lt x z)
  (D:∀x ∈ L,∀y ∈ L,x=y \/ lt x y \/ lt y x) (t:R.Perm L) (hs:R.Pairwise λa b=>¬ lt b a) (E:L.length<=lim):sortO c L=some R:=by
 unfold sortO;rw [uz (λx g y j=>by simp_all)];have hd:∀x ∈ L,∀y ∈ L,(c x y).getD 0 < 0 ↔ lt x y:=λx g y j=>by simp_all
 have r:∀x y,lt x y->¬ lt y x:=λx y o m=>p x (u _ _ _ o m);have v:R.Pairwise λa b=>¬ (c b a).getD 0 < 0:=by
  have:R.Pairwise λa b=>a ∈ L/\b ∈ L/\¬ lt b a:=by
   refine py ?_ hs
   grind
  refine this.imp ?_
  simp_all
 refine sortF_of ⟨λx g h=>p x ((hd x g x g).1 h),λx y z g j s o m=>(hd x g z s).2 (u _ _ _ ((hd x g y j).1 o) ((hd y j z s).1 m)),λx y z g j s o m G=>?_⟩ E ⟨t,v⟩ ?_
 ·grind
 ·rintro M ⟨F,C⟩
  refine sorted_one (F.trans t.symm) C v λx y g j o m=>?_
  grind
theorem dotCmp_iff (a b:GE):dotCmp a b < 0 ↔ ym a b=true:=by rw [<- dotCmp_neg];simp
def srt (L:List GE):List GE:=L.mergeSort λa b=>!ym b a
theorem srt_pw (L:List GE):(srt L).Pairwise λa b=>¬ ym b a=true:=by
 have:=pI (le:=λa b=>!ym b a) (λa b c m g=>by
  simp only [so] at *;cases h:ym c a with
  | false=>rfl
  | true =>
   rcases dlt_tot a b with rfl | j | j
   ·rw [g] at h;cases h
   ·rw [dlt_tr h j] at g;cases g
   ·rw [m] at j;cases j) (λa b=>by
  cases h:ym b a with
  | false=>rfl
  | true =>
   cases g:ym a b with
   | false=>rfl
   | true=>have:=dlt_tr h g;rw [dlt_irr] at this;cases this) L
 refine this.imp λ{a b} h=>?_;simpa using h
theorem srt_perm (L:List GE):(srt L).Perm L:=pb ..
theorem sortDots_is {L:List GE} (g:L.length<=lim):sortO (λx y=>wJ x y) L=some (srt L) :=
 sortO_le (cf:=dotCmp) (lt:=λa b=>ym a b=true) (λx _ y _=>dotCompare_is x y) dotCmp_iff (λx=>by simp [dlt_irr]) (λ_ _ _=>dlt_tr) (λx _ y _=>dlt_tot x y) (srt_perm L) (srt_pw L) g
theorem bur_mem (L:List GE) (d x:GE):x ∈ burP L d ↔ x=d \/ x ∈ L:=by
 unfold burP;split
 ·simp_all
 ·have h:x ∈ L ↔ x ∈ L.takeWhile (λy=>ym y d) \/ x ∈ L.dropWhile (λy=>ym y d):=by
   rw [<- uG,u5]
  grind
theorem dw_not {α:Type} {lt:α->α->Bool} (m:∀a b c,lt a b=true->lt b c=true->lt a c=true) (x:α) {L:List α} (hs:L.Pairwise (λa b=>lt a b=true)):∀y ∈ L.dropWhile (λy=>lt y x),lt y x=false:=by
 intro y h;rw [<- drop_tw] at h;obtain ⟨j,g⟩:=u2.1 h;rw [uB] at g;have:=ahead_pre m x L hs _ y g
 grind
theorem ins_pw {α:Type} {lt:α->α->Bool} (s:∀a b c,lt a b=true->lt b c=true->lt a c=true) {x:α} {L:List α} (hs:L.Pairwise (λa b=>lt a b=true)) (u:∀y ∈ L,lt y x=true \/ lt x y=true):(L.takeWhile (λy=>lt y x)++([x]++L.dropWhile λy=>lt y x)).Pairwise λa b=>lt a b=true:=by
 have j:=hs;rw [<- u5 (p:=λy=>lt y x) (l:=L)] at j;obtain ⟨t,r,v⟩:=tp.1 j;have hd:∀y ∈ L.dropWhile (λy=>lt y x),lt x y=true:=λy m=>by
  rcases u y (pM _ |>.subset m) with h | h
  ·rw [dw_not s x hs y m] at h;cases h
  ·exact h
 refine tp.2 ⟨t,tp.2 ⟨by simp,r,λa o b g=>?_⟩,λa o b g=>?_⟩
 ·simp_all
 ·rcases uG.1 g with g | g
  ·rw [uE] at g;subst g;exact tw_all (λy=>lt y b) _ _ o
  ·simp_all
theorem bur_pw {L:List GE} (d:GE) (h:L.Pairwise λa b=>ym a b=true):(burP L d).Pairwise λa b=>ym a b=true:=by
 unfold burP;split
 ·exact h
 ·rename_i m;refine ins_pw (lt:=ym) (λ_ _ _=>dlt_tr) h λy j=>?_;rcases dlt_tot y d with rfl | g | g
  ·simp_all
  ·simp_all
  ·simp_all
theorem bur_len (L:List GE) (d:GE):(burP L d).length<=L.length+1:=by
 unfold burP;split
 ·omega
 ·have:=tw_add (λy=>ym y d) L
  grind
def burs (L ds:List GE):List GE:=ds.foldl burP L
theorem burs_mem:∀(ds L:List GE) (x:GE),x ∈ burs L ds ↔ x ∈ ds \/ x ∈ L
 | [],L,x=>by simp [burs]
 | d::ds,L,x=>by
  have:=burs_mem ds (burP L d) x;simp only [burs,tU] at this ⊢;rw [this,bur_mem]
  grind
theorem burs_pw:∀(ds:List GE) {L:List GE},L.Pairwise (λa b=>ym a b=true)->(burs L ds).Pairwise λa b=>ym a b=true
 | [],_,h=>h
 | d::ds,_,h=>burs_pw ds (bur_pw d h)
theorem burs_len:∀(ds L:List GE),(burs L ds).length<=L.length+ds.length
 | [],L=>by simp [burs]
 | d::ds,L=>by
  have g:=burs_len ds (burP L d);have h:=bur_len L d;simp only [burs,tU,ux] at g ⊢;omega
theorem burs_eq {L:List GE} (h:L.Pairwise λa b=>ym a b=true):dd (srt (L++ds))=burs L ds:=by
 refine strict_ext (lt:=λa b=>ym a b=true) (λa=>by simp [dlt_irr]) (λ_ _ _=>dlt_tr) _ _ (dd_strict (lt:=λa b=>ym a b=true) (λa b g=>?_) (λ_ _ _=>dlt_tr) _ (srt_pw _)) (burs_pw ds h) λx=>?_
 ·rcases dlt_tot a b with e | e | e
  ·simp_all
  ·simp_all
  ·simp_all
 ·rw [dd_mem,(srt_perm _).mem_iff,burs_mem,uG]
  grind
theorem layC_is (a b:GF):∃v,yY a b=some v/\(v < 0 ↔ yc a b=true):=by
 have h:=leafAhead_is a.time a.dot b.time b.dot;unfold vY at h;unfold yY;cases hc:vX a.time a.dot b.time b.dot with
 | none=>rw [hc] at h;cases h
 | some v =>
  rw [hc] at h;simp only [ua,ui] at h;refine ⟨v,rfl,?_⟩;have:yc a b=decide (v < 0):=h.symm
  grind
theorem searchI (j:L.length<=1048576) (hs:L.Pairwise λa b=>yc a b=true) (x:GF):∃b,z7 L x (λg o=>yY g o)=some (((L.takeWhile λy=>yc y x).length:Int),b):=by
 have hc:=tw_le (λy=>yc y x) L;have m:∀i n,L[i]?=some n->∃v,yY n x=some v/\(i < (L.takeWhile λy=>yc y x).length->v < 0)/\((L.takeWhile λy=>yc y x).length<=i->0<=v):=λi n hi=>by
  obtain ⟨v,e,r⟩:=layC_is n x;have p:=ahead_pre (lt:=yc) (λ_ _ _=>ilt_tr) x L hs i n hi
  grind
 rw [bsI_is j hc m];by_cases h:(L.takeWhile λy=>yc y x).length < L.length
 ·rw [uz h];obtain ⟨v,e,_⟩:=layC_is (L.getD (L.takeWhile λy=>yc y x).length default) x
  simp_all
 ·rw [uM h];exact ⟨_,rfl⟩
theorem insO_is (h:L.length<=1048576) (x:GF) {n:Nat} (g:n<=L.length):insO L (n:Int) [x]=some (L.take n++([x]++L.drop n)):=by
 unfold insO;rw [uz ⟨⟨by omega,by omega⟩,by simp,by simp [lim];omega⟩,uy]
theorem progLay_is (m:L.length<=1048576) (hs:L.Pairwise λa b=>yc a b=true) (x:GF) :
  ((leafXhas L x.dot).bind λg=>(if g=true then some L else ((z7 L x (λo p=>yY o p)).bind λj=>((insO L j.1 ([x]:List GF)).bind λv39=>some v39))))=some (layP L x):=by
 rw [leafXhas_is,ua];unfold layP;cases h:L.any λy=>decide (y.dot=x.dot) with
 | true=>rfl
 | false =>
  simp only [um,uJ];obtain ⟨b,e⟩:=searchI m hs x;rw [e,ua,insO_is m x (tw_le _ _),ua,take_tw,drop_tw]
theorem containsDot_is (L:List GE) (d:GE):xf L d=some (L.any λy=>decide (y=d)):=by
 unfold xf qZ;have:=first_loop (α:=GE) (f:=λx=>some (decide (x=d))) (q:=λx=>decide (x=d)) L (λ_ _=>rfl);have e:∀(h:Nat) (g:GE),(if (d.actor.rep==g.actor.rep&&(d.actor.inc==g.actor.inc&&(d.seq==g.seq&&true)))=true then some (.ret (h:Int)) else some (.nxt ()):Option (Out Int Unit))=((some (decide (g=d)):Option Bool).bind λv=>if v=true then some (.ret (h:Int)) else some (.nxt ())):=λh g=>by
  rw [dotEq,ua]
  grind
 simp only [e];rw [this,ua,firstI_pos]
theorem dropC_is (x:GF) (e:GH):wr x e=some (e.op.dots.any λy=>decide (y=x.dot)):=by
 unfold wr;rw [containsDot_is];rfl

def applyP (l:GC) (e:GH):GC :=
 if e.op.kind=1 then { l with n:=IntKind.wrap .i64 (l.n+e.op.n) }
 else if e.op.kind=2 then (if (decide (l.time=0) || (if l.time ≠ e.time then decide (l.time < e.time) else ym l.dot e.dot))=true then { l with time:=e.time,dot:=e.dot,text:=e.op.text } else l)
 else if e.op.kind=3 then (if (l.tombs.any λy=>decide (y=e.dot))=true then l else { l with items:=layP l.items ⟨0,e.dot,e.op.text⟩ })
 else if e.op.kind=4 then { l with items:=l.items.filter (λx=>!(e.op.dots.any λy=>decide (y=x.dot))),tombs:=burs l.tombs e.op.dots }
 else { l with items:=layP l.items ⟨e.time,e.dot,e.op.text⟩ }
def zeroLf:GC:=GC.mk (0:Int) (0:Int) (0:Int) (GE.mk (GI.mk (0:Int) (0:Int)) (0:Int)) ([]:zx) ([]:List GF) ([]:List GE)
def applyW (l:GC) (e:GH):GC×Int:=if (!leafB l || !eventB e)=true then (zeroLf,2) else if typeB e.op.kind ≠ l.typ then (zeroLf,15) else (applyP l e,0)
theorem riseB_of (h:leafB l=true):l.items.Pairwise λa b=>yc a b=true:=by
 unfold leafB at h;split at h
 ·simp_all
 ·split at h
  ·simp_all
  ·split at h
   ·simp only [ud] at h;exact rise_pw h.1.2.1.2
   ·split at h
    ·simp only [ud] at h;exact rise_pw h.2.1.2
    ·cases h
theorem tombs_of (h:leafB l=true):l.tombs.Pairwise λa b=>ym a b=true:=by
 unfold leafB at h;split at h
 ·simp_all
 ·split at h
  ·simp_all
  ·split at h
   ·simp only [ud,tombsB] at h;exact rising_pw h.2.1.2
   ·simp_all
theorem kind_of (h:eventB e=true):1<=e.op.kind/\e.op.kind<=5:=by
 simp only [eventB,opB,ud,uk] at h;omega
theorem dots_of (h:eventB e=true):e.op.dots.length<=64:=by
 simp only [eventB,opB,ud,uk] at h;omega
theorem leafApply_is (e:GH) (hi:l.items.length<=1048576) (m:l.tombs.length<=1048576):leafApply l e=some (applyW l e):=by
 unfold leafApply applyW;rw [leafMay_is (by unfold maxLen;omega) (by unfold maxLen;omega),ua];cases hl:leafB l with
 | false=>simp [zeroLf]
 | true =>
  simp only [tR,tg,uW,ut,opMayEvent_is,ua];cases he:eventB e with
  | false=>simp [zeroLf]
  | true =>
   simp only [tR,um,uJ,opType_is,ua];by_cases hk:typeB e.op.kind=l.typ
   ·rw [uM (show ¬ (typeB e.op.kind != l.typ)=true by simp [hk]),uM (show ¬ typeB e.op.kind ≠ l.typ by simp [hk])];rw [qa (by unfold lim;omega),ua,cloneDot_is (by unfold lim;omega),ua];unfold applyP;by_cases h1:e.op.kind=1
    ·simp_all
    simp only [h1,uJ];by_cases h2:e.op.kind=2
    ·simp only [h2,ut,leafAhead_is,ua];have h:(l.time==(0:Int))=decide (l.time=0):=by rfl
     rw [h];cases h0:decide (l.time=0) with
     | true=>simp
     | false =>
      simp only [uW,ut,ua,tg];generalize (if l.time ≠ e.time then decide (l.time < e.time) else ym l.dot e.dot)=b;cases b <;> rfl
    simp only [h2,uJ];by_cases h3:e.op.kind=3
    ·simp only [h3,ut,containsDot_is,ua];have:=progLay_is hi (riseB_of hl) ⟨0,e.dot,e.op.text⟩;simp only at this;rw [this];cases l.tombs.any (λy=>decide (y=e.dot)) <;> rfl
    simp only [h3,uJ];have hd:=dots_of he;by_cases h4:e.op.kind=4
    ·simp only [h4,ut];rw [zu (by unfold lim;omega),sortDots_is (by simp [lim];omega),ua,compact_is (by rw [(srt_perm _).length_eq];simp;omega),ua,
      deleteI_is (q:=λx=>e.op.dots.any λy=>decide (y=x.dot)) (by omega) (λx _=>dropC_is x e),ua,burs_eq (tombs_of hl)]
     rfl
    simp only [h4,uJ];have j:e.op.kind=5:=by have:=kind_of he;omega
    simp only [j,ut];have:=progLay_is hi (riseB_of hl) ⟨e.time,e.dot,e.op.text⟩
    simp_all
   ·have g:(typeB e.op.kind != l.typ)=true:=by simp [hk]
    simp only [g,ut,hk,ne_eq,rJ,um,uJ,zeroLf]
theorem refTombs_fold:∀(ds L:List GE) (n:Nat),L.length+ds.length<=16777215->zD (λ(o:Nat) (j:GE) (m:(List GE))=>(((vT m j).bind λg=>some (.nxt g)):Option (Out (GC×Int) (List GE)))) ds n L=some (.inr (burs L ds))
 | [],L,n,_=>rfl
 | d::ds,L,n,h=>by
  simp only [ux] at h;have p:=bur_len L d;simp only [zD];rw [refBury_is (by omega),ua];exact refTombs_fold ds (burP L d) (n+1) (by omega)
theorem refLeft_is (L:List GF) (T:List GE) (o:L.length<=16777215):ref05Left L T=some (L.filter λx=>!(T.any λy=>decide (y=x.dot))):=by
 unfold ref05Left;have:∀(L s:List GF) (n:Nat),s.length+L.length<=16777215->zD (λ(p:Nat) (j:GF) (m:(List GF))=>(((qF T j.dot).bind λg=>(if (!g)=true then (yM ((m).length+(([j]:List GF)).length<=lim) (some (.nxt (m++([j]:List GF))))) else some (.nxt m))):Option (Out (List GF) (List GF)))) L n s=some (.inr (s++L.filter λx=>!(T.any λy=>decide (y=x.dot)))):=by
  intro L
  induction L with
  | nil=>intro s n _;simp [zD]
  | cons x r ih =>
   intro s n h;simp only [ux] at h;simp only [zD,ref05Tomb_is,ua];cases hx:T.any λy=>decide (y=x.dot) with
   | true =>
    simp only [tR,um,uJ];rw [tX,uM (by simp [hx])];have:=ih s (n+1) (by omega);simp only [ref05Tomb_is,ua] at this;omega
   | false =>
    simp only [sC,ut];rw [zu (by simp [lim];omega),tX,uz (by simp [hx])];have:=ih (s++[x]) (n+1) (by simp;omega);simp only [ref05Tomb_is,ua,uC,rN] at this;omega
 simp_all
theorem bsf_loop {cmp:GC->Int->Option Int} {x:List GC} {s:Int} (z:x.length<=16777216) (r:∀i n,x[i]?=some n->∃v,cmp n s=some v/\(i < c->v < 0)/\(c<=i->0<=v)) :
  ∀(k lo hi:Nat),hi - lo<=k->lo<=c->c<=hi->hi<=x.length->yI (ρ:=Int×Bool) (λ(g:Int×Int)=>((if (decide (g.1 < g.2))=true then ((yB x (IntKind.wrap .i64 ((Int.fdiv (IntKind.wrap .u64 ((IntKind.wrap .i64 (g.1+g.2)))) (2 ^ (min (1:Int).toNat (IntKind.bits .u64))))))).bind λt=>((cmp t s).bind λh=>(if (decide (h < (0:Int)))=true then some (.nxt ((IntKind.wrap .i64 ((IntKind.wrap .i64 ((Int.fdiv (IntKind.wrap .u64 ((IntKind.wrap .i64 (g.1+g.2)))) (2 ^ (min (1:Int).toNat (IntKind.bits .u64))))))+(1:Int))),g.2)) else some (.nxt (g.1,(IntKind.wrap .i64 ((Int.fdiv (IntKind.wrap .u64 ((IntKind.wrap .i64 (g.1+g.2)))) (2 ^ (min (1:Int).toNat (IntKind.bits .u64))))))))))) else some (.brk (g.1,g.2))):Option (Out _ (Int×Int)))) ((lo:Int),(hi:Int))=some (.inr ((c:Int),(c:Int))):=by
 intro k
 induction k with
 | zero =>
  intro lo hi p j hc hh;obtain rfl:lo=hi:=by omega
  obtain rfl:lo=c:=by omega
  rw [yS];simp
 | succ k ih =>
  intro lo hi p j hc hh;rw [yS];by_cases hlt:lo < hi
  ·have hd:decide ((lo:Int) < (hi:Int))=true:=u1 (by omega);simp only [hd,ut,half_mid hlt (by omega)];have m:(lo+hi) / 2 < x.length:=by omega
   rw [idx_at m,ua];obtain ⟨v,u,o,w⟩:=r ((lo+hi) / 2) _ (uh m);rw [u,ua];by_cases hcm:(lo+hi) / 2 < c
   ·rw [u1 (o hcm),uz rfl];simp only;have e:IntKind.wrap .i64 ((((lo+hi) / 2:Nat):Int)+1)=(((lo+hi) / 2+1:Nat):Int):=by rw [w64n (by omega)];omega
    rw [e];exact ih _ _ (by omega) (by omega) hc hh
   ·rw [u9 (by omega)];simp only [um,uJ];exact ih _ _ (by omega) j (by omega) (by omega)
  ·grind
theorem bsf_is {cmp:GC->Int->Option Int} {x:List GC} {s:Int} (j:x.length<=16777216) (hc:c<=x.length) (g:∀i n,x[i]?=some n->∃v,cmp n s=some v/\(i < c->v < 0)/\(c<=i->0<=v)) :
  zU x s cmp=(if c < x.length then cmp (x.getD c default) s else some 1).bind λv=>some ((c:Int),(decide (c < x.length)&&(v==0))):=by
 unfold zU;have:=bsf_loop j g x.length 0 x.length (by omega) (tD _) hc (ug _);simp only [rU] at this;rw [show ((0:Int),(x.length:Int))=(((0:Nat):Int),(x.length:Int)) from rfl] at *;rw [this];simp only [lp];by_cases h:c < x.length
 ·have hd:decide ((c:Int) < (x.length:Int))=true:=u1 (by omega);simp only [hd,h,ut,uy,uW,rW,uS];rw [zu (by omega)]
 ·have hd:decide ((c:Int) < (x.length:Int))=false:=u9 (by omega);simp only [hd,h,uJ,rm,rG,ua];rfl

theorem putC_is (x:GC) (k:Int):wY x k=some (cmpI x.typ k):=by unfold wY;rw [cmpU8is];rfl
theorem cmpI_neg {a b:Int}:cmpI a b < 0 ↔ a < b:=by unfold cmpI;split <;> (try split) <;> omega
theorem cmpI_zero {a b:Int}:cmpI a b=0 ↔ a=b:=by unfold cmpI;split <;> (try split) <;> omega
theorem split_typ (k:Int) (h:ls.Pairwise λx y=>x.typ < y.typ):(∃A B,ls=A++B/\(∀y ∈ A,y.typ < k)/\∀y ∈ B,k < y.typ) \/ ∃A x B,ls=A++x::B/\x.typ=k/\(∀y ∈ A,y.typ < k)/\∀y ∈ B,k < y.typ:=by
 induction ls with
 | nil=>exact .inl ⟨[],[],rfl,λ_ h=>by simp at h,λ_ h=>by simp at h⟩
 | cons x t ih =>
  obtain ⟨m,j⟩:=uL.1 h;rcases Int.lt_trichotomy x.typ k with e | e | e
  ·grind
  ·exact .inr ⟨[],x,t,rfl,e,λ_ h=>by simp at h,λy g=>by simp_all⟩
  ·refine .inl ⟨[],x::t,rfl,λ_ h=>by simp at h,λy g=>?_⟩
   grind
theorem layLs_none (h:∀y ∈ A,y.typ < l.typ) (j:∀y ∈ B,l.typ < y.typ):qL l.typ l true (A++B)=A++l::B:=by
 unfold qL;rw [uz rfl,tE,tE];rw [tG.2 (λy g=>u1 (h y g)),tW.2 (λy g=>by grind),
  tW.2 (λy g=>by grind),tG.2 (λy g=>u1 (j y g))]
 simp
theorem layLs_some (m:x.typ=l.typ) (h:∀y ∈ A,y.typ < l.typ) (j:∀y ∈ B,l.typ < y.typ):qL l.typ l true (A++x::B)=A++l::B:=by
 unfold qL;rw [uz rfl,tE,tE,tX,tX];rw [uM (by simp;omega),uM (by simp;omega)];rw [tG.2 (λy g=>u1 (h y g)),tW.2 (λy g=>by grind),
  tW.2 (λy g=>by grind),tG.2 (λy g=>u1 (j y g))]
 simp
theorem bsf_none (s:(A++B).length<=16777216) (o:∀y ∈ A,y.typ < k) (g:∀y ∈ B,k < y.typ):zU (A++B) k (λj r=>wY j r)=some ((A.length:Int),false):=by
 rw [bsf_is (c:=A.length) s (by simp) λi m hi=>⟨_,putC_is m k,λhc=>by
   rw [un hc] at hi;exact cmpI_neg.2 (o m (uX hi)),λhc=>by
   rw [uj hc] at hi;have:=g m (uX hi);have t:¬ cmpI m.typ k < 0:=λh=>by rw [cmpI_neg] at h;omega
   omega⟩]
 cases B with
 | nil=>simp
 | cons y B =>
  have e:(A++y::B).getD A.length default=y:=by simp
  have:=g y (by simp);rw [uz (by simp),e,putC_is];have p:(cmpI y.typ k==0)=false:=by
   rw [rt,Ne,cmpI_zero];omega
  simp [p]
theorem bsf_some (p:(A++x::B).length<=16777216) (hs:x.typ=k) (j:∀y ∈ A,y.typ < k) (t:∀y ∈ B,k < y.typ):zU (A++x::B) k (λg o=>wY g o)=some ((A.length:Int),true):=by
 rw [bsf_is (c:=A.length) p (by simp) λi m hi=>⟨_,putC_is m k,λhc=>by
   rw [un hc] at hi;exact cmpI_neg.2 (j m (uX hi)),λhc=>by
   rw [uj hc] at hi;have s:¬ m.typ < k:=by
    grind
   have r:¬ cmpI m.typ k < 0:=λh=>by rw [cmpI_neg] at h;omega
   omega⟩]
 have e:(A++x::B).getD A.length default=x:=by simp
 rw [uz (by simp),e,putC_is,cmpI_zero.2 hs];simp
theorem insO_at {α:Type} {A B:List α} (x:α) (h:(A++B).length<=16777216):insO (A++B) (A.length:Int) [x]=some (A++x::B):=by
 unfold insO;rw [uz ⟨⟨by omega,by simp;omega⟩,by simp,yJ (by simp_all)⟩];simp
noncomputable def putX (n:Nat) (p:List zx) (l2:GC) (y7:GA) (v6:List GA) (i:Int):Option (List GA) :=
 (if (decide (((p).length:Int) > (1:Int)))=true then ((slc p (1:Int) ((p).length:Int)).bind λm10=>((wl n y7.subs m10 l2).bind λv11=>((yB v6 i).bind λy12=>some (v6.set i.toNat (GA.mk y7.name y7.leaves v11))))) else ((xC y7.leaves).bind λv13=>((zU v13 l2.typ (λx0 x1=>wY x0 x1)).bind λv14=>(if (!v14.2)=true then ((insO v13 v14.1 ([l2]:List GC)).bind λv16=>((yB v16 v14.1).bind λy17=>((yB v6 i).bind λy18=>some (v6.set i.toNat (GA.mk y7.name (v16.set v14.1.toNat l2) y7.subs))))) else ((yB v13 v14.1).bind λy19=>((yB v6 i).bind λy20=>some (v6.set i.toNat (GA.mk y7.name (v13.set v14.1.toNat l2) y7.subs))))))))
theorem putN_eq (n:Nat) (t0:List GA) (g:List zx) (m:GC):wl (n+1) t0 g m=((xc t0).bind λh=>((yB g (0:Int)).bind λr=>((treeXfind h r).bind λv3=>(if (!v3.2)=true then ((yB g (0:Int)).bind λs=>((insO h v3.1 ([(GA.mk s ([]:List GC) ([]:List GA))]:List GA)).bind λo=>((yB o v3.1).bind λp=>putX n g m p o v3.1))) else ((yB h v3.1).bind λj=>putX n g m j h v3.1))))):=rfl
theorem putX_leaf {s:zx} {A B:List GA} {x:GA} (o:x.leaves.length<=16777215) (h:x.leaves.Pairwise λx y=>x.typ < y.typ):putX n [s] l x (A++x::B) (A.length:Int)=some (A++⟨x.name,qL l.typ l true x.leaves,x.subs⟩::B):=by
 unfold putX;have m:decide (((([s]:List zx).length:Int)) > 1)=false:=rfl;have g:yB (A++x::B) (A.length:Int)=some x:=zK (by simp);simp only [m,um,uJ];rw [cloneLeaf_is (yJ (by omega)),ua];rcases split_typ l.typ h with ⟨C,D,e,hc,hd⟩ | ⟨C,z,D,e,j,hc,hd⟩
 ·rw [e,bsf_none (by grind) hc hd,ua];simp only [sC,ut];rw [insO_at _ (by grind),ua,zK (x:=l) (by simp),ua,g,ua,layLs_none hc hd];simp
 ·rw [e,bsf_some (by grind) j hc hd,ua];simp only [tR,um,uJ];rw [zK (x:=z) (by simp),ua,g,ua,layLs_some j hc hd];simp
theorem putX_sub {s a:zx} {r:List zx} {A B:List GA} {x:GA} {g:List GA} (o:(s::a::r).length<=16777216) (h:wl n x.subs (a::r) l=some g):putX n (s::a::r) l x (A++x::B) (A.length:Int)=some (A++⟨x.name,x.leaves,g⟩::B):=by
 unfold putX;have j:decide ((((s::a::r).length:Int)) > 1)=true:=u1 (by grind);have m:yB (A++x::B) (A.length:Int)=some x:=zK (by simp);simp only [j,ut];rw [slc_at ⟨by omega,by grind,tY _⟩,ua];have p:((s::a::r).take (((s::a::r).length:Int)).toNat).drop (1:Int).toNat=a::r:=by rw [uy,sj];rfl
 simp_all
theorem find_eq (t:List GA) (s:zx):treeXfind t s=(zq t s (λh j=>xO h j)).bind λg=>some (g.1,g.2):=rfl

theorem layLs_len:(qL k l there ls).length<=ls.length+1:=by
 unfold qL;split
 ·have g:=rE (λx:GC=>decide (x.typ < k)) ls;have h:=g.length_eq;have j:(ls.filter λx=>decide (k < x.typ)).length<=(ls.filter λx=>!decide (x.typ < k)).length:=by
   have:(ls.filter λx=>decide (k < x.typ))=(ls.filter λx=>!decide (x.typ < k)).filter (λx=>decide (k < x.typ)):=by
    rw [sW];refine su λx _=>?_;rw [tu];simp;omega
   grind
  grind
 ·grind
theorem lay_leaf {s:zx} {A m B:List GA} {sb:List GA} (u:LeafOk l) (t:m.length=if f=true then 1 else 0) (o:zq (A++m++B) s (λr v=>xO r v)=some ((A.length:Int),f))
  (g:((if f=true then ((yB (A++m++B) (A.length:Int)).bind λj=>some (.inr (j.name,j.leaves,j.subs))) else some (.inr (s,([]:List GC),([]:List GA)))):Option (List GA ⊕ (zx×(List GC)×(List GA))))=some (.inr (s,ls,sb)))
  (C:(A++m++B).length<=16777216) (z:ls.length<=16777215) (w:sb.length<=16777217) (h:ls.Pairwise λx y=>x.typ < y.typ) :
  xZ (n+1) (A++m++B) [s] l.typ l true=some (A++fitN s (qL l.typ l true ls) sb++B):=by
 have p:yB [s] (0:Int)=some s:=rfl;have:=layLs_len (k:=l.typ) (l:=l) (there:=true) (ls:=ls);rw [layN_eq,p,ua,o,ua,ua];simp only [];rw [g,yO,layIn_leaf (λ_=>⟨rfl,u⟩) (by omega) h,yO,layRest_is t (by omega) (by omega) (by omega)]
theorem lay_sub {s a:zx} {r:List zx} {A m B:List GA} {sb g:List GA} (v:m.length=if f=true then 1 else 0) (t:zq (A++m++B) s (λu z=>xO u z)=some ((A.length:Int),f))
  (j:((if f=true then ((yB (A++m++B) (A.length:Int)).bind λo=>some (.inr (o.name,o.leaves,o.subs))) else some (.inr (s,([]:List GC),([]:List GA)))):Option (List GA ⊕ (zx×(List GC)×(List GA))))=some (.inr (s,ls,sb)))
  (E:(A++m++B).length<=16777216) (D:ls.length<=16777215) (C:g.length<=16777217) (w:(s::a::r).length<=16777216) (h:xZ n sb (a::r) k l there=some g) :
  xZ (n+1) (A++m++B) (s::a::r) k l there=some (A++fitN s ls g++B):=by
 have p:yB (s::a::r) (0:Int)=some s:=rfl;rw [layN_eq,p,ua,t,ua,ua];simp only [];rw [j,yO,layIn_sub w h,yO,layRest_is v (by omega) (by omega) (by omega)]
theorem fit_one {g:zx} {sb:List GA} (h:ls ≠ [] \/ sb ≠ []):fitN g ls sb=[⟨g,ls,sb⟩]:=by
 unfold fitN;rw [uM];rcases h with h | h
 ·simp_all
 ·simp_all
theorem layLs_ne:qL l.typ l true ls ≠ []:=List.ne_nil_of_mem (layLs_mem.2 (.inr ⟨rfl,rfl⟩))
theorem put_lay {l:GC} (S:leafB l=true) (H:LeafOk l):∀(p:List zx) (t:List GA) (d n:Nat),p ≠ []->p.all nameB=true->d+p.length<=3->treeB d t=true->(zC [] t).length<=16777214->p.length < n ->
  wl n t p l=xZ n t p l.typ l true
 | [],_,_,_,h,_,_,_,_,_=>absurd rfl h
 | _::_,_,_,0,_,_,_,_,_,h=>by omega
 | s::q,t,d,n+1,_,hp,hd,ht,hw,hn=>by
  simp only [tf,ud,ux] at hp hd hn;obtain ⟨V,R⟩:=zV ht;have E:t.length<=16777214:=uA (vG _ d (by rw [yZ];exact ur.2 R)) hw;have w:yB (s::q) (0:Int)=some s:=rfl
  -- what is below
  have below:∀(sb:List GA) (c:zx) (m:List zx),q=c::m->treeB (d+1) sb=true->(zC [] sb).length<=16777214->∃g,wl n sb q l=some g/\xZ n sb q l.typ l true=some g/\g ≠ []/\g.length<=16777215:=by
   intro sb c m r u N;subst r;obtain ⟨g,U,Z,e3,Y⟩:=lay_is (k:=l.typ) (l:=l) (there:=true) (λ_=>⟨rfl,S,H⟩) (c::m) sb (d+1) n (by simp) hp.2 (by omega) u (by omega) (by omega);have hsl:=vG sb (d+1) (by rw [yZ];exact ur.2 (zV u).2);refine ⟨g,?_,U,?_,by omega⟩
   ·rw [<- U];exact put_lay S H (c::m) sb (d+1) n (by simp) hp.2 (by omega) u N (by omega)
   ·intro e;have:=(Y [] ⟨[]++(c::m),l⟩).2 (.inr ⟨rfl,rfl⟩);rw [e] at this;simp [zC] at this
  rcases split_up s V with ⟨A,B,e,P,v⟩ | ⟨A,x,B,e,I,P,v⟩
  ·have O:(A++B).length<=16777214:=by rw [<- e];exact E
   have o:=bs_none (by omega) P v;have j:zq (A++[]++B) s (λJ Q=>xO J Q)=some ((A.length:Int),false):=by simp_all
   have z:A++B=A++[]++B:=by simp
   have L:wl (n+1) t (s::q) l=putX n (s::q) l ⟨s,[],[]⟩ (A++⟨s,[],[]⟩::B) (A.length:Int):=by
    rw [putN_eq,cloneNode_is (yJ (by omega)),ua,w,ua,find_eq,e,o,ua,ua];simp only [sC,ut,ua];rw [insO_at _ (by omega),ua,zK (x:=⟨s,[],[]⟩) (by simp),ua]
   rw [L];cases r:q with
   | nil =>
    rw [putX_leaf (x:=⟨s,[],[]⟩) (by simp) (by simp),e,z,lay_leaf (ls:=[]) (sb:=[]) H (by simp) j rfl (by grind) (by simp) (by simp) (by simp),fit_one (.inl layLs_ne)];simp
   | cons c m =>
    obtain ⟨g,C,F,M,X⟩:=below [] c m r (qX _) (by simp [zC]);rw [r] at C F;rw [putX_sub (x:=⟨s,[],[]⟩) (by grind) C,e,z,lay_sub (ls:=[]) (sb:=[]) (f:=false) (by simp) j rfl (by grind) (by simp) (by omega) (by grind) F,fit_one (.inr M)];simp
  ·have O:(A++x::B).length<=16777214:=by rw [<- e];exact E
   have o:=bs_some (by omega) I P v;have j:zq (A++[x]++B) s (λJ Q=>xO J Q)=some ((A.length:Int),true):=by simp_all
   have z:A++x::B=A++[x]++B:=by simp
   have G:x ∈ t:=by rw [e];simp
   obtain ⟨n1,n2,T⟩:=xF (R x G);have W:=vV G;have hsl:=vG x.subs (d+1) (by rw [yZ];exact ur.2 (zV n2).2);have D:((if true=true then ((yB (A++[x]++B) (A.length:Int)).bind λK=>some (.inr (K.name,K.leaves,K.subs))) else some (.inr (s,([]:List GC),([]:List GA)))):Option (List GA ⊕ (zx×(List GC)×(List GA))))=some (.inr (s,x.leaves,x.subs)):=by
    rw [uz rfl,zK (x:=x) (by simp),ua,I]
   have L:wl (n+1) t (s::q) l=putX n (s::q) l x (A++x::B) (A.length:Int):=by
    rw [putN_eq,cloneNode_is (yJ (by omega)),ua,w,ua,find_eq,e,o,ua,ua];simp only [tR,um,uJ];rw [zK (x:=x) (by simp),ua]
   rw [L];cases r:q with
   | nil =>
    rw [putX_leaf (x:=x) (by omega) (wB T).1,e,z,lay_leaf (ls:=x.leaves) (sb:=x.subs) H (by simp) j D (by grind) (by omega) (by omega) (wB T).1,fit_one (.inl layLs_ne),I];simp
   | cons c m =>
    obtain ⟨g,C,F,M,X⟩:=below x.subs c m r n2 (by omega);rw [r] at C F;rw [putX_sub (x:=x) (by grind) C,e,z,lay_sub (ls:=x.leaves) (sb:=x.subs) (f:=true) (by simp) j D (by grind) (by omega) (by omega) (by grind) F,fit_one (.inr M),I];simp

noncomputable def l7A (t0:List GA) (path1:List zx):(List GA)×Int->Option (Out (List GA) ((List GA)×Int)):=(λ(s1:(List GA)×Int)=>((yM (((decide (s1.2 < ((t0).length:Int)))==true)=true->0<=s1.2/\s1.2 < ((t0).length:Int)) ((yM (((decide (s1.2 < ((t0).length:Int)))==true)=true->0<=(0:Int)/\(0:Int) < ((path1).length:Int)) ((if ((decide (s1.2 < ((t0).length:Int)))&&(Op.bytesLess (((t0).getD s1.2.toNat default).name) ((path1).getD (0:Int).toNat default)))=true then ((yB t0 s1.2).bind λy22=>(yM ((s1.1).length+(([y22]:List GA)).length<=lim) (some (.nxt ((s1.1++([y22]:List GA)),(IntKind.wrap .i64 (s1.2+(1:Int)))))))) else some (.brk (s1.1,s1.2))))))):Option (Out _ ((List GA)×Int))))
noncomputable def l7B (ls:List GC) (l2:GC):(List GC)×Int->Option (Out (List GA) ((List GC)×Int)):=(λ(sd62:(List GC)×Int)=>((yM (((decide (sd62.2 < ((ls).length:Int)))==true)=true->0<=sd62.2/\sd62.2 < ((ls).length:Int)) ((if ((decide (sd62.2 < ((ls).length:Int)))&&(decide (((ls).getD sd62.2.toNat default).typ < l2.typ)))=true then ((yB ls sd62.2).bind λy66=>(yM ((sd62.1).length+(([y66]:List GC)).length<=lim) (some (.nxt ((sd62.1++([y66]:List GC)),(IntKind.wrap .i64 (sd62.2+(1:Int)))))))) else some (.brk (sd62.1,sd62.2))))):Option (Out _ ((List GC)×Int))))
theorem l7A_is {t:List GA} {s:zx} {q:List zx} (u:t.length<=16777216) (a b:List GA) (e:t=a++b) (p:∀y ∈ a,Op.bytesLess y.name s=true) (v:∀y r,b=y::r->Op.bytesLess y.name s=false) :
  ∀(k i:Nat),a.length - i<=k->i<=a.length->yI (l7A t (s::q)) (a.take i,(i:Int))=some (.inr (a,(a.length:Int))):=by
 have w:t.length=a.length+b.length:=by rw [e];simp
 intro k
 induction k with
 | zero =>
  intro i g hi;obtain rfl:i=a.length:=by omega
  rw [yS];have:l7A t (s::q) (a.take a.length,(a.length:Int))=some (.brk (a,(a.length:Int))):=by
   unfold l7A;simp only [sj];rw [zu (by simp_all),zu (by intro h;simp)];cases hbb:b with
   | nil =>
    simp_all
   | cons y r =>
    simp_all
  rw [this]
 | succ k ih =>
  intro i g hi;rcases sy i a.length with h | h
  ·rw [yS];have m:t[i]?=some a[i]:=by grind
   have hd:t.getD i default=a[i]:=by simp_all
   have:l7A t (s::q) (a.take i,(i:Int))=some (.nxt (a.take (i+1),((i+1:Nat):Int))):=by
    unfold l7A;simp only;rw [zu (by omega),zu (by intro h;simp)];have j:(s::q).getD (0:Int).toNat default=s:=rfl;have o:IntKind.wrap .i64 ((i:Int)+1)=((i+1:Nat):Int):=by rw [w64n (by omega)];omega
    rw [uy,hd,j,p _ (rl h),u1 (by omega),uT,uz rfl,zK m,ua,zu (yJ (by simp;omega)),o]
    simp_all
   grind
  ·grind

theorem l7B_at (s:ls.length<=16777216) (a b:List GC) (e:ls=a++b) (m:∀y ∈ a,y.typ < l.typ) (t:∀y r,b=y::r->¬ y.typ < l.typ) :
  ∀(k i:Nat),a.length - i<=k->i<=a.length->yI (l7B ls l) (a.take i,(i:Int))=some (.inr (a,(a.length:Int))):=by
 have p:ls.length=a.length+b.length:=by rw [e];simp
 intro k
 induction k with
 | zero =>
  intro i g hi;obtain rfl:i=a.length:=by omega
  rw [yS];have:l7B ls l (a.take a.length,(a.length:Int))=some (.brk (a,(a.length:Int))):=by
   unfold l7B;simp only [sj];rw [zu (by simp_all)];cases hbb:b with
   | nil =>
    simp_all
   | cons y r =>
    grind
  rw [this]
 | succ k ih =>
  intro i g hi;rcases sy i a.length with h | h
  ·rw [yS];have o:ls[i]?=some a[i]:=by grind
   have hd:ls.getD i default=a[i]:=by simp_all
   have:l7B ls l (a.take i,(i:Int))=some (.nxt (a.take (i+1),((i+1:Nat):Int))):=by
    unfold l7B;simp only;have j:IntKind.wrap .i64 ((i:Int)+1)=((i+1:Nat):Int):=by rw [w64n (by omega)];omega
    rw [zu (by omega),uy,hd,u1 (m _ (rl h)),u1 (by omega),uT,uz rfl,zK o,ua,zu (yJ (by simp;omega)),j]
    simp_all
   grind
  ·grind

noncomputable def l7R (n:Nat) (t0:List GA) (path1:List zx) (l2:GC) (A:List GA) (sd30:Int×zx×(List GC)×(List GA)):Option (List GA):=(if (decide (((path1).length:Int) > (1:Int)))=true then ((slc path1 (1:Int) ((path1).length:Int)).bind λm38=>((wA n sd30.2.2.2 m38 l2).bind λv39=>(yM ((A).length+(([(GA.mk sd30.2.1 sd30.2.2.1 v39)]:List GA)).length<=lim) (((slc t0 sd30.1 ((t0).length:Int)).bind λm41=>(yM (((A++([(GA.mk sd30.2.1 sd30.2.2.1 v39)]:List GA))).length+(m41).length<=lim) (some ((A++([(GA.mk sd30.2.1 sd30.2.2.1 v39)]:List GA))++m41)))))))) else (lp (yI (l7B sd30.2.2.1 l2) (([]:List GC),(0:Int))) λ(sd62:(List GC)×Int)=>(yM (((decide (sd62.2 < ((sd30.2.2.1).length:Int)))==true)=true->0<=sd62.2/\sd62.2 < ((sd30.2.2.1).length:Int)) ((if ((decide (sd62.2 < ((sd30.2.2.1).length:Int)))&&(((sd30.2.2.1).getD sd62.2.toNat default).typ==l2.typ))=true then (yM ((sd62.1).length+(([l2]:List GC)).length<=lim) (((slc sd30.2.2.1 (IntKind.wrap .i64 (sd62.2+(1:Int))) ((sd30.2.2.1).length:Int)).bind λm72=>(yM (((sd62.1++([l2]:List GC))).length+(m72).length<=lim) ((yM ((A).length+(([(GA.mk sd30.2.1 ((sd62.1++([l2]:List GC))++m72) sd30.2.2.2)]:List GA)).length<=lim) (((slc t0 sd30.1 ((t0).length:Int)).bind λm75=>(yM (((A++([(GA.mk sd30.2.1 ((sd62.1++([l2]:List GC))++m72) sd30.2.2.2)]:List GA))).length+(m75).length<=lim) (some ((A++([(GA.mk sd30.2.1 ((sd62.1++([l2]:List GC))++m72) sd30.2.2.2)]:List GA))++m75))))))))))) else (yM ((sd62.1).length+(([l2]:List GC)).length<=lim) (((slc sd30.2.2.1 sd62.2 ((sd30.2.2.1).length:Int)).bind λm78=>(yM (((sd62.1++([l2]:List GC))).length+(m78).length<=lim) ((yM ((A).length+(([(GA.mk sd30.2.1 ((sd62.1++([l2]:List GC))++m78) sd30.2.2.2)]:List GA)).length<=lim) (((slc t0 sd30.1 ((t0).length:Int)).bind λm81=>(yM (((A++([(GA.mk sd30.2.1 ((sd62.1++([l2]:List GC))++m78) sd30.2.2.2)]:List GA))).length+(m81).length<=lim) (some ((A++([(GA.mk sd30.2.1 ((sd62.1++([l2]:List GC))++m78) sd30.2.2.2)]:List GA))++m81))))))))))))))))
theorem lay7_eq2 (n:Nat) (t0:List GA) (g:List zx) (p:GC):wA (n+1) t0 g p=(lp (yI (l7A t0 g) (([]:List GA),(0:Int))) λ(h:(List GA)×Int)=>((yB g (0:Int)).bind λo=>(lp ((yM (((decide (h.2 < ((t0).length:Int)))==true)=true->0<=h.2/\h.2 < ((t0).length:Int)) ((yM (((decide (h.2 < ((t0).length:Int)))==true)=true->0<=(0:Int)/\(0:Int) < ((g).length:Int)) ((if ((decide (h.2 < ((t0).length:Int)))&&(((t0).getD h.2.toNat default).name==((g).getD (0:Int).toNat default)))=true then ((yB t0 h.2).bind λj=>some (.inr ((IntKind.wrap .i64 (h.2+(1:Int))),j.name,j.leaves,j.subs))) else some (.inr (h.2,o,([]:List GC),([]:List GA)))))))):Option (_ ⊕ (Int×zx×(List GC)×(List GA)))) λm=>l7R n t0 g p h.1 m))):=rfl

theorem qj {α:Type} (L:List α) (i:Nat):((L.take ((L.length:Int)).toNat).drop ((i:Int)).toNat)=L.drop i:=by simp
theorem l7R_sub {t A:List GA} {s a:zx} {r:List zx} {g:zx} {sb u:List GA} (hi:i<=t.length) (v:t.length<=16777215) (w:A.length<=8388608) (o:t.length<=8388607) (p:(s::a::r).length<=16777216) (h:wA n sb (a::r) l=some u) :
  l7R n t (s::a::r) l A ((i:Int),g,ls,sb)=some (A++[⟨g,ls,u⟩]++t.drop i):=by
 unfold l7R;have j:decide ((((s::a::r).length:Int)) > 1)=true:=u1 (by grind);simp only [j,ut];rw [slc_at ⟨by omega,by grind,tY _⟩,ua];have m:((s::a::r).take (((s::a::r).length:Int)).toNat).drop (1:Int).toNat=a::r:=by rw [uy,sj];rfl
 rw [m,h,ua,zu (yJ (by simp;omega)),slc_at ⟨by omega,by omega,tY _⟩,ua,qj,zu (yJ (by simp;omega))]
theorem l7R_leaf {t A:List GA} {s:zx} {p:zx} {sb:List GA} (hi:i<=t.length) (G:A.length<=8388608) (w:t.length<=8388607) (j:ls.length<=8388607) (m:ls.Pairwise λx y=>x.typ < y.typ) :
  l7R n t [s] l A ((i:Int),p,ls,sb)=some (A++[⟨p,qL l.typ l true ls,sb⟩]++t.drop i):=by
 unfold l7R;have u:decide (((([s]:List zx).length:Int)) > 1)=false:=rfl;simp only [u,um,uJ];rcases split_typ l.typ m with ⟨C,D,e,hc,hd⟩ | ⟨C,z,D,e,v,hc,hd⟩
 ·have o:=l7B_at (ls:=ls) (l:=l) (by omega) C D e hc (λy r h=>by grind) C.length 0 (by omega) (by omega);rw [show (([]:List GC),(0:Int))=(C.take 0,((0:Nat):Int)) from rfl,o,yO,e,layLs_none hc hd];rw [e] at j;simp only [uq] at j;simp only [];rw [zu (by simp_all)];have g:((decide (((C.length:Nat):Int) < ((C++D).length:Int)))&&(((C++D).getD ((C.length:Nat):Int).toNat default).typ==l.typ))=false:=by
   grind
  rw [g];simp only [um,uJ];rw [zu (yJ (by simp;omega)),slc_at ⟨by omega,by grind,tY _⟩,ua,qj,rb,zu (yJ (by simp;omega)),zu (yJ (by simp;omega)),slc_at ⟨by omega,by omega,tY _⟩,ua,qj,zu (yJ (by simp;omega))];simp
 ·have o:=l7B_at (ls:=ls) (l:=l) (by omega) C (z::D) e hc (λy r h=>by simp_all) C.length 0 (by omega) (by omega);rw [show (([]:List GC),(0:Int))=(C.take 0,((0:Nat):Int)) from rfl,o,yO,e,layLs_some v hc hd];rw [e] at j;simp only [uq,ux] at j;simp only [];rw [zu (by simp_all)];have g:((decide (((C.length:Nat):Int) < ((C++z::D).length:Int)))&&(((C++z::D).getD ((C.length:Nat):Int).toNat default).typ==l.typ))=true:=by
   grind
  rw [g];simp only [ut];have E:IntKind.wrap .i64 ((C.length:Int)+1)=((C.length+1:Nat):Int):=by rw [w64n (by omega)];omega
  have F:(C++z::D).drop (C.length+1)=D:=by
   simp_all
  rw [zu (yJ (by simp;omega)),E,slc_at ⟨by omega,by grind,tY _⟩,ua,qj,F,zu (yJ (by simp;omega)),zu (yJ (by simp;omega)),slc_at ⟨by omega,by omega,tY _⟩,ua,qj,zu (yJ (by simp;omega))];simp
theorem lay7_none {s:zx} {q:List zx} {A B:List GA} (h:(A++B).length<=16777215) (o:NLt s A) (j:NGt s B):wA (n+1) (A++B) (s::q) l=l7R n (A++B) (s::q) l A ((A.length:Int),s,[],[]):=by
 have p:=l7A_is (t:=A++B) (s:=s) (q:=q) (by omega) A B rfl o (λy r hh=>by
  have:=j y (by rw [hh];simp);rcases hx:Op.bytesLess y.name s with _ | _
  ·rfl
  ·have:=x7 this hx;rw [less_irr] at this;cases this) A.length 0 (by omega) (by omega)
 rw [lay7_eq2,show (([]:List GA),(0:Int))=(A.take 0,((0:Nat):Int)) from rfl,p,yO];have m:yB (s::q) (0:Int)=some s:=rfl;simp only [m,ua];rw [zu (by simp_all),zu (by intro h;simp)];have g:((decide (((A.length:Nat):Int) < ((A++B).length:Int)))&&(((A++B).getD ((A.length:Nat):Int).toNat default).name==((s::q).getD (0:Int).toNat default)))=false:=by
  cases B with
  | nil=>simp
  | cons y B =>
   have:=less_ne (j y (by simp))
   grind
 rw [g];rfl
theorem lay7_some {s:zx} {q:List zx} {A B:List GA} {x:GA} (j:x.name=s) (h:(A++x::B).length<=16777215) (o:NLt s A) (w:NGt s B):wA (n+1) (A++x::B) (s::q) l=l7R n (A++x::B) (s::q) l A (((A.length+1:Nat):Int),s,x.leaves,x.subs):=by
 have v:=l7A_is (t:=A++x::B) (s:=s) (q:=q) (by omega) A (x::B) rfl o (λy r hh=>by
  injection hh with u _;rw [<- u,j,less_irr]) A.length 0 (by omega) (by omega)
 rw [lay7_eq2,show (([]:List GA),(0:Int))=(A.take 0,((0:Nat):Int)) from rfl,v,yO];have m:yB (s::q) (0:Int)=some s:=rfl;simp only [m,ua];rw [zu (by simp_all),zu (by intro h;simp)];have g:((decide (((A.length:Nat):Int) < ((A++x::B).length:Int)))&&(((A++x::B).getD ((A.length:Nat):Int).toNat default).name==((s::q).getD (0:Int).toNat default)))=true:=by
  grind
 rw [g];simp only [uq,ux] at h;have p:IntKind.wrap .i64 ((A.length:Int)+1)=((A.length+1:Nat):Int):=by rw [w64n (by omega)];omega
 simp only [ut];rw [zK (x:=x) (by simp),ua,yO,p,j]

theorem lay7_lay {l:GC} (S:leafB l=true) (G:LeafOk l):∀(p:List zx) (t:List GA) (d n:Nat),p ≠ []->p.all nameB=true->d+p.length<=3->treeB d t=true->(zC [] t).length<=8388606->p.length < n ->
  wA n t p l=xZ n t p l.typ l true
 | [],_,_,_,h,_,_,_,_,_=>absurd rfl h
 | _::_,_,_,0,_,_,_,_,_,h=>by omega
 | s::q,t,d,n+1,_,hp,hd,ht,hw,hn=>by
  simp only [tf,ud,ux] at hp hd hn;obtain ⟨W,R⟩:=zV ht;have C:t.length<=8388606:=uA (vG _ d (by rw [yZ];exact ur.2 R)) hw;have below:∀(sb:List GA) (c:zx) (o:List zx),q=c::o->treeB (d+1) sb=true->(zC [] sb).length<=8388606->∃g,wA n sb q l=some g/\xZ n sb q l.typ l true=some g/\g ≠ []/\g.length<=16777215:=by
   intro sb c o r u M;subst r;obtain ⟨g,V,e2,e3,Z⟩:=lay_is (k:=l.typ) (l:=l) (there:=true) (λ_=>⟨rfl,S,G⟩) (c::o) sb (d+1) n (by simp) hp.2 (by omega) u (by omega) (by omega);have hsl:=vG sb (d+1) (by rw [yZ];exact ur.2 (zV u).2);refine ⟨g,?_,V,?_,by omega⟩
   ·rw [<- V];exact lay7_lay S G (c::o) sb (d+1) n (by simp) hp.2 (by omega) u M (by omega)
   ·intro e;have:=(Z [] ⟨[]++(c::o),l⟩).2 (.inr ⟨rfl,rfl⟩);rw [e] at this;simp [zC] at this
  rcases split_up s W with ⟨A,B,e,F,m⟩ | ⟨A,x,B,e,P,F,m⟩
  ·have N:(A++B).length<=8388606:=by rw [<- e];exact C
   have O:A.length<=8388606:=by grind
   have J:=bs_none (by omega) F m;have j:zq (A++[]++B) s (λH Q=>xO H Q)=some ((A.length:Int),false):=by simp_all
   have v:A++B=A++[]++B:=by simp
   rw [e,lay7_none (by omega) F m];cases r:q with
   | nil =>
    rw [l7R_leaf (by simp) (by omega) (by omega) (by simp) (by simp),v,lay_leaf (ls:=[]) (sb:=[]) G (by simp) j rfl (by grind) (by simp) (by simp) (by simp),fit_one (.inl layLs_ne)];simp
   | cons c o =>
    obtain ⟨g,w,D,K,Y⟩:=below [] c o r (qX _) (by simp [zC]);rw [r] at w D;rw [l7R_sub (by simp) (by omega) (by omega) (by omega) (by grind) w,v,lay_sub (ls:=[]) (sb:=[]) (f:=false) (by simp) j rfl (by grind) (by simp) (by omega) (by grind) D,fit_one (.inr K)];simp
  ·have N:(A++x::B).length<=8388606:=by rw [<- e];exact C
   have O:A.length+1<=8388606:=by grind
   have J:=bs_some (by omega) P F m;have j:zq (A++[x]++B) s (λH Q=>xO H Q)=some ((A.length:Int),true):=by simp_all
   have v:A++x::B=A++[x]++B:=by simp
   have E:x ∈ t:=by rw [e];simp
   obtain ⟨n1,n2,T⟩:=xF (R x E);have X:=vV E;have hsl:=vG x.subs (d+1) (by rw [yZ];exact ur.2 (zV n2).2);have z:((if true=true then ((yB (A++[x]++B) (A.length:Int)).bind λI=>some (.inr (I.name,I.leaves,I.subs))) else some (.inr (s,([]:List GC),([]:List GA)))):Option (List GA ⊕ (zx×(List GC)×(List GA))))=some (.inr (s,x.leaves,x.subs)):=by
    rw [uz rfl,zK (x:=x) (by simp),ua,P]
   have U:(A++x::B).drop (A.length+1)=B:=by rw [<- tn,rb];rfl
   rw [e,lay7_some P (by omega) F m];cases r:q with
   | nil =>
    rw [l7R_leaf (by simp) (by omega) (by omega) (by omega) (wB T).1,U,v,lay_leaf (ls:=x.leaves) (sb:=x.subs) G (by simp) j z (by grind) (by omega) (by omega) (wB T).1,fit_one (.inl layLs_ne)]
   | cons c o =>
    obtain ⟨g,w,D,K,Y⟩:=below x.subs c o r n2 (by omega);rw [r] at w D;rw [l7R_sub (by simp) (by omega) (by omega) (by omega) (by grind) w,U,v,lay_sub (ls:=x.leaves) (sb:=x.subs) (f:=true) (by simp) j z (by grind) (by omega) (by omega) (by grind) D,fit_one (.inr K)]

theorem ilt_tot {a b:GF} (h:a.dot ≠ b.dot):yc a b=true \/ yc b a=true:=by
 unfold yc;rcases dlt_tot a.dot b.dot with e | e | e
 ·simp_all
 ·grind
 ·grind
theorem pw_next {α:Type} [Inhabited α] {lt:α->α->Prop} {L:List α} (h:L.Pairwise lt) {i:Nat} {x:α} (hi:L[i]?=some x) (h0:i ≠ 0):lt (L.getD (i - 1) default) x:=by
 obtain ⟨g,rfl⟩:=uc.1 hi;have e:L.getD (i - 1) default=L[i - 1]:=by grind
 rw [e];exact tv.1 h _ _ _ _ (by omega)
theorem riseB_pw (h:L.Pairwise λa b=>yc a b=true):riseB L=true:=by
 refine allI_iff.2 λi x hi=>?_;by_cases h0:i=0
 ·simp [h0]
 ·simp only [h0,rm,tg,prevI];exact pw_next (lt:=λa b=>yc a b=true) h hi h0
theorem rising_of_pw {L:List GE} (h:L.Pairwise λa b=>ym a b=true):xR L=true:=by
 rw [rising_allI];refine allI_iff.2 λi x hi=>?_;unfold wu;by_cases h0:i=0
 ·simp [h0]
 ·simp only [h0,rm,tg];exact pw_next (lt:=λa b=>ym a b=true) h hi h0
theorem layP_mem {x:GF} (h:y ∈ layP L x):y ∈ L \/ y=x:=by
 unfold layP at h;split at h
 ·simp_all
 ·rcases uG.1 h with h | h
  ·exact .inl ((List.takeWhile_sublist _).mem h)
  ·rcases uG.1 h with h | h
   ·simp_all
   ·exact .inl ((pM _).mem h)
theorem layP_pw (x:GF) (h:L.Pairwise λa b=>yc a b=true):(layP L x).Pairwise λa b=>yc a b=true:=by
 unfold layP;split
 ·exact h
 ·rename_i g;simp only [rS,ra,uk] at g;exact ins_pw (lt:=yc) (λ_ _ _=>ilt_tr) h λy j=>ilt_tot (a:=y) (b:=x) (g y j)
theorem layP_once (x:GF) (h:onceB L=true):onceB (layP L x)=true:=by
 unfold layP;split
 ·exact h
 ·rename_i j;simp only [rS,ra,uk] at j;unfold onceB at h ⊢;rw [uk] at h ⊢;have g:(L.takeWhile (λy=>yc y x)++([x]++L.dropWhile λy=>yc y x)).Perm (x::L):=by
   have e:=u5 (p:=λy=>yc y x) (l:=L)
   grind
  rw [(g.map (·.dot)).nodup_iff,uw,rx]
  simp_all
theorem layP_len (L:List GF) (x:GF):(layP L x).length<=L.length+1:=by
 unfold layP;split
 ·omega
 ·have e:=congrArg List.length (u5 (p:=λy=>yc y x) (l:=L))
  grind
theorem all_layP {x:GF} (h:L.all q=true) (m:q x=true):(layP L x).all q=true :=
 ur.2 λy g=>by
  rcases layP_mem g with j | j
  ·simp_all
  ·simp_all
def ve (k:Int):GC:=GC.mk k (0:Int) (0:Int) (GE.mk (GI.mk (0:Int) (0:Int)) (0:Int)) ([]:zx) ([]:List GF) ([]:List GE)
theorem leafNew_is (h:1<=k/\k<=4):vt k=some (ve k):=by
 unfold vt;rw [uM (by simp;omega)];rfl
theorem refNew_is (h:1<=k/\k<=4):ref05New k=some (ve k):=by
 unfold ref05New;rw [uz (by simp;omega)];rfl
theorem newLf_may (h:1<=k/\k<=4):leafB (ve k)=true:=by
 have:k=1 \/ k=2 \/ k=3 \/ k=4:=by omega
 rcases this with rfl | rfl | rfl | rfl <;> decide
theorem newLf_ok (k:Int):LeafOk (ve k):=⟨by simp [ve],by simp [ve],tY _⟩
theorem node7_is (t:List GA) (s:zx):ref07Xnode t s=some (match nodeOf t s with | some x=>(x,true) | none=>(node0,false)):=by
 unfold ref07Xnode;have key:∀(L:List GA) (i:Nat),zD (ρ:=GA×Bool) (λ(j:Nat) (g:GA) (m:Unit)=>((if (g.name==s)=true then some (.ret (g,true)) else some (.nxt ())):Option (Out _ Unit))) L i ()=some (match nodeOf L s with | some x=>.inl (x,true) | none=>.inr ()):=by
  intro L
  induction L with
  | nil=>intro i;rfl
  | cons y r ih =>
   intro i;rw [zD];unfold nodeOf;rw [rz];cases h:(y.name==s)
   ·simp only [um,uJ];exact ih (i+1)
   ·rfl
 rw [key];cases nodeOf t s <;> rfl
noncomputable def l7F (v1:GC):Nat->zx->(List GA)×zx×(List GC)×(List GA)->Option (Out (GC×Bool) ((List GA)×zx×(List GC)×(List GA))):=(λ(n1:Nat) (x1:zx) (s1:(List GA)×zx×(List GC)×(List GA))=>(((ref07Xnode s1.1 x1).bind λv32=>(if (!v32.2)=true then some (.ret (v1,false)) else some (.nxt (v32.1.subs,v32.1.name,v32.1.leaves,v32.1.subs))))))
noncomputable def l7S (ls:List GC) (kind2:Int):Int->Option (Out (GC×Bool) Int):=(λ(s2:Int)=>((if (((decide (s2 < ((ls).length:Int)))&&(decide (kind2 >= (1:Int))))&&(decide (kind2<=(4:Int))))=true then ((yB ls s2).bind λy63=>(if (y63.typ==kind2)=true then ((yB ls s2).bind λy65=>some (.ret (y65,true))) else some (.nxt (IntKind.wrap .i64 (s2+(1:Int)))))) else some (.brk s2))))
theorem leaf7_eq (t0:List GA) (h:List zx) (g:Int):wz t0 h g=((ref05New g).bind λj=>(lp (zD (l7F j) h 0 (t0,([]:zx),([]:List GC),([]:List GA))) λ(m:(List GA)×zx×(List GC)×(List GA))=>(lp (yI (l7S m.2.2.1 g) (0:Int)) λ(o:Int)=>some (j,false)))):=rfl
theorem l7_walk (v:GC):∀(p:List zx) (n:Nat) (t:List GA) (z:zx×(List GC)×(List GA)),p ≠ [] ->
  zD (l7F v) p n (t,z)=some (match x6 t p with | some x=>.inr (x.subs,x.name,x.leaves,x.subs) | none=>.inl (v,false))
 | [],_,_,_,h=>absurd rfl h
 | [s],n,t,z,_=>by
  simp only [x6,zD,l7F,node7_is,ua]
  grind
 | s::c::q,n,t,z,_=>by
  have j:=λu z=>l7_walk v (c::q) (n+1) u z (by simp);simp only [x6];cases e:nodeOf t s with
  | none=>rw [zD];simp only [l7F,node7_is,e,ua];rfl
  | some x =>
   have g:l7F v n s (t,z)=some (.nxt (x.subs,x.name,x.leaves,x.subs)):=by simp only [l7F,node7_is,e,ua];rfl
   rw [zD,g,ua]
   simp_all
theorem l7_scan (j:1<=k/\k<=4) (o:ls.length<=16777216):∀(m i:Nat),ls.length - i=m->i<=ls.length->yI (l7S ls k) (i:Int)=some (match (ls.drop i).find? (λy=>y.typ==k) with | some y=>.inl (y,true) | none=>.inr (ls.length:Int)):=by
 intro m
 induction m with
 | zero =>
  intro i h hi;obtain rfl:i=ls.length:=by omega
  rw [yS];unfold l7S;simp
 | succ m ih =>
  intro i h hi;have g:i < ls.length:=by omega
  rw [yS];have hd:ls.drop i=ls[i]::ls.drop (i+1):=List.drop_eq_getElem_cons g;have hc:((decide ((i:Int) < (ls.length:Int))&&decide (k >= 1))&&decide (k<=4))=true:=by simp;omega
  rw [hd,rz];cases e:(ls[i].typ==k)
  ·have:l7S ls k (i:Int)=some (.nxt ((i+1:Nat):Int)):=by
    unfold l7S;rw [uz hc,idx_at g,ua,e];simp only [um,uJ];rw [w64n (by omega)];rfl
   grind
  ·have:l7S ls k (i:Int)=some (.ret (ls[i],true)):=by
    unfold l7S;rw [uz hc,idx_at g,ua,e];simp
   rw [this]
theorem leaves_len:∀{p:List zx} {t:List GA} {d:Nat} {x:GA},treeB d t=true->p ≠ []->x6 t p=some x->x.leaves.length<=(zC [] t).length
 | [],_,_,_,_,h,_=>absurd rfl h
 | [s],t,d,x,h,_,e=>by
  have j:x ∈ t:=sH (show nodeOf t s=some x from e);have:=vV j;omega
 | s::c::q,t,d,x,h,_,e=>by
  simp only [x6] at e;cases hn:nodeOf t s with
  | none=>rw [hn] at e;cases e
  | some y =>
   rw [hn,ua] at e;have g:y ∈ t:=sH (show nodeOf t s=some y from hn);have o:=leaves_len (xF ((zV h).2 y g)).2.1 (by simp) e;have m:=vV g;omega
theorem leaf7_is {t:List GA} (h:treeB 0 t=true) (u:(zC [] t).length<=16777215) {p:List zx} (m:p ≠ []) {k:Int} (o:1<=k/\k<=4) :
  (∃l,GK.mk p l ∈ zC [] t/\l.typ=k/\wz t p k=some (l,true)) \/ ((∀r ∈ zC [] t,wo r ≠ (p,k))/\wz t p k=some (ve k,false)):=by
 have g:=λl=>row_at p t 0 [] l m h;simp only [uI] at g;have j:(∀l,¬ (GK.mk p l ∈ zC [] t/\l.typ=k))->∀r ∈ zC [] t,wo r ≠ (p,k):=λw r v e=>by
  have:=row_mk e;simp only [uI] at this;exact w r.leaf ⟨by rw [<- this];exact v,congrArg Prod.snd e⟩
 rw [leaf7_eq,refNew_is o,ua,l7_walk _ p 0 t _ m];cases e:x6 t p with
 | none =>
  right;refine ⟨j λl hh=>?_,rfl⟩;obtain ⟨x,z,_⟩:=(g l).1 hh.1
  simp_all
 | some x =>
  simp only [lp];have s:x.leaves.length<=16777215:=by
   exact uA (leaves_len h m e) u
  have hs:=l7_scan o (by omega:x.leaves.length<=16777216) x.leaves.length 0 (by omega) (tD _);simp only [sa,rU] at hs
  grind

theorem leaf_bk (l:GC):4<=GC.bk l:=by unfold GC.bk;omega
theorem leaves_bk:∀ls:List GC,4 * ls.length<=(ls.map GC.bk).sum
 | []=>by simp
 | l::ls=>by
  have:=leaves_bk ls;have:=leaf_bk l
  grind
theorem rows4:∀(t:List GA),4 * (zC [] t).length<=GA.bks t:=by
 refine w9 (by simp [zC]) ?_;intro x r m h;have j:=leaves_bk x.leaves;have g:=bk_node x;rw [show x::r=[x]++r from rfl,wn,wO,rowsN_eq];simp only [uq,ul];rw [len_rows x.subs ([]++[x.name]) []];show _<=x.bk+GA.bks r;omega
def wS (n:Nat):List GK->Nat
 | []=>0
 | r::L=>r.leaf.bk+17 * (r.path.length - n)+wS n L
theorem ownC_is (h:LeafOk l):qu l=some l:=by
 unfold qu;rw [qa (yJ (by have:=h.items;omega)),ua,cloneDot_is (yJ (by have:=h.tombs;omega)),ua]
theorem changed_is:∀(n:Nat) (t:List GA),GA.deps t < n->Small t->y4 n t (λr=>qu r)=some t
 | 0,_,h,_=>by omega
 | n+1,t,h,hs=>by
  unfold y4;have C:=hs.len;rw [qJ (λ_=>true) (λx=>x) t 0 [] (yJ (by simp;omega))]
  ·simp
  ·intro i x s g hsl;have p:=vw g;have v:=xU x;have u:=hs.leaves g;rw [changed_is n x.subs (by omega) (hs.subs g),ua];rw [qJ (λ_=>true) (λl=>l) x.leaves 0 [] (yJ (by simp;omega))]
   ·have o:(x.leaves.filter λ_=>true)=x.leaves:=by simp
    simp only [yO,uI,List.map_id_fun',id,o,ut];rw [zu (by omega)];cases x;simp
   ·intro j l z m w;show ((qu l).bind _)=_;rw [ownC_is (hs.leaf g m),ua,zu (by omega)];simp
theorem own7_is {t:List GA} (h:Small t):treeXown t=some t:=by
 unfold treeXown vQ;rw [qb (GA.deps t+1) λn g=>changed_is n t (by omega) h,ua]
theorem wS_len:∀L:List GK,(∀r ∈ L,1<=r.path.length)->17 * L.length<=wS 0 L
 | [],_=>ug _
 | r::L,h=>by
  have m:=h r (by simp);have j:=wS_len L λq g=>h q (by simp [g]);simp only [wS,ux];omega
structure Fine (t:List GA):Prop where
 small:Small t
 tree:treeB 0 t=true
 ws:wS 0 (zC [] t)<=14680064
 leaf:∀r ∈ zC [] t,r.leaf.bk<=1048576
theorem Fine.row {t:List GA} (h:Fine t) {r:GK} (g:r ∈ zC [] t):RowOk' r:=rows_ok t 0 [] h.small h.tree rfl rfl r g
theorem Fine.len {t:List GA} (h:Fine t):(zC [] t).length<=863533:=by
 have j:=wS_len (zC [] t) λr g=>by
  have:=(qH (h.row g).path).1
  grind
 have:=h.ws;omega
theorem dots_bk (L:List GE):(L.map GE.bk).sum=5 * L.length:=by
 induction L with
 | nil=>rfl
 | cons d r ih =>
  have:GE.bk d=5:=rfl
  grind
theorem tlR_false (g:1<=k/\k<=4) {m:Bool×zx×(List GC)×(List GA)} {v:GC} (h:tlR k m=some (v,false)):v=ve k:=by
 unfold tlR at h;obtain ⟨j,_,h⟩:=th.1 h;obtain ⟨v50,_,h⟩:=th.1 h;split at h
 ·rw [leafNew_is g,ua] at h
  simp_all
 ·obtain ⟨y,_,h⟩:=th.1 h;obtain ⟨a,_,h⟩:=th.1 h;obtain ⟨b,_,h⟩:=th.1 h
  simp_all
theorem treeLeaf_false {t:List GA} {p:List zx} (m:p ≠ []) {k:Int} (j:1<=k/\k<=4) {v:GC} (h:wq t p k=some (v,false)):v=ve k:=by
 have g:=tl_walk p 0 t (decide ((p.length:Int) > 0),([]:zx),([]:List GC),([]:List GA)) m;rw [tl_eq] at h;cases e:x6 t p with
 | none =>
  rw [e] at g;obtain ⟨u,g⟩:=g;rw [g] at h;simp only [yO] at h;exact tlR_false j h
 | some x =>
  rw [e] at g;simp only at g;rw [g] at h;simp only [yO] at h;exact tlR_false j h
theorem leaf_lens (l:GC):l.items.length<=l.bk/\l.tombs.length<=l.bk:=by
 have g:=sum_len (f:=GF.bk) (λx=>by simp only [GF.bk];omega) l.items;have h:=dots_bk l.tombs;simp only [GC.bk];omega
theorem put_all (o:leafB l=true) (m:LeafOk l) {p:List zx} {t u:List GA} (z:pathB p=true) (h:treeB 0 t=true) (G:(zC [] t).length<=8388606) (C:treeB 0 u=true) (H:∀r,r ∈ zC [] u ↔ (r ∈ zC [] t/\wo r ≠ (p,l.typ)) \/ (true=true/\r=⟨p,l⟩)) :
  treeXput t p l=some u/\ref07Lay t p l=some u:=by
 obtain ⟨j,E,g⟩:=qH z;have key:∀n,p.length+1<=n->xZ n t p l.typ l true=some u:=λn v=>by
  obtain ⟨F,w,D,_,s⟩:=lay_is (k:=l.typ) (l:=l) (there:=true) (λ_=>⟨rfl,o,m⟩) p t 0 n j g (by omega) h (by omega) (by omega);have s:=s [];simp only [uI] at s;rw [w,rows_ext D C λr=>by simp_all]
 refine ⟨qb (p.length+1) λn v=>?_,qb (p.length+1) λn v=>?_⟩
 ·rw [put_lay o m p t 0 n j g (by omega) h (by omega) (by omega)]
  simp_all
 ·rw [lay7_lay o m p t 0 n j g (by omega) h (by omega) (by omega)]
  simp_all
def ddQ:List zx->List zx
 | []=>[]
 | [x]=>[x]
 | x::y::r=>if x=y then ddQ (y::r) else x::ddQ (y::r)
theorem dd_snocQ:∀(A:List zx) (x y:zx),ddQ (A++[x,y])=if x=y then ddQ (A++[x]) else ddQ (A++[x])++[y]
 | [],x,y=>by by_cases h:x=y <;> simp [ddQ,h]
 | [a],x,y=>by
  by_cases h:x=y
  ·subst h;by_cases h2:a=x <;> simp [ddQ,h2]
  ·by_cases h2:a=x <;> simp [ddQ,h2,h]
 | a::b::A,x,y=>by
  have g:=dd_snocQ (b::A) x y;simp only [tP] at g ⊢;simp only [ddQ];rw [g];by_cases h:a=b <;> by_cases h2:x=y <;> simp [h,h2]
theorem dd_memQ:∀(L:List zx) (d:zx),d ∈ ddQ L ↔ d ∈ L
 | [],_=>by simp [ddQ]
 | [x],_=>by simp [ddQ]
 | x::y::r,d=>by
  simp only [ddQ];split
  ·rename_i h;subst h;rw [dd_memQ (x::r) d];simp
  ·rw [uP,dd_memQ (y::r) d];simp
theorem dd_strictQ {lt:zx->zx->Prop} (j:∀a b,¬ lt b a->a=b \/ lt a b) (p:∀a b c,lt a b->lt b c->lt a c):∀(L:List zx),L.Pairwise (λa b=>¬ lt b a)->(ddQ L).Pairwise lt
 | [],_=>by simp [ddQ]
 | [x],_=>by simp [ddQ]
 | x::y::r,h=>by
  have t:=(uL.1 h).2;have s:=dd_strictQ j p (y::r) t;simp only [ddQ];split
  ·exact s
  ·rename_i o;refine uL.2 ⟨λz m=>?_,s⟩;rw [dd_memQ] at m;have g:lt x y:=(j x y ((uL.1 h).1 y (by simp))).resolve_left o;rcases uP.1 m with rfl | m
   ·exact g
   ·rcases j y z ((uL.1 t).1 z m) with rfl | u
    ·exact g
    ·exact p _ _ _ g u
theorem take_snoc2Q {L:List zx} {a b:zx} (g:L[n]?=some a) (h:L[n+1]?=some b):L.take (n+2)=L.take n++[a,b]:=by
 rw [tB,tB,g,h];simp
theorem dd_stepQ {L:List zx} {a b:zx} (g:L[n]?=some a) (h:L[n+1]?=some b):ddQ (L.take (n+2))=if a=b then ddQ (L.take (n+1)) else ddQ (L.take (n+1))++[b]:=by
 rw [take_snoc2Q g h,dd_snocQ,tB,g];rfl
noncomputable def cmpInQ (n:Nat) (s1:Int):Int×Int×(List zx)->Option (Out (Out (List zx) Int) (Int×Int×(List zx))):=λ(s2:Int×Int×(List zx))=>((yM ((s2.2.2).length=n) ((if (decide (s2.2.1 < ((n - s1.toNat:Nat):Int)))=true then ((yB (s2.2.2.drop s1.toNat) s2.2.1).bind λy51=>((yB (s2.2.2.drop s1.toNat) (IntKind.wrap .i64 (s2.2.1 - (1:Int)))).bind λy52=>(if (!(y51==y52))=true then ((yB (s2.2.2.drop s1.toNat) s2.2.1).bind λy54=>((yB s2.2.2 s2.1).bind λy55=>some (.nxt ((IntKind.wrap .i64 (s2.1+(1:Int))),(IntKind.wrap .i64 (s2.2.1+(1:Int))),(s2.2.2.set s2.1.toNat y54))))) else some (.nxt (s2.1,(IntKind.wrap .i64 (s2.2.1+(1:Int))),s2.2.2))))) else some (.brk (s2.1,s2.2.1,s2.2.2))))))
theorem cmpIn_runQ {L:List zx} (T:L.length<=16777216) {k0:Nat} (I:0 < k0) (P:k0 < L.length) {a:zx} (J:L[k0 - 1]?=some a) (G:L[k0]?=some a) (N:ddQ (L.take k0)=L.take k0) :
  ∃r,yI (cmpInQ L.length (k0:Int)) ((k0:Int),1,L)=some (.inr r)/\∃m:Nat,r.1=(m:Int)/\m<=L.length/\r.2.2.length=L.length/\r.2.2.take m=ddQ L:=by
 refine loopW_inv (f:=cmpInQ L.length (k0:Int)) (λs=>∃m b:Nat,s.1=(m:Int)/\s.2.1=(b:Int)/\1<=b/\k0+b<=L.length/\m+1<=k0+b/\s.2.2.length=L.length/\s.2.2.take m=ddQ (L.take (k0+b))/\s.2.2.drop (k0+b - 1)=L.drop (k0+b - 1))
  _ (λs=>L.length - s.2.1.toNat) ?_ _ _ rfl ⟨k0,1,rfl,rfl,ug _,by omega,by omega,rfl,?_,by simp⟩
 ·rintro ⟨i,j,M⟩ ⟨m,b,z,F,Q,S,R,o,u,w⟩
  simp only at z F o u w;subst z F;simp only [cmpInQ,yM,o,ut,uy];by_cases hb:k0+b < L.length
  ·right;have h:∀t,k0+b - 1<=t->M[t]?=L[t]?:=λt O=>by
    have:=congrArg (λl=>l[t - (k0+b - 1)]?) w;simp only [uB] at this
    rwa [show k0+b - 1+(t - (k0+b - 1))=t by omega] at this
   have E:L[k0+b]?=some L[k0+b]:=uh hb;have hb1:k0+b - 1 < L.length:=by omega
   have C:L[k0+b - 1]?=some (L[k0+b - 1]'hb1):=uh hb1;have D:yB (M.drop k0) (b:Int)=some L[k0+b]:=by simp only [yB,uy,uB];rw [uz (by omega),h _ (by omega),E]
   have H:yB (M.drop k0) (IntKind.wrap .i64 ((b:Int) - 1))=some (L[k0+b - 1]'hb1):=by
    rw [wrap_p1 (by omega) (by omega)];simp only [yB,uy,uB];rw [uz (by omega),show k0+(b - 1)=k0+b - 1 by omega,h _ (by omega),C]
   have K:yB M (m:Int)=some (M[m]'(by omega)):=by simp [yB]
   have g:=dd_stepQ (L:=L) (n:=k0+b - 1) C (by rw [show k0+b - 1+1=k0+b by omega];exact E);rw [show k0+b - 1+2=k0+(b+1) by omega,show k0+b - 1+1=k0+b by omega] at g;have p:M.drop (k0+(b+1) - 1)=L.drop (k0+(b+1) - 1):=by
    have:=congrArg (λl=>l.drop 1) w;simp only [tn] at this
    rwa [show k0+b - 1+1=k0+(b+1) - 1 by omega] at this
   rw [uz (by simp;omega),D,ua,H,ua];by_cases he:L[k0+b]=L[k0+b - 1]'hb1
   ·refine ⟨((m:Int),((b+1:Nat):Int),M),by simp [he,we (show b<=16777216 by omega)],⟨m,b+1,rfl,rfl,by omega,by omega,by omega,o,?_,p⟩,by simp;omega⟩;rw [g,uz he.symm];exact u
   ·refine ⟨(((m+1:Nat):Int),((b+1:Nat):Int),M.set m L[k0+b]),?_,⟨m+1,b+1,rfl,rfl,by omega,by omega,by omega,by simpa using o,?_,?_⟩,by simp;omega⟩
    ·simp [he,D,K,we (show b<=16777216 by omega),we (show m<=16777216 by omega)]
    ·rw [g,uM (λe=>he e.symm),<- u,tB,sL (ug _),uD (by omega)];rfl
    ·rw [sM (by omega)];exact p
  ·left;have v:k0+b=L.length:=by omega
   rw [uM (by simp;omega)];exact ⟨_,rfl,m,rfl,by omega,o,by rw [u,v,sj]⟩
 ·have:=dd_stepQ (L:=L) (n:=k0 - 1) J (by rw [show k0 - 1+1=k0 by omega];exact G);rw [show k0 - 1+2=k0+1 by omega,show k0 - 1+1=k0 by omega,uz rfl] at this;rw [this,N]
noncomputable def cmpOutQ (s0:List zx):Int->Option (Out (List zx) Int):=λ(s1:Int)=>((if (decide (s1 < ((s0).length:Int)))=true then ((yB s0 s1).bind λy35=>((yB s0 (IntKind.wrap .i64 (s1 - (1:Int)))).bind λy36=>(if (y35==y36)=true then (yM (0<=s1/\s1<=((s0.length:Nat):Int)) ((lp (yI (cmpInQ s0.length s1) (s1,(1:Int),s0)) λ(s2:Int×Int×(List zx))=>(yM (0<=s2.1/\s2.1<=((s0.length:Nat):Int)) (((slc (s2.2.2.take s2.1.toNat++List.replicate (s0.length - s2.1.toNat) ([]:zx)) (0:Int) s2.1).bind λm57=>some (.ret m57))))))) else some (.nxt (IntKind.wrap .i64 (s1+(1:Int))))))) else some (.brk s1)))
theorem compact_eqQ (g:List zx):xQ g=(if (decide (((g).length:Int) < (2:Int)))=true then some g else (lp (yI (cmpOutQ g) (1:Int)) λ(_:Int)=>some g)):=rfl
theorem cmpOut_runQ {L:List zx} (w:L.length<=16777216):∀(n k:Nat),L.length - k=n->0 < k->k<=L.length->ddQ (L.take k)=L.take k->lp (yI (cmpOutQ L) (k:Int)) (λ(_:Int)=>some L)=some (ddQ L):=by
 intro n
 induction n with
 | zero =>
  intro k z h0 hk hd;have:k=L.length:=by omega
  subst this;rw [yS];simp only [cmpOutQ];rw [uM (by simp)];simp only [lp];rw [sj] at hd;rw [hd]
 | succ n ih =>
  intro k z h0 hk hd;have g:k < L.length:=by omega
  have o:L[k]?=some L[k]:=uh g;have hk1:k - 1 < L.length:=by omega
  have j:L[k - 1]?=some (L[k - 1]'hk1):=uh hk1;rw [yS];have s:yB L (k:Int)=some L[k]:=by simp [yB]
  have r:yB L (IntKind.wrap .i64 ((k:Int) - 1))=some (L[k - 1]'hk1):=by
   rw [wrap_p1 h0 (by omega)];simp only [yB,uy];rw [uz (by omega),j]
  have h:=dd_stepQ (L:=L) (n:=k - 1) j (by rw [show k - 1+1=k by omega];exact o);rw [show k - 1+2=k+1 by omega,show k - 1+1=k by omega] at h;by_cases he:L[k]=L[k - 1]'hk1
  ·obtain ⟨p,u,m,t,C,D,v⟩:=cmpIn_runQ w h0 g (a:=L[k]) (by rw [he];exact j) o hd;have hs:slc (p.2.2.take ((m:Int)).toNat++List.replicate (L.length - ((m:Int)).toNat) ([]:zx)) (0:Int) (m:Int)=some (p.2.2.take m):=by
    unfold slc;rw [uz (by simp;omega)];simp only [uy,Int.toNat_zero,sa];rw [uV (by simp;omega),pP,Nat.min_self]
   have:cmpOutQ L (k:Int)=some (.ret (ddQ L)):=by
    simp only [cmpOutQ];rw [uz (by simp;omega),s,ua,r,ua,uz (by simp [he])];rw [zu (by omega),u];simp only [lp];rw [zu (by rw [t];omega),t,hs,ua,v]
   rw [this];rfl
  ·have:cmpOutQ L (k:Int)=some (.nxt ((k+1:Nat):Int)):=by
    simp only [cmpOutQ];rw [uz (by simp;omega),s,ua,r,ua,uM (by simp [he]),we (by omega)]
   rw [this];refine ih (k+1) (by omega) (by omega) (by omega) ?_;rw [h,uM (λe=>he e.symm),hd,tB,o];rfl
theorem compact_isQ {L:List zx} (g:L.length<=16777216):xQ L=some (ddQ L):=by
 rw [compact_eqQ];by_cases h:L.length < 2
 ·rw [uz (by simp;omega)]
  match L,h with
  | [],_=>rfl
  | [x],_=>rfl
  | _::_::_,h=>simp at h;omega
 ·rw [uM (by simp;omega)];have:=cmpOut_runQ g (L.length - 1) 1 rfl (by omega) (by omega) (by
   match L,h with
   | x::y::r,_=>rfl
   | [],h=>simp at h
   | [x],h=>simp at h)
  exact this
def srtQ (L:List zx):List zx:=L.mergeSort λa b=>!Op.bytesLess b a
theorem sortS_is {L:List zx} (g:L.length<=lim):sortS L=some (srtQ L):=by
 unfold sortS srtQ;rw [uz g];congr 2;funext x y;rw [tu];simp only [uk,so,Go.Proofs.bytesLess_eq,pF];exact (List.not_lt).symm
theorem srtQ_perm (L:List zx):(srtQ L).Perm L:=pb ..
theorem srtQ_pw (L:List zx):(srtQ L).Pairwise λa b=>¬ Op.bytesLess b a=true:=by
 have:=pI (le:=λa b:zx=>!Op.bytesLess b a) (λa b c m g=>by
  simp only [so] at *;cases h:Op.bytesLess c a with
  | false=>rfl
  | true =>
   rcases less_tot a b with rfl | j | j
   ·rw [g] at h;cases h
   ·rw [x7 h j] at g;cases g
   ·rw [m] at j;cases j) (λa b=>by
  cases h:Op.bytesLess b a with
  | false=>rfl
  | true =>
   cases g:Op.bytesLess a b with
   | false=>rfl
   | true=>have:=x7 h g;rw [less_irr] at this;cases this) L
 refine this.imp λ{a b} h=>?_;simpa using h
theorem srtQ_up {L:List zx} (h:L.Pairwise λa b=>Op.bytesLess a b=true):srtQ L=L:=by
 refine sorted_one (cf:=λa b=>if Op.bytesLess a b=true then -1 else 1) (srtQ_perm L) ((srtQ_pw L).imp ?_) (h.imp ?_) ?_
 ·intro a b j g;split at g
  ·contradiction
  ·omega
 ·intro a b j g;split at g
  ·rename_i o;have:=x7 j o;rw [less_irr] at this;cases this
  ·omega
 ·intro x y r p m g;rcases less_tot x y with e | e | e
  ·exact e
  ·rw [uz e] at m;omega
  ·rw [uz e] at g;omega
def onceQ (L:List zx) (d:zx):List zx:=if (L.any λy=>decide (y=d))=true then L else L.takeWhile (λy=>Op.bytesLess y d)++([d]++L.dropWhile λy=>Op.bytesLess y d)
theorem onceQ_mem (L:List zx) (d x:zx):x ∈ onceQ L d ↔ x=d \/ x ∈ L:=by
 unfold onceQ;split
 ·rename_i h;rw [rn] at h;obtain ⟨y,g,e⟩:=h;have e:=tc e;subst e;constructor
  ·exact .inr
  ·rintro (rfl | h)
   ·exact g
   ·exact h
 ·have h:x ∈ L ↔ x ∈ L.takeWhile (λy=>Op.bytesLess y d) \/ x ∈ L.dropWhile (λy=>Op.bytesLess y d):=by
   rw [<- uG,u5]
  rw [h];simp only [uG,uE];constructor
  ·rintro (h | h | h)
   ·exact .inr (.inl h)
   ·exact .inl h
   ·exact .inr (.inr h)
  ·rintro (h | h | h)
   ·exact .inr (.inl h)
   ·exact .inl h
   ·exact .inr (.inr h)
theorem onceQ_pw {L:List zx} (d:zx) (h:L.Pairwise λa b=>Op.bytesLess a b=true):(onceQ L d).Pairwise λa b=>Op.bytesLess a b=true:=by
 unfold onceQ;split
 ·exact h
 ·rename_i m;refine ins_pw (lt:=λa b:zx=>Op.bytesLess a b) (λ_ _ _=>x7) h λy j=>?_;rcases less_tot y d with rfl | g | g
  ·exfalso;apply m;rw [rn];exact ⟨y,j,by simp⟩
  ·exact .inl g
  ·exact .inr g
def oncesQ (L ds:List zx):List zx:=ds.foldl onceQ L
theorem oncesQ_mem:∀(ds L:List zx) (x:zx),x ∈ oncesQ L ds ↔ x ∈ ds \/ x ∈ L
 | [],L,x=>by simp [oncesQ]
 | d::ds,L,x=>by
  have:=oncesQ_mem ds (onceQ L d) x;simp only [oncesQ,tU] at this ⊢;rw [this,onceQ_mem];simp only [uP];constructor
  ·rintro (h | h | h)
   ·exact .inl (.inr h)
   ·exact .inl (.inl h)
   ·exact .inr h
  ·rintro ((h | h) | h)
   ·exact .inr (.inl h)
   ·exact .inl h
   ·exact .inr (.inr h)
theorem oncesQ_pw:∀(ds:List zx) {L:List zx},L.Pairwise (λa b=>Op.bytesLess a b=true)->(oncesQ L ds).Pairwise λa b=>Op.bytesLess a b=true
 | [],_,h=>h
 | d::ds,_,h=>oncesQ_pw ds (onceQ_pw d h)
theorem onces_eq (ds:List zx):ddQ (srtQ ds)=oncesQ [] ds:=by
 refine strict_ext (lt:=λa b=>Op.bytesLess a b=true) (λa=>by simp [less_irr]) (λ_ _ _=>x7) _ _ (dd_strictQ (lt:=λa b=>Op.bytesLess a b=true) (λa b g=>?_) (λ_ _ _=>x7) _ (srtQ_pw _)) (oncesQ_pw ds List.Pairwise.nil) λx=>?_
 ·rcases less_tot a b with e | e | e
  ·exact .inl e
  ·exact .inr e
  ·exact (g e).elim
 ·rw [dd_memQ,(srtQ_perm _).mem_iff,oncesQ_mem];simp

def subsAt:List GA->List zx->List GA
 | t,[]=>t
 | t,s::p=>subsAt (match nodeOf t s with | some x=>x.subs | none=>[]) p
theorem lin_step (t:List GA) (s:zx):((xn t s).bind λg=>(some (.nxt g.1.subs):Option (Out (List zx) (List GA))))=some (.nxt (match nodeOf t s with | some x=>x.subs | none=>[])):=by
 rw [linear_is];cases nodeOf t s <;> rfl
theorem lin_walk:∀(p:List zx) (n:Nat) (t:List GA),zD (λ(m:Nat) (g:zx) (h:(List GA))=>(((xn h g).bind λj=>some (.nxt j.1.subs)):Option (Out (List zx) (List GA)))) p n t=some (.inr (subsAt t p))
 | [],_,_=>rfl
 | s::p,n,t=>by
  simp only [zD,lin_step t s,subsAt];exact lin_walk p (n+1) _
theorem app_loop {α g ρ:Type} (f:α->g):∀(L:List α) (n:Nat) (A:List g),A.length+L.length<=16777216->zD (λ(_:Nat) (x:α) (s:List g)=>((yM ((s).length+(([f x]:List g)).length<=lim) (some (.nxt (s++([f x]:List g))))):Option (Out ρ (List g)))) L n A=some (.inr (A++L.map f))
 | [],n,A,_=>by simp [zD]
 | x::r,n,A,h=>by
  simp only [ux] at h;have j:yM (A.length+([f x]:List g).length<=lim) (some (.nxt (A++[f x])):Option (Out ρ (List g)))=some (.nxt (A++[f x])):=zu (by simp [lim];omega);simp only [zD,j];rw [app_loop f r (n+1) (A++[f x]) (by simp;omega)];simp
theorem own7N:∀(n:Nat) (t:List GA),GA.deps t < n->Small t->ref07OwnN n t=some t
 | 0,_,h,_=>by omega
 | n+1,t,h,hs=>by
  unfold ref07OwnN;have E:=hs.len;rw [qJ (λ_=>true) (λx=>x) t 0 [] (yJ (by simp;omega))]
  ·simp
  ·intro i x s g hsl;have u:=vw g;have w:=xU x;have v:=hs.leaves g;rw [own7N n x.subs (by omega) (hs.subs g),ua];rw [qJ (λ_=>true) (λl=>l) x.leaves 0 [] (yJ (by simp;omega))]
   ·have p:(x.leaves.filter λ_=>true)=x.leaves:=by simp
    simp only [yO,uI,List.map_id_fun',id,p,ut];rw [zu (by simpa using hsl)];cases x;simp
   ·intro j l C m o;have r:=hs.leaf g m;have D:=r.items;have z:=r.tombs;rw [zu (by simp [lim];omega),zu (by simp [lim];omega),zu (by simpa using o)];cases l;simp
theorem own7_same {t:List GA} (h:Small t):ref07Own t=some t:=by
 unfold ref07Own;exact qb (GA.deps t+1) λn g=>own7N n t (by omega) h

theorem idxAt {α:Type} {L:List α} {k:Nat} (h:k < L.length):yB L (k:Int)=some L[k]:=by
 unfold yB;rw [uz (by omega),uy,uh h]
theorem deps_le:∀(t:List GA) (d:Nat),d<=2->wT d t=true->GA.deps t<=3 - d:=by
 refine w9 (λd _ _=>by simp [GA.deps]) ?_;intro x r v u d hd o;rw [yZ,tf,ud,<- yZ] at o;obtain ⟨j,m⟩:=o;have z:=u d hd m;obtain ⟨w,g,C⟩:=xF j;have hs:=xU x;have p:GA.deps x.subs<=2 - d:=by
  by_cases h0:x.subs=[]
  ·rw [h0];simp [GA.deps]
  ·unfold treeB at g;simp only [ud,tC,uk] at g;have s:d+1 < 3:=by
    rcases g.1.1 with h | h
    ·exact absurd (pH.1 h) h0
    ·exact h
   have:=v (d+1) (by omega) g.2;omega
 simp only [GA.deps];omega

theorem mget_put (m:List (GE×Int)) (k d:GE) (v:Int):yQ GE.eqb 0 (qg GE.eqb m k v) d=if d=k then v else yQ GE.eqb 0 m d:=by
 induction m with
 | nil=>simp only [qg,yQ,eqb_iff,uk]
 | cons e r ih =>
  simp only [qg,eqb_iff];by_cases h:k=e.1
  ·subst h;by_cases h2:d=e.1 <;> simp [yQ,eqb_iff,h2]
  ·by_cases h2:d=e.1
   ·subst h2;simp [yQ,eqb_iff,h,Ne.symm h]
   ·simp [yQ,eqb_iff,h,h2,ih]
theorem concatDot_is {A B:List GE} (h:A.length+B.length<=16777216):vd [A,B]=some (A++B):=by
 have j:IntKind.wrap .i64 (0+(A.length:Int))=(A.length:Int):=by rw [w64n (by omega)];omega
 have p:IntKind.wrap .i64 ((A.length:Int)+(B.length:Int))=((A.length+B.length:Nat):Int):=by rw [w64n (by omega)];omega
 have o:ql [] ((A.length+B.length:Nat):Int)=some []:=by
  unfold ql;have g:IntKind.wrap .i64 ((0:Int) - ((0:Nat):Int))=0:=rfl;have m:IntKind.wrap .i64 (((A.length+B.length:Nat):Int) - 0)=((A.length+B.length:Nat):Int):=by rw [w64n (by omega)];omega
  rw [g,m,uM (by simp;omega)];by_cases h0:A.length+B.length=0
  ·rw [uM (by simp;omega)]
  ·rw [uz (by simp;omega),zu (by simp [lim];omega)];unfold slc;rw [uz ⟨by omega,by omega,by omega⟩];simp
 unfold vd;simp only [zD,j];rw [uM (by simp)];simp only [p];rw [uM (by simp;omega)];simp only [yO,o,ua];rw [zu (by simp [lim];omega)];simp only [uI];rw [zu (by simp [lim];omega)];simp only [yO]
theorem concatItem_is {A B:List GF} (h:A.length+B.length<=16777216):wm [A,B]=some (A++B):=by
 have j:IntKind.wrap .i64 (0+(A.length:Int))=(A.length:Int):=by rw [w64n (by omega)];omega
 have p:IntKind.wrap .i64 ((A.length:Int)+(B.length:Int))=((A.length+B.length:Nat):Int):=by rw [w64n (by omega)];omega
 have o:vB [] ((A.length+B.length:Nat):Int)=some []:=by
  unfold vB;have g:IntKind.wrap .i64 ((0:Int) - ((0:Nat):Int))=0:=rfl;have m:IntKind.wrap .i64 (((A.length+B.length:Nat):Int) - 0)=((A.length+B.length:Nat):Int):=by rw [w64n (by omega)];omega
  rw [g,m,uM (by simp;omega)];by_cases h0:A.length+B.length=0
  ·rw [uM (by simp;omega)]
  ·rw [uz (by simp;omega),zu (by simp [lim];omega)];unfold slc;rw [uz ⟨by omega,by omega,by omega⟩];simp
 unfold wm;simp only [zD,j];rw [uM (by simp)];simp only [p];rw [uM (by simp;omega)];simp only [yO,o,ua];rw [zu (by simp [lim];omega)];simp only [uI];rw [zu (by simp [lim];omega)];simp only [yO]
def qz (T:List GE):List GF->List GF->List GF
 | _,[]=>[]
 | pre,x::r=>(if x.dot ∈ pre.map (·.dot) \/ x.dot ∈ T then [] else [x])++qz T (pre++[x]) r
theorem firsts_app (T:List GE):∀(A B pre:List GF),qz T pre (A++B)=qz T pre A++qz T (pre++A) B
 | [],B,pre=>by simp [qz]
 | x::A,B,pre=>by
  simp only [tP,qz,firsts_app T A B (pre++[x]),uC,uI]
noncomputable def bothF (v1:List GF) (tombs2:List GE):Nat->Nat->List (GE×Int)×List GF->Option (Out (List GF) (List (GE×Int)×List GF)):=(λ(n1:Nat) (_:Nat) (s1:List (GE×Int)×(List GF))=>(((yB v1 (n1:Int)).bind λy17=>((((if (((yQ GE.eqb (0:Int) (qg GE.eqb s1.1 y17.dot (IntKind.wrap .i64 ((yQ GE.eqb (0:Int) s1.1 y17.dot)+(1:Int)))) y17.dot)==(1:Int))==true)=true then xf tombs2 y17.dot else some default).bind λv22=>(if (((yQ GE.eqb (0:Int) (qg GE.eqb s1.1 y17.dot (IntKind.wrap .i64 ((yQ GE.eqb (0:Int) s1.1 y17.dot)+(1:Int)))) y17.dot)==(1:Int))&&(!v22))=true then (yM ((s1.2).length+(([y17]:List GF)).length<=lim) (some ((qg GE.eqb s1.1 y17.dot (IntKind.wrap .i64 ((yQ GE.eqb (0:Int) s1.1 y17.dot)+(1:Int)))),(s1.2++([y17]:List GF))))) else some ((qg GE.eqb s1.1 y17.dot (IntKind.wrap .i64 ((yQ GE.eqb (0:Int) s1.1 y17.dot)+(1:Int)))),s1.2))):Option (List (GE×Int)×(List GF))).bind λv18=>some (.nxt (v18.1,v18.2)))):Option (Out _ (List (GE×Int)×(List GF)))))
theorem both_eq (a0 j:List GF) (g:List GE):qQ a0 j g=((wm ([a0,j]:List (List GF))).bind λh=>(yM ((((h).length:Nat):Int)<=9223372036854775807) (lp (zD (bothF h g) (List.range (((((h).length:Nat):Int)).toNat)) 0 (([]:List (GE×Int)),([]:List GF))) λ(m:List (GE×Int)×(List GF))=>((sortO (λx y=>qP x y) m.2).bind λv25=>some v25)))):=rfl
theorem bothF_run {V:List GF} {T:List GE} (u:V.length<=16777216):∀(R:List Nat) (pre rest:List GF) (m:List (GE×Int)) (acc:List GF),V=pre++rest->R.length=rest.length->(∀d,yQ GE.eqb 0 m d=(((pre.map (·.dot)).count d:Nat):Int))->acc.length<=pre.length ->
  ∃r,zD (bothF V T) R pre.length (m,acc)=some (.inr (r,acc++qz T pre rest))
 | [],pre,rest,m,acc,h,hr,_,_=>by
  have:rest=[]:=uH hr.symm;subst this;exact ⟨m,by simp [zD,qz]⟩
 | z::R,pre,[],m,acc,h,hr,_,_=>by simp at hr
 | z::R,pre,x::rest,m,acc,h,hr,hm,ha=>by
  simp only [ux] at hr;have t:V.length=pre.length+(rest.length+1):=by rw [h];simp
  have hi:yB V (pre.length:Int)=some x:=by
   rw [idxAt (by omega)];subst h;simp
  have hc:(pre.map (·.dot)).count x.dot<=pre.length:=by
   have:=List.count_le_length (a:=x.dot) (l:=pre.map (·.dot));simpa using this
  have v:IntKind.wrap .i64 ((((pre.map (·.dot)).count x.dot:Nat):Int)+1)=(((pre.map (·.dot)).count x.dot+1:Nat):Int):=we (by omega);have p:∀d,yQ GE.eqb 0 (qg GE.eqb m x.dot (((pre.map (·.dot)).count x.dot+1:Nat):Int)) d=((((pre++[x]).map (·.dot)).count d:Nat):Int):=λd=>by
   rw [mget_put];simp only [tN,uw,tr,List.count_append,List.count_singleton];by_cases e:d=x.dot
   ·subst e;simp
   ·rw [uM e,hm d];have:(x.dot==d)=false:=by rw [rt];exact λh=>e h.symm
    simp [this]
  have g:(pre++[x]).length=pre.length+1:=by simp
  have j:bothF V T pre.length z (m,acc)=some (.nxt (qg GE.eqb m x.dot (((pre.map (·.dot)).count x.dot+1:Nat):Int),acc++(if x.dot ∈ pre.map (·.dot) \/ x.dot ∈ T then [] else [x]))):=by
   unfold bothF;simp only [hi,ua,hm,v,mget_put,ut];by_cases h0:x.dot ∈ pre.map (·.dot)
   ·have:0 < (pre.map (·.dot)).count x.dot:=List.count_pos_iff.2 h0;have o:((((pre.map (·.dot)).count x.dot+1:Nat):Int)==(1:Int))=false:=by rw [rt];omega
    rw [o,uM (by simp),ua,uM (by simp),uz (.inl h0)];simp
   ·have:(pre.map (·.dot)).count x.dot=0:=List.count_eq_zero.2 h0;rw [this];have C:(((0+1:Nat):Int)==(1:Int))=true:=rfl;rw [C,uW,uz rfl,containsDot_is,ua,uS];by_cases hT:x.dot ∈ T
    ·have:(T.any λy=>decide (y=x.dot))=true:=by simpa using hT
     rw [this,uM (by simp),uz (.inr hT)];simp
    ·have:(T.any λy=>decide (y=x.dot))=false:=by
      rw [ra];intro y w;simp only [uk]
      rintro rfl
      exact hT w
     rw [this,uz (by simp),zu (by simp [lim];omega),uM (by simp only [not_or];exact ⟨h0,hT⟩)];simp
  obtain ⟨r,s⟩:=bothF_run u R (pre++[x]) rest _ (acc++(if x.dot ∈ pre.map (·.dot) \/ x.dot ∈ T then [] else [x])) (by rw [h];simp) (by omega) p (by rw [g,uq];split <;> simp <;> omega);refine ⟨r,?_⟩;simp only [zD,j,qz];rw [g] at s;rw [s,uC]
theorem leSwo {x:GF}:qP x y=some (if yc x y=true then -1 else 1):=by
 unfold qP;rw [leafAhead_is,ua];show (if yc x y=true then some (-1:Int) else some 1)=_;split <;> rfl
noncomputable def threeF (l0 a1 b2:GA):List GC×Int->Option (Out (List GC) (List GC×Int)):=(λ(s1:(List GC)×Int)=>((if (decide (s1.2<=(4:Int)))=true then ((xj l0 s1.2).bind λv20=>((xj a1 s1.2).bind λv21=>((xj b2 s1.2).bind λv22=>(if ((v20.2 || v21.2) || v22.2)=true then ((vZ v20.1 v21.1 v22.1).bind λv24=>(yM ((s1.1).length+(([v24.1]:List GC)).length<=lim) (some (.nxt ((s1.1++([v24.1]:List GC)),(IntKind.wrap .u8 (s1.2+(1:Int)))))))) else some (.nxt (s1.1,(IntKind.wrap .u8 (s1.2+(1:Int))))))))) else some (.brk (s1.1,s1.2))):Option (Out _ ((List GC)×Int))))
theorem three_eq (j g h:GA):qt j g h=(lp (yI (threeF j g h) (([]:List GC),(1:Int))) λ(m:(List GC)×Int)=>some m.1):=rfl
theorem names0 {t:List GA} (g:upB t=true) (h:t.length<=16777216):treeNames t []=some (t.map (·.name)):=by
 unfold treeNames;rw [lin_walk];simp only [yO,subsAt];rw [app_loop (λx:GA=>x.name) _ 0 [] (by simpa using h)];simp only [yO,uI];rw [sortS_is (by simp [lim];omega),srtQ_up,ua];exact sJ.2 ((qr _).1 g)
theorem leaf_at {x:GA} (C:∀l ∈ x.leaves,LeafOk l) {k:Int} (r:1<=k/\k<=4):xj x k=some (match x.leaves.find? (λl=>l.typ==k) with | some l=>(l,true) | none=>(ve k,false)):=by
 have m:=tl_walk [x.name] 0 [x] (decide ((([x.name]:List zx).length:Int) > 0),([]:zx),([]:List GC),([]:List GA)) (by simp);have D:x6 [x] [x.name]=some x:=by simp [x6,nodeOf]
 rw [D] at m;simp only at m;unfold xj;rw [tl_eq,m];simp only [yO];unfold tlR yw;rcases first_is (q:=λy:GC=>y.typ==k) (del:=λs=>treeLeafC1 s k) x.leaves 0 (λx _=>rfl) with ⟨p,j⟩ | ⟨A,y,B,g,j,t,p⟩
 ·have:x.leaves.find? (λl=>l.typ==k)=none:=t7.2 λy o=>by rw [j y o];simp
  rw [this];simp only [p,yO,ua,leafNew_is r];simp
 ·have o:y ∈ x.leaves:=by rw [g];simp
  have w:x.leaves.find? (λl=>l.typ==k)=some y:=by
   rw [g,List.find?_append];have:A.find? (λl=>l.typ==k)=none:=t7.2 λz v=>by rw [t z v];simp
   rw [this,Option.none_or,rz,j]
  rw [w];have h:=C y o;have u:((!true) || (decide (((A.length:Nat):Int) < (0:Int))))=false:=by simp
  have E:y.typ=k:=by simpa using j
  simp only [p,lp,ua,tx,u,uW,ut,leafNew_is r,tg];rw [uM (by simp [ve];omega),g,zK (x:=y) (by simp),ua,qa (yJ (sI h.items)),ua,cloneDot_is (yJ (sI h.tombs)),ua];rfl
end Go.Vv
