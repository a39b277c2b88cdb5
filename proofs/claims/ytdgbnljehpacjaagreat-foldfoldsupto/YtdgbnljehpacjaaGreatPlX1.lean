/- Layer 31: what the plain laws lean on. -/
import Derived.Test.YtdgbnljehpacjaaGreatD
import Derived.Test.YtdgbnljehpacjaaGreatVvZ
set_option linter.all false
namespace Go.Vv
open Go
variable {i c n d:Nat} {b:UInt8} {σ:Type} {L:List GF} {f there:Bool} {q:GF->Bool} {l x:GC} {a:List UInt8} {ls L0 A B:List GC} {ds:List GE} {del:GC->Option Bool} {k:Int} {cmp:GF->GF->Option Int} {e:GH}
section
structure GL where
 path:(List zu)
 leaf:GC
 deriving DecidableEq,Inhabited
structure GN where
 path:(List zu)
 typ:Int
 had:Bool
 has:Bool
 was:GC
 is:GC
 deriving DecidableEq,Inhabited
def GL.wf (x:GL):Prop:=(x.path.length<=maxLen/\∀y ∈ x.path,y.length<=maxLen)/\(GC.wf x.leaf)
def GN.wf (x:GN):Prop:=(x.path.length<=maxLen/\∀y ∈ x.path,y.length<=maxLen)/\(InK .u8 x.typ)/\(True)/\(True)/\(GC.wf x.was)/\(GC.wf x.is)
def GL.bk (x:GL):Nat:=(((x.path.map (λs=>s.length+1)).sum+1)+(GC.bk x.leaf+0))+1
def GN.bk (x:GN):Nat:=(((x.path.map (λs=>s.length+1)).sum+1)+(1+(1+(1+(GC.bk x.was+(GC.bk x.is+0))))))+1
noncomputable def xJ (n0:GA) (name1:zu):Option Int :=
 ((stringsCompare n0.name name1).bind λv1=>some v1)
noncomputable def wo (s0:(List GC)) (del1:(GC->Option Bool)):Option (List GC) :=
 ((yu s0 del1).bind λv1=>(if (v1==(-1:Int))=true then some s0 else (lp (zZ (λ(s1:Int×Int×(List GC))=>((yl ((s1.2.2).length=s0.length) ((if (decide (s1.2.1 < ((s0.length:Nat):Int)))=true then ((zQ s1.2.2 s1.2.1).bind λy14=>((del1 y14).bind λv15=>(if (!v15)=true then ((zQ s1.2.2 s1.1).bind λy17=>some (.nxt ((IntKind.wrap .i64 (s1.1+(1:Int))),(IntKind.wrap .i64 (s1.2.1+(1:Int))),(s1.2.2.set s1.1.toNat y14)))) else some (.nxt (s1.1,(IntKind.wrap .i64 (s1.2.1+(1:Int))),s1.2.2))))) else some (.brk (s1.1,s1.2.1,s1.2.2))))):Option (Out _ (Int×Int×(List GC))))) (v1,(IntKind.wrap .i64 (v1+(1:Int))),s0)) λ(s1:Int×Int×(List GC))=>(yl (0<=s1.1/\s1.1<=((s0.length:Nat):Int)) (((slc (s1.2.2.take s1.1.toNat++List.replicate (s0.length - s1.1.toNat) zLf) (0:Int) s1.1).bind λm19=>some m19))))))
noncomputable def diffXlayC2 (x0:GC) (c0:Int):Option Bool :=
 some (x0.typ==c0)
noncomputable def diffXown (l0:GC):Option GC :=
 ((yW l0.items).bind λv1=>((yS l0.tombs).bind λv2=>some (GC.mk l0.typ l0.n l0.time l0.dot l0.text v1 v2)))
noncomputable def diffXlayC3 (x0:GC) (y1:GC):Option Int :=
 ((xX x0.typ y1.typ).bind λv1=>some v1)
noncomputable def xV:Nat->(t0:(List GA))->(path1:(List zu))->(kind2:Int)->(l3:GC)->(there4:Bool)->Option (List GA)
 | 0,_,_,_,_,_=>none
 | n+1,t0,path1,kind2,l3,there4=>((zQ path1 (0:Int)).bind λy1=>((zn t0 y1 (λx0 x1=>xJ x0 x1)).bind λv2=>((zQ path1 (0:Int)).bind λy3=>(lp ((if v2.2=true then ((zQ t0 v2.1).bind λy7=>some (.inr (y7.name,y7.leaves,y7.subs))) else some (.inr (y3,([]:List GC),([]:List GA)))):Option (_ ⊕ (zu×(List GC)×(List GA)))) λ(s1:zu×(List GC)×(List GA))=>(lp ((if (decide (((path1).length:Int) > (1:Int)))=true then ((slc path1 (1:Int) ((path1).length:Int)).bind λm20=>((xV n s1.2.2 m20 kind2 l3 there4).bind λv21=>some (.inr (s1.2.1,v21)))) else ((xA s1.2.1).bind λv22=>((wo v22 (λx0=>diffXlayC2 x0 kind2)).bind λv23=>(if there4=true then ((diffXown l3).bind λv25=>(yl ((v23).length+(([v25]:List GC)).length<=lim) (((qY (λx y=>diffXlayC3 x y) (v23++([v25]:List GC))).bind λv27=>some (.inr (v27,s1.2.2)))))) else some (.inr (v23,s1.2.2)))))):Option (_ ⊕ ((List GC)×(List GA)))) λ(s2:(List GC)×(List GA))=>((slc t0 (0:Int) v2.1).bind λm28=>((yY m28).bind λv29=>(if (decide ((IntKind.wrap .i64 (((s2.1).length:Int)+((s2.2).length:Int))) > (0:Int)))=true then (yl ((v29).length+(([(GA.mk s1.1 s2.1 s2.2)]:List GA)).length<=lim) ((if v2.2=true then ((slc t0 (IntKind.wrap .i64 (v2.1+(1:Int))) ((t0).length:Int)).bind λm35=>(yl (((v29++([(GA.mk s1.1 s2.1 s2.2)]:List GA))).length+(m35).length<=lim) (some ((v29++([(GA.mk s1.1 s2.1 s2.2)]:List GA))++m35)))) else ((slc t0 v2.1 ((t0).length:Int)).bind λm37=>(yl (((v29++([(GA.mk s1.1 s2.1 s2.2)]:List GA))).length+(m37).length<=lim) (some ((v29++([(GA.mk s1.1 s2.1 s2.2)]:List GA))++m37))))))) else (if v2.2=true then ((slc t0 (IntKind.wrap .i64 (v2.1+(1:Int))) ((t0).length:Int)).bind λm40=>(yl ((v29).length+(m40).length<=lim) (some (v29++m40)))) else ((slc t0 v2.1 ((t0).length:Int)).bind λm42=>(yl ((v29).length+(m42).length<=lim) (some (v29++m42)))))))))))))
noncomputable def diffXlay (t0:(List GA)) (path1:(List zu)) (kind2:Int) (l3:GC) (there4:Bool):Option (List GA):=anyN λn=>xV n t0 path1 kind2 l3 there4
end
section
def alnum (b:UInt8):Bool:=(decide (97<=b.toNat)&&decide (b.toNat<=122)) || (decide (65<=b.toNat)&&decide (b.toNat<=90)) || (decide (48<=b.toNat)&&decide (b.toNat<=57))
def other (r:Int):Bool:=!((decide (97<=r)&&decide (r<=122)) || (decide (65<=r)&&decide (r<=90)) || (decide (48<=r)&&decide (r<=57)))
def runeIdx (q:Int->Bool) (s:List UInt8) (i:Nat):Int :=
 if h:i < s.length then (if q (dec s i).1 then i else if (dec s i).2=0 then -1 else runeIdx q s (i+(dec s i).2)) else -1
termination_by s.length - i
decreasing_by omega
theorem dec_width (s:List UInt8) (i:Nat) (h:i < s.length):1<=(dec s i).2:=by
 have hs:i < (⟨s.toArray⟩:ByteArray).size:=by simpa [ByteArray.size] using h
 by_cases ha:((⟨s.toArray⟩:ByteArray)[i]'hs).toNat < 128
 ·unfold dec;rw [decode_ascii _ i hs ha];exact uh _
 ·exact (decode_high _ i hs (by omega)).2
theorem dec_low {s:List UInt8} (j:s[i]?=some b) (h:b.toNat < 128):dec s i=(b.toNat,1):=by
 have g:i < s.length:=(uc.1 j).1;have hs:i < (⟨s.toArray⟩:ByteArray).size:=by simpa [ByteArray.size] using g
 have e:((⟨s.toArray⟩:ByteArray)[i]'hs)=b:=by
  have m:((⟨s.toArray⟩:ByteArray)[i]'hs)=s[i]:=rfl
  simp_all
 unfold dec;rw [decode_ascii _ i hs (by simp_all),e]
theorem dec_hi {s:List UInt8} (j:s[i]?=some b) (h:128<=b.toNat):128<=(dec s i).1:=by
 have g:i < s.length:=(uc.1 j).1;have hs:i < (⟨s.toArray⟩:ByteArray).size:=by simpa [ByteArray.size] using g
 have e:((⟨s.toArray⟩:ByteArray)[i]'hs)=b:=by
  have m:((⟨s.toArray⟩:ByteArray)[i]'hs)=s[i]:=rfl
  simp_all
 exact (decode_high _ i hs (by simp_all)).1
theorem other_alnum:other (b.toNat:Int)=!alnum b:=by
 unfold other alnum;congr 1
 grind
theorem rune_all {s:List UInt8} (h:s.all alnum=true):∀(n i:Nat),s.length - i=n->runeIdx other s i=-1
 | n,i,hn=>by
  rw [runeIdx.eq_def];by_cases hi:i < s.length
  ·rw [pU hi];have m:s[i]?=some s[i]:=ue hi;have j:alnum s[i]=true:=by simp_all
   have g:s[i].toNat < 128:=by
    unfold alnum at j
    grind
   rw [dec_low m g];simp only [other_alnum,j,tn,uk,uH,Nat.one_ne_zero];exact rune_all h (s.length - (i+1)) (i+1) rfl
  ·grind
 termination_by n=>n
 decreasing_by omega
theorem rune_some {s:List UInt8} {k:Nat} {b:UInt8} (h:s[k]?=some b) (o:alnum b=false):∀(n i:Nat),k - i=n->i<=k->0<=runeIdx other s i
 | n,i,hn,hik=>by
  have p:k < s.length:=(uc.1 h).1;have hi:i < s.length:=by omega
  rw [runeIdx.eq_def,pU hi];by_cases ho:other ((dec s i).1:Nat)=true
  ·simp_all
  ·rw [uC ho];have j:s[i]?=some s[i]:=ue hi;have g:s[i].toNat < 128:=by
    refine Decidable.byContradiction λhh=>ho ?_;have:=dec_hi j (by omega);unfold other;simp;omega
   rw [dec_low j g] at ho ⊢;rw [other_alnum] at ho;have m:i ≠ k:=by
    grind
   simp only [Nat.one_ne_zero,uH];exact rune_some h o (k - (i+1)) (i+1) rfl (by omega)
 termination_by n=>n
 decreasing_by omega

def nameB (s:zu):Bool:=decide (1<=s.length)&&decide (s.length<=12)&&s.all alnum
def pathB (p:List zu):Bool:=decide (1<=p.length)&&decide (p.length<=3)&&p.all nameB
theorem bnd1 (n:Nat):decide ((n:Int) >= 1)=decide (1<=n):=rT.2 (by omega)
theorem bnd12 (n:Nat):decide ((n:Int)<=12)=decide (n<=12):=rT.2 (by omega)
theorem bnd3 (n:Nat):decide ((n:Int)<=3)=decide (n<=3):=rT.2 (by omega)
theorem ref04IsName_is (s:zu):qj s=some (nameB s):=by
 unfold qj nameB;rw [loopL_all alnum false]
 ·split
  ·grind
  ·rename_i h;simp only [tG,uj] at h;have j:1<=s.length:=by omega
   have g:s.length<=12:=by omega
   cases ha:s.all alnum <;> simp [j,g]
 ·intro i x _;unfold alnum
  grind
theorem rune_loop (q:Int->Bool) (s:zu) {f:Nat->Option (Out Int Nat)} (g:∀i,f i=if i < s.length then (if q (dec s i).1=true then some (.ret (i:Int)) else some (.nxt (i+(dec s i).2))) else some (.brk i)) :
  ∀(k i:Nat),s.length - i=k->lp (zZ f i) (λ_=>some (-1:Int))=some (runeIdx q s i)
 | k,i,hk=>by
  rw [yI,runeIdx.eq_def,g];by_cases h:i < s.length
  ·have j:=dec_width s i h;rw [uv h,pU h];by_cases hq:q (dec s i).1=true
   ·simp [hq]
   ·have h0:¬ (dec s i).2=0:=by omega
    simp only [uC hq,uC h0];exact rune_loop q s g (s.length - (i+(dec s i).2)) _ rfl
  ·rw [uC h,dif_neg h];rfl
 termination_by k=>k
 decreasing_by omega
theorem stringsContains_other (s:zu):xZ s (λx=>opIsNameC1 x)=some (!s.all alnum):=by
 have e:(λx=>opIsNameC1 x)=λx=>some (other x):=by
  funext x;unfold opIsNameC1 other;congr 1
  grind
 unfold xZ vw vf;rw [e,rune_loop other s (λi=>by simp) _ 0 rfl];simp only [ua];congr 1;cases h:s.all alnum with
 | true=>rw [rune_all h _ 0 rfl];rfl
 | false =>
  rw [List.all_eq_false] at h;obtain ⟨b,j,m⟩:=h;obtain ⟨k,g,rfl⟩:=tL j;have:=rune_some (ue g) (by simp_all) _ 0 rfl (tz _);simp [this]
theorem opIsName_is (s:zu):opIsName s=some (nameB s):=by
 unfold opIsName nameB;rw [stringsContains_other,bnd1,bnd12];cases h1:decide (1<=s.length) <;> cases h2:decide (s.length<=12) <;> simp
theorem contains_is {f:zu->Option Bool} {q:zu->Bool} (p:List zu) (g:∀x ∈ p,f x=some (q x)):xd p f=some (p.any q):=by
 unfold xd wn;rw [first_loop p g];simp only [ua,firstI_any]
theorem opMayPath_is (p:List zu):opMayPath p=some (pathB p):=by
 unfold opMayPath pathB;rw [contains_is (q:=λs=>!nameB s) p (λx _=>by unfold opMayPathC1;rw [opIsName_is];rfl),bnd1,bnd3];have e:p.any (λs=>!nameB s)=!p.all nameB:=by grind
 rw [e];cases h1:decide (1<=p.length) <;> cases h2:decide (p.length<=3) <;> simp
def actorB (a:GJ):Bool:=decide (a.rep < 16)&&decide (a.inc >= 1)&&decide (a.inc<=4)
def wP (d:GE):Bool:=actorB d.actor&&decide (d.seq >= 1)&&decide (d.seq<=1048576)
theorem dotMay_is (d:GE):dotMay d=some (wP d):=rfl
theorem ref03MayActor_is (a:GJ):vU a=some (actorB a):=by
 unfold vU actorB
 grind
theorem ref03May_is (d:GE):qE d=some (wP d):=by unfold qE;rw [ref03MayActor_is];rfl
def ye (a b:GE):Bool:=if a.actor.rep ≠ b.actor.rep then decide (a.actor.rep < b.actor.rep) else if a.actor.inc ≠ b.actor.inc then decide (a.actor.inc < b.actor.inc) else decide (a.seq < b.seq)
theorem ref03Less_is (a b:GE):vC a b=some (ye a b):=by
 unfold vC ye
 grind
def cmpI (a b:Int):Int:=if a < b then -1 else if b < a then 1 else 0
theorem cmpU8is (a b:Int):xX a b=some (cmpI a b):=by
 unfold xX vu cmpI;simp only [sR,ua,uk,uH,uj,gt_iff_lt]
 grind
theorem cmpU32is (a b:Int):wG a b=some (cmpI a b):=by
 unfold wG wY cmpI;simp only [sR,ua,uk,uH,uj,gt_iff_lt]
 grind
theorem cmpU64is (a b:Int):we a b=some (cmpI a b):=by
 unfold we wX cmpI;simp only [sR,ua,uk,uH,uj,gt_iff_lt]
 grind
def or2 (a b:Int):Int:=if a ≠ 0 then a else b
theorem cmpOr2_is (a b:Int):cmpOrInt [a,b]=some (or2 a b):=by
 unfold cmpOrInt or2;by_cases h1:a=0 <;> by_cases h2:b=0 <;> simp [zp,h1,h2]
def actorCmp (a b:GJ):Int:=or2 (cmpI a.rep b.rep) (cmpI a.inc b.inc)
def dotCmp (a b:GE):Int:=or2 (actorCmp a.actor b.actor) (cmpI a.seq b.seq)
theorem dotXcompare_is (a b:GJ):dotXcompare a b=some (actorCmp a b):=by
 unfold dotXcompare;rw [cmpU8is,cmpU32is];simp only [ua];rw [cmpOr2_is];rfl
theorem dotCompare_is (a b:GE):wx a b=some (dotCmp a b):=by
 unfold wx;rw [dotXcompare_is,cmpU64is];simp only [ua];rw [cmpOr2_is];rfl
theorem dotCmp_lt (a b:GE):decide (dotCmp a b >= 0)=!ye a b:=by
 unfold dotCmp actorCmp ye cmpI or2
 grind

def xW:List GE->Bool
 | a::b::r=>ye a b&&xW (b::r)
 | _=>true
def xR (ds:List GE) (i:Nat) (x:GE):Bool:=decide (i=0) || ye (ds.getD (i - 1) default) x
theorem rising_loop (ds:List GE) {g:Nat->GE->Unit->Option (Out Bool Unit)}
  (s:∀i x,ds[i]?=some x->g i x ()=if (wP x&&xR ds i x)=true then some (.nxt ()) else some (.ret false)) :
  lp (zp g ds 0 ()) (λ_=>some true)=some (ds.all wP&&xW ds):=by
 have key:∀(L pre:List GE),ds=pre++L->lp (zp g L pre.length ()) (λ_=>some true)=some (L.all wP&&xW (match pre.getLast? with | some y=>y::L | none=>L)):=by
  intro L
  induction L with
  | nil=>intro pre h;cases hp:pre.getLast? <;> simp [zp,xW]
  | cons x t ih =>
   intro pre h;have u:ds[pre.length]?=some x:=by rw [h];simp
   have j:=ih (pre++[x]) (by rw [h];simp);simp only [uo,uu,uV,tA,List.getLast?_append,pJ,rM] at j;simp only [zp,s _ _ u];cases hp:pre.getLast? with
   | none =>
    have m:pre=[]:=pu.1 hp;subst m;simp only [uV,tA] at j ⊢;cases hd:wP x <;> simp [xR,hd,j]
   | some y =>
    have o:pre ≠ []:=by grind
    have h0:0 < pre.length:=ph.2 o;have p:ds.getD (pre.length - 1) default=y:=by
     grind
    have r:xR ds pre.length x=ye y x:=by
     unfold xR;rw [p]
     simp_all
    rw [r];cases hd:wP x <;> cases hlt:ye y x <;> simp [hd,hlt,j,xW]
 have:=key ds [] rfl
 simp_all
theorem same_loop {α:Type} [DecidableEq α] (M:List α) {eq:α->α->Bool} (g:∀a b,eq a b=decide (a=b)) {f:Nat->α->Unit->Option (Out Bool Unit)} :
  ∀(L:List α) (i:Nat),L.length+i=M.length->(∀j x,L[j]?=some x->f (i+j) x ()=(zQ M ((i+j:Nat):Int)).bind λy=>if (!eq x y)=true then some (.ret false) else some (.nxt ())) ->
  zp f L i ()=if L=M.drop i then some (.inr ()) else some (.inl false)
 | [],i,hl,_=>by
  rw [tp (by simp_all)];rfl
 | x::t,i,hl,h=>by
  simp only [uu] at hl;have hi:i < M.length:=by omega
  have h0:=h 0 x rfl;simp only [tS] at h0;rw [qL hi] at h0;have o:=same_loop M g (f:=f) t (i+1) (by omega) (λj y m=>by have:=h (j+1) y m;rw [show i+1+j=i+(j+1) by omega];exact this);have e:M.drop i=M[i]::M.drop (i+1):=(s8 hi).symm;simp only [zp,h0,ua,g,e]
  grind
theorem dotEq (a b:GE):(a.actor.rep==b.actor.rep&&(a.actor.inc==b.actor.inc&&(a.seq==b.seq&&true)))=decide (a=b):=by
 rcases a with ⟨⟨j,h⟩,a3⟩;rcases b with ⟨⟨g,m⟩,o⟩
 grind
theorem slicesEqualDot_is (L M:List GE):vm L M=some (decide (L=M)):=by
 unfold vm;by_cases hl:L.length=M.length
 ·have e:((L.length:Int) != (M.length:Int))=false:=by simp;omega
  rw [e,same_loop M dotEq L 0 (by omega) (λj x g=>by simp)];by_cases h:L=M <;> simp [h]
 ·have e:((L.length:Int) != (M.length:Int))=true:=by simp;omega
  rw [e,tb (λh=>hl (by rw [h]))];rfl
section
variable {α ρ:Type}
def allI (g:Nat->α->Bool) (L:List α):Bool:=L.zipIdx.all λp=>g p.2 p.1
theorem allI_iff {g:Nat->α->Bool} {L:List α}:allI g L=true ↔ ∀i x,L[i]?=some x->g i x=true:=by
 unfold allI;rw [uq];constructor
 ·intro h i x j;exact h (x,i) (pa.2 j)
 ·grind
theorem loopL_allI (g:Nat->α->Bool) {r:ρ} {f:Nat->α->Unit->Option (Out ρ Unit)}:∀(L:List α) (k:Nat),(∀i x,L[i]?=some x->f (k+i) x ()=if g (k+i) x=true then some (.nxt ()) else some (.ret r)) ->
  zp f L k ()=if ((L.zipIdx k).all λp=>g p.2 p.1)=true then some (.inr ()) else some (.inl r)
 | [],_,_=>rfl
 | x::t,k,h=>by
  have h0:=h 0 x rfl;simp only [tS] at h0;have j:=loopL_allI g (f:=f) (r:=r) t (k+1) (λi y m=>by have:=h (i+1) y (by simp_all);rw [show k+1+i=k+(i+1) by omega];exact this);simp only [zp,h0,pD,tI]
  grind
theorem lp_all (g:Nat->α->Bool) {r:σ} {L:List α} {f:Nat->α->Unit->Option (Out σ Unit)} {rest:Unit->Option σ} (h:∀i x,L[i]?=some x->f i x ()=if g i x=true then some (.nxt ()) else some (.ret r)) :
  lp (zp f L 0 ()) rest=if allI g L=true then rest () else some r:=by
 rw [loopL_allI g L 0 (λi x j=>by simpa using h i x j)];unfold allI;split <;> rfl
theorem lp_all0 (g:α->Bool) {r:σ} {L:List α} {f:Nat->α->Unit->Option (Out σ Unit)} {rest:Unit->Option σ} (m:∀i x,L[i]?=some x->f i x ()=if g x=true then some (.nxt ()) else some (.ret r)) :
  lp (zp f L 0 ()) rest=if L.all g=true then rest () else some r:=by
 rw [lp_all (λ_=>g) m];have:allI (λ_=>g) L=L.all g:=by
  rw [tv,allI_iff,uq];exact ⟨λh x j=>by obtain ⟨i,hi⟩:=tm.1 j;exact h i x hi,λh i x j=>h x (uW j)⟩
 rw [this]
end
theorem qh {j:Nat} (g:j+1<=maxLen):IntKind.wrap .i64 (((j+1:Nat):Int) - 1)=(j:Int):=by
 simp only [maxLen] at g;rw [x9 (by omega)];omega
theorem wrap_add1 {j:Nat} (g:j+1<=maxLen):IntKind.wrap .i64 ((j:Int)+1)=((j+1:Nat):Int):=by
 simp only [maxLen] at g;rw [x9 (by omega)];omega
theorem pos_succ (j:Nat):decide (((j+1:Nat):Int) > 0)=true:=uT (by omega)
def qX (n:Int):Bool:=decide (n >= 1)&&decide (n<=1099511627776)
def yc (a b:GF):Bool:=if a.time ≠ b.time then decide (a.time < b.time) else ye a.dot b.dot
theorem leafXisTime_is (n:Int):leafXisTime n=some (qX n):=rfl
theorem leafXisText_is (s:zu):qm s=some (decide (s.length<=40)):=by unfold qm;rw [rT.2 (show ((s.length:Int)<=40) ↔ s.length<=40 by omega)]
theorem dotCmp_neg (a b:GE):decide (dotCmp a b < 0)=ye a b:=by
 have h:=dotCmp_lt a b
 grind
theorem vG (a:Int) (d:GE) (b:Int) (o:GE):w9 a d b o=some (if a ≠ b then decide (a < b) else ye d o):=by
 unfold w9 vF;rw [cmpU64is,dotCompare_is];simp only [ua,cmpOr2_is];congr 1;by_cases h:a=b
 ·subst h;have:cmpI a a=0:=by unfold cmpI;simp
  simp [or2,this,dotCmp_neg]
 ·have:cmpI a b ≠ 0:=by unfold cmpI;split <;> (try split) <;> omega
  simp only [or2,this,ne_eq,px,ur,h];unfold cmpI;rw [tv];simp only [uj];split <;> (try split) <;> omega
theorem ref05Ahead_is (a:Int) (d:GE) (b:Int) (o:GE):wi a d b o=some (if a ≠ b then decide (a < b) else ye d o):=by
 unfold wi;by_cases h:a=b <;> simp [h,ref03Less_is]
def prevI {α:Type} [Inhabited α] (L:List α) (i:Nat):α:=L.getD (i - 1) default
def vL (timed:Bool) (x:GF):Bool:=wP x.dot&&decide (x.text.length<=40)&&(if timed then qX x.time else decide (x.time=0))
def riseB (L:List GF):Bool:=allI (λi x=>decide (i=0) || yc (prevI L i) x) L
def onceB (L:List GF):Bool:=decide ((L.map (·.dot)).Nodup)
theorem eqb_iff (a b:GE):GE.eqb a b=decide (a=b):=by unfold GE.eqb;exact dotEq a b
def qJ (m:List (GE×Int)):List GE:=m.map (·.1)
theorem mput_keys (m:List (GE×Int)) (k:GE) (v:Int):qJ (vj GE.eqb m k v)=if k ∈ qJ m then qJ m else qJ m++[k]:=by
 induction m with
 | nil=>simp [vj,qJ]
 | cons e r ih =>
  simp only [vj,eqb_iff];by_cases h:k=e.1
  ·simp [h,qJ]
  ·simp only [tb h,uk,uH,qJ,uz,uQ] at ih ⊢
   grind
theorem twice_fold:∀(L:List GF) (m:List (GE×Int)),(qJ m).Nodup ->
  (L.foldl (λs x=>vj GE.eqb s x.dot (IntKind.wrap .i64 ((yC GE.eqb 0 s x.dot)+1))) m).length<=m.length+L.length /\
  ((L.foldl (λs x=>vj GE.eqb s x.dot (IntKind.wrap .i64 ((yC GE.eqb 0 s x.dot)+1))) m).length=m.length+L.length ↔ (qJ m++L.map (·.dot)).Nodup)
 | [],m,h=>by simp [h]
 | x::t,m,h=>by
  simp only [so];have g:=mput_keys m x.dot (IntKind.wrap .i64 ((yC GE.eqb 0 m x.dot)+1));generalize hm:vj GE.eqb m x.dot (IntKind.wrap .i64 ((yC GE.eqb 0 m x.dot)+1))=m' at g;have r:m'.length=(qJ m').length:=by simp [qJ]
  have o:m.length=(qJ m).length:=by simp [qJ]
  by_cases hx:x.dot ∈ qJ m
  ·rw [uv hx] at g;have j:=twice_fold t m' (by simp_all)
   grind
  ·rw [uC hx] at g;have p:(qJ m++[x.dot]).Nodup:=by
    grind
   have j:=twice_fold t m' (by simp_all)
   grind
theorem leafXtwice_is (L:List GF):leafXtwice L=some (!onceB L):=by
 unfold leafXtwice;rw [loopL_fold (λs x=>vj GE.eqb s x.dot (IntKind.wrap .i64 ((yC GE.eqb 0 s x.dot)+1))) L 0 [] (λ_ _ _ _=>rfl)];have h:=twice_fold L [] (by simp [qJ]);simp only [uV,tA,qJ,tr,uR] at h;simp only [yB,onceB];congr 1
 grind
theorem leafXitems_is (u:L.length<=maxLen) (g:Bool):leafXitems L g=some (L.all (vL g)&&riseB L&&onceB L):=by
 unfold leafXitems;rw [lp_all (r:=false) (λi x=>vL g x&&(decide (i=0) || yc (prevI L i) x))]
 ·rw [leafXtwice_is];have e:allI (λi x=>vL g x&&(decide (i=0) || yc (prevI L i) x)) L=(L.all (vL g)&&riseB L):=by
   rw [tv,ud,riseB,allI_iff,allI_iff,uq];constructor
   ·intro h;exact ⟨λx m=>by obtain ⟨i,hi⟩:=tm.1 m;have:=h i x hi;simp only [ud] at this;exact this.1,λi x m=>by simp_all⟩
   ·grind
  grind
 ·intro i x m;have hi:i < L.length:=(uc.1 m).1;simp only [dotMay_is,leafXisText_is,leafXisTime_is,ua,vG];have s:vL g x=(wP x.dot&&decide (x.text.length<=40)&&(g==qX x.time)&&(g || decide (x.time=0))):=by
   unfold vL;cases g
   ·by_cases h0:x.time=0
    ·simp [h0,show qX 0=false from rfl]
    ·simp [h0]
   ·simp
  rw [s];cases hd:wP x.dot
  ·simp
  cases ht:decide (x.text.length<=40)
  ·simp
  by_cases htt:g=qX x.time
  ·have t:(x.time != 0)=!decide (x.time=0):=by rw [tv];simp
   have o:(g==qX x.time)=true:=by simp_all
   rw [t,o];cases hzz:(g || decide (x.time=0))
   ·simp_all
   have:(!g&&!decide (x.time=0))=false:=by grind
   rw [this];rcases i with _ | j
   ·simp [yl,htt]
   ·rw [qh (by omega),pos_succ];have p:(j:Int) < (L.length:Int):=by omega
    simp [yl,p,prevI,yc,htt]
    grind
  ·grind

theorem itemEq (a b:GF):(a.time==b.time&&(a.dot.actor.rep==b.dot.actor.rep&&(a.dot.actor.inc==b.dot.actor.inc&&(a.dot.seq==b.dot.seq&&(a.text==b.text&&true)))))=decide (a=b):=by
 rcases a with ⟨a0,⟨⟨j,h⟩,a3⟩,a4⟩;rcases b with ⟨b0,⟨⟨g,m⟩,p⟩,o⟩
 grind
theorem slicesEqualItem_is (L M:List GF):wU L M=some (decide (L=M)):=by
 unfold wU;by_cases hl:L.length=M.length
 ·have e:((L.length:Int) != (M.length:Int))=false:=by simp;omega
  rw [e,same_loop M itemEq L 0 (by omega) (λj x g=>by simp)];by_cases h:L=M <;> simp [h]
 ·have e:((L.length:Int) != (M.length:Int))=true:=by simp;omega
  rw [e,tb (λh=>hl (by rw [h]))];rfl
theorem leafSame_is (a b:GC):leafSame a b=some (decide (a=b)):=by
 unfold leafSame;simp only [slicesEqualItem_is,slicesEqualDot_is,dotEq];rcases a with ⟨a0,m,j,a3,a4,a5,t⟩;rcases b with ⟨b0,g,p,s,r,h,o⟩
 simp only [GC.mk.injEq]
 grind
def dot0:GE:=⟨⟨0,0⟩,0⟩
def zeroB (l:GC):Bool:=decide (l.time=0)&&decide (l.dot=dot0)&&decide (l.text=[])
def tombsB (l:GC):Bool:=l.tombs.all wP&&xW l.tombs&&l.tombs.all (λd=>!l.items.any λx=>decide (x.dot=d))
def leafB (l:GC):Bool :=
 if l.typ=1 then zeroB l&&decide (l.items=[])&&decide (l.tombs=[])
 else if l.typ=2 then decide (l.n=0)&&decide (l.items=[])&&decide (l.tombs=[])&&(if l.time=0 then decide (l.dot=dot0)&&decide (l.text=[]) else qX l.time&&wP l.dot&&decide (l.text.length<=40))
 else if l.typ=3 then decide (l.n=0)&&zeroB l&&(l.items.all (vL false)&&riseB l.items&&onceB l.items)&&tombsB l
 else if l.typ=4 then decide (l.n=0)&&zeroB l&&decide (l.tombs=[])&&(l.items.all (vL true)&&riseB l.items&&onceB l.items)
 else false
theorem containsItem_is {f:GF->Option Bool} (p:List GF) (g:∀x ∈ p,f x=some (q x)):xp p f=some (p.any q):=by
 unfold xp yE;rw [first_loop p g,ua,firstI_any]
theorem leafXhas_is (L:List GF) (d:GE):leafXhas L d=some (L.any λx=>decide (x.dot=d)):=by
 unfold leafXhas;rw [containsItem_is (q:=λx=>decide (x.dot=d)) L (λx _=>by unfold leafXhasC1;rw [dotEq]),ua]
theorem rising_allI (ds:List GE):xW ds=allI (λi x=>xR ds i x) ds:=by
 have h:=rising_loop ds (g:=λi x _=>if (wP x&&xR ds i x)=true then some (.nxt ()) else some (.ret false)) (λ_ _ _=>rfl);have key:∀(L pre:List GE),ds=pre++L->xW (match pre.getLast? with | some y=>y::L | none=>L)=(L.zipIdx pre.length).all λp=>xR ds p.2 p.1:=by
  intro L
  induction L with
  | nil=>intro pre _;cases pre.getLast? <;> simp [xW]
  | cons x t ih =>
   intro pre hd;have j:=ih (pre++[x]) (by rw [hd];simp);simp only [uo,uu,uV,tA,List.getLast?_append,pJ,rM] at j;simp only [pD,tI];cases hp:pre.getLast? with
   | none =>
    have m:pre=[]:=pu.1 hp;subst m;simp only [uV,tA] at j ⊢;rw [j];simp [xR]
   | some y =>
    have o:pre ≠ []:=by grind
    have h0:0 < pre.length:=ph.2 o;have r:ds.getD (pre.length - 1) default=y:=by
     grind
    have s:xR ds pre.length x=ye y x:=by
     unfold xR;rw [r,tb (by omega)];rfl
    rw [s,<- j];simp [xW]
 simpa [allI] using key ds [] rfl
theorem leafXtombs_is (o:l.tombs.length<=maxLen):leafXtombs l=some (tombsB l):=by
 unfold leafXtombs;rw [lp_all (r:=false) (λi x=>wP x&&xR l.tombs i x&&!(l.items.any λy=>decide (y.dot=x)))]
 ·have e:allI (λi x=>wP x&&xR l.tombs i x&&!(l.items.any λy=>decide (y.dot=x))) l.tombs=tombsB l:=by
   unfold tombsB;rw [tv,rising_allI,ud,ud,allI_iff,allI_iff,uq,uq];constructor
   ·intro h;refine ⟨⟨λx g=>?_,λi x g=>?_⟩,λx g=>?_⟩
    ·obtain ⟨i,hi⟩:=tm.1 g;have:=h i x hi;simp only [ud] at this;exact this.1.1
    ·simp_all
    ·obtain ⟨i,hi⟩:=tm.1 g;have:=h i x hi;simp only [ud] at this;exact this.2
   ·grind
  grind
 ·intro i x g;have hi:i < l.tombs.length:=(uc.1 g).1;simp only [dotMay_is,ua,dotCompare_is,leafXhas_is];cases hd:wP x
  ·rfl
  rcases i with _ | j
  ·cases hh:(l.items.any λy=>decide (y.dot=x)) <;> simp [yl,xR]
  ·rw [qh (by omega),pos_succ];have p:(j:Int) < (l.tombs.length:Int):=by omega
   have m:xR l.tombs (j+1) x=ye (l.tombs.getD j default) x:=by rfl
   have e:=dotCmp_lt (l.tombs.getD j default) x;rw [zj (by omega),m,ut]
   grind
theorem leafMay_is (hi:l.items.length<=maxLen) (o:l.tombs.length<=maxLen):qI l=some (leafB l):=by
 unfold qI leafB;simp only [leafSame_is,leafXisTime_is,dotMay_is,leafXisText_is,leafXitems_is hi,leafXtombs_is o,dotEq,ua];rcases l with ⟨t,n,h,d,j,g,m⟩
 simp only [GC.mk.injEq,zeroB,s7,dot0];by_cases h1:t=1
 ·simp only [h1,ur];congr 1;rw [tv];simp [sI]
  grind
 by_cases h2:t=2
 ·subst h2;by_cases h0:h=0
  ·subst h0;by_cases hd:d=⟨⟨0,0⟩,0⟩
   ·by_cases hx:j=[]
    ·simp [hd,hx];rw [tv];simp [sI]
    ·simp_all
   ·have v:((0:Int)==0&&!decide (d=⟨⟨0,0⟩,0⟩))=true:=by simp [hd]
    simp [hd];intro r;rcases d with ⟨⟨u,p⟩,s⟩
    simp_all
  ·cases htt:qX h <;> cases hdd:wP d <;> cases hxx:decide (j.length<=40) <;> simp_all [sI]
   grind
 by_cases h3:t=3
 ·subst h3;cases ha:(g.all (vL false)&&riseB g&&onceB g) <;> cases hb:tombsB ⟨3,n,h,d,j,g,m⟩ <;> simp [sI]
  grind
 by_cases h4:t=4
 ·subst h4;cases ha:(g.all (vL true)&&riseB g&&onceB g) <;> simp [sI]
  grind
 simp_all

theorem ref05Item_is (L:List GF) (d:GE):ref05Item L d=some (qO (λx=>decide (x.dot=d)) L):=by
 unfold ref05Item;rw [loopL_first (λx:GF=>decide (x.dot=d)) (λi _=>(i:Int)) _ _ (λi x _=>by rw [dotEq])];unfold qO;cases h:L.findIdx? (λx=>decide (x.dot=d)) with
 | none=>simp
 | some j =>
  obtain ⟨g,_⟩:=sP.1 h
  simp_all
theorem vA (L:List GE) (d:GE):vB L d=some (L.any λx=>decide (x=d)):=by
 unfold vB;rw [lp_all0 (r:=true) (λx:GE=>!decide (x=d)) (λi x _=>by rw [dotEq];cases decide (x=d) <;> rfl)]
 grind
theorem first_nodup (L:List GF):(∀(i:Nat) (x:GF),L[i]?=some x->qO (λy:GF=>decide (y.dot=x.dot)) L=(i:Int)) ↔ (L.map (·.dot)).Nodup:=by
 constructor
 ·intro h;rw [pq,uZ];intro i j hi g m e;simp only [ul] at hi g;simp only [ru] at e;have s:=h i _ (ue hi);have r:=h j _ (ue g)
  grind
 ·intro h i x p;obtain ⟨hi,rfl⟩:=uc.1 p;unfold qO;have:L.findIdx? (λy=>decide (y.dot=L[i].dot))=some i:=by
   rw [sP];refine ⟨hi,by simp,λj g=>?_⟩;have o:j < L.length:=by omega
   simp only [uj];intro e;rw [pq,uZ] at h
   simp_all
  rw [this]
def itemR (t:Int) (x:GF):Bool:=wP x.dot&&decide (x.text.length<=40)&&(decide (t ≠ 3) || decide (x.time=0))&&(decide (t ≠ 4) || qX x.time)
def tailB (l:GC):Bool:=l.items.all (itemR l.typ)&&onceB l.items&&l.items.all (λx=>!(l.tombs.any λy=>decide (y=x.dot)))&&riseB l.items&&(l.tombs.all wP&&xW l.tombs)
theorem items_allI (l:GC):allI (λi x=>itemR l.typ x&&(decide (qO (λy:GF=>decide (y.dot=x.dot)) l.items=(i:Int))&&(!(l.tombs.any λy=>decide (y=x.dot))&&(decide (i=0) || yc (prevI l.items i) x)))) l.items =
  (l.items.all (itemR l.typ)&&onceB l.items&&l.items.all (λx=>!(l.tombs.any λy=>decide (y=x.dot)))&&riseB l.items):=by
 rw [tv,allI_iff];simp only [ud,uj,onceB,riseB,allI_iff,uq,<- first_nodup];constructor
 ·intro h;refine ⟨⟨⟨λx g=>?_,λi x g=>(h i x g).2.1⟩,λx g=>?_⟩,λi x g=>(h i x g).2.2.2⟩
  ·obtain ⟨i,hi⟩:=tm.1 g;exact (h i x hi).1
  ·obtain ⟨i,hi⟩:=tm.1 g;exact (h i x hi).2.2.1
 ·grind
theorem tombs_allI (ds:List GE):allI (λi x=>wP x&&xR ds i x) ds=(ds.all wP&&xW ds):=by
 rw [tv,allI_iff,rising_allI];simp only [ud,allI_iff,uq];constructor
 ·intro h;exact ⟨λx g=>by obtain ⟨i,hi⟩:=tm.1 g;exact (h i x hi).1,λi x g=>(h i x g).2⟩
 ·grind
theorem ref05May_is (hi:l.items.length<=maxLen) (O:l.tombs.length<=maxLen) (h0:0<=l.time):ref05May l=some (leafB l):=by
 unfold ref05May;simp only [ref03May_is,ref05Item_is,vA,ref05Ahead_is,ref03Less_is,ua,dotEq];generalize hT:lp (zp _ l.items 0 ()) _=T;have K:decide ((l.items.length:Int) > 0)=!decide (l.items=[]):=by cases l.items <;> simp
 have M:decide ((l.tombs.length:Int) > 0)=!decide (l.tombs=[]):=by cases l.tombs <;> simp
 have p:T=some (tailB l):=by
  rw [<- hT,lp_all (r:=false) (λi x=>itemR l.typ x&&(decide (qO (λy:GF=>decide (y.dot=x.dot)) l.items=(i:Int))&&(!(l.tombs.any λy=>decide (y=x.dot))&&(decide (i=0) || yc (prevI l.items i) x))))]
  ·rw [lp_all (r:=false) (λi x=>wP x&&xR l.tombs i x)]
   ·rw [items_allI,tombs_allI];unfold tailB;cases (l.items.all (itemR l.typ)&&onceB l.items&&l.items.all (λx=>!(l.tombs.any λy=>decide (y=x.dot)))&&riseB l.items) <;> cases (l.tombs.all wP&&xW l.tombs) <;> simp
   ·intro i x v;have u:i < l.tombs.length:=(uc.1 v).1;have o:l.tombs.getD i default=x:=by grind
    rcases i with _ | j
    ·cases hd:wP x <;> simp [yl,xR]
    ·rw [qh (by omega),pos_succ,ut,ut,o];have z:xR l.tombs (j+1) x=ye (l.tombs.getD j default) x:=by rfl
     rw [zj (by omega),zj (by omega),z]
     grind
  ·intro i x v;have u:i < l.items.length:=(uc.1 v).1;have D:decide ((x.text.length:Int) > 40)=!decide (x.text.length<=40):=by grind
   have I:(((l.typ==4)&&(decide (x.time < 1) || decide (x.time > 1099511627776))))=!(decide (l.typ ≠ 4) || qX x.time):=by
    rw [tv];simp [qX]
   have E:((l.typ==3)&&(x.time != 0))=!(decide (l.typ ≠ 3) || decide (x.time=0)):=by grind
   rw [D,I,E];have N:(((!wP x.dot || !decide (x.text.length<=40)) || !(decide (l.typ ≠ 3) || decide (x.time=0))) || !(decide (l.typ ≠ 4) || qX x.time))=!itemR l.typ x:=by unfold itemR;simp only [Bool.not_and]
   rw [N];have J:(qO (λy:GF=>decide (y.dot=x.dot)) l.items != (i:Int))=!decide (qO (λy:GF=>decide (y.dot=x.dot)) l.items=(i:Int)):=by rfl
   cases hr:itemR l.typ x
   ·simp
   simp only [tn,BEq.rfl,ur,ua,tj];rw [J];cases hf:decide (qO (λy:GF=>decide (y.dot=x.dot)) l.items=(i:Int))
   ·simp
   cases htb:l.tombs.any λy=>decide (y=x.dot)
   ·rcases i with _ | j
    ·rfl
    ·rw [qh (by omega),pos_succ,ut];rw [zj (by omega),zj (by omega)];have z:(if (l.items.getD j default).time ≠ x.time then decide ((l.items.getD j default).time < x.time) else ye (l.items.getD j default).dot x.dot)=yc (prevI l.items (j+1)) x:=rfl
     grind
   ·simp
 subst p;clear hT;rw [K,M];have G:(l.time != 0)=!decide (l.time=0):=by rfl
 have F:(l.time==0)=decide (l.time=0):=by rfl
 have z3:(l.text==([]:zu))=decide (l.text=[]):=by grind
 have z4:decide (l.time > 1099511627776)=!decide (l.time<=1099511627776):=by grind
 have z5:decide ((l.text.length:Int) > 40)=!decide (l.text.length<=40):=by grind
 have t:zeroB l=(decide (l.time=0)&&decide (l.dot=dot0)&&decide (l.text=[])):=rfl;have H:(l.dot.actor.rep==0&&(l.dot.actor.inc==0&&(l.dot.seq==0&&true)))=decide (l.dot=dot0):=dotEq l.dot dot0;rw [G,F,z3,z4,z5,H];by_cases h1:l.typ=1
 ·have hi:decide (l.items=[])=true->tailB l=(l.tombs.all wP&&xW l.tombs):=by
   intro h;have:=tq h;unfold tailB;rw [this];simp [onceB,riseB,allI]
  unfold leafB;simp only [h1,ur,t];cases hi2:decide (l.items=[])
  ·simp
  ·rw [hi hi2];cases ht2:decide (l.tombs=[])
   ·simp
   ·have:=tq ht2;rw [this];cases decide (l.time=0) <;> cases decide (l.dot=dot0) <;> cases decide (l.text=[]) <;> simp [xW]
 by_cases h2:l.typ=2
 ·have hi:decide (l.items=[])=true->tailB l=(l.tombs.all wP&&xW l.tombs):=by
   intro h;have:=tq h;unfold tailB;rw [this];simp [onceB,riseB,allI]
  unfold leafB;have m:qX l.time=(!decide (l.time=0)&&decide (l.time<=1099511627776)):=by
   unfold qX;rw [tv];simp;omega
  simp only [h2,ur,m];cases hn:decide (l.n=0)
  ·simp_all
  ·have g:l.n=0:=tq hn;cases hi2:decide (l.items=[])
   ·simp [g]
   ·rw [hi hi2];cases ht2:decide (l.tombs=[])
    ·simp [g]
    ·have:=tq ht2;rw [this];by_cases ht0:l.time=0
     ·cases hdd:decide (l.dot=dot0) <;> cases htx:decide (l.text=[]) <;> simp [g,ht0,xW]
     ·cases hm:decide (l.time<=1099511627776) <;> cases hdd:wP l.dot <;> cases htx:decide (l.text.length<=40) <;> simp [g,ht0,xW]
 by_cases h3:l.typ=3
 ·have w:(λx=>itemR 3 x)=vL false:=by
   funext x;unfold itemR vL;simp
  have s:tailB l=(l.items.all (vL false)&&riseB l.items&&onceB l.items&&tombsB l):=by
   unfold tailB tombsB
   grind
  unfold leafB;simp only [h3,s,t];cases hn:decide (l.n=0)
  ·simp_all
  ·have g:l.n=0:=tq hn;cases decide (l.time=0) <;> cases decide (l.dot=dot0) <;> cases decide (l.text=[]) <;> simp [g]
 by_cases h4:l.typ=4
 ·have w:(λx=>itemR 4 x)=vL true:=by
   funext x;unfold itemR vL;simp
  have s:decide (l.tombs=[])=true->tailB l=(l.items.all (vL true)&&riseB l.items&&onceB l.items):=by
   intro h;have:=tq h;unfold tailB;rw [h4,show itemR 4=vL true from w,this];cases l.items.all (vL true) <;> cases onceB l.items <;> cases riseB l.items <;> simp [xW]
  unfold leafB;simp only [h4,t];cases hn:decide (l.n=0)
  ·simp_all
  ·have g:l.n=0:=tq hn;cases ht2:decide (l.tombs=[])
   ·simp [g]
   ·rw [s ht2];cases decide (l.time=0) <;> cases decide (l.dot=dot0) <;> cases decide (l.text=[]) <;> simp [g]
 have C:l.typ < 1 \/ 4 < l.typ:=by omega
 have:(decide (l.typ < 1) || decide (l.typ > 4))=true:=by simp;omega
 unfold leafB
 simp_all

mutual
def GA.dep:GA->Nat
 | ⟨_,_,sb⟩=>GA.deps sb+1
def GA.deps:List GA->Nat
 | []=>0
 | x::r=>max x.dep (GA.deps r)
end
theorem qR {x:GA}:∀{t:List GA},x ∈ t->x.dep<=GA.deps t
 | [],h=>by cases h
 | y::r,h=>by
  simp only [GA.deps];rcases uQ.1 h with rfl | h
  ·omega
  ·have:=qR h;omega
theorem wt (x:GA):GA.deps x.subs+1=x.dep:=by cases x;simp [GA.dep]
def Small (t:List GA):Prop:=GA.wfs t/\GA.bks t<=16777216
theorem bk_pos (x:GA):1<=x.bk:=by cases x;simp only [GA.bk];omega
theorem len_bks:∀t:List GA,t.length<=GA.bks t
 | []=>by simp_all
 | x::r=>by have:=len_bks r;have:=bk_pos x;simp only [GA.bks,uu];omega
theorem bk_mem {x:GA}:∀{t:List GA},x ∈ t->x.bk<=GA.bks t
 | [],h=>by cases h
 | y::r,h=>by
  simp only [GA.bks];rcases uQ.1 h with rfl | h
  ·omega
  ·have:=bk_mem h;omega
theorem sum_len {α:Type} {f:α->Nat} (h:∀x,1<=f x):∀l:List α,l.length<=(l.map f).sum
 | []=>by simp
 | x::r=>by have:=sum_len h r;have:=h x;simp only [uu,uz,si];omega
theorem sum_mem {α:Type} {f:α->Nat} {x:α}:∀{l:List α},x ∈ l->f x<=(l.map f).sum
 | [],h=>by cases h
 | y::r,h=>by
  simp only [uz,si];rcases uQ.1 h with rfl | h
  ·omega
  ·have:=sum_mem (f:=f) h;omega
theorem bk_node (x:GA):x.name.length+1+((x.leaves.map GC.bk).sum+1)+(GA.bks x.subs+1)<=x.bk:=by cases x;simp only [GA.bk];omega
theorem Small.subs {t:List GA} (h:Small t) {x:GA} (g:x ∈ t):Small x.subs:=by
 refine ⟨?_,by have:=bk_mem g;have:=bk_node x;have:=h.2;omega⟩;have:=(GA.wfs_iff t).1 h.1 x g;cases x;simp only [GA.wf] at this;exact this.2.2
theorem Small.len {t:List GA} (h:Small t):t.length<=16777216:=uJ (len_bks t) h.2
structure LeafOk (l:GC):Prop where
 items:l.items.length<=16777216
 tombs:l.tombs.length<=16777216
 time:0<=l.time
theorem Small.leaf {t:List GA} (h:Small t) {x:GA} (j:x ∈ t) {l:GC} (g:l ∈ x.leaves):LeafOk l:=by
 have r:=bk_mem j;have o:=bk_node x;have v:=h.2;have p:l.bk<=_:=sum_mem (f:=GC.bk) g;have u:(l.items.map GF.bk).sum+1+((l.tombs.map GE.bk).sum+1)<=l.bk:=by unfold GC.bk;omega
 have m:=sum_len (f:=GF.bk) (λx=>by unfold GF.bk;omega) l.items;have s:=sum_len (f:=GE.bk) (λx=>by unfold GE.bk;omega) l.tombs;refine ⟨by omega,by omega,?_⟩;have:=(GA.wfs_iff t).1 h.1 x j;cases x;simp only [GA.wf] at this;have:=this.2.1.2 l g;unfold GC.wf at this;have:=this.2.2.1;unfold InK at this;simp [IntKind.min,IntKind.max,IntKind.signed,IntKind.bits] at this;omega
theorem Small.leaves {t:List GA} (h:Small t) {x:GA} (g:x ∈ t):x.leaves.length<=16777216:=by
 have o:=bk_mem g;have m:=bk_node x;have p:=h.2;have j:=sum_len (f:=GC.bk) (λx=>by unfold GC.bk;omega) x.leaves;omega
def upB (t:List GA):Bool:=allI (λi x=>decide (i=0) || Op.bytesLess (t.getD (i - 1) default).name x.name) t
def leavesB (ls:List GC):Bool:=allI (λi l=>leafB l&&(decide (i=0) || decide ((ls.getD (i - 1) default).typ < l.typ))) ls
mutual
def nodeB (d:Nat):GA->Bool
 | ⟨nm,ls,sb⟩=>nameB nm&&!(ls.isEmpty&&sb.isEmpty)&&((sb.isEmpty || decide (d+1 < 3))&&upB sb&&qe (d+1) sb)&&leavesB ls
def qe (d:Nat):List GA->Bool
 | []=>true
 | x::r=>nodeB d x&&qe d r
end
def treeB (d:Nat) (t:List GA):Bool:=(t.isEmpty || decide (d < 3))&&upB t&&qe d t
theorem yU (d:Nat):∀t,qe d t=t.all (nodeB d)
 | []=>rfl
 | x::r=>by simp only [qe,tI,yU d r]
theorem nodeB_eq (d:Nat) (x:GA):nodeB d x=(nameB x.name&&!(x.leaves.isEmpty&&x.subs.isEmpty)&&treeB (d+1) x.subs&&leavesB x.leaves):=by cases x;rfl
theorem up_nodes (d:Nat) (t:List GA):allI (λi x=>nodeB d x&&(decide (i=0) || Op.bytesLess (t.getD (i - 1) default).name x.name)) t=(upB t&&qe d t):=by
 rw [tv,allI_iff,yU];simp only [ud,upB,allI_iff,uq];constructor
 ·intro h;exact ⟨λi x g=>(h i x g).2,λx g=>by obtain ⟨i,hi⟩:=tm.1 g;exact (h i x hi).1⟩
 ·grind
theorem lenE {α:Type} (l:List α):((l.length:Int)==0)=l.isEmpty:=by cases l <;> simp;omega
theorem treeXmayN_is:∀(n:Nat) (t:List GA) (d:Nat),GA.deps t < n->d<=3->Small t->qi n t (d:Int)=some (treeB d t)
 | 0,_,_,h,_,_=>by omega
 | n+1,t,d,h,hd,hs=>by
  unfold qi;by_cases hc:(decide ((t.length:Int) > 0)&&((d:Int)==3))=true
  ·rw [uv hc];simp only [ud,uj,s7] at hc;have:t.isEmpty=false:=by grind
   have g:decide (d < 3)=false:=tb (by omega);simp [treeB,this,g]
  ·rw [uC hc];have v:(t.isEmpty || decide (d < 3))=true:=by
    simp only [ud,uj,s7] at hc;cases t with
    | nil=>rfl
    | cons x r=>simp at hc ⊢;omega
   have M:=hs.len;rw [lp_all (r:=false) (λi x=>nodeB d x&&(decide (i=0) || Op.bytesLess (t.getD (i - 1) default).name x.name)),up_nodes]
   ·unfold treeB;rw [v,uU]
    grind
   ·intro i x z;have hi:i < t.length:=(uc.1 z).1;have p:=uW z;have C:=qR p;have F:=wt x;have D:0 < t.length:=by omega
    have g:d < 3:=by
     grind
    have I:IntKind.wrap .i64 ((d:Int)+1)=((d+1:Nat):Int):=by rw [x9 (by omega)];omega
    have K:=treeXmayN_is n x.subs (d+1) (by omega) (by omega) (hs.subs p);have E:=hs.leaves p;have G:=(hs.subs p).len;have u:IntKind.wrap .i64 ((x.leaves.length:Int)+(x.subs.length:Int))=((x.leaves.length+x.subs.length:Nat):Int):=by rw [x9 (by omega)];omega
    have H:((((x.leaves.length+x.subs.length:Nat):Int))==0)=(x.leaves.isEmpty&&x.subs.isEmpty):=by
     cases h1:x.leaves <;> cases h2:x.subs <;> simp <;> omega
    rw [opIsName_is,I,K,u,H,nodeB_eq];have w:lp (zp (λ(n2:Nat) (y:GC) (s2:Unit)=>(((qI y).bind λo=>(yl ((((!o)==false)&&((decide ((n2:Int) > (0:Int)))==true))=true->0<=(IntKind.wrap .i64 ((n2:Int) - (1:Int)))/\(IntKind.wrap .i64 ((n2:Int) - (1:Int))) < ((x.leaves).length:Int)) ((if ((!o) || ((decide ((n2:Int) > (0:Int)))&&(decide (((x.leaves).getD (IntKind.wrap .i64 ((n2:Int) - (1:Int))).toNat default).typ >= y.typ))))=true then some (.ret (.ret false)) else some (.nxt ()))))):Option (Out (Out Bool Unit) Unit))) x.leaves 0 ()) (λ(s2:Unit)=>some (.nxt ()))=if leavesB x.leaves=true then some (.nxt ()) else some (.ret false):=by
     rw [lp_all (r:=.ret false) (λi l=>leafB l&&(decide (i=0) || decide ((x.leaves.getD (i - 1) default).typ < l.typ)))]
     ·rfl
     ·intro j l m;have J:j < x.leaves.length:=(uc.1 m).1;have s:=hs.leaf p (uW m);rw [leafMay_is (by have:=s.items;simp only [maxLen];omega) (by have:=s.tombs;simp only [maxLen];omega)];simp only [ua];rcases j with _ | j
      ·cases leafB l <;> simp [yl]
      ·rw [qh (by simp only [maxLen];omega),pos_succ,ut,zj (by omega)]
       grind
    rw [w];simp only [ua];rcases i with _ | j
    ·cases nameB x.name <;> cases (x.leaves.isEmpty&&x.subs.isEmpty) <;> cases treeB (d+1) x.subs <;> cases leavesB x.leaves <;> simp [yl]
    ·rw [qh (by simp only [maxLen];omega),pos_succ,ut,zj (by omega),rG]
     grind
theorem treeMay_is {t:List GA} (h:Small t):qx t=some (treeB 0 t):=by
 unfold qx treeXmay;have:=qT (g:=λn=>qi n t 0) (r:=treeB 0 t) (GA.deps t+1) (λn j=>by have:=treeXmayN_is n t 0 (by omega) (by omega) h;simpa using this)
 simp_all
theorem ref07XmayN_is:∀(n:Nat) (t:List GA) (d:Nat),GA.deps t < n->d<=3->Small t->vp n t (d:Int)=some (treeB d t)
 | 0,_,_,h,_,_=>by omega
 | n+1,t,d,h,hd,hs=>by
  unfold vp;have G:=hs.len;rw [lp_all (r:=false) (λi x=>decide (d < 3)&&(nodeB d x&&(decide (i=0) || Op.bytesLess (t.getD (i - 1) default).name x.name)))]
  ·have e:allI (λi x=>decide (d < 3)&&(nodeB d x&&(decide (i=0) || Op.bytesLess (t.getD (i - 1) default).name x.name))) t=treeB d t:=by
    unfold treeB;rw [Bool.and_assoc,<- up_nodes];cases hd3:decide (d < 3)
    ·cases t with
     | nil=>rfl
     | cons x r=>simp [allI]
    ·simp
   grind
  ·intro i x v;have hi:i < t.length:=(uc.1 v).1;have o:=uW v;have w:=qR o;have z:=wt x;have p:decide ((d:Int) >= 3)=!decide (d < 3):=by grind
   rw [p];by_cases hd3:d < 3
   ·have C:IntKind.wrap .i64 ((d:Int)+1)=((d+1:Nat):Int):=by rw [x9 (by omega)];omega
    have F:=ref07XmayN_is n x.subs (d+1) (by omega) (by omega) (hs.subs o);have y:=hs.leaves o;rw [ref04IsName_is,C,F,nodeB_eq,lenE,lenE];have u:lp (zp (λ(n2:Nat) (D:GC) (s2:Unit)=>(((ref05May D).bind λv50=>(yl ((((!v50)==false)&&((decide ((n2:Int) > (0:Int)))==true))=true->0<=(IntKind.wrap .i64 ((n2:Int) - (1:Int)))/\(IntKind.wrap .i64 ((n2:Int) - (1:Int))) < ((x.leaves).length:Int)) ((yl ((((!v50)==false)&&((decide ((n2:Int) > (0:Int)))==true))=true->0<=(n2:Int)/\(n2:Int) < ((x.leaves).length:Int)) ((if ((!v50) || ((decide ((n2:Int) > (0:Int)))&&(decide (((x.leaves).getD (IntKind.wrap .i64 ((n2:Int) - (1:Int))).toNat default).typ >= ((x.leaves).getD (n2:Int).toNat default).typ))))=true then some (.ret (.ret false)) else some (.nxt ()))))))):Option (Out (Out Bool Unit) Unit))) x.leaves 0 ()) (λ(s2:Unit)=>some (.nxt ()))=if leavesB x.leaves=true then some (.nxt ()) else some (.ret false):=by
     rw [lp_all (r:=.ret false) (λi l=>leafB l&&(decide (i=0) || decide ((x.leaves.getD (i - 1) default).typ < l.typ)))]
     ·rfl
     ·intro j l m;have E:j < x.leaves.length:=(uc.1 m).1;have s:x.leaves.getD j default=l:=by simp_all
      have g:=hs.leaf o (uW m);rw [ref05May_is (by have:=g.items;simp only [maxLen];omega) (by have:=g.tombs;simp only [maxLen];omega) g.time];simp only [ua];rcases j with _ | j
      ·cases leafB l <;> simp [yl]
      ·rw [qh (by simp only [maxLen];omega),pos_succ,ut,ut,s,zj (by omega),zj (by omega)]
       grind
    rw [u,uT hd3];simp only [ua,tn,tj,uU,BEq.rfl,ur];rcases i with _ | j
    ·cases nameB x.name <;> cases (x.leaves.isEmpty&&x.subs.isEmpty) <;> cases treeB (d+1) x.subs <;> cases leavesB x.leaves <;> simp [yl]
    ·rw [qh (by simp only [maxLen];omega),pos_succ,ut,zj (by omega),rG]
     grind
   ·rw [tb hd3];rfl
theorem ref07May_is {t:List GA} (h:Small t):ref07May t=some (treeB 0 t):=by
 unfold ref07May ref07Xmay;have:=qT (g:=λn=>vp n t 0) (r:=treeB 0 t) (GA.deps t+1) (λn j=>by have:=ref07XmayN_is n t 0 (by omega) (by omega) h;simpa using this)
 simp_all

theorem loopW_end {ρ:Type} {f:σ->Option (Out ρ σ)} (j:σ->Prop) (m:σ->Nat) (h:∀s,j s->(∃g,f s=some (.brk g)) \/ ∃g,f s=some (.nxt g)/\j g/\m g < m s):∀(k:Nat) (s:σ),m s=k->j s->∃g,zZ f s=some (.inr g):=by
 intro k
 induction k using Nat.strongRecOn with
 | _ k ih =>
  intro s o hi;rw [yI];rcases h s hi with ⟨g,e⟩ | ⟨g,e,r,p⟩
  ·simp_all
  ·grind
theorem lpW_end {ρ:Type} {f:σ->Option (Out ρ σ)} {rest:σ->Option ρ} (g:σ->Prop) (m:σ->Nat) (p:∀s,∃v,rest s=some v) (o:σ) (hi:g o) (h:∀s,g s->(∃j,f s=some (.brk j)) \/ ∃j,f s=some (.nxt j)/\g j/\m j < m s):∃v,lp (zZ f o) rest=some v:=by
 obtain ⟨j,e⟩:=loopW_end g m h _ o rfl hi
 simp_all
theorem idx_mem {α:Type} {L:List α} {i:Int} {x:α} (h:zQ L i=some x):x ∈ L:=by
 unfold zQ at h
 grind
theorem size_tot:∀(n:Nat) (t:List GA) (d:Int),GA.deps t < n->Small t->∃v,xj n t d=some v
 | 0,_,_,h,_=>by omega
 | n+1,t,d,h,hs=>by
  unfold xj;have G:=hs.len;refine lpW_end (λs=>0<=s.2/\s.2<=(t.length:Int)) (λs=>(t.length - s.2.toNat)) (λ_=>⟨_,rfl⟩) _ ⟨by simp,by simp⟩ (λs hi=>?_);rcases s with ⟨a,i⟩
  obtain ⟨k,rfl⟩:∃k:Nat,i=(k:Int):=⟨i.toNat,by have:=hi.1;simp at this;omega⟩
  by_cases hc:(decide ((k:Int) < (t.length:Int))&&decide (d < 10))=true
  ·right;simp only [ud,uj] at hc;have r:k < t.length:=by omega
   have w:t[k] ∈ t:=sJ r;have z:=qR w;have D:=wt t[k];obtain ⟨v,E⟩:=size_tot n t[k].subs (IntKind.wrap .i64 (d+1)) (by omega) (hs.subs w);have C:=hs.leaves w;obtain ⟨s2,y⟩:=loopW_end (ρ:=Out Int (Int×Int)) (σ:=Int×Int) (f:=λs2:Int×Int=>(((zQ t (k:Int)).bind λp=>(if decide (s2.2 < ((p.leaves).length:Int))=true then ((zQ t (k:Int)).bind λm=>((zQ m.leaves s2.2).bind λg=>(lp (zp (λ(F:Nat) (u:GF) (o:Int)=>(some (.nxt (IntKind.wrap .i64 ((IntKind.wrap .i64 (o+(1:Int)))+((u.text).length:Int)))):Option (Out _ Int))) g.items 0 (IntKind.wrap .i64 ((IntKind.wrap .i64 ((IntKind.wrap .i64 (s2.1+(1:Int)))+((g.text).length:Int)))+((g.tombs).length:Int)))) λ(o:Int)=>some (.nxt (o,(IntKind.wrap .i64 (s2.2+(1:Int)))))))) else some (.brk (s2.1,s2.2)))):Option (Out (Out Int (Int×Int)) (Int×Int))))
    (λs=>0<=s.2/\s.2<=(t[k].leaves.length:Int)) (λs=>(t[k].leaves.length - s.2.toNat)) (λs hi=>by
     rcases s with ⟨b,i⟩
     obtain ⟨q,rfl⟩:∃q:Nat,i=(q:Int):=⟨i.toNat,by have:=hi.1;simp at this;omega⟩
     simp only [qL r,ua];by_cases hq:q < t[k].leaves.length
     ·right;have j:decide ((q:Int) < (t[k].leaves.length:Int))=true:=by simpa using hq
      simp only [j,ur,qL hq,ua];rw [loopL_fold (λ(o:Int) (u:GF)=>IntKind.wrap .i64 ((IntKind.wrap .i64 (o+(1:Int)))+((u.text).length:Int))) _ 0 _ (λ_ _ _ _=>rfl),yB];refine ⟨_,rfl,?_,?_⟩
      ·simp only;rw [x9 (by omega)];omega
      ·simp only;rw [x9 (by omega)];omega
     ·left;have j:decide ((q:Int) < (t[k].leaves.length:Int))=false:=by simp;omega
      simp only [j];exact ⟨_,rfl⟩) _ ((IntKind.wrap .i64 ((IntKind.wrap .i64 ((IntKind.wrap .i64 (a+(1:Int)))+((t[k].name).length:Int)))+v)),(0:Int)) rfl ⟨by simp,by simp⟩
   refine ⟨(s2.1,IntKind.wrap .i64 ((k:Int)+1)),?_,?_,?_⟩
   ·simp only [hc,rW,tf,ur,qL r,ua,E];simp only [qL r,ua] at y;rw [y];rfl
   ·simp only;rw [x9 (by omega)];omega
   ·simp only;rw [x9 (by omega)];omega
  ·left;refine ⟨(a,(k:Int)),?_⟩;simp only at hc ⊢
   grind
theorem size_fuel:∀(n m:Nat) (t:List GA) (d:Int),GA.deps t < n->GA.deps t < m->xj n t d=xj m t d
 | 0,_,_,_,h,_=>by omega
 | _+1,0,_,_,_,h=>by omega
 | n+1,m+1,t,d,h1,h2=>by
  unfold xj;congr 2;funext s;split
  ·cases hx:zQ t s.2 with
   | none=>rfl
   | some y =>
    have g:=qR (idx_mem hx);have j:=wt y;simp only [ua];rw [size_fuel n m y.subs _ (by omega) (by omega)]
  ·rfl
theorem ref07Great_tot {t:List GA} (h:Small t):∃b,qb t=some b:=by
 unfold qb ref07Xsize;obtain ⟨v,g⟩:∃v,∀n,GA.deps t+1<=n->xj n t 0=some v:=by
  obtain ⟨v,g⟩:=size_tot (GA.deps t+1) t 0 (by omega) h;exact ⟨v,λn j=>by rw [size_fuel n (GA.deps t+1) t 0 (by omega) (by omega)];exact g⟩
 rw [qT (GA.deps t+1) g]
 simp_all

theorem clone_is {α:Type} {L:List α} (h:L.length<=lim):(nilq L λg=>(if g=true then some ([]:List α) else (yl ((([]:List α)).length+L.length<=lim) (some (([]:List α)++L)))))=some L:=by
 refine nilq_of ?_ λe=>by subst e;rfl
 rw [zj (by simpa using h)];simp
theorem cloneString_is {L:List zu} (h:L.length<=lim):vg L=some L:=clone_is h
theorem qS (h:L.length<=lim):yW L=some L:=clone_is h
theorem qr {L:List GE} (h:L.length<=lim):yS L=some L:=clone_is h
mutual
def rowsN (a:List zu):GA->List GL
 | ⟨nm,ls,sb⟩=>ls.map (λl=>GL.mk (a++[nm]) l)++zx (a++[nm]) sb
def zx (a:List zu):List GA->List GL
 | []=>[]
 | x::r=>rowsN a x++zx a r
end
mutual
def keepN (is:List zu->Bool) (a:List zu):GA->GA
 | ⟨nm,ls,sb⟩=>⟨nm,if is (a++[nm])=true then ls else [],keepL is (a++[nm]) sb⟩
def keepL (is:List zu->Bool) (a:List zu):List GA->List GA
 | []=>[]
 | x::r=>if (keepN is a x).leaves.isEmpty&&(keepN is a x).subs.isEmpty then keepL is a r else keepN is a x::keepL is a r
end
theorem wh (a:List zu) (x:GA):rowsN a x=x.leaves.map (λl=>GL.mk (a++[x.name]) l)++zx (a++[x.name]) x.subs:=by cases x;rfl
theorem yT (a:List zu):∀t,zx a t=t.flatMap (rowsN a)
 | []=>rfl
 | x::r=>by simp only [zx,sm,yT a r]
theorem loop_keep {α j ρ:Type} (p:α->Bool) (g:α->j) {f:Nat->α->List j->Option (Out ρ (List j))}:∀(L:List α) (i:Nat) (s:List j),s.length+L.length<=lim->(∀i x s,x ∈ L->s.length+1<=lim->f i x s=if p x=true then some (.nxt (s++[g x])) else some (.nxt s)) ->
  zp f L i s=some (.inr (s++(L.filter p).map g))
 | [],_,s,_,_=>by simp [zp]
 | x::t,i,s,hl,h=>by
  simp only [uu] at hl;simp only [zp,h i x s (tT ..) (by omega),sK];cases hp:p x
  ·simp only [uk,uH];exact loop_keep p g t (i+1) s (by omega) λi x s m=>h i x s (tF _ m)
  ·simp only [ur];rw [loop_keep p g t (i+1) (s++[g x]) (by simp;omega) λi x s m=>h i x s (tF _ m)];simp
theorem deps_bks:∀(n:Nat) (t:List GA),GA.deps t<=n->GA.deps t<=GA.bks t:=by
 intro n
 induction n with
 | zero=>intro t g;omega
 | succ n ih =>
  intro t
  induction t with
  | nil=>intro _;simp [GA.deps]
  | cons x r ihr =>
   intro g;simp only [GA.deps] at g ⊢;simp only [GA.bks];have m:=ihr (by omega);have h:=wt x;have o:=ih x.subs (by omega);have j:=bk_node x;omega
theorem Small.dep {t:List GA} (h:Small t):GA.deps t<=16777216:=uJ (deps_bks _ t (uh _)) h.2
theorem xG:∀{a b c:List UInt8},Op.bytesLess a b=true->Op.bytesLess b c=true->Op.bytesLess a c=true
 | _,[],_,h,_=>by cases ‹List UInt8› <;> simp [Op.bytesLess] at h
 | a,b::y,[],_,h=>by simp [Op.bytesLess] at h
 | [],b::y,c::z,_,_=>rfl
 | a::x,b::y,c::z,j,g=>by
  simp only [Op.bytesLess,tG,uj,ud,s7] at j g ⊢;rcases j with j | ⟨rfl,j⟩
  ·grind
  ·rcases g with g | ⟨rfl,g⟩
   ·simp_all
   ·right;exact ⟨rfl,xG j g⟩
theorem qw (t:List GA):upB t=true ↔ t.Pairwise (λx y=>Op.bytesLess x.name y.name=true):=by
 unfold upB;rw [allI_iff];constructor
 ·intro h;rw [uZ];intro i j hi g m;obtain ⟨k,rfl⟩:∃k,j=i+1+k:=⟨j - i - 1,by omega⟩
  induction k with
  | zero =>
   have:=h (i+1) _ (ue g)
   simp_all
  | succ k ih =>
   have o:=ih (by omega) (by omega);have:=h (i+1+(k+1)) _ (ue g);simp only [tG,uj] at this;rcases this with h0 | h0
   ·omega
   ·rw [show i+1+(k+1) - 1=i+1+k by omega,uA,ue (by omega)] at h0;exact xG o h0
 ·intro h i x p;rcases i with _ | i
  ·rfl
  ·rw [uZ] at h
   grind
section
variable (is:List zu->Bool)
theorem vk {M:List GA->Prop} (h0:M []) (g:∀x r,M x.subs->M r->M (x::r)):∀t,M t:=by
 have key:∀(n:Nat) (t:List GA),GA.deps t<=n->M t:=by
  intro n
  induction n with
  | zero =>
   intro t h;cases t with
   | nil=>exact h0
   | cons x r=>simp only [GA.deps] at h;have:=wt x;omega
  | succ n ih =>
   intro t
   induction t with
   | nil=>intro _;exact h0
   | cons x r ihr =>
    intro h;simp only [GA.deps] at h;have:=wt x
    grind
 exact λt=>key _ t (uh _)
theorem keep_small:∀(t:List GA) (a:List zu),(GA.wfs t->GA.wfs (keepL is a t))/\GA.bks (keepL is a t)<=GA.bks t:=by
 refine vk (λa=>⟨λh=>h,uh _⟩) ?_;intro x r j g a;have o:(keepN is a x).bk<=x.bk:=by
  have:=(j (a++[x.name])).2;cases x with
  | mk nm ls sb =>
   simp only [keepN,GA.bk] at this ⊢
   grind
 have m:x.wf->(keepN is a x).wf:=by
  have:=(j (a++[x.name])).1;cases x with
  | mk nm ls sb =>
   simp only [keepN,GA.wf] at this ⊢
   grind
 simp only [keepL];split
 ·refine ⟨λh=>(g a).1 (by simp only [GA.wfs] at h;exact h.2),?_⟩;have:=(g a).2;simp only [GA.bks];omega
 ·refine ⟨λh=>?_,?_⟩
  ·simp only [GA.wfs] at h ⊢;exact ⟨m h.1,(g a).1 h.2⟩
  ·have:=(g a).2;simp only [GA.bks];omega
theorem Small.keep {t:List GA} (h:Small t) (a:List zu):Small (keepL is a t):=⟨(keep_small is t a).1 h.1,uJ (keep_small is t a).2 h.2⟩
end
theorem ref05Same_refl (l:GC):ref05Same l l=some true:=by
 unfold ref05Same;simp only [dotEq,itemEq];rw [uC (by simp),lp_all (r:=false) (λ_ _=>true),lp_all (r:=false) (λ_ _=>true)]
 ·simp [allI]
 ·intro i x g;have hi:=(uc.1 g).1;have h:l.tombs[i]=x:=(uc.1 g).2;rw [qL hi,h];simp
 ·intro i x g;have hi:=(uc.1 g).1;have h:l.items[i]=x:=(uc.1 g).2;rw [qL hi,h];simp
theorem ref07SameN_refl:∀(n:Nat) (t:List GA),GA.deps t < n->qa n t t=some true
 | 0,_,h=>by omega
 | n+1,t,h=>by
  unfold qa;rw [uC (by simp),lp_all (r:=false) (λ_ _=>true)]
  ·simp [allI]
  ·intro i x m;have hi:=(uc.1 m).1;have s:t[i]=x:=(uc.1 m).2;have hd:t.getD i default=x:=by simp_all
   have p:=qR (uW m);have v:=wt x;rw [qL hi,s];simp only [ua,ut,hd,ref07SameN_refl n x.subs (by omega)];rw [zj (by omega),zj (by omega),zj (by omega),zj (by omega)];rw [lp_all (r:=.ret false) (λ_ _=>true)]
   ·simp [allI]
   ·intro j l o;have u:=(uc.1 o).1;have g:x.leaves[j]=l:=(uc.1 o).2;rw [qL u,g];simp [ref05Same_refl]
theorem ref07Same_refl (t:List GA):ref07Same t t=some true:=by
 unfold ref07Same;exact qT (GA.deps t+1) λn g=>ref07SameN_refl n t (by omega)

theorem small_of {t:List GA} (h:t.length<=maxLen/\∀y ∈ t,GA.wf y) (g:(t.map GA.bk).sum<=16777216):Small t:=⟨(GA.wfs_iff t).2 h.2,by rw [GA.bks_eq];exact g⟩
theorem half_mid {lo hi:Nat} (h:lo < hi) (p:hi<=4611686018427387904):IntKind.wrap .i64 (Int.fdiv (IntKind.wrap .u64 (IntKind.wrap .i64 ((lo:Int)+(hi:Int)))) (2 ^ (min (1:Int).toNat (IntKind.bits .u64))))=(((lo+hi) / 2:Nat):Int):=by
 have g:IntKind.wrap .i64 ((lo:Int)+(hi:Int))=((lo+hi:Nat):Int):=by rw [x9 (by omega)];omega
 have o:IntKind.wrap .u64 (((lo+hi:Nat):Int))=((lo+hi:Nat):Int):=by rw [IntKind.wrap_u64];omega
 have j:(2:Int) ^ (min (1:Int).toNat (IntKind.bits .u64))=2:=by decide
 rw [g,o,j,Int.fdiv_eq_ediv_of_nonneg _ (by decide)];have m:((lo+hi:Nat):Int) / 2=(((lo+hi) / 2:Nat):Int):=by omega
 rw [m,x9 (by omega)]
theorem bs_loop {cmp:GA->zu->Option Int} {x:List GA} {s:zu} (z:x.length<=16777216) (t:∀i n,x[i]?=some n->∃v,cmp n s=some v/\(i < c->v < 0)/\(c<=i->0<=v)) :
  ∀(k lo hi:Nat),hi - lo<=k->lo<=c->c<=hi->hi<=x.length->zZ (ρ:=Int×Bool) (λ(g:Int×Int)=>((if (decide (g.1 < g.2))=true then ((zQ x (IntKind.wrap .i64 ((Int.fdiv (IntKind.wrap .u64 ((IntKind.wrap .i64 (g.1+g.2)))) (2 ^ (min (1:Int).toNat (IntKind.bits .u64))))))).bind λu=>((cmp u s).bind λh=>(if (decide (h < (0:Int)))=true then some (.nxt ((IntKind.wrap .i64 ((IntKind.wrap .i64 ((Int.fdiv (IntKind.wrap .u64 ((IntKind.wrap .i64 (g.1+g.2)))) (2 ^ (min (1:Int).toNat (IntKind.bits .u64))))))+(1:Int))),g.2)) else some (.nxt (g.1,(IntKind.wrap .i64 ((Int.fdiv (IntKind.wrap .u64 ((IntKind.wrap .i64 (g.1+g.2)))) (2 ^ (min (1:Int).toNat (IntKind.bits .u64))))))))))) else some (.brk (g.1,g.2))):Option (Out _ (Int×Int)))) ((lo:Int),(hi:Int))=some (.inr ((c:Int),(c:Int))):=by
 intro k
 induction k with
 | zero =>
  intro lo hi r j o hh;obtain rfl:lo=hi:=by omega
  obtain rfl:lo=c:=by omega
  rw [yI];simp
 | succ k ih =>
  intro lo hi r j o hh;rw [yI];by_cases hlt:lo < hi
  ·have hd:decide ((lo:Int) < (hi:Int))=true:=uT (by omega);simp only [hd,ur,half_mid hlt (by omega)];have m:(lo+hi) / 2 < x.length:=by omega
   rw [qL m,ua];obtain ⟨v,w,p,y⟩:=t ((lo+hi) / 2) _ (ue m);rw [w,ua];by_cases hcm:(lo+hi) / 2 < c
   ·rw [uT (p hcm),uv rfl];simp only;have e:IntKind.wrap .i64 ((((lo+hi) / 2:Nat):Int)+1)=(((lo+hi) / 2+1:Nat):Int):=by rw [x9 (by omega)];omega
    rw [e];exact ih _ _ (by omega) (by omega) o hh
   ·rw [tb (by omega)];simp only [uk,uH];exact ih _ _ (by omega) j (by omega) (by omega)
  ·grind
theorem bs_is {cmp:GA->zu->Option Int} {x:List GA} {s:zu} (m:x.length<=16777216) (j:c<=x.length) (g:∀i n,x[i]?=some n->∃v,cmp n s=some v/\(i < c->v < 0)/\(c<=i->0<=v)) :
  zn x s cmp=(if c < x.length then cmp (x.getD c default) s else some 1).bind λv=>some ((c:Int),(decide (c < x.length)&&(v==0))):=by
 unfold zn;have:=bs_loop m g x.length 0 x.length (by omega) (tz _) j (uh _);simp only [rx] at this;rw [show ((0:Int),(x.length:Int))=(((0:Nat):Int),(x.length:Int)) from rfl] at *;rw [this];simp only [lp];by_cases h:c < x.length
 ·have hd:decide ((c:Int) < (x.length:Int))=true:=uT (by omega);simp only [hd,h,ur,ut,uP,rW,uU];rw [zj (by omega)]
 ·have hd:decide ((c:Int) < (x.length:Int))=false:=tb (by omega);simp only [hd,h,uH,s9,rk,ua];rfl
theorem cmp_less {b:List UInt8}:Lib.compareBytes a b < 0 ↔ Op.bytesLess a b=true:=by
 induction a generalizing b with
 | nil=>cases b <;> simp [Lib.compareBytes,Op.bytesLess]
 | cons x a ih =>
  cases b with
  | nil=>simp [Lib.compareBytes,Op.bytesLess]
  | cons y b =>
   simp only [Lib.compareBytes,Op.bytesLess]
   grind
theorem cmp_self (a:List UInt8):Lib.compareBytes a a=0:=by
 induction a with
 | nil=>rfl
 | cons x a ih=>simp [Lib.compareBytes,ih]
theorem layC1_is (n:GA) (s:zu):xJ n s=some (Lib.compareBytes n.name s):=rfl
theorem cloneLeaf_is {L:List GC} (h:L.length<=lim):xA L=some L:=clone_is h
theorem cloneNode_is {L:List GA} (h:L.length<=lim):yY L=some L:=clone_is h
theorem yV (h:n<=16777217):n<=lim:=uJ h (by decide)
theorem own_is (h:LeafOk l):diffXown l=some l:=by
 unfold diffXown;rw [qS (yV (sS h.items)),ua,qr (yV (sS h.tombs)),ua]
def preR (a:List zu) (r:GL):GL:=⟨a++r.path,r.leaf⟩
theorem rows_pre:∀(t:List GA) (a b:List zu),zx (a++b) t=(zx b t).map (preR a):=by
 refine vk (λ_ _=>rfl) ?_;intro x r h g a b;rw [yT,yT,sm,sm,<- yT,<- yT,g,tE];congr 1;rw [wh,wh,uB,h,tE,s6];rfl
theorem rows_path:∀(t:List GA) (a:List zu) (r:GL),r ∈ zx a t->a.length < r.path.length/\r.path.length<=a.length+GA.deps t:=by
 refine vk (λ_ _ h=>by simp [zx] at h) ?_;intro x r s m a q g;rw [yT,sm,uD,<- yT] at g;have o:x.dep<=GA.deps (x::r):=qR (by simp);have j:=wt x;have p:GA.deps r<=GA.deps (x::r):=by
  simp only [GA.deps];omega
 rcases g with g | g
 ·rw [wh,uD,tZ] at g
  grind
 ·grind
theorem ql (h:leavesB ls=true):ls.Pairwise (λx y=>x.typ < y.typ)/\∀l ∈ ls,leafB l=true:=by
 unfold leavesB at h;rw [allI_iff] at h;have r:∀l ∈ ls,leafB l=true:=λl p=>by
  obtain ⟨i,hi⟩:=tm.1 p
  grind
 refine ⟨?_,r⟩;have g:∀i,(hi:i+1 < ls.length)->ls[i].typ < ls[i+1].typ:=λi hi=>by
  have:=h (i+1) _ (ue hi)
  grind
 rw [uZ];intro i j hi o m;obtain ⟨k,rfl⟩:∃k,j=i+1+k:=⟨j - (i+1),by omega⟩
 clear m
 induction k with
 | zero=>exact g i o
 | succ k ih=>exact Int.lt_trans (ih (by omega)) (g (i+1+k) o)
theorem Small.tail {x:GA} {r:List GA} (h:Small (x::r)):Small r:=by
 refine ⟨(GA.wfs_iff r).2 λy g=>(GA.wfs_iff _).1 h.1 y (by simp [g]),?_⟩;have:=h.2;simp only [GA.bks] at this;omega
def pathLt (a b:List zu):Prop:=(∃y q,b=a++y::q) \/ ∃p x y a' b',a=p++x::a'/\b=p++y::b'/\Op.bytesLess x y=true
theorem vq:∀(a:List UInt8),Op.bytesLess a a=false
 | []=>rfl
 | x::a=>by simp [Op.bytesLess,vq a]
theorem less_ne {b:List UInt8} (h:Op.bytesLess a b=true):a ≠ b:=by
 rintro rfl;rw [vq] at h;cases h
def rowLt (r q:GL):Prop:=pathLt r.path q.path \/ (r.path=q.path/\r.leaf.typ < q.leaf.typ)
theorem rows_head {t:List GA} {a:List zu} {r:GL} (h:r ∈ zx a t):∃x ∈ t,∃w,r.path=a++x.name::w:=by
 rw [yT,List.mem_flatMap] at h;obtain ⟨x,g,h⟩:=h;refine ⟨x,g,?_⟩;rw [wh,uD,tZ] at h;rcases h with ⟨l,_,rfl⟩ | h
 ·simp_all
 ·have:=rows_pre x.subs (a++[x.name]) [];rw [sq] at this;rw [this,tZ] at h;obtain ⟨q,_,rfl⟩:=h;exact ⟨q.path,by simp [preR]⟩
theorem rows_lt:∀(t:List GA) (d:Nat) (a:List zu),upB t=true->qe d t=true->(zx a t).Pairwise rowLt:=by
 refine vk (λ_ _ _ _=>List.Pairwise.nil) ?_;intro x r H G d a u C;rw [yT,sm,<- yT];rw [qw,uL] at u;simp only [qe,ud] at C;obtain ⟨j,s⟩:=C;rw [nodeB_eq] at j;simp only [ud] at j;obtain ⟨⟨⟨_,_⟩,g⟩,v⟩:=j;simp only [treeB,ud] at g;obtain ⟨p,_⟩:=ql v;rw [u9];refine ⟨?_,G d a (qw r |>.2 u.2) s,λq o J m=>?_⟩
 ·rw [wh,u9];refine ⟨?_,H (d+1) _ g.1.2 g.2,λq o J m=>?_⟩
  ·rw [py];exact p.imp λh=>.inr ⟨rfl,h⟩
  ·rw [tZ] at o;obtain ⟨l,_,rfl⟩:=o;obtain ⟨y,_,w,e⟩:=rows_head m;exact .inl (.inl ⟨y.name,w,e⟩)
 ·have D:∃w,q.path=a++x.name::w:=by
   have:q ∈ zx a [x]:=by rw [yT];simpa using o
   obtain ⟨z,K,w,e⟩:=rows_head this
   simp_all
  obtain ⟨w,I⟩:=D;obtain ⟨y,F,w',E⟩:=rows_head m;exact .inl (.inr ⟨a,x.name,y.name,w,w',I,E,u.1 y F⟩)
structure RowOk' (r:GL):Prop where
 path:pathB r.path=true
 leaf:leafB r.leaf=true
 ok:LeafOk r.leaf
theorem rows_ok:∀(t:List GA) (d:Nat) (a:List zu),Small t->treeB d t=true->a.length=d->a.all nameB=true->∀r ∈ zx a t,RowOk' r:=by
 have key:∀(t:List GA),(∀(d:Nat) (a:List zu),Small t->qe d t=true->d < 3->a.length=d->a.all nameB=true->∀r ∈ zx a t,RowOk' r):=by
  refine vk (λ_ _ _ _ _ _ _ _ h=>by simp [zx] at h) ?_;intro x r D s d a hs z hd v C q g;rw [yT,sm,uD,<- yT] at g;simp only [qe,ud] at z;obtain ⟨m,u⟩:=z;rcases g with g | g
  ·rw [nodeB_eq] at m;simp only [ud] at m;obtain ⟨⟨⟨E,_⟩,j⟩,w⟩:=m;have p:(a++[x.name]).all nameB=true:=by simp_all
   rw [wh,uD,tZ] at g;rcases g with ⟨l,o,rfl⟩ | g
   ·refine ⟨?_,(ql w).2 l o,hs.leaf (by simp) o⟩;simp only [pathB,p,rC,uo,uu,uV,ud,uj];omega
   ·simp only [treeB,ud,tG,pK,uj] at j;rcases j.1.1 with h0 | h0
    ·rw [h0] at g;simp [zx] at g
    ·exact D (d+1) _ (hs.subs (by simp)) j.2 h0 (by simp [v]) p q g
  ·exact s d a hs.tail u hd v C q g
 intro t d a hs y v C r s;simp only [treeB,ud,tG,pK,uj] at y;rcases y.1.1 with h0 | h0
 ·rw [h0] at s;simp [zx] at s
 ·grind
theorem small_nil:Small []:=⟨(GA.wfs_iff []).2 (by simp),by simp [GA.bks]⟩
theorem tree_nil (d:Nat):treeB d []=true:=by rfl
theorem leafNew_tot (k:Int):∃v,vX k=some v:=by unfold vX;split <;> exact ⟨_,rfl⟩
theorem pathB_ne {p:List zu} (h:pathB p=true):p ≠ []:=by
 rintro rfl
 simp [pathB] at h
theorem pathAll {p:List zu} {f:zu->Option Bool} (j:∀x,f x=some (nameB x)):(lp (zp (λ(_:Nat) (g:zu) (_:Unit)=>(((f g).bind λv9=>(if (!v9)=true then some (.ret false) else some (.nxt ()))):Option (Out _ Unit))) p 0 ()) λ(_:Unit)=>some ((decide (((p).length:Int) >= (1:Int)))&&(decide (((p).length:Int)<=(3:Int)))))=some (pathB p):=by
 rw [loopL_all nameB false _ _ (λi x _=>by grind),bnd1,bnd3];unfold pathB;cases h:p.all nameB <;> simp
theorem ref04MayPath_is (p:List zu):ref04MayPath p=some (pathB p):=pathAll ref04IsName_is
def wT (k:Int):Int:=if k=1 then 1 else if k=2 then 2 else if k=3 \/ k=4 then 3 else if k=5 then 4 else 0
def opB (o:GK):Bool:=decide (1<=o.kind)&&decide (o.kind<=5)&&pathB o.path&&decide (o.text.length<=40)&&decide (o.dots.length<=64) &&
 (if o.kind=1 then decide (-1000000<=o.n)&&decide (o.n<=1000000)&&(o.text==[])&&decide (o.dots.length=0)
   else decide (o.n=0)&&(decide (o.kind=4) || decide (o.dots.length=0))&&(o.dots.all wP&&xW o.dots))
theorem ref04Type_is (k:Int):ref04Type k=some (wT k):=by unfold ref04Type wT;grind
theorem opType_is (k:Int):opType k=some (wT k):=by
 unfold opType opXof wT;by_cases h:k < 1 \/ 5 < k
 ·grind
 ·have g:¬ (decide (k < 1) || decide (k > 5))=true:=by simp;omega
  rw [uC g];rcases (show k=1 \/ k=2 \/ k=3 \/ k=4 \/ k=5 by omega) with rfl | rfl | rfl | rfl | rfl <;> rfl
theorem wrap_pred (h0:0 < i) (g:i<=9223372036854775807):(IntKind.wrap .i64 ((i:Int) - 1))=((i - 1:Nat):Int):=by rw [x9 (by omega)];omega
theorem opXdrops_is (o:GK):opXdrops o=some (decide (o.n=0)&&decide (o.text.length<=40)&&decide (o.dots.length<=64)&&(o.dots.all wP&&xW o.dots)):=by
 unfold opXdrops;by_cases hc:o.n ≠ 0 \/ 40 < o.text.length \/ 64 < o.dots.length
 ·grind
 ·have h:¬ ((o.n != 0 || decide (((o.text).length:Int) > 40)) || decide (((o.dots).length:Int) > 64))=true:=by simp;omega
  rw [uC h,rising_loop]
  ·simp_all
  ·intro i x p;have hi:i < o.dots.length:=(uc.1 p).1;simp only [dotMay_is,ua];by_cases h0:i=0
   ·subst h0;cases hd:wP x <;> simp [yl,xR,hd]
   ·have m:decide ((i:Int) > 0)=true:=by simp;omega
    have g:=wrap_pred (i:=i) (by omega) (by omega);rw [g,ut];have j:xR o.dots i x=ye (o.dots.getD (i - 1) default) x:=by unfold xR;rw [tb h0];rfl
    rw [zj (by omega),m,j];generalize o.dots.getD (i - 1) default=y;cases hd:wP x
    ·simp
    ·have e:=dotCmp_lt y x;simp only [dotCompare_is,tn,tj,uU,BEq.rfl,ur,ua,e]
     grind
theorem nil_rises (h:ds.length=0):(ds.all wP&&xW ds)=true:=by
 have:ds=[]:=uF h;subst this;rfl
theorem lenB {α:Type} (l:List α):((l.length:Int)==0)=decide (l.length=0):=by
 grind
theorem opMay_is (o:GK):opMay o=some (opB o):=by
 unfold opMay opXof opB;by_cases h:o.kind < 1 \/ 5 < o.kind
 ·grind
 ·have m:¬ (decide (o.kind < 1) || decide (o.kind > 5))=true:=by simp;omega
  rw [uC m,opMayPath_is];have j:=nil_rises (ds:=o.dots);rcases (show o.kind=1 \/ o.kind=2 \/ o.kind=3 \/ o.kind=4 \/ o.kind=5 by omega) with g | g | g | g | g <;> rw [g] <;>
   simp only [zQ,Int.toNat,ua,callOp,opXadds,opXplain,opXdrops_is,lenB] <;> generalize (o.dots.all wP&&xW o.dots)=R at j ⊢ <;> cases hp:pathB o.path <;> simp [g] <;> grind
theorem ref04May_is (o:GK):ref04May o=some (opB o):=by
 unfold ref04May opB;rw [ref04Type_is];simp only [ua,ref04MayPath_is];have D:=nil_rises (ds:=o.dots);by_cases h:o.kind < 1 \/ 5 < o.kind
 ·have E:(decide (1<=o.kind)&&decide (o.kind<=5))=false:=by rw [Bool.and_eq_false_iff];simp;omega
  have j:wT o.kind=0:=by unfold wT;grind
  grind
 ·have j:(wT o.kind==0)=false:=by unfold wT;grind
  have t:(decide (1<=o.kind)&&decide (o.kind<=5))=true:=by simp;omega
  by_cases hb:40 < o.text.length \/ 64 < o.dots.length
  ·grind
  ·rw [rising_loop]
   ·have r:decide ((o.text.length:Int) > 40)=false:=tb (by omega);have z:decide ((o.dots.length:Int) > 64)=false:=tb (by omega);have s:decide (o.text.length<=40)=true:=uT (by omega);have v:decide (o.dots.length<=64)=true:=uT (by omega);have p:decide ((o.dots.length:Int) > 0)=!decide (o.dots.length=0):=by
     grind
    rw [j,t,r,z,s,v,p,lenB]
    grind
   ·intro i x C;have hi:i < o.dots.length:=(uc.1 C).1;simp only [ref03May_is,ua];by_cases h0:i=0
    ·subst h0;cases hd:wP x <;> simp [yl,xR]
    ·have w:decide ((i:Int) > 0)=true:=by simp;omega
     have m:=wrap_pred (i:=i) (by omega) (by omega);rw [m,ut,ut];have u:xR o.dots i x=ye (o.dots.getD (i - 1) default) x:=by unfold xR;rw [tb h0];rfl
     have g:o.dots.getD i default=x:=by simp_all
     rw [zj (by omega),zj (by omega),w,u,g];generalize o.dots.getD (i - 1) default=y;cases hd:wP x
     ·simp
     ·simp only [ref03Less_is,tn,tj,uU,BEq.rfl,ur,ua]
      grind
def eventB (e:GH):Bool:=wP e.dot&&decide (e.time >= 1)&&decide (e.time<=1099511627776)&&opB e.op
theorem opMayEvent_is (e:GH):qd e=some (eventB e):=by
 unfold qd eventB;rw [dotMay_is,opMay_is];simp only [ua]
 grind
theorem ref04MayEvent_is (e:GH):x7 e=some (eventB e):=by
 unfold x7 eventB;rw [ref03May_is,ref04May_is];simp only [ua]
 grind
theorem loopL_tot {α ρ σ:Type} {f:Nat->α->σ->Option (Out ρ σ)}:∀(L:List α) (i:Nat) (s:σ),(∀i x s,x ∈ L->∃o,f i x s=some o)->∃v,zp f L i s=some v
 | [],_,_,_=>⟨_,rfl⟩
 | x::t,i,s,h=>by
  obtain ⟨o,g⟩:=h i x s (tT ..);simp only [zp,g];cases o with
  | ret r=>exact ⟨_,rfl⟩
  | brk s=>exact ⟨_,rfl⟩
  | nxt s=>exact loopL_tot t (i+1) s λi y s j=>h i y s (tF _ j)
theorem wE {ρ:Type} {f:σ->Option (Out ρ σ)} (m j:σ->Prop) (o:σ->Nat) (h:∀s,m s->(∃g,f s=some (.brk g)/\j g) \/ ∃g,f s=some (.nxt g)/\m g/\o g < o s):∀(k:Nat) (s:σ),o s=k->m s->∃g,zZ f s=some (.inr g)/\j g:=by
 intro k
 induction k using Nat.strongRecOn with
 | _ k ih =>
  intro s p hi;rw [yI]
  grind
theorem idxF_is {q:GC->Bool} {del:GC->Option Bool}:∀(L:List GC) (n:Nat),(∀x ∈ L,del x=some (q x)) ->
  (zp (λ(g:Nat) (j:GC) (_:Unit)=>(((del j).bind λo=>(if o=true then some (.ret (g:Int)) else some (.nxt ()))):Option (Out Int Unit))) L n ()=some (.inr ())/\∀x ∈ L,q x=false) \/
  ∃A x B,L=A++x::B/\q x=true/\(∀y ∈ A,q y=false)/\zp (λ(g:Nat) (j:GC) (_:Unit)=>(((del j).bind λo=>(if o=true then some (.ret (g:Int)) else some (.nxt ()))):Option (Out Int Unit))) L n ()=some (.inl ((n+A.length:Nat):Int))
 | [],n,_=>.inl ⟨rfl,by simp⟩
 | x::r,n,h=>by
  have m:=h x (by simp);cases hq:q x with
  | true=>exact .inr ⟨[],x,r,rfl,hq,by simp,by simp [zp,m,hq]⟩
  | false =>
   rcases idxF_is r (n+1) (λy p=>h y (by simp [p])) with ⟨e,s⟩ | ⟨A,y,B,rfl,t,s,e⟩
   ·refine .inl ⟨by simp only [zp,m,hq,ua];exact e,?_⟩
    simp_all
   ·refine .inr ⟨x::A,y,B,rfl,t,?_,?_⟩
    ·simp_all
    ·simp only [zp,m,hq,ua]
     grind
theorem xL {a:Nat} (h:a<=16777216):IntKind.wrap .i64 ((a:Int)+1)=((a+1:Nat):Int):=wrap_add1 (uJ (pI h) (by decide))
noncomputable def delF (del:GC->Option Bool) (n:Nat):Int×Int×(List GC)->Option (Out (List GC) (Int×Int×(List GC))):=λs1=>((yl ((s1.2.2).length=n) ((if (decide (s1.2.1 < ((n:Nat):Int)))=true then ((zQ s1.2.2 s1.2.1).bind λy14=>((del y14).bind λv15=>(if (!v15)=true then ((zQ s1.2.2 s1.1).bind λy17=>some (.nxt ((IntKind.wrap .i64 (s1.1+(1:Int))),(IntKind.wrap .i64 (s1.2.1+(1:Int))),(s1.2.2.set s1.1.toNat y14)))) else some (.nxt (s1.1,(IntKind.wrap .i64 (s1.2.1+(1:Int))),s1.2.2))))) else some (.brk (s1.1,s1.2.1,s1.2.2))))))
theorem delR_eq (h:List GC) (g:GC->Option Bool):wo h g=((yu h g).bind λo=>(if (o==(-1:Int))=true then some h else (lp (zZ (delF g h.length) (o,(IntKind.wrap .i64 (o+(1:Int))),h)) λ(j:Int×Int×(List GC))=>(yl (0<=j.1/\j.1<=((h.length:Nat):Int)) (((slc (j.2.2.take j.1.toNat++List.replicate (h.length - j.1.toNat) zLf) (0:Int) j.1).bind λm=>some m)))))):=rfl
theorem delF_run {q:GC->Bool} (y:L0.length<=16777216) (h:∀x ∈ L0,del x=some (q x)) {a0 b0:Nat} (D:a0 < b0) (C:b0<=L0.length) (G:L0.take a0=(L0.take b0).filter λx=>!q x) :
  ∃o,zZ (delF del L0.length) ((a0:Int),(b0:Int),L0)=some (.inr o)/\∃a:Nat,o.1=(a:Int)/\a < L0.length/\o.2.2.length=L0.length/\o.2.2.take a=L0.filter λx=>!q x:=by
 refine wE (f:=delF del L0.length) (λs=>∃a b:Nat,s.1=(a:Int)/\s.2.1=(b:Int)/\a < b/\b<=L0.length/\s.2.2.length=L0.length/\s.2.2.take a=(L0.take b).filter (λx=>!q x)/\s.2.2.drop b=L0.drop b)
  _ (λs=>L0.length - s.2.1.toNat) ?_ _ _ rfl ⟨a0,b0,rfl,rfl,D,C,rfl,G,rfl⟩
 rintro ⟨i,j,M⟩ ⟨a,b,v,z,I,w,t,u,p⟩
 simp only at v z t u p;subst v z;simp only [delF,yl,t,ur];by_cases hb:b < L0.length
 ·right;have F:M[b]?=L0[b]?:=by
   have:=congrArg (λl=>l[0]?) p
   grind
  have E:L0[b]?=some L0[b]:=ue hb;have hd:=h L0[b] (sJ hb);have m:zQ M (b:Int)=some L0[b]:=by simp [zQ,F]
  have g:zQ M (a:Int)=some (M[a]'(by omega)):=by simp [zQ]
  rw [uv (by simp;omega),m,ua,hd,ua];have r:L0.take (b+1)=L0.take b++[L0[b]]:=by simp_all
  cases hq:q L0[b] with
  | true =>
   refine ⟨((a:Int),((b+1:Nat):Int),M),by simp [xL (uJ w y)],⟨a,b+1,rfl,rfl,by omega,by omega,t,?_,?_⟩,by simp;omega⟩
   ·grind
   ·have:=congrArg (λl=>l.drop 1) p;simpa [tB] using this
  | false =>
   refine ⟨(((a+1:Nat):Int),((b+1:Nat):Int),M.set a L0[b]),by simp [g,xL (uJ w y),xL (show a<=16777216 by omega)],⟨a+1,b+1,rfl,rfl,by omega,by omega,by simp_all,?_,?_⟩,by simp;omega⟩
   ·rw [tC,sU (uh _),u,r,tU,uE (by omega)];simp [hq]
   ·have:=congrArg (λl=>l.drop 1) p;rw [sV (by omega)];simpa [tB] using this
 ·left;have H:b=L0.length:=by omega
  rw [uC (by simp;omega)]
  grind
theorem deleteR_is {q:GC->Bool} (s:L0.length<=16777216) (h:∀x ∈ L0,del x=some (q x)):wo L0 del=some (L0.filter λx=>!q x):=by
 rw [delR_eq];unfold yu;rcases idxF_is L0 0 h with ⟨e,m⟩ | ⟨A,x,B,r,p,m,e⟩
 ·rw [e];simp only [lp,ua,uP,ur];rw [tM.2 (λx z=>by simp_all)]
 ·rw [e];have j:L0.length=A.length+1+B.length:=by grind
  simp only [lp,ua,tA];rw [uC (by simp_all),xL (by omega)];obtain ⟨g,t,a,o,C,u,v⟩:=delF_run s h (a0:=A.length) (b0:=A.length+1) (by omega) (by omega) (by
   rw [r,pj,tX,uM (by omega),show A.length+1 - A.length=1 by omega,tU];simp only [sF,pR,sK,p,List.filter_nil];rw [tM.2 (λy w=>by simp_all)];simp)
  rw [t];simp only [yl];rw [uv (by omega),o];have hs:slc (g.2.2.take ((a:Int)).toNat++List.replicate (L0.length - ((a:Int)).toNat) zLf) (0:Int) (a:Int)=some (g.2.2.take a):=by
   unfold slc
   grind
  simp_all

theorem less_tot:∀(a b:List UInt8),a=b \/ Op.bytesLess a b=true \/ Op.bytesLess b a=true
 | [],[]=>.inl rfl
 | [],_::_=>.inr (.inl rfl)
 | _::_,[]=>.inr (.inr rfl)
 | x::a,y::b=>by
  by_cases h:x=y
  ·subst h;rcases less_tot a b with rfl | h | h
   ·simp_all
   ·exact .inr (.inl (by simp [Op.bytesLess,h]))
   ·exact .inr (.inr (by simp [Op.bytesLess,h]))
  ·have g:x.toNat ≠ y.toNat:=λe=>h (UInt8.toNat_inj.1 e);rcases Nat.lt_or_gt_of_ne g with h | h
   ·exact .inr (.inl (by simp [Op.bytesLess,rR,h]))
   ·exact .inr (.inr (by simp [Op.bytesLess,rR,h]))
def pltB:List zu->List zu->Bool
 | _,[]=>false
 | [],_::_=>true
 | x::a,y::b=>Op.bytesLess x y || (decide (x=y)&&pltB a b)
theorem plt_irr:∀a,pltB a a=false
 | []=>rfl
 | x::a=>by simp [pltB,vq,plt_irr a]
theorem plt_trans:∀{a b c:List zu},pltB a b=true->pltB b c=true->pltB a c=true
 | _,[],_,h,_=>by cases ‹List zu› <;> simp [pltB] at h
 | _,_::_,[],_,h=>by simp [pltB] at h
 | [],_::_,_::_,_,_=>rfl
 | x::a,y::b,z::c,j,g=>by
  simp only [pltB,tG,ud,uj] at *;rcases j with j | ⟨rfl,j⟩
  ·rcases g with g | ⟨rfl,g⟩
   ·exact .inl (xG j g)
   ·simp_all
  ·rcases g with g | ⟨rfl,g⟩
   ·simp_all
   ·exact .inr ⟨rfl,plt_trans j g⟩
theorem plt_path:∀{a b:List zu},pltB a b=true->pathLt a b
 | _,[],h=>by cases ‹List zu› <;> simp [pltB] at h
 | [],y::b,_=>.inl ⟨y,b,rfl⟩
 | x::a,y::b,h=>by
  simp only [pltB,tG,ud,uj] at h;rcases h with h | ⟨rfl,h⟩
  ·exact .inr ⟨[],x,y,a,b,rfl,rfl,h⟩
  ·rcases plt_path h with ⟨z,q,rfl⟩ | ⟨p,u,v,a',g,rfl,rfl,j⟩
   ·exact .inl ⟨z,q,rfl⟩
   ·exact .inr ⟨x::p,u,v,a',g,rfl,rfl,j⟩
theorem path_plt {a b:List zu} (h:pathLt a b):pltB a b=true:=by
 rcases h with ⟨y,q,rfl⟩ | ⟨p,x,y,a',g,rfl,rfl,h⟩
 ·induction a with
  | nil=>rfl
  | cons x a ih=>simp [pltB,ih]
 ·induction p with
  | nil=>simp [pltB,h]
  | cons x a ih=>simp [pltB,ih]
def Key:=List zu×Int
def kltB (a b:Key):Bool:=pltB a.1 b.1 || (decide (a.1=b.1)&&decide (a.2 < b.2))
theorem klt_irr (a:Key):kltB a a=false:=by simp [kltB,plt_irr]
theorem klt_trans {a b c:Key} (h:kltB a b=true) (g:kltB b c=true):kltB a c=true:=by
 simp only [kltB,tG,ud,uj] at *;rcases h with h | ⟨j,h⟩
 ·rcases g with g | ⟨m,g⟩
  ·exact .inl (plt_trans h g)
  ·simp_all
 ·grind
def vZ (r:GL):Key:=(r.path,r.leaf.typ)
theorem sortO_lt {α:Type} {c:α->α->Option Int} {cf:α->α->Int} {lt:α->α->Prop} {L R:List α} (H:∀x ∈ L,∀y ∈ L,c x y=some (cf x y)) (w:∀x y,cf x y < 0 ↔ lt x y) (p:∀x,¬ lt x x) (u:∀x y z,lt x y->lt y z->lt x z)
  (D:∀x ∈ L,∀y ∈ L,x=y \/ lt x y \/ lt y x) (t:R.Perm L) (hs:R.Pairwise lt) (E:L.length<=lim):qY c L=some R:=by
 unfold qY;rw [uv (λx g y j=>by simp_all)];have hd:∀x ∈ L,∀y ∈ L,(c x y).getD 0 < 0 ↔ lt x y:=λx g y j=>by simp_all
 have r:∀x y,lt x y->¬ lt y x:=λx y o m=>p x (u _ _ _ o m);have v:R.Pairwise λa b=>¬ (c b a).getD 0 < 0:=by
  have:R.Pairwise λa b=>a ∈ L/\b ∈ L/\lt a b:=by
   refine pC ?_ hs
   grind
  refine this.imp ?_
  simp_all
 refine sortF_of ⟨λx g h=>p x ((hd x g x g).1 h),λx y z g j s o m=>(hd x g z s).2 (u _ _ _ ((hd x g y j).1 o) ((hd y j z s).1 m)),λx y z g j s o m G=>?_⟩ E ⟨t,v⟩ ?_
 ·grind
 ·rintro M ⟨F,C⟩
  refine sorted_one (F.trans t.symm) C v λx y g j o m=>?_
  grind
theorem cmp_pos:∀{a b:List UInt8},Op.bytesLess b a=true->0 < Lib.compareBytes a b
 | [],b,h=>by cases b <;> simp [Op.bytesLess] at h
 | _::_,[],_=>by simp [Lib.compareBytes]
 | x::a,y::b,h=>by
  simp only [Op.bytesLess,tG,ud,uj,s7] at h;rcases h with h | ⟨rfl,h⟩
  ·have j:y.toNat < x.toNat:=rR.1 h;have g:¬ x < y:=λe=>by grind
   simp [Lib.compareBytes,h,g]
  ·have:=cmp_pos h;simp [Lib.compareBytes,this]
def NLt (s:zu) (A:List GA):Prop:=∀y ∈ A,Op.bytesLess y.name s=true
def NGt (s:zu) (B:List GA):Prop:=∀y ∈ B,Op.bytesLess s y.name=true
theorem split_up {t:List GA} (s:zu) (h:upB t=true):(∃A B,t=A++B/\NLt s A/\NGt s B) \/ ∃A x B,t=A++x::B/\x.name=s/\NLt s A/\NGt s B:=by
 rw [qw] at h
 induction t with
 | nil=>exact .inl ⟨[],[],rfl,λ_ h=>by simp at h,λ_ h=>by simp at h⟩
 | cons x t ih =>
  obtain ⟨p,o⟩:=uL.1 h;rcases less_tot x.name s with e | e | e
  ·exact .inr ⟨[],x,t,rfl,e,λ_ h=>by simp at h,λy g=>by simp_all⟩
  ·rcases ih o with ⟨A,B,rfl,m,j⟩ | ⟨A,z,B,rfl,r,m,j⟩
   ·refine .inl ⟨x::A,B,rfl,λy g=>?_,j⟩;rcases uQ.1 g with rfl | g
    ·exact e
    ·exact m y g
   ·refine .inr ⟨x::A,z,B,rfl,r,λy g=>?_,j⟩
    grind
  ·refine .inl ⟨[],x::t,rfl,λ_ h=>by simp at h,λy g=>?_⟩;rcases uQ.1 g with rfl | g
   ·exact e
   ·exact xG e (p y g)
theorem bs_none {A B:List GA} {s:zu} (t:(A++B).length<=16777216) (o:NLt s A) (h:NGt s B):zn (A++B) s (λj r=>xJ j r)=some ((A.length:Int),false):=by
 rw [bs_is (c:=A.length) t (by simp) λi m hi=>⟨_,layC1_is m s,λg=>by
   rw [un g] at hi;exact cmp_less.2 (o m (uW hi)),λg=>by
   rw [um g] at hi;exact Int.le_of_lt (cmp_pos (h m (uW hi)))⟩]
 cases B with
 | nil=>simp
 | cons y B =>
  have e:(A++y::B).getD A.length default=y:=by simp
  have:=cmp_pos (h y (by simp));rw [uv (by simp),e,layC1_is];have p:(Lib.compareBytes y.name s==0)=false:=by simp;omega
  simp [p]
theorem bs_some {A B:List GA} {x:GA} {s:zu} (t:(A++x::B).length<=16777216) (hs:x.name=s) (o:NLt s A) (r:NGt s B):zn (A++x::B) s (λh p=>xJ h p)=some ((A.length:Int),true):=by
 subst hs;rw [bs_is (c:=A.length) t (by simp) λi m hi=>⟨_,layC1_is m x.name,λg=>by
   rw [un g] at hi;exact cmp_less.2 (o m (uW hi)),λg=>by
   rw [um g] at hi;rcases uQ.1 (uW hi) with rfl | j
   ·rw [cmp_self];exact tR _
   ·exact Int.le_of_lt (cmp_pos (r m j))⟩]
 have e:(A++x::B).getD A.length default=x:=by simp
 rw [uv (by simp),e,layC1_is,cmp_self];simp
noncomputable def layIn (n:Nat) (path1:List zu) (kind2:Int) (l3:GC) (there4:Bool) (s1:zu×(List GC)×(List GA)):Option (List GA ⊕ ((List GC)×(List GA))):=((if (decide (((path1).length:Int) > (1:Int)))=true then ((slc path1 (1:Int) ((path1).length:Int)).bind λm20=>((xV n s1.2.2 m20 kind2 l3 there4).bind λv21=>some (.inr (s1.2.1,v21)))) else ((xA s1.2.1).bind λv22=>((wo v22 (λx0=>diffXlayC2 x0 kind2)).bind λv23=>(if there4=true then ((diffXown l3).bind λv25=>(yl ((v23).length+(([v25]:List GC)).length<=lim) (((qY (λx y=>diffXlayC3 x y) (v23++([v25]:List GC))).bind λv27=>some (.inr (v27,s1.2.2)))))) else some (.inr (v23,s1.2.2)))))):Option (_ ⊕ ((List GC)×(List GA))))
noncomputable def layRest (t0:List GA) (i:Int) (f:Bool) (nm:zu) (s2:(List GC)×(List GA)):Option (List GA):=((slc t0 (0:Int) i).bind λm28=>((yY m28).bind λv29=>(if (decide ((IntKind.wrap .i64 (((s2.1).length:Int)+((s2.2).length:Int))) > (0:Int)))=true then (yl ((v29).length+(([(GA.mk nm s2.1 s2.2)]:List GA)).length<=lim) ((if f=true then ((slc t0 (IntKind.wrap .i64 (i+(1:Int))) ((t0).length:Int)).bind λm35=>(yl (((v29++([(GA.mk nm s2.1 s2.2)]:List GA))).length+(m35).length<=lim) (some ((v29++([(GA.mk nm s2.1 s2.2)]:List GA))++m35)))) else ((slc t0 i ((t0).length:Int)).bind λm37=>(yl (((v29++([(GA.mk nm s2.1 s2.2)]:List GA))).length+(m37).length<=lim) (some ((v29++([(GA.mk nm s2.1 s2.2)]:List GA))++m37))))))) else (if f=true then ((slc t0 (IntKind.wrap .i64 (i+(1:Int))) ((t0).length:Int)).bind λm40=>(yl ((v29).length+(m40).length<=lim) (some (v29++m40)))) else ((slc t0 i ((t0).length:Int)).bind λm42=>(yl ((v29).length+(m42).length<=lim) (some (v29++m42))))))))
theorem layN_eq (n:Nat) (t0:List GA) (g:List zu) (j:Int) (r:GC) (h:Bool):xV (n+1) t0 g j r h=((zQ g (0:Int)).bind λv=>((zn t0 v (λs u=>xJ s u)).bind λm=>((zQ g (0:Int)).bind λt=>(lp ((if m.2=true then ((zQ t0 m.1).bind λo=>some (.inr (o.name,o.leaves,o.subs))) else some (.inr (t,([]:List GC),([]:List GA)))):Option (_ ⊕ (zu×(List GC)×(List GA)))) λ(p:zu×(List GC)×(List GA))=>(lp (layIn n g j r h p) λ(s2:(List GC)×(List GA))=>layRest t0 m.1 m.2 p.1 s2))))):=rfl
def qn (k:Int) (l:GC) (there:Bool) (ls:List GC):List GC:=if there=true then ls.filter (λx=>decide (x.typ < k))++[l]++ls.filter (λx=>decide (k < x.typ)) else ls.filter (λx=>!decide (x.typ=k))
theorem ups_inj (h:ls.Pairwise λx y=>x.typ < y.typ) {x y:GC} (g:x ∈ ls) (j:y ∈ ls) (e:x.typ=y.typ):x=y:=by
 induction ls with
 | nil=>simp at g
 | cons z r ih =>
  obtain ⟨o,m⟩:=uL.1 h
  grind
theorem layLs_up (g:there=true->l.typ=k) (h:ls.Pairwise λx y=>x.typ < y.typ):(qn k l there ls).Pairwise λx y=>x.typ < y.typ:=by
 unfold qn;split
 ·rename_i m;have g:=g m;rw [u9,u9];refine ⟨⟨h.filter _,by simp,λx o y j=>?_⟩,h.filter _,λx o y j=>?_⟩
  ·simp_all
  ·grind
 ·grind
theorem sortLs_is (m:l.typ=k) (r:ls.length<=16777216) (h:ls.Pairwise λx y=>x.typ < y.typ):qY (λx y=>diffXlayC3 x y) (ls.filter (λx=>!decide (x.typ=k))++[l])=some (qn k l true ls):=by
 have p:=rf (λx:GC=>!decide (x.typ=k)) ls;refine sortO_lt (α:=GC) (cf:=λx y=>cmpI x.typ y.typ) (lt:=λx y=>x.typ < y.typ) (λx _ y _=>by unfold diffXlayC3;rw [cmpU8is];rfl) (λx y=>by unfold cmpI;split <;> (try split) <;> omega) (λx h=>by omega) (λx y z o s=>by omega) ?_ ?_ (layLs_up (λ_=>m) h) (yV (by simp;omega))
 ·intro x j y g;rcases Int.lt_trichotomy x.typ y.typ with e | e | e
  ·omega
  ·left;rcases uD.1 j with j | j <;> rcases uD.1 g with g | g
   ·exact ups_inj h (tO.1 j).1 (tO.1 g).1 e
   ·simp_all
   ·simp_all
   ·simp_all
  ·omega
 ·unfold qn;rw [uv rfl];have o:(ls.filter (λx=>decide (x.typ < k))++ls.filter (λx=>decide (k < x.typ))).Perm (ls.filter λx=>!decide (x.typ=k)):=by
   have:=rK (λx:GC=>decide (x.typ < k)) (ls.filter λx=>!decide (x.typ=k));rw [rH,rH] at this;refine List.Perm.trans (.of_eq ?_) this;congr 1 <;> refine rN λx _=>?_ <;> rw [tv] <;> simp <;> omega
  grind
theorem layIn_leaf {s:zu} {m:zu} {sb:List GA} (j:there=true->l.typ=k/\LeafOk l) (g:ls.length<=16777216) (h:ls.Pairwise λx y=>x.typ < y.typ) :
  layIn n [s] k l there (m,ls,sb)=some (.inr (qn k l there ls,sb)):=by
 unfold layIn;have o:decide (((([s]:List zu).length:Int)) > 1)=false:=rfl;have t:=rf (λx:GC=>!decide (x.typ=k)) ls;simp only [o,uk,uH];rw [cloneLeaf_is (yV (by omega)),ua,deleteR_is (q:=λx=>decide (x.typ=k)) g (λx _=>by rfl),ua];cases there with
 | false=>simp [qn]
 | true =>
  obtain ⟨r,p⟩:=j rfl;simp only [ur];rw [own_is p,ua,zj (yV (by simp;omega)),sortLs_is r g h,ua]
theorem layIn_sub {s a:zu} {r:List zu} {j:zu} {sb g:List GA} (o:(s::a::r).length<=16777216) (h:xV n sb (a::r) k l there=some g):layIn n (s::a::r) k l there (j,ls,sb)=some (.inr (ls,g)):=by
 unfold layIn;have m:decide ((((s::a::r).length:Int)) > 1)=true:=uT (by grind);simp only [m,ur];rw [slc_at ⟨by omega,by grind,tR _⟩,ua];have p:((s::a::r).take (((s::a::r).length:Int)).toNat).drop (1:Int).toNat=a::r:=by rw [ut,sa];rfl
 simp_all
def fitN (nm:zu) (ls:List GC) (sb:List GA):List GA:=if ls.length+sb.length=0 then [] else [⟨nm,ls,sb⟩]
theorem layRest_is {A B:List GA} {m:List GA} {o:zu} {sb:List GA} (j:m.length=if f=true then 1 else 0) (s:(A++m++B).length<=16777216) (v:ls.length<=16777216) (u:sb.length<=16777217) :
  layRest (A++m++B) (A.length:Int) f o (ls,sb)=some (A++fitN o ls sb++B):=by
 simp only [uo] at s;unfold layRest;rw [slc_at ⟨tR _,by omega,by simp;omega⟩,ua];have r:((A++m++B).take ((A.length:Int)).toNat).drop (0:Int).toNat=A:=by simp
 rw [r,cloneNode_is (yV (by omega)),ua];have t:∀(c:List GA),c.length<=A.length+1->((if f=true then ((slc (A++m++B) (IntKind.wrap .i64 ((A.length:Int)+(1:Int))) ((A++m++B).length:Int)).bind λh=>(yl (c.length+(h).length<=lim) (some (c++h)))) else ((slc (A++m++B) (A.length:Int) ((A++m++B).length:Int)).bind λg=>(yl (c.length+(g).length<=lim) (some (c++g))))):Option (List GA))=some (c++B):=by
  intro c w;cases f with
  | true =>
   simp only [ur] at j ⊢;rw [x9 (by omega),slc_at ⟨by omega,by simp;omega,tR _⟩,ua];have e:((A++m++B).take (((A++m++B).length:Int)).toNat).drop ((A.length:Int)+1).toNat=B:=by
    rw [ut,sa,show ((A.length:Int)+1).toNat=(A++m).length by simp;omega,rj]
   rw [e,zj (yV (by omega))]
  | false =>
   simp only [uk,uH] at j ⊢;obtain rfl:=uF j;rw [slc_at ⟨by omega,by simp;omega,tR _⟩,ua];have e:((A++[]++B).take (((A++[]++B).length:Int)).toNat).drop ((A.length:Int)).toNat=B:=by
    grind
   rw [e,zj (yV (by omega))]
 unfold fitN;have p:IntKind.wrap .i64 ((ls.length:Int)+(sb.length:Int))=(ls.length:Int)+(sb.length:Int):=x9 (by omega);simp only [p];by_cases h0:ls.length+sb.length=0
 ·simp_all
 ·rw [uC h0,uv (by simp;omega),zj (yV (by simp;omega))]
  grind

theorem leaves_of (h:ls.Pairwise λx y=>x.typ < y.typ) (m:∀l ∈ ls,leafB l=true):leavesB ls=true:=by
 unfold leavesB;rw [allI_iff];intro i x g;have j:=m x (uW g);simp only [j,uU];rcases i with _ | i
 ·rfl
 ·obtain ⟨hi,rfl⟩:=uc.1 g;have:=uZ.1 h i (i+1) (by omega) hi (by omega)
  grind
theorem rowsL_app (a:List zu) (A B:List GA):zx a (A++B)=zx a A++zx a B:=by rw [yT,yT,yT,List.flatMap_append]
theorem rowsN_mem {a:List zu} {x:GA} {r:GL}:r ∈ rowsN a x ↔ (∃l ∈ x.leaves,r=⟨a++[x.name],l⟩) \/ r ∈ zx (a++[x.name]) x.subs:=by
 rw [wh,uD,tZ]
 grind
theorem rows_one {a:List zu} {x:GA}:zx a [x]=rowsN a x:=by simp [zx]
theorem fit_mem {a:List zu} {g:zu} {sb:List GA} {r:GL}:r ∈ zx a (fitN g ls sb) ↔ (∃l ∈ ls,r=⟨a++[g],l⟩) \/ r ∈ zx (a++[g]) sb:=by
 unfold fitN;split
 ·rename_i h;have m:ls=[]:=uF (by omega);have j:sb=[]:=uF (by omega);subst m j;simp [zx]
 ·rw [rows_one,rowsN_mem]
theorem len_rows (t:List GA) (a b:List zu):(zx a t).length=(zx b t).length:=by
 have h:=rows_pre t a [];have g:=rows_pre t b []
 simp_all
theorem wW:∀(t:List GA) (d:Nat),qe d t=true->t.length<=(zx [] t).length:=by
 refine vk (λ_ _=>tz _) ?_;intro x r p o d j;simp only [qe,ud] at j;have s:=o d j.2;have g:=j.1;rw [nodeB_eq] at g;simp only [ud,treeB,tH,Bool.and_eq_false_iff] at g;have m:=p (d+1) g.1.2.2;rw [show x::r=[x]++r from rfl,rowsL_app,rows_one,wh];simp only [uo,ul,uu,uV];rw [len_rows x.subs ([]++[x.name]) []];rcases g.1.1.2 with h | h
 ·cases hl:x.leaves with
  | nil=>rw [hl] at h;cases h
  | cons l ls=>simp only [uu];omega
 ·cases hl:x.subs with
  | nil=>rw [hl] at h;cases h
  | cons l ls=>rw [hl] at m;simp only [uu] at m;omega
theorem qH {t:List GA} {x:GA} (g:x ∈ t):x.leaves.length+(zx [] x.subs).length<=(zx [] t).length:=by
 obtain ⟨A,B,rfl⟩:=pr g;rw [rowsL_app,show x::B=[x]++B from rfl,rowsL_app,rows_one,wh];simp only [uo,ul];rw [len_rows x.subs ([]++[x.name]) []];omega
theorem zP {t:List GA} (h:treeB d t=true):upB t=true/\∀x ∈ t,nodeB d x=true:=by
 simp only [treeB,ud,yU,uq] at h
 simp_all
theorem treeB_of {t:List GA} (hd:d < 3) (h:upB t=true) (g:∀x ∈ t,nodeB d x=true):treeB d t=true:=by
 simp only [treeB,ud,yU,uq,h,hd,rW,pM,true_and];exact g
theorem x8 {x:GA} (h:nodeB d x=true):nameB x.name=true/\treeB (d+1) x.subs=true/\leavesB x.leaves=true:=by
 rw [nodeB_eq] at h
 simp_all
theorem find_node {t:List GA} (s:zu) (h:treeB d t=true) (z:(zx [] t).length<=16777215):∃A m B f ls sb,t=A++m++B/\NLt s A/\NGt s B/\m.length=(if f=true then 1 else 0)/\zn t s (λv C=>xJ v C)=some ((A.length:Int),f) /\
  ((if f=true then ((zQ t (A.length:Int)).bind λo=>some (.inr (o.name,o.leaves,o.subs))) else some (.inr (s,([]:List GC),([]:List GA)))):Option (List GA ⊕ (zu×(List GC)×(List GA))))=some (.inr (s,ls,sb))/\treeB (d+1) sb=true/\leavesB ls=true /\
  ls.length+(zx [] sb).length<=(zx [] t).length/\∀a r,r ∈ zx a m ↔ (∃l ∈ ls,r=⟨a++[s],l⟩) \/ r ∈ zx (a++[s]) sb:=by
 obtain ⟨y,u⟩:=zP h;have D:t.length<=16777215:=uJ (wW t d (by rw [yU];exact uq.2 u)) z;rcases split_up s y with ⟨A,B,rfl,j,g⟩ | ⟨A,x,B,rfl,p,j,g⟩
 ·refine ⟨A,[],B,false,[],[],by simp,j,g,rfl,bs_none (by omega) j g,rfl,tree_nil _,rfl,by simp [zx],λa r=>by simp [zx]⟩
 ·obtain ⟨E,n2,w⟩:=x8 (u x (by simp));refine ⟨A,[x],B,true,x.leaves,x.subs,by simp,j,g,rfl,bs_some (by omega) p j g,?_,n2,w,qH (by simp),λa r=>?_⟩
  ·rw [uv rfl,zB (x:=x) (by simp),ua,p]
  ·rw [rows_one,rowsN_mem,p]
theorem rows_off {s:zu} {A:List GA} (h:∀y ∈ A,y.name ≠ s) {a q:List zu} {r:GL} (g:r ∈ zx a A):r.path ≠ a++s::q:=by
 obtain ⟨x,j,w,e⟩:=rows_head g
 simp_all
theorem NLt.ne {s:zu} {A:List GA} (h:NLt s A):∀y ∈ A,y.name ≠ s:=λy g=>less_ne (h y g)
theorem NGt.ne {s:zu} {A:List GA} (h:NGt s A):∀y ∈ A,y.name ≠ s:=λy g=>(less_ne (h y g)).symm
theorem lay_fin {A m B:List GA} {s:zu} {sb:List GA} (hd:d < 3) (h:treeB d (A++m++B)=true) (r:NLt s A) (p:NGt s B) (hs:nameB s=true) (w:leavesB ls=true) (v:treeB (d+1) sb=true):treeB d (A++fitN s ls sb++B)=true:=by
 obtain ⟨u,n⟩:=zP h;rw [qw,u9,u9] at u;have t:∀x ∈ A,∀y ∈ B,Op.bytesLess x.name y.name=true:=λx g y j=>xG (r x g) (p y j);have o:∀x ∈ fitN s ls sb,x=⟨s,ls,sb⟩/\¬ ls.length+sb.length=0:=λx g=>by
  unfold fitN at g
  simp_all
 refine treeB_of hd ?_ ?_
 ·rw [qw,u9,u9];refine ⟨⟨u.1.1,?_,λx g y j=>by rw [(o y j).1];exact r x g⟩,u.2.1,λx g y j=>?_⟩
  ·unfold fitN;split <;> simp
  ·rcases uD.1 g with g | g
   ·simp_all
   ·rw [(o x g).1];exact p y j
 ·intro x g;rcases uD.1 g with g | g
  ·rcases uD.1 g with g | g
   ·simp_all
   ·obtain ⟨rfl,h0⟩:=o x g;rw [nodeB_eq]
    grind
  ·simp_all
theorem fit_len (s:zu) (ls:List GC) (sb:List GA):(fitN s ls sb).length<=1:=by unfold fitN;split <;> simp
theorem layLs_mem:x ∈ qn k l there ls ↔ (x ∈ ls/\x.typ ≠ k) \/ (there=true/\x=l):=by
 unfold qn
 grind
theorem lay_is {k:Int} {l:GC} {there:Bool} (F:there=true->l.typ=k/\leafB l=true/\LeafOk l):∀(p:List zu) (t:List GA) (d n:Nat),p ≠ []->p.all nameB=true->d+p.length<=3->treeB d t=true->(zx [] t).length<=16777215->p.length < n ->
  ∃t',xV n t p k l there=some t'/\treeB d t'=true/\t'.length<=t.length+1/\∀a r,r ∈ zx a t' ↔ (r ∈ zx a t/\vZ r ≠ (a++p,k)) \/ (there=true/\r=⟨a++p,l⟩)
 | [],_,_,_,h,_,_,_,_,_=>absurd rfl h
 | _::_,_,_,0,_,_,_,_,_,h=>by omega
 | s::q,t,d,n+1,_,hp,hd,ht,hw,hn=>by
  simp only [tI,ud,uu] at hp hd hn;obtain ⟨A,m,B,f,ls,sb,rfl,G,E,M,I,J,u,C,K,v⟩:=find_node s ht hw;have H:zQ (s::q) (0:Int)=some s:=rfl;obtain ⟨y,X⟩:=ql C;have S:(A++m++B).length<=16777215:=uJ (wW _ d (by rw [yU];exact uq.2 (zP ht).2)) hw;have R:=λo g=>fit_len s o g;have j:∀o g,(A++fitN s o g++B).length<=(A++m++B).length+1:=λo g=>by
   grind
  rw [layN_eq,H,ua,I,ua,ua];simp only [];rw [J,yB];cases q with
  | nil =>
   rw [layIn_leaf (λh=>⟨(F h).1,(F h).2.2⟩) (by omega) y,yB,layRest_is M (by omega) (by
    have:(qn k l there ls).length<=ls.length+1:=by
     unfold qn;split
     ·have w:=rK (λx:GC=>decide (x.typ < k)) ls;have D:=w.length_eq;have Y:(ls.filter λx=>decide (k < x.typ)).length<=(ls.filter λx=>!decide (x.typ < k)).length:=by
       have:(ls.filter λx=>decide (k < x.typ))=(ls.filter λx=>!decide (x.typ < k)).filter (λx=>decide (k < x.typ)):=by
        rw [rH];refine rN λx _=>?_;rw [tv];simp;omega
       grind
      grind
     ·grind
    omega) (by have:=wW sb (d+1) (by rw [yU];exact uq.2 (zP u).2);omega)]
   refine ⟨_,rfl,lay_fin (by omega) ht G E hp.1 (leaves_of (layLs_up (λh=>(F h).1) y) λx z=>?_) u,j _ _,λa r=>?_⟩
   ·rcases layLs_mem.1 z with h | ⟨h,rfl⟩
    ·simp_all
    ·simp_all
   ·simp only [rowsL_app,uD,fit_mem,v];have N:r ∈ zx a A->vZ r ≠ (a++[s],k):=λh e=>rows_off G.ne h (congrArg Prod.fst e);have W:r ∈ zx a B->vZ r ≠ (a++[s],k):=λh e=>rows_off E.ne h (congrArg Prod.fst e);have Q:r ∈ zx (a++[s]) sb->vZ r ≠ (a++[s],k):=λh e=>by
     have:=(rows_path sb _ r h).1;rw [show r.path=a++[s] from congrArg Prod.fst e] at this;omega
    constructor
    ·rintro ((h | ⟨x,z,rfl⟩ | h) | h)
     ·grind
     ·rcases layLs_mem.1 z with ⟨w,D⟩ | ⟨w,rfl⟩
      ·exact .inl ⟨.inl (.inr (.inl ⟨x,w,rfl⟩)),λe=>D (congrArg Prod.snd e)⟩
      ·simp_all
     ·grind
     ·grind
    ·rintro (⟨(h | ⟨x,z,rfl⟩ | h) | h,D⟩ | ⟨w,rfl⟩)
     ·simp_all
     ·exact .inl (.inr (.inl ⟨x,layLs_mem.2 (.inl ⟨z,λe=>D (by rw [<- e];rfl)⟩),rfl⟩))
     ·simp_all
     ·simp_all
     ·exact .inl (.inr (.inl ⟨l,layLs_mem.2 (.inr ⟨w,rfl⟩),rfl⟩))
  | cons c q =>
   obtain ⟨g,T,P,Z,U⟩:=lay_is F (c::q) sb (d+1) n (by simp) hp.2 (by omega) u (by omega) (by omega);have O:=wW sb (d+1) (by rw [yU];exact uq.2 (zP u).2);rw [layIn_sub (by grind) T,yB,layRest_is M (by omega) (by omega) (by omega)];refine ⟨_,rfl,lay_fin (by omega) ht G E hp.1 C P,j _ _,λa r=>?_⟩;simp only [rowsL_app,uD,fit_mem,v,U];have V:a++[s]++c::q=a++s::c::q:=by simp
   rw [V];have N:r ∈ zx a A->vZ r ≠ (a++s::c::q,k):=λh e=>rows_off G.ne h (congrArg Prod.fst e);have W:r ∈ zx a B->vZ r ≠ (a++s::c::q,k):=λh e=>rows_off E.ne h (congrArg Prod.fst e);have Q:∀x,r=⟨a++[s],x⟩->vZ r ≠ (a++s::c::q,k):=λx h e=>by
    rw [h] at e;have:=congrArg List.length (congrArg Prod.fst e);simp [vZ] at this
   grind

theorem rowLt_iff {r q:GL}:rowLt r q ↔ kltB (vZ r) (vZ q)=true:=by
 unfold rowLt kltB vZ;simp only [tG,ud,uj];constructor
 ·rintro (h | h)
  ·exact .inl (path_plt h)
  ·simp_all
 ·rintro (h | h)
  ·exact .inl (plt_path h)
  ·simp_all
theorem sorted_ext {α:Type} {lt:α->α->Prop} (g:∀x,¬ lt x x) (j:∀x y z,lt x y->lt y z->lt x z):∀{L M:List α},L.Pairwise lt->M.Pairwise lt->(∀x,x ∈ L ↔ x ∈ M)->L=M
 | [],[],_,_,_=>rfl
 | [],y::M,_,_,h=>by have:=(h y).2 (by simp);simp at this
 | x::L,[],_,_,h=>by have:=(h x).1 (by simp);simp at this
 | x::L,y::M,h1,h2,h=>by
  obtain ⟨r,m⟩:=uL.1 h1;obtain ⟨p,o⟩:=uL.1 h2;have e:x=y:=by
   rcases uQ.1 ((h x).1 (by simp)) with e | t
   ·exact e
   ·rcases uQ.1 ((h y).2 (by simp)) with e | s
    ·simp_all
    ·grind
  subst e;rw [sorted_ext g j m o λz=>?_]
  grind
theorem filter_app_left {α:Type} {P:α->Bool} {A B:List α} (h:∀x ∈ A,P x=true) (j:∀x ∈ B,P x=false):(A++B).filter P=A/\(A++B).filter (λx=>!P x)=B:=by
 rw [tU,tU,tM.2 h,t8.2 (λx g=>by simp_all),t8.2 (λx g=>by simp_all),tM.2 (λx g=>by simp_all)];simp
theorem app_split {α:Type} {P:α->Bool} {A B C D:List α} (h:A++B=C++D) (m:∀x ∈ A,P x=true) (g:∀x ∈ B,P x=false) (o:∀x ∈ C,P x=true) (j:∀x ∈ D,P x=false):A=C/\B=D:=by
 obtain ⟨a,b⟩:=filter_app_left m g;obtain ⟨c,d⟩:=filter_app_left o j
 simp_all
theorem rowsN_head {a:List zu} {x:GA} {r:GL} (h:r ∈ rowsN a x):∃w,r.path=a++x.name::w:=by
 rw [<- rows_one] at h;obtain ⟨y,g,w,e⟩:=rows_head h
 simp_all
theorem rowsN_ne {x:GA} (h:nodeB d x=true) (a:List zu):∃r L,rowsN a x=r::L:=by
 have g:=wW [x] d (by simp [qe,h]);rw [len_rows [x] [] a,rows_one] at g;cases e:rowsN a x with
 | nil=>rw [e] at g;simp at g
 | cons r L=>exact ⟨r,L,rfl⟩
def hasN (n:Nat) (s:zu) (r:GL):Bool:=decide ((r.path.drop n).head?=some s)
theorem hasN_is (a w:List zu) (s g:zu) {r:GL} (h:r.path=a++g::w):hasN a.length s r=decide (g=s):=by
 unfold hasN;rw [h,rj];simp
theorem rows_inj:∀(t:List GA) (d:Nat) (a:List zu) (t':List GA),treeB d t=true->treeB d t'=true->zx a t=zx a t'->t=t':=by
 have key:∀(t:List GA) (d:Nat) (a:List zu) (t':List GA),(∀x ∈ t,nodeB d x=true)->upB t=true->(∀x ∈ t',nodeB d x=true)->upB t'=true->zx a t=zx a t'->t=t':=by
  refine vk ?_ ?_
  ·intro d a t' _ _ h _ e;cases t' with
   | nil=>rfl
   | cons y r =>
    obtain ⟨q,L,o⟩:=rowsN_ne (h y (by simp)) a;rw [zx,zx,o] at e;simp at e
  ·intro x r R Q d a t' p E n2 v e;cases t' with
   | nil =>
    obtain ⟨q,L,o⟩:=rowsN_ne (p x (by simp)) a;rw [zx,zx,o] at e;simp at e
   | cons y s =>
    rw [qw,uL] at E v;have e:rowsN a x++zx a r=rowsN a y++zx a s:=e;have m:x.name=y.name:=by
     obtain ⟨q,L,o⟩:=rowsN_ne (p x (by simp)) a;obtain ⟨T,L',H⟩:=rowsN_ne (n2 y (by simp)) a;have I:=e;rw [o,H] at I;injection I with M _;subst M;obtain ⟨w,C⟩:=rowsN_head (a:=a) (x:=x) (r:=q) (by rw [o];simp);obtain ⟨w',u⟩:=rowsN_head (a:=a) (x:=y) (r:=q) (by rw [H];simp)
     simp_all
    obtain ⟨G,N⟩:=app_split (P:=hasN a.length x.name) e
     (λq g=>by obtain ⟨w,h⟩:=rowsN_head g;rw [hasN_is a w _ _ h];simp)
     (λq g=>by
      obtain ⟨z,j,w,h⟩:=rows_head g;rw [hasN_is a w _ _ h];exact tb (less_ne (E.1 z j)).symm)
     (λq g=>by obtain ⟨w,h⟩:=rowsN_head g;rw [hasN_is a w _ _ h,m];simp)
     (λq g=>by
      obtain ⟨z,j,w,h⟩:=rows_head g;rw [hasN_is a w _ _ h,m];exact tb (less_ne (v.1 z j)).symm)
    have U:=Q d a s (λz j=>p z (by simp [j])) ((qw r).2 E.2) (λz j=>n2 z (by simp [j])) ((qw s).2 v.2) N;rw [wh,wh,<- m] at G;obtain ⟨O,D⟩:=app_split (P:=λq=>decide (q.path.length=a.length+1)) G
     (λq g=>by grind)
     (λq g=>by have:=(rows_path _ _ q g).1;simp at this;exact tb (by omega))
     (λq g=>by grind)
     (λq g=>by have:=(rows_path _ _ q g).1;simp at this;exact tb (by omega))
    have K:x.leaves=y.leaves:=by
     have:=congrArg (List.map (·.leaf)) O;simpa [s6,ri] using this
    obtain ⟨_,F,_⟩:=x8 (p x (by simp));obtain ⟨_,J,_⟩:=x8 (n2 y (by simp));have S:=R (d+1) (a++[x.name]) y.subs (zP F).2 (zP F).1 (zP J).2 (zP J).1 D;cases x;cases y
    simp_all
 intro t d a t' C u e;exact key t d a t' (zP C).2 (zP C).1 (zP u).2 (zP u).1 e
theorem rows_sorted {t:List GA} (h:treeB d t=true) (a:List zu):(zx a t).Pairwise λr q=>kltB (vZ r) (vZ q)=true:=by
 have:=rows_lt t d a (zP h).1 (by rw [yU];exact uq.2 (zP h).2);exact this.imp λh=>rowLt_iff.1 h
theorem rows_ext {t t':List GA} (j:treeB 0 t=true) (g:treeB 0 t'=true) (h:∀r,r ∈ zx [] t ↔ r ∈ zx [] t'):t=t' :=
 rows_inj t 0 [] t' j g (sorted_ext (lt:=λr q=>kltB (vZ r) (vZ q)=true) (λx h=>by rw [klt_irr] at h;cases h) (λ_ _ _=>klt_trans) (rows_sorted j []) (rows_sorted g []) h)
theorem sorted_key {α:Type} {key:α->Key} {L:List α} (h:L.Pairwise λr q=>kltB (key r) (key q)=true) {x y:α} (s:x ∈ L) (t:y ∈ L) (e:key x=key y):x=y:=by
 induction L with
 | nil=>simp at s
 | cons z r ih =>
  obtain ⟨p,u⟩:=uL.1 h;rcases uQ.1 s with m | g <;> rcases uQ.1 t with o | j
  ·rw [m,o]
  ·have:=p y j;rw [<- m,e,klt_irr] at this;cases this
  ·have:=p x g;rw [<- o,e,klt_irr] at this;cases this
  ·simp_all

theorem first_is {α:Type} {q:α->Bool} {del:α->Option Bool}:∀(L:List α) (n:Nat),(∀x ∈ L,del x=some (q x)) ->
  (zp (λ(g:Nat) (j:α) (_:Unit)=>(((del j).bind λo=>(if o=true then some (.ret (g:Int)) else some (.nxt ()))):Option (Out Int Unit))) L n ()=some (.inr ())/\∀x ∈ L,q x=false) \/
  ∃A x B,L=A++x::B/\q x=true/\(∀y ∈ A,q y=false)/\zp (λ(g:Nat) (j:α) (_:Unit)=>(((del j).bind λo=>(if o=true then some (.ret (g:Int)) else some (.nxt ()))):Option (Out Int Unit))) L n ()=some (.inl ((n+A.length:Nat):Int))
 | [],n,_=>.inl ⟨rfl,by simp⟩
 | x::r,n,h=>by
  have m:=h x (by simp);cases hq:q x with
  | true=>exact .inr ⟨[],x,r,rfl,hq,by simp,by simp [zp,m,hq]⟩
  | false =>
   rcases first_is r (n+1) (λy p=>h y (by simp [p])) with ⟨e,s⟩ | ⟨A,y,B,rfl,t,s,e⟩
   ·refine .inl ⟨by simp only [zp,m,hq,ua];exact e,?_⟩
    simp_all
   ·refine .inr ⟨x::A,y,B,rfl,t,?_,?_⟩
    ·simp_all
    ·simp only [zp,m,hq,ua]
     grind
def node0:GA:=GA.mk ([]:zu) ([]:List GC) ([]:List GA)
def nodeOf (t:List GA) (s:zu):Option GA:=t.find? λx=>x.name==s
theorem linear_is (t:List GA) (s:zu):xz t s=some (match nodeOf t s with | some x=>(x,true) | none=>(node0,false)):=by
 unfold xz xS;rcases first_is (q:=λx:GA=>x.name==s) (del:=λg=>treeXlinearC1 g s) t 0 (λx _=>rfl) with ⟨e,h⟩ | ⟨A,x,B,rfl,m,j,e⟩
 ·rw [e];have:nodeOf t s=none:=sA.2 λx o=>by simp_all
  rw [this];rfl
 ·rw [e];have:nodeOf (A++x::B) s=some x:=by
   unfold nodeOf
   grind
  rw [this];simp only [lp,ua,tA];rw [uC (by simp),zB (x:=x) (by simp)];rfl
def wC:List GA->List zu->Option GA
 | _,[]=>none
 | t,[s]=>nodeOf t s
 | t,s::c::q=>(nodeOf t s).bind λx=>wC x.subs (c::q)
noncomputable def tlF:Nat->zu->(List GA)×Bool×zu×(List GC)×(List GA)->Option (Out ((GC×Bool) ⊕ (Bool×zu×(List GC)×(List GA))) ((List GA)×Bool×zu×(List GC)×(List GA))):=(λ(_:Nat) (x2:zu) (s2:(List GA)×Bool×zu×(List GC)×(List GA))=>(((xz s2.1 x2).bind λv47=>(if (!v47.2)=true then some (.brk (s2.1,v47.2,v47.1.name,v47.1.leaves,v47.1.subs)) else some (.nxt (v47.1.subs,v47.2,v47.1.name,v47.1.leaves,v47.1.subs))))))
noncomputable def tlR (kind2:Int) (s1:Bool×zu×(List GC)×(List GA)):Option (GC×Bool):=((yu s1.2.2.1 (λx0=>treeLeafC1 x0 kind2)).bind λv49=>((if (((!s1.1) || (decide (v49 < (0:Int))))==false)=true then vX kind2 else some default).bind λv50=>(if (((!s1.1) || (decide (v49 < (0:Int)))) || (v50.typ==(0:Int)))=true then ((vX kind2).bind λv52=>some (v52,false)) else ((zQ s1.2.2.1 v49).bind λy53=>((yW y53.items).bind λv54=>((yS y53.tombs).bind λv55=>some ((GC.mk y53.typ y53.n y53.time y53.dot y53.text v54 v55),true)))))))
theorem tl_eq (t0:List GA) (g:List zu) (h:Int):vP t0 g h=(lp ((lp (zp tlF g 0 (t0,(decide (((g).length:Int) > (0:Int))),([]:zu),([]:List GC),([]:List GA))) λ(s2:(List GA)×Bool×zu×(List GC)×(List GA))=>some (.inr (s2.2.1,s2.2.2.1,s2.2.2.2.1,s2.2.2.2.2))):Option ((GC×Bool) ⊕ (Bool×zu×(List GC)×(List GA)))) (tlR h)):=rfl
theorem tl_walk:∀(p:List zu) (n:Nat) (t:List GA) (z:Bool×zu×(List GC)×(List GA)),p ≠ [] ->
  match wC t p with
  | some x=>zp tlF p n (t,z)=some (.inr (x.subs,true,x.name,x.leaves,x.subs))
  | none=>∃u,zp tlF p n (t,z)=some (.inr (u,false,([]:zu),([]:List GC),([]:List GA)))
 | [],_,_,_,h=>absurd rfl h
 | [s],n,t,z,_=>by
  simp only [wC,zp,tlF,linear_is,ua];cases nodeOf t s with
  | none=>exact ⟨t,rfl⟩
  | some x=>rfl
 | s::c::q,n,t,z,_=>by
  have g:=λu z=>tl_walk (c::q) (n+1) u z (by simp);simp only [wC];cases e:nodeOf t s with
  | none=>exact ⟨t,by rw [zp];simp only [tlF,linear_is,e,ua];rfl⟩
  | some x =>
   have j:tlF n s (t,z)=some (.nxt (x.subs,true,x.name,x.leaves,x.subs)):=by simp only [tlF,linear_is,e,ua];rfl
   have:=g x.subs (true,x.name,x.leaves,x.subs);rw [zp,j,ua];omega
theorem nodeOf_split {t:List GA} (s:zu) (h:upB t=true):(nodeOf t s=none/\∀y ∈ t,y.name ≠ s) \/ ∃A x B,t=A++x::B/\nodeOf t s=some x/\x.name=s/\(∀y ∈ A,y.name ≠ s)/\∀y ∈ B,y.name ≠ s:=by
 rcases split_up s h with ⟨A,B,rfl,j,m⟩ | ⟨A,x,B,rfl,o,j,m⟩
 ·left;have:∀y ∈ A++B,y.name ≠ s:=λy g=>by
   rcases uD.1 g with g | g
   ·exact j.ne y g
   ·exact m.ne y g
  exact ⟨sA.2 λy g=>by simp_all,this⟩
 ·refine .inr ⟨A,x,B,rfl,?_,o,j.ne,m.ne⟩;unfold nodeOf;rw [List.find?_append,sA.2 (λy g=>by simp [j.ne y g]),pc];simp [o]
theorem row_at:∀(p:List zu) (t:List GA) (d:Nat) (a:List zu) (l:GC),p ≠ []->treeB d t=true->(GL.mk (a++p) l ∈ zx a t ↔ ∃x,wC t p=some x/\l ∈ x.leaves)
 | [],_,_,_,_,h,_=>absurd rfl h
 | s::q,t,d,a,l,_,h=>by
  obtain ⟨u,w⟩:=zP h;rcases nodeOf_split s u with ⟨e,r⟩ | ⟨A,x,B,rfl,e,v,z,o⟩
  ·have m:wC t (s::q)=none:=by cases q <;> simp [wC,e]
   rw [m];constructor
   ·intro g;exact (rows_off r g rfl).elim
   ·simp_all
  ·rw [rowsL_app,show x::B=[x]++B from rfl,rowsL_app,rows_one,uD,uD,rowsN_mem,v];have D:¬ GL.mk (a++s::q) l ∈ zx a A:=λg=>rows_off z g rfl;have G:¬ GL.mk (a++s::q) l ∈ zx a B:=λg=>rows_off o g rfl;have j:=(x8 (w x (by simp))).2.1;cases q with
   | nil =>
    have E:¬ GL.mk (a++[s]) l ∈ zx (a++[s]) x.subs:=λg=>by
     have:=(rows_path _ _ _ g).1;simp at this
    have m:wC (A++x::B) [s]=some x:=e
    simp_all
   | cons c q =>
    have y:=row_at (c::q) x.subs (d+1) (a++[s]) l (by simp) j;have C:a++[s]++c::q=a++s::c::q:=by simp
    rw [C] at y;have F:wC (A++([x]++B)) (s::c::q)=wC x.subs (c::q):=by
     show (nodeOf (A++x::B) s).bind _=_;rw [e];rfl
    simp_all
theorem row_mk {r:GL} {p:List zu} (h:vZ r=(p,k)):r=GL.mk ([]++p) r.leaf:=by
 have e:r.path=p:=congrArg Prod.fst h;cases r;simp only at e;rw [e];rfl
theorem leafNew_typ (h:1<=k/\k<=4):∃v,vX k=some v/\v.typ=k:=by
 unfold vX;rw [uC (by simp;omega)]
 simp_all
theorem tlR_none (s:zu):∃v,tlR k (false,s,([]:List GC),([]:List GA))=some (v,false):=by
 obtain ⟨v,e⟩:=leafNew_tot k;refine ⟨v,?_⟩;unfold tlR yu;simp [zp,lp,e]
theorem treeLeaf_is {t:List GA} (h:treeB 0 t=true) (z:∀r ∈ zx [] t,LeafOk r.leaf) {p:List zu} (E:p ≠ []) {k:Int} (J:1<=k/\k<=4) :
  (∃l,GL.mk p l ∈ zx [] t/\l.typ=k/\vP t p k=some (l,true)) \/ ((∀r ∈ zx [] t,vZ r ≠ (p,k))/\∃v,vP t p k=some (v,false)):=by
 have m:=tl_walk p 0 t (decide ((p.length:Int) > 0),([]:zu),([]:List GC),([]:List GA)) E;have G:=λl=>row_at p t 0 [] l E h;rw [tl_eq];cases e:wC t p with
 | none =>
  rw [e] at m;obtain ⟨u,m⟩:=m;right;refine ⟨λr j o=>?_,?_⟩
  ·have:=row_mk o
   grind
  ·rw [m];exact tlR_none []
 | some x =>
  rw [e] at m;simp only at m;rw [m];simp only [yB];obtain ⟨v0,O,n2⟩:=leafNew_typ J;unfold tlR yu;rcases first_is (q:=λy:GC=>y.typ==k) (del:=λI=>treeLeafC1 I k) x.leaves 0 (λx _=>rfl) with ⟨H,D⟩ | ⟨A,y,B,w,D,P,H⟩
  ·right;refine ⟨λr j o=>?_,v0,?_⟩
   ·have:=row_mk o;rw [this] at j;obtain ⟨Q,s,K⟩:=(G _).1 j;rw [e] at s;injection s with s;subst s;have:=D _ K;simp only [sH] at this;exact this (congrArg Prod.snd o)
   ·simp_all
  ·left;have N:y ∈ x.leaves:=by simp_all
   have g:GL.mk ([]++p) y ∈ zx [] t:=(G y).2 ⟨x,e,N⟩;have C:y.typ=k:=by simp_all
   have F:=z _ g;refine ⟨y,g,C,?_⟩;simp only [];rw [H];simp only [lp,ua,tA];have M:((!true) || (decide (((A.length:Nat):Int) < (0:Int))))=false:=by simp
   rw [M];simp only [uP,ur,O,ua,tj,n2];rw [uC (by simp;omega),w,zB (x:=y) (by simp),ua,qS (yV (sS F.items)),ua,qr (yV (sS F.tombs)),ua]

theorem sub_len {α:Type} {lt:α->α->Prop} (g:∀x,¬ lt x x):∀(L M:List α),L.Pairwise lt->(∀x ∈ L,x ∈ M)->L.length<=M.length
 | [],_,_,_=>tz _
 | x::L,M,h,hs=>by
  obtain ⟨o,j⟩:=uL.1 h;obtain ⟨A,B,rfl⟩:=pr (hs x (by simp));have:=sub_len g L (A++B) j λy m=>by
   grind
  grind
theorem qk {p:List zu} (h:pathB p=true):p ≠ []/\p.length<=3/\p.all nameB=true:=by
 refine ⟨pathB_ne h,?_⟩;simp only [pathB,ud,uj] at h
 simp_all
theorem lay_all {p:List zu} {t:List GA} (v:there=true->l.typ=k/\leafB l=true/\LeafOk l) (C:pathB p=true) (s:treeB 0 t=true) (w:(zx [] t).length<=16777215) :
  ∃t',diffXlay t p k l there=some t'/\treeB 0 t'=true/\(zx [] t').length<=(zx [] t).length+1/\∀r,r ∈ zx [] t' ↔ (r ∈ zx [] t/\vZ r ≠ (p,k)) \/ (there=true/\r=⟨p,l⟩):=by
 obtain ⟨y,E,o⟩:=qk C;obtain ⟨t',H,m,_,g⟩:=lay_is v p t 0 (p.length+1) y o (by omega) s w (by omega);have g:=g [];simp only [uR] at g;refine ⟨t',qT (p.length+1) λn G=>?_,m,?_,g⟩
 ·obtain ⟨u,z,D,_,j⟩:=lay_is v p t 0 n y o (by omega) s w (by omega);have j:=j [];simp only [uR] at j;rw [z,rows_ext D m λr=>by rw [j,g]]
 ·have:=sub_len (lt:=λr q=>kltB (vZ r) (vZ q)=true) (λx h=>by rw [klt_irr] at h;cases h) (zx [] t') (zx [] t++[⟨p,l⟩]) (rows_sorted m []) λr F=>by
   grind
  simp_all
theorem idxI_is {q:GF->Bool} {del:GF->Option Bool}:∀(L:List GF) (n:Nat),(∀x ∈ L,del x=some (q x)) ->
  (zp (λ(g:Nat) (j:GF) (_:Unit)=>(((del j).bind λo=>(if o=true then some (.ret (g:Int)) else some (.nxt ()))):Option (Out Int Unit))) L n ()=some (.inr ())/\∀x ∈ L,q x=false) \/
  ∃A x B,L=A++x::B/\q x=true/\(∀y ∈ A,q y=false)/\zp (λ(g:Nat) (j:GF) (_:Unit)=>(((del j).bind λo=>(if o=true then some (.ret (g:Int)) else some (.nxt ()))):Option (Out Int Unit))) L n ()=some (.inl ((n+A.length:Nat):Int))
 | [],n,_=>.inl ⟨rfl,by simp⟩
 | x::r,n,h=>by
  have m:=h x (by simp);cases hq:q x with
  | true=>exact .inr ⟨[],x,r,rfl,hq,by simp,by simp [zp,m,hq]⟩
  | false =>
   rcases idxI_is r (n+1) (λy p=>h y (by simp [p])) with ⟨e,s⟩ | ⟨A,y,B,rfl,t,s,e⟩
   ·refine .inl ⟨by simp only [zp,m,hq,ua];exact e,?_⟩
    simp_all
   ·refine .inr ⟨x::A,y,B,rfl,t,?_,?_⟩
    ·simp_all
    ·simp only [zp,m,hq,ua]
     grind
noncomputable def delI (del:GF->Option Bool) (n:Nat):Int×Int×(List GF)->Option (Out (List GF) (Int×Int×(List GF))):=λs1=>((yl ((s1.2.2).length=n) ((if (decide (s1.2.1 < ((n:Nat):Int)))=true then ((zQ s1.2.2 s1.2.1).bind λy14=>((del y14).bind λv15=>(if (!v15)=true then ((zQ s1.2.2 s1.1).bind λy17=>some (.nxt ((IntKind.wrap .i64 (s1.1+(1:Int))),(IntKind.wrap .i64 (s1.2.1+(1:Int))),(s1.2.2.set s1.1.toNat y14)))) else some (.nxt (s1.1,(IntKind.wrap .i64 (s1.2.1+(1:Int))),s1.2.2))))) else some (.brk (s1.1,s1.2.1,s1.2.2))))))
theorem delRI_eq (h:List GF) (g:GF->Option Bool):xD h g=((yE h g).bind λo=>(if (o==(-1:Int))=true then some h else (lp (zZ (delI g h.length) (o,(IntKind.wrap .i64 (o+(1:Int))),h)) λ(j:Int×Int×(List GF))=>(yl (0<=j.1/\j.1<=((h.length:Nat):Int)) (((slc (j.2.2.take j.1.toNat++List.replicate (h.length - j.1.toNat) (GF.mk (0:Int) (GE.mk (GJ.mk (0:Int) (0:Int)) (0:Int)) ([]:zu))) (0:Int) j.1).bind λm=>some m)))))):=rfl
theorem delI_run {del:GF->Option Bool} {L0:List GF} (y:L0.length<=16777216) (h:∀x ∈ L0,del x=some (q x)) {a0 b0:Nat} (D:a0 < b0) (C:b0<=L0.length) (G:L0.take a0=(L0.take b0).filter λx=>!q x) :
  ∃o,zZ (delI del L0.length) ((a0:Int),(b0:Int),L0)=some (.inr o)/\∃a:Nat,o.1=(a:Int)/\a < L0.length/\o.2.2.length=L0.length/\o.2.2.take a=L0.filter λx=>!q x:=by
 refine wE (f:=delI del L0.length) (λs=>∃a b:Nat,s.1=(a:Int)/\s.2.1=(b:Int)/\a < b/\b<=L0.length/\s.2.2.length=L0.length/\s.2.2.take a=(L0.take b).filter (λx=>!q x)/\s.2.2.drop b=L0.drop b)
  _ (λs=>L0.length - s.2.1.toNat) ?_ _ _ rfl ⟨a0,b0,rfl,rfl,D,C,rfl,G,rfl⟩
 rintro ⟨i,j,M⟩ ⟨a,b,v,z,I,w,t,u,p⟩
 simp only at v z t u p;subst v z;simp only [delI,yl,t,ur];by_cases hb:b < L0.length
 ·right;have F:M[b]?=L0[b]?:=by
   have:=congrArg (λl=>l[0]?) p
   grind
  have E:L0[b]?=some L0[b]:=ue hb;have hd:=h L0[b] (sJ hb);have m:zQ M (b:Int)=some L0[b]:=by simp [zQ,F]
  have g:zQ M (a:Int)=some (M[a]'(by omega)):=by simp [zQ]
  rw [uv (by simp;omega),m,ua,hd,ua];have r:L0.take (b+1)=L0.take b++[L0[b]]:=by simp_all
  cases hq:q L0[b] with
  | true =>
   refine ⟨((a:Int),((b+1:Nat):Int),M),by simp [xL (uJ w y)],⟨a,b+1,rfl,rfl,by omega,by omega,t,?_,?_⟩,by simp;omega⟩
   ·grind
   ·have:=congrArg (λl=>l.drop 1) p;simpa [tB] using this
  | false =>
   refine ⟨(((a+1:Nat):Int),((b+1:Nat):Int),M.set a L0[b]),by simp [g,xL (uJ w y),xL (show a<=16777216 by omega)],⟨a+1,b+1,rfl,rfl,by omega,by omega,by simp_all,?_,?_⟩,by simp;omega⟩
   ·rw [tC,sU (uh _),u,r,tU,uE (by omega)];simp [hq]
   ·have:=congrArg (λl=>l.drop 1) p;rw [sV (by omega)];simpa [tB] using this
 ·left;have H:b=L0.length:=by omega
  rw [uC (by simp;omega)]
  grind
theorem deleteI_is {del:GF->Option Bool} {L0:List GF} (s:L0.length<=16777216) (h:∀x ∈ L0,del x=some (q x)):xD L0 del=some (L0.filter λx=>!q x):=by
 rw [delRI_eq];unfold yE;rcases idxI_is L0 0 h with ⟨e,m⟩ | ⟨A,x,B,r,p,m,e⟩
 ·rw [e];simp only [lp,ua,uP,ur];rw [tM.2 (λx z=>by simp_all)]
 ·rw [e];have j:L0.length=A.length+1+B.length:=by grind
  simp only [lp,ua,tA];rw [uC (by simp_all),xL (by omega)];obtain ⟨g,t,a,o,C,u,v⟩:=delI_run s h (a0:=A.length) (b0:=A.length+1) (by omega) (by omega) (by
   rw [r,pj,tX,uM (by omega),show A.length+1 - A.length=1 by omega,tU];simp only [sF,pR,sK,p,List.filter_nil];rw [tM.2 (λy w=>by simp_all)];simp)
  rw [t];simp only [yl];rw [uv (by omega),o];have hs:slc (g.2.2.take ((a:Int)).toNat++List.replicate (L0.length - ((a:Int)).toNat) (GF.mk (0:Int) (GE.mk (GJ.mk (0:Int) (0:Int)) (0:Int)) ([]:zu))) (0:Int) (a:Int)=some (g.2.2.take a):=by
   unfold slc
   grind
  simp_all
theorem bsI_loop {x:List GF} {s:GF} (z:x.length<=1048576) (t:∀i n,x[i]?=some n->∃v,cmp n s=some v/\(i < c->v < 0)/\(c<=i->0<=v)) :
  ∀(k lo hi:Nat),hi - lo<=k->lo<=c->c<=hi->hi<=x.length->zZ (ρ:=Int×Bool) (λ(g:Int×Int)=>((if (decide (g.1 < g.2))=true then ((zQ x (IntKind.wrap .i64 ((Int.fdiv (IntKind.wrap .u64 ((IntKind.wrap .i64 (g.1+g.2)))) (2 ^ (min (1:Int).toNat (IntKind.bits .u64))))))).bind λu=>((cmp u s).bind λh=>(if (decide (h < (0:Int)))=true then some (.nxt ((IntKind.wrap .i64 ((IntKind.wrap .i64 ((Int.fdiv (IntKind.wrap .u64 ((IntKind.wrap .i64 (g.1+g.2)))) (2 ^ (min (1:Int).toNat (IntKind.bits .u64))))))+(1:Int))),g.2)) else some (.nxt (g.1,(IntKind.wrap .i64 ((Int.fdiv (IntKind.wrap .u64 ((IntKind.wrap .i64 (g.1+g.2)))) (2 ^ (min (1:Int).toNat (IntKind.bits .u64))))))))))) else some (.brk (g.1,g.2))):Option (Out _ (Int×Int)))) ((lo:Int),(hi:Int))=some (.inr ((c:Int),(c:Int))):=by
 intro k
 induction k with
 | zero =>
  intro lo hi r j o hh;obtain rfl:lo=hi:=by omega
  obtain rfl:lo=c:=by omega
  rw [yI];simp
 | succ k ih =>
  intro lo hi r j o hh;rw [yI];by_cases hlt:lo < hi
  ·have hd:decide ((lo:Int) < (hi:Int))=true:=uT (by omega);simp only [hd,ur,half_mid hlt (by omega)];have m:(lo+hi) / 2 < x.length:=by omega
   rw [qL m,ua];obtain ⟨v,w,p,y⟩:=t ((lo+hi) / 2) _ (ue m);rw [w,ua];by_cases hcm:(lo+hi) / 2 < c
   ·rw [uT (p hcm),uv rfl];simp only;have e:IntKind.wrap .i64 ((((lo+hi) / 2:Nat):Int)+1)=(((lo+hi) / 2+1:Nat):Int):=by rw [x9 (by omega)];omega
    rw [e];exact ih _ _ (by omega) (by omega) o hh
   ·rw [tb (by omega)];simp only [uk,uH];exact ih _ _ (by omega) j (by omega) (by omega)
  ·grind
theorem bsI_is {x:List GF} {s:GF} (m:x.length<=1048576) (j:c<=x.length) (g:∀i n,x[i]?=some n->∃v,cmp n s=some v/\(i < c->v < 0)/\(c<=i->0<=v)) :
  zS x s cmp=(if c < x.length then cmp (x.getD c default) s else some 1).bind λv=>some ((c:Int),(decide (c < x.length)&&(v==0))):=by
 unfold zS;have:=bsI_loop m g x.length 0 x.length (by omega) (tz _) j (uh _);simp only [rx] at this;rw [show ((0:Int),(x.length:Int))=(((0:Nat):Int),(x.length:Int)) from rfl] at *;rw [this];simp only [lp];by_cases h:c < x.length
 ·have hd:decide ((c:Int) < (x.length:Int))=true:=uT (by omega);simp only [hd,h,ur,ut,uP,rW,uU];rw [zj (by omega)]
 ·have hd:decide ((c:Int) < (x.length:Int))=false:=tb (by omega);simp only [hd,h,uH,s9,rk,ua];rfl

def dd:List GE->List GE
 | []=>[]
 | [x]=>[x]
 | x::y::r=>if x=y then dd (y::r) else x::dd (y::r)
theorem dd_snoc:∀(A:List GE) (x y:GE),dd (A++[x,y])=if x=y then dd (A++[x]) else dd (A++[x])++[y]
 | [],x,y=>by by_cases h:x=y <;> simp [dd,h]
 | [a],x,y=>by
  by_cases h:x=y
  ·subst h;by_cases h2:a=x <;> simp [dd,h2]
  ·by_cases h2:a=x <;> simp [dd,h2,h]
 | a::b::A,x,y=>by
  have g:=dd_snoc (b::A) x y;simp only [tP] at g ⊢;simp only [dd]
  grind
theorem dd_mem:∀(L:List GE) (d:GE),d ∈ dd L ↔ d ∈ L
 | [],_=>by simp [dd]
 | [x],_=>by simp [dd]
 | x::y::r,d=>by
  simp only [dd];split
  ·rename_i h;subst h;rw [dd_mem (x::r) d];simp
  ·rw [uQ,dd_mem (y::r) d];simp
theorem dd_strict {lt:GE->GE->Prop} (g:∀a b,¬ lt b a->a=b \/ lt a b) (s:∀a b c,lt a b->lt b c->lt a c):∀(L:List GE),L.Pairwise (λa b=>¬ lt b a)->(dd L).Pairwise lt
 | [],_=>by simp [dd]
 | [x],_=>by simp [dd]
 | x::y::r,h=>by
  have p:=(uL.1 h).2;have o:=dd_strict g s (y::r) p;simp only [dd];split
  ·exact o
  ·rename_i m;refine uL.2 ⟨λz j=>?_,o⟩;rw [dd_mem] at j;have t:lt x y:=(g x y ((uL.1 h).1 y (by simp))).resolve_left m;rcases uQ.1 j with rfl | j
   ·omega
   ·rcases g y z ((uL.1 p).1 z j) with rfl | u
    ·omega
    ·grind
theorem take_snoc2 {L:List GE} {a b:GE} (g:L[n]?=some a) (h:L[n+1]?=some b):L.take (n+2)=L.take n++[a,b]:=by
 rw [tC,tC,g,h];simp
theorem dd_step {L:List GE} {a b:GE} (g:L[n]?=some a) (h:L[n+1]?=some b):dd (L.take (n+2))=if a=b then dd (L.take (n+1)) else dd (L.take (n+1))++[b]:=by
 rw [take_snoc2 g h,dd_snoc,tC,g];rfl
noncomputable def cmpIn (n:Nat) (s1:Int):Int×Int×(List GE)->Option (Out (Out (List GE) Int) (Int×Int×(List GE))):=λ(s2:Int×Int×(List GE))=>((yl ((s2.2.2).length=n) ((if (decide (s2.2.1 < ((n - s1.toNat:Nat):Int)))=true then ((zQ (s2.2.2.drop s1.toNat) s2.2.1).bind λy51=>((zQ (s2.2.2.drop s1.toNat) (IntKind.wrap .i64 (s2.2.1 - (1:Int)))).bind λy52=>(if (!(y51.actor.rep==y52.actor.rep&&(y51.actor.inc==y52.actor.inc&&(y51.seq==y52.seq&&true))))=true then ((zQ (s2.2.2.drop s1.toNat) s2.2.1).bind λy54=>((zQ s2.2.2 s2.1).bind λy55=>some (.nxt ((IntKind.wrap .i64 (s2.1+(1:Int))),(IntKind.wrap .i64 (s2.2.1+(1:Int))),(s2.2.2.set s2.1.toNat y54))))) else some (.nxt (s2.1,(IntKind.wrap .i64 (s2.2.1+(1:Int))),s2.2.2))))) else some (.brk (s2.1,s2.2.1,s2.2.2))))))
theorem wrap_p1 (h0:0 < i) (g:i<=9223372036854775807):(IntKind.wrap .i64 ((i:Int) - 1))=((i - 1:Nat):Int):=wrap_pred h0 g
theorem cmpIn_run {L:List GE} (R:L.length<=16777216) {k0:Nat} (F:0 < k0) (N:k0 < L.length) {a:GE} (G:L[k0 - 1]?=some a) (D:L[k0]?=some a) (S:dd (L.take k0)=L.take k0) :
  ∃o,zZ (cmpIn L.length (k0:Int)) ((k0:Int),1,L)=some (.inr o)/\∃m:Nat,o.1=(m:Int)/\m<=L.length/\o.2.2.length=L.length/\o.2.2.take m=dd L:=by
 refine wE (f:=cmpIn L.length (k0:Int)) (λs=>∃m b:Nat,s.1=(m:Int)/\s.2.1=(b:Int)/\1<=b/\k0+b<=L.length/\m+1<=k0+b/\s.2.2.length=L.length/\s.2.2.take m=dd (L.take (k0+b))/\s.2.2.drop (k0+b - 1)=L.drop (k0+b - 1))
  _ (λs=>L.length - s.2.1.toNat) ?_ _ _ rfl ⟨k0,1,rfl,rfl,uh _,by omega,by omega,rfl,?_,by simp⟩
 ·rintro ⟨i,j,M⟩ ⟨m,b,w,C,O,Q,P,r,v,u⟩
  simp only at w C r v u;subst w C;simp only [cmpIn,yl,r,ur,ut];by_cases hb:k0+b < L.length
  ·right;have p:∀t,k0+b - 1<=t->M[t]?=L[t]?:=λt K=>by
    have:=congrArg (λl=>l[t - (k0+b - 1)]?) u
    grind
   have z:L[k0+b]?=some L[k0+b]:=ue hb;have hb1:k0+b - 1 < L.length:=by omega
   have H:L[k0+b - 1]?=some (L[k0+b - 1]'hb1):=ue hb1;have y:zQ (M.drop k0) (b:Int)=some L[k0+b]:=by simp only [zQ,ut,uG];rw [uv (by omega),p _ (by omega),z]
   have E:zQ (M.drop k0) (IntKind.wrap .i64 ((b:Int) - 1))=some (L[k0+b - 1]'hb1):=by
    rw [wrap_p1 (by omega) (by omega)];simp only [zQ,ut,uG]
    grind
   have I:zQ M (m:Int)=some (M[m]'(by omega)):=by simp [zQ]
   have g:=dd_step (L:=L) (n:=k0+b - 1) H (by rw [show k0+b - 1+1=k0+b by omega];exact z);rw [show k0+b - 1+2=k0+(b+1) by omega,show k0+b - 1+1=k0+b by omega] at g;have h:M.drop (k0+(b+1) - 1)=L.drop (k0+(b+1) - 1):=by
    have:=congrArg (λl=>l.drop 1) u;simp only [tB] at this
    rwa [show k0+b - 1+1=k0+(b+1) - 1 by omega] at this
   rw [uv (by simp;omega),y,ua,E,ua];rw [dotEq];by_cases he:L[k0+b]=L[k0+b - 1]'hb1
   ·refine ⟨((m:Int),((b+1:Nat):Int),M),by simp [he,xL (show b<=16777216 by omega)],⟨m,b+1,rfl,rfl,by omega,by omega,by omega,r,?_,h⟩,by simp;omega⟩
    simp_all
   ·refine ⟨(((m+1:Nat):Int),((b+1:Nat):Int),M.set m L[k0+b]),?_,⟨m+1,b+1,rfl,rfl,by omega,by omega,by omega,by simp_all,?_,?_⟩,by simp;omega⟩
    ·simp [he,y,I,xL (show b<=16777216 by omega),xL (show m<=16777216 by omega)]
    ·rw [g,uC (λe=>he e.symm),<- v,tC,sU (uh _),uE (by omega)];rfl
    ·rw [sV (by omega)];exact h
  ·left;have J:k0+b=L.length:=by omega
   rw [uC (by simp;omega)]
   grind
 ·have:=dd_step (L:=L) (n:=k0 - 1) G (by rw [show k0 - 1+1=k0 by omega];exact D)
  grind
noncomputable def cmpOut (s0:List GE):Int->Option (Out (List GE) Int):=λ(s1:Int)=>((if (decide (s1 < ((s0).length:Int)))=true then ((zQ s0 s1).bind λy35=>((zQ s0 (IntKind.wrap .i64 (s1 - (1:Int)))).bind λy36=>(if (y35.actor.rep==y36.actor.rep&&(y35.actor.inc==y36.actor.inc&&(y35.seq==y36.seq&&true)))=true then (yl (0<=s1/\s1<=((s0.length:Nat):Int)) ((lp (zZ (cmpIn s0.length s1) (s1,(1:Int),s0)) λ(s2:Int×Int×(List GE))=>(yl (0<=s2.1/\s2.1<=((s0.length:Nat):Int)) (((slc (s2.2.2.take s2.1.toNat++List.replicate (s0.length - s2.1.toNat) (GE.mk (GJ.mk (0:Int) (0:Int)) (0:Int))) (0:Int) s2.1).bind λm57=>some (.ret m57))))))) else some (.nxt (IntKind.wrap .i64 (s1+(1:Int))))))) else some (.brk s1)))
theorem compact_eq (g:List GE):xT g=(if (decide (((g).length:Int) < (2:Int)))=true then some g else (lp (zZ (cmpOut g) (1:Int)) λ(_:Int)=>some g)):=rfl
theorem cmpOut_run {L:List GE} (v:L.length<=16777216):∀(n k:Nat),L.length - k=n->0 < k->k<=L.length->dd (L.take k)=L.take k->lp (zZ (cmpOut L) (k:Int)) (λ(_:Int)=>some L)=some (dd L):=by
 intro n
 induction n with
 | zero =>
  intro k w h0 hk hd;have:k=L.length:=by omega
  subst this;rw [yI];simp only [cmpOut]
  simp_all
 | succ n ih =>
  intro k w h0 hk hd;have g:k < L.length:=by omega
  have j:L[k]?=some L[k]:=ue g;have hk1:k - 1 < L.length:=by omega
  have r:L[k - 1]?=some (L[k - 1]'hk1):=ue hk1;rw [yI];have s:zQ L (k:Int)=some L[k]:=by simp [zQ]
  have p:zQ L (IntKind.wrap .i64 ((k:Int) - 1))=some (L[k - 1]'hk1):=by
   rw [wrap_p1 h0 (by omega)];simp only [zQ,ut];rw [uv (by omega),r]
  have h:=dd_step (L:=L) (n:=k - 1) r (by rw [show k - 1+1=k by omega];exact j);rw [show k - 1+2=k+1 by omega,show k - 1+1=k by omega] at h;by_cases he:L[k]=L[k - 1]'hk1
  ·obtain ⟨o,t,m,y,z,C,u⟩:=cmpIn_run v h0 g (a:=L[k]) (by simp_all) j hd;have hs:slc (o.2.2.take ((m:Int)).toNat++List.replicate (L.length - ((m:Int)).toNat) (GE.mk (GJ.mk (0:Int) (0:Int)) (0:Int))) (0:Int) (m:Int)=some (o.2.2.take m):=by
    unfold slc;rw [uv (by simp;omega)];simp only [ut,pt,sf]
    grind
   have:cmpOut L (k:Int)=some (.ret (dd L)):=by
    simp only [cmpOut];rw [uv (by simp;omega),s,ua,p,ua,dotEq,uv (by simp [he])];rw [zj (by omega),t];simp only [lp];rw [zj (by omega),y,hs,ua,u]
   simp_all
  ·have:cmpOut L (k:Int)=some (.nxt ((k+1:Nat):Int)):=by
    simp only [cmpOut];rw [uv (by simp;omega),s,ua,p,ua,dotEq,uC (by simp [he]),xL (by omega)]
   rw [this];refine ih (k+1) (by omega) (by omega) (by omega) ?_;rw [h,uC (λe=>he e.symm),hd,tC,j];rfl
theorem compact_is {L:List GE} (g:L.length<=16777216):xT L=some (dd L):=by
 rw [compact_eq];by_cases h:L.length < 2
 ·rw [uv (by simp;omega)]
  match L,h with
  | [],_=>rfl
  | [x],_=>rfl
  | _::_::_,h=>simp at h;omega
 ·rw [uC (by simp;omega)];have:=cmpOut_run g (L.length - 1) 1 rfl (by omega) (by omega) (by
   match L,h with
   | x::y::r,_=>rfl
   | [],h=>simp at h
   | [x],h=>simp at h)
  omega

theorem dlt_irr (a:GE):ye a a=false:=by simp [ye]
theorem dlt_tr {a b c:GE} (h:ye a b=true) (g:ye b c=true):ye a c=true:=by
 unfold ye at *;grind
theorem dlt_tot (a b:GE):a=b \/ ye a b=true \/ ye b a=true:=by
 rcases a with ⟨⟨j,h⟩,a3⟩;rcases b with ⟨⟨g,m⟩,o⟩
 simp only [ye,GE.mk.injEq,GJ.mk.injEq];grind
theorem ilt_irr (a:GF):yc a a=false:=by simp [yc,dlt_irr]
theorem ilt_tr {a b c:GF} (h:yc a b=true) (g:yc b c=true):yc a c=true:=by
 unfold yc ye at *;grind
theorem ahead_pre {α:Type} {lt:α->α->Bool} (g:∀a b c,lt a b=true->lt b c=true->lt a c=true) (x:α):∀(L:List α),L.Pairwise (λa b=>lt a b=true)->∀(i:Nat) (y:α),L[i]?=some y->(lt y x=true ↔ i < (L.takeWhile λy=>lt y x).length)
 | [],_,i,y,h=>by simp at h
 | z::r,hs,i,y,h=>by
  obtain ⟨o,m⟩:=uL.1 hs;cases i with
  | zero =>
   simp only [List.getElem?_cons_zero,ui] at h;subst h;cases hz:lt z x <;> simp [tN,hz]
  | succ i =>
   simp only [pG] at h;have j:=ahead_pre g x r m i y h;cases hz:lt z x with
   | true=>simp [tN,hz,j]
   | false =>
    simp only [tN,hz,uk,uH,uV,Nat.not_lt_zero,iff_false]
    grind
theorem take_tw {α:Type} (p:α->Bool):∀L:List α,L.take (L.takeWhile p).length=L.takeWhile p
 | []=>rfl
 | x::r=>by cases h:p x <;> simp [tN,h,take_tw p r]
theorem drop_tw {α:Type} (p:α->Bool):∀L:List α,L.drop (L.takeWhile p).length=L.dropWhile p
 | []=>rfl
 | x::r=>by cases h:p x <;> simp [tN,List.dropWhile_cons,h,drop_tw p r]
theorem tw_le {α:Type} (p:α->Bool):∀L:List α,(L.takeWhile p).length<=L.length
 | []=>by simp
 | x::r=>by have:=tw_le p r;cases h:p x <;> simp [tN,h] <;> omega
theorem tw_add {α:Type} (p:α->Bool) (L:List α):(L.takeWhile p).length+(L.dropWhile p).length=L.length:=by
 rw [<- uo,tw]
theorem tw_all {α:Type} (p:α->Bool):∀(L:List α),∀y ∈ L.takeWhile p,p y=true
 | [],y,h=>by simp at h
 | x::r,y,h=>by
  cases hx:p x with
  | true =>
   rw [tN,uv hx] at h;rcases uQ.1 h with rfl | h
   ·exact hx
   ·exact tw_all p r y h
  | false=>rw [tN,uC (by simp [hx])] at h;simp at h
theorem pw_of_next {α:Type} {lt:α->α->Prop} (j:∀a b c,lt a b->lt b c->lt a c):∀(L:List α),(∀i a b,L[i]?=some a->L[i+1]?=some b->lt a b)->L.Pairwise lt
 | [],_=>.nil
 | [x],_=>by simp
 | x::y::r,h=>by
  have m:=pw_of_next j (y::r) λi a b p o=>h (i+1) a b (by simp_all) (by simp_all);have h0:=h 0 x y rfl rfl;refine uL.2 ⟨λz g=>?_,m⟩;rcases uQ.1 g with rfl | g
  ·exact h0
  ·exact j _ _ _ h0 ((uL.1 m).1 z g)
theorem rise_pw (h:riseB L=true):L.Pairwise λa b=>yc a b=true:=by
 refine pw_of_next (lt:=λa b=>yc a b=true) (λ_ _ _=>ilt_tr) L λi a b j g=>?_;have:=allI_iff.1 h (i+1) b g;simp only [Nat.succ_ne_zero,s9,tj,prevI,rG,uA,j,rt] at this;omega
theorem rising_pw {L:List GE} (h:xW L=true):L.Pairwise λa b=>ye a b=true:=by
 rw [rising_allI] at h;refine pw_of_next (lt:=λa b=>ye a b=true) (λ_ _ _=>dlt_tr) L λi a b j g=>?_;have:=allI_iff.1 h (i+1) b g;simp only [xR,Nat.succ_ne_zero,s9,tj,rG,uA,j,rt] at this;omega
theorem strict_ext {α:Type} {lt:α->α->Prop} (j:∀a,¬ lt a a) (m:∀a b c,lt a b->lt b c->lt a c):∀(A B:List α),A.Pairwise lt->B.Pairwise lt->(∀x,x ∈ A ↔ x ∈ B)->A=B
 | [],[],_,_,_=>rfl
 | [],b::B,_,_,h=>by have:=(h b).2 (by simp);simp at this
 | a::A,[],_,_,h=>by have:=(h a).1 (by simp);simp at this
 | a::A,b::B,hA,hB,h=>by
  obtain ⟨s,o⟩:=uL.1 hA;obtain ⟨r,p⟩:=uL.1 hB;have g:a=b:=by
   rcases uQ.1 ((h a).1 (by simp)) with e | u
   ·exact e
   ·rcases uQ.1 ((h b).2 (by simp)) with e | t
    ·simp_all
    ·grind
  subst g;rw [strict_ext j m A B o p λx=>?_]
  grind
def layP (L:List GF) (x:GF):List GF:=if (L.any λy=>decide (y.dot=x.dot))=true then L else L.takeWhile (λy=>yc y x)++([x]++L.dropWhile λy=>yc y x)
def burP (L:List GE) (d:GE):List GE:=if (L.any λy=>decide (y=d))=true then L else L.takeWhile (λy=>ye y d)++([d]++L.dropWhile λy=>ye y d)
theorem firstI_pos {α:Type} (p:α->Bool) (L:List α):decide (qO p L >= 0)=L.any p:=firstI_any p L
theorem slcT {α:Type} (L:List α) (n:Nat) (h:n<=L.length):slc L (n:Int) (L.length:Int)=some (L.drop n):=by
 unfold slc
 simp_all
theorem tw_loop {α:Type} {L:List α} (p:α->Bool) {f:List α×Int->Option (Out (List α) (List α×Int))} (r:∀(A:List α) (i:Nat) (y:α),A.length=i->L[i]?=some y->f (A,(i:Int))=if p y=true then some (.nxt (A++[y],((i+1:Nat):Int))) else some (.brk (A,(i:Int))))
  (s:∀A:List α,f (A,(L.length:Int))=some (.brk (A,(L.length:Int)))):∀(n i:Nat),L.length - i=n->i<=(L.takeWhile p).length ->
  zZ f (L.take i,(i:Int))=some (.inr (L.takeWhile p,((L.takeWhile p).length:Int))):=by
 intro n
 induction n with
 | zero =>
  intro i w hi;have u:=tw_le p L;have o:i=L.length:=by omega
  subst o;rw [yI,s];have C:(L.takeWhile p).length=L.length:=by omega
  have z:=take_tw p L
  grind
 | succ n ih =>
  intro i w hi;have g:i < L.length:=by omega
  have t:L[i]?=some L[i]:=ue g;have h:L.takeWhile p=L.take i++(L.drop i).takeWhile p:=by
   have r:L.take i=(L.takeWhile p).take i:=by
    conv=>lhs;rw [<- tw (p:=p) (l:=L)]
    grind
   have s:∀y ∈ L.take i,p y=true:=by
    rw [r];intro y v;exact tw_all _ _ _ (List.mem_of_mem_take v)
   conv=>lhs;rw [<- se i L]
   simp_all
  have m:L.drop i=L[i]::L.drop (i+1):=(s8 g).symm;have j:(L.take i).length=i:=by simp;omega
  rw [yI,r _ _ _ j t];cases ha:p L[i] with
  | true =>
   simp only [ur];have e:L.take i++[L[i]]=L.take (i+1):=by grind
   rw [e];refine ih (i+1) (by omega) ?_;rw [h,m,tN,uv ha]
   grind
  | false =>
   simp only [uk,uH];have e:L.takeWhile p=L.take i:=by rw [h,m,tN,uC (by simp [ha])];simp
   grind
noncomputable def layF (L:List GF) (x:GF):(List GF)×Int->Option (Out (List GF) ((List GF)×Int)):=(λ(s1:(List GF)×Int)=>((yl (((decide (s1.2 < ((L).length:Int)))==true)=true->0<=s1.2/\s1.2 < ((L).length:Int)) ((yl (((decide (s1.2 < ((L).length:Int)))==true)=true->0<=s1.2/\s1.2 < ((L).length:Int)) (((if ((decide (s1.2 < ((L).length:Int)))==true)=true then wi (((L).getD s1.2.toNat default).time) (((L).getD s1.2.toNat default).dot) x.time x.dot else some default).bind λv21=>(if ((decide (s1.2 < ((L).length:Int)))&&v21)=true then ((zQ L s1.2).bind λy23=>(yl ((s1.1).length+(([y23]:List GF)).length<=lim) (some (.nxt ((s1.1++([y23]:List GF)),(IntKind.wrap .i64 (s1.2+(1:Int)))))))) else some (.brk (s1.1,s1.2)))))))):Option (Out _ ((List GF)×Int))))
theorem lay_loop (p:L.length<=16777216) (x:GF):zZ (layF L x) ([],0)=some (.inr (L.takeWhile (λy=>yc y x),((L.takeWhile λy=>yc y x).length:Int))):=by
 refine tw_loop (λy=>yc y x) (f:=layF L x) (λA i y r m=>?_) (λA=>?_) L.length 0 (by omega) (tz _)
 ·have o:i < L.length:=(uc.1 m).1;have hd:decide ((i:Int) < (L.length:Int))=true:=uT (by omega);have g:L.getD i default=y:=by simp_all
  have h:zQ L (i:Int)=some y:=by simp [zQ,m]
  simp only [layF,hd];rw [zj (by omega),zj (by omega)];simp only [uP,ur,ut,g,ref05Ahead_is,ua,uU];have j:(if y.time ≠ x.time then decide (y.time < x.time) else ye y.dot x.dot)=yc y x:=rfl;rw [j];cases ha:yc y x with
  | true=>simp only [ur];rw [h,ua,zj (by simp [lim];omega),xL (by omega)]
  | false=>rfl
 ·have hd:decide ((L.length:Int) < (L.length:Int))=false:=tb (by omega);simp only [layF,hd];rfl
theorem refLay_is (m:L.length<=16777215) (x:GF):ref05Lay L x=some (layP L x):=by
 unfold ref05Lay;rw [ref05Item_is,ua,firstI_pos];unfold layP;cases h:L.any λy=>decide (y.dot=x.dot) with
 | true=>simp only [ur];rw [zj (by simp [lim];omega)];rfl
 | false =>
  simp only [uk,uH];have g:=lay_loop (L:=L) (by omega) x;unfold layF at g;have j:=tw_le (λy=>yc y x) L;have o:=tw_add (λy=>yc y x) L;rw [g];simp only [lp];rw [zj (by simp [lim];omega),slcT _ _ j,ua,drop_tw,zj (by simp [lim];omega)];simp
noncomputable def burF (L:List GE) (x:GE):(List GE)×Int->Option (Out (List GE) ((List GE)×Int)):=(λ(s1:(List GE)×Int)=>((yl (((decide (s1.2 < ((L).length:Int)))==true)=true->0<=s1.2/\s1.2 < ((L).length:Int)) (((if ((decide (s1.2 < ((L).length:Int)))==true)=true then vC ((L).getD s1.2.toNat default) x else some default).bind λv16=>(if ((decide (s1.2 < ((L).length:Int)))&&v16)=true then ((zQ L s1.2).bind λy18=>(yl ((s1.1).length+(([y18]:List GE)).length<=lim) (some (.nxt ((s1.1++([y18]:List GE)),(IntKind.wrap .i64 (s1.2+(1:Int)))))))) else some (.brk (s1.1,s1.2)))))):Option (Out _ ((List GE)×Int))))
theorem bury_loop {L:List GE} (o:L.length<=16777216) (x:GE):zZ (burF L x) ([],0)=some (.inr (L.takeWhile (λy=>ye y x),((L.takeWhile λy=>ye y x).length:Int))):=by
 refine tw_loop (λy=>ye y x) (f:=burF L x) (λA i y p j=>?_) (λA=>?_) L.length 0 (by omega) (tz _)
 ·have m:i < L.length:=(uc.1 j).1;have hd:decide ((i:Int) < (L.length:Int))=true:=uT (by omega);have g:L.getD i default=y:=by simp_all
  have h:zQ L (i:Int)=some y:=by simp [zQ,j]
  simp only [burF,hd];rw [zj (by omega)];simp only [uP,ur,ut,g,ref03Less_is,ua,uU];cases ha:ye y x with
  | true=>simp only [ur];rw [h,ua,zj (by simp [lim];omega),xL (by omega)]
  | false=>rfl
 ·have hd:decide ((L.length:Int) < (L.length:Int))=false:=tb (by omega);simp only [burF,hd];rfl
theorem refBury_is {L:List GE} (m:L.length<=16777215) (x:GE):ref05Bury L x=some (burP L x):=by
 unfold ref05Bury;rw [vA,ua];unfold burP;cases h:L.any λy=>decide (y=x) with
 | true=>simp only [ur]
 | false =>
  simp only [uk,uH];have g:=bury_loop (L:=L) (by omega) x;unfold burF at g;have j:=tw_le (λy=>ye y x) L;have o:=tw_add (λy=>ye y x) L;rw [g];simp only [lp];rw [zj (by simp [lim];omega),slcT _ _ j,ua,drop_tw,zj (by simp [lim];omega)];simp

theorem sortO_le {α:Type} {c:α->α->Option Int} {cf:α->α->Int} {lt:α->α->Prop} {L R:List α} (H:∀x ∈ L,∀y ∈ L,c x y=some (cf x y)) (w:∀x y,cf x y < 0 ↔ lt x y) (p:∀x,¬ lt x x) (u:∀x y z,lt x y->lt y z->lt x z)
  (D:∀x ∈ L,∀y ∈ L,x=y \/ lt x y \/ lt y x) (t:R.Perm L) (hs:R.Pairwise λa b=>¬ lt b a) (E:L.length<=lim):qY c L=some R:=by
 unfold qY;rw [uv (λx g y j=>by simp_all)];have hd:∀x ∈ L,∀y ∈ L,(c x y).getD 0 < 0 ↔ lt x y:=λx g y j=>by simp_all
 have r:∀x y,lt x y->¬ lt y x:=λx y o m=>p x (u _ _ _ o m);have v:R.Pairwise λa b=>¬ (c b a).getD 0 < 0:=by
  have:R.Pairwise λa b=>a ∈ L/\b ∈ L/\¬ lt b a:=by
   refine pC ?_ hs
   grind
  refine this.imp ?_
  simp_all
 refine sortF_of ⟨λx g h=>p x ((hd x g x g).1 h),λx y z g j s o m=>(hd x g z s).2 (u _ _ _ ((hd x g y j).1 o) ((hd y j z s).1 m)),λx y z g j s o m G=>?_⟩ E ⟨t,v⟩ ?_
 ·grind
 ·rintro M ⟨F,C⟩
  refine sorted_one (F.trans t.symm) C v λx y g j o m=>?_
  grind
theorem dotCmp_iff (a b:GE):dotCmp a b < 0 ↔ ye a b=true:=by rw [<- dotCmp_neg];simp
def srt (L:List GE):List GE:=L.mergeSort λa b=>!ye b a
theorem srt_pw (L:List GE):(srt L).Pairwise λa b=>¬ ye b a=true:=by
 have:=pL (le:=λa b=>!ye b a) (λa b c m g=>by
  simp only [tH] at *;cases h:ye c a with
  | false=>rfl
  | true =>
   rcases dlt_tot a b with rfl | j | j
   ·rw [g] at h;cases h
   ·rw [dlt_tr h j] at g;cases g
   ·rw [m] at j;cases j) (λa b=>by
  cases h:ye b a with
  | false=>rfl
  | true =>
   cases g:ye a b with
   | false=>rfl
   | true=>have:=dlt_tr h g;rw [dlt_irr] at this;cases this) L
 refine this.imp λ{a b} h=>?_;simpa using h
theorem srt_perm (L:List GE):(srt L).Perm L:=pi ..
theorem sortDots_is {L:List GE} (g:L.length<=lim):qY (λx y=>wx x y) L=some (srt L) :=
 sortO_le (cf:=dotCmp) (lt:=λa b=>ye a b=true) (λx _ y _=>dotCompare_is x y) dotCmp_iff (λx=>by simp [dlt_irr]) (λ_ _ _=>dlt_tr) (λx _ y _=>dlt_tot x y) (srt_perm L) (srt_pw L) g
theorem bur_mem (L:List GE) (d x:GE):x ∈ burP L d ↔ x=d \/ x ∈ L:=by
 unfold burP;split
 ·simp_all
 ·have h:x ∈ L ↔ x ∈ L.takeWhile (λy=>ye y d) \/ x ∈ L.dropWhile (λy=>ye y d):=by
   rw [<- uD,tw]
  grind
theorem dw_not {α:Type} {lt:α->α->Bool} (m:∀a b c,lt a b=true->lt b c=true->lt a c=true) (x:α) {L:List α} (hs:L.Pairwise (λa b=>lt a b=true)):∀y ∈ L.dropWhile (λy=>lt y x),lt y x=false:=by
 intro y h;rw [<- drop_tw] at h;obtain ⟨j,g⟩:=tm.1 h;rw [uG] at g;have:=ahead_pre m x L hs _ y g
 grind
theorem ins_pw {α:Type} {lt:α->α->Bool} (s:∀a b c,lt a b=true->lt b c=true->lt a c=true) {x:α} {L:List α} (hs:L.Pairwise (λa b=>lt a b=true)) (u:∀y ∈ L,lt y x=true \/ lt x y=true):(L.takeWhile (λy=>lt y x)++([x]++L.dropWhile λy=>lt y x)).Pairwise λa b=>lt a b=true:=by
 have j:=hs;rw [<- tw (p:=λy=>lt y x) (l:=L)] at j;obtain ⟨t,r,v⟩:=u9.1 j;have hd:∀y ∈ L.dropWhile (λy=>lt y x),lt x y=true:=λy m=>by
  rcases u y (pN _ |>.subset m) with h | h
  ·rw [dw_not s x hs y m] at h;cases h
  ·exact h
 refine u9.2 ⟨t,u9.2 ⟨by simp,r,λa o b g=>?_⟩,λa o b g=>?_⟩
 ·simp_all
 ·rcases uD.1 g with g | g
  ·rw [ux] at g;subst g;exact tw_all (λy=>lt y b) _ _ o
  ·simp_all
theorem bur_pw {L:List GE} (d:GE) (h:L.Pairwise λa b=>ye a b=true):(burP L d).Pairwise λa b=>ye a b=true:=by
 unfold burP;split
 ·exact h
 ·rename_i m;refine ins_pw (lt:=ye) (λ_ _ _=>dlt_tr) h λy j=>?_;rcases dlt_tot y d with rfl | g | g
  ·simp_all
  ·simp_all
  ·simp_all
theorem bur_len (L:List GE) (d:GE):(burP L d).length<=L.length+1:=by
 unfold burP;split
 ·omega
 ·have:=tw_add (λy=>ye y d) L
  grind
def burs (L ds:List GE):List GE:=ds.foldl burP L
theorem burs_mem:∀(ds L:List GE) (x:GE),x ∈ burs L ds ↔ x ∈ ds \/ x ∈ L
 | [],L,x=>by simp [burs]
 | d::ds,L,x=>by
  have:=burs_mem ds (burP L d) x;simp only [burs,so] at this ⊢;rw [this,bur_mem]
  grind
theorem burs_pw:∀(ds:List GE) {L:List GE},L.Pairwise (λa b=>ye a b=true)->(burs L ds).Pairwise λa b=>ye a b=true
 | [],_,h=>h
 | d::ds,_,h=>burs_pw ds (bur_pw d h)
theorem burs_len:∀(ds L:List GE),(burs L ds).length<=L.length+ds.length
 | [],L=>by simp [burs]
 | d::ds,L=>by
  have g:=burs_len ds (burP L d);have h:=bur_len L d;simp only [burs,so,uu] at g ⊢;omega
theorem burs_eq {L:List GE} (h:L.Pairwise λa b=>ye a b=true):dd (srt (L++ds))=burs L ds:=by
 refine strict_ext (lt:=λa b=>ye a b=true) (λa=>by simp [dlt_irr]) (λ_ _ _=>dlt_tr) _ _ (dd_strict (lt:=λa b=>ye a b=true) (λa b g=>?_) (λ_ _ _=>dlt_tr) _ (srt_pw _)) (burs_pw ds h) λx=>?_
 ·rcases dlt_tot a b with e | e | e
  ·simp_all
  ·simp_all
  ·simp_all
 ·rw [dd_mem,(srt_perm _).mem_iff,burs_mem,uD]
  grind
theorem layC_is (a b:GF):∃v,yQ a b=some v/\(v < 0 ↔ yc a b=true):=by
 have h:=vG a.time a.dot b.time b.dot;unfold w9 at h;unfold yQ;cases hc:vF a.time a.dot b.time b.dot with
 | none=>rw [hc] at h;cases h
 | some v =>
  rw [hc] at h;simp only [ua,ui] at h;refine ⟨v,rfl,?_⟩;have:yc a b=decide (v < 0):=h.symm
  grind
theorem searchI (j:L.length<=1048576) (hs:L.Pairwise λa b=>yc a b=true) (x:GF):∃b,zS L x (λg o=>yQ g o)=some (((L.takeWhile λy=>yc y x).length:Int),b):=by
 have p:=tw_le (λy=>yc y x) L;have m:∀i n,L[i]?=some n->∃v,yQ n x=some v/\(i < (L.takeWhile λy=>yc y x).length->v < 0)/\((L.takeWhile λy=>yc y x).length<=i->0<=v):=λi n hi=>by
  obtain ⟨v,e,s⟩:=layC_is n x;have r:=ahead_pre (lt:=yc) (λ_ _ _=>ilt_tr) x L hs i n hi
  grind
 rw [bsI_is j p m];by_cases h:(L.takeWhile λy=>yc y x).length < L.length
 ·rw [uv h];obtain ⟨v,e,_⟩:=layC_is (L.getD (L.takeWhile λy=>yc y x).length default) x
  simp_all
 ·rw [uC h];exact ⟨_,rfl⟩
theorem insO_is (h:L.length<=1048576) (x:GF) {n:Nat} (g:n<=L.length):insO L (n:Int) [x]=some (L.take n++([x]++L.drop n)):=by
 unfold insO;rw [uv ⟨⟨by omega,by omega⟩,by simp,by simp [lim];omega⟩,ut]
theorem progLay_is (m:L.length<=1048576) (hs:L.Pairwise λa b=>yc a b=true) (x:GF) :
  ((leafXhas L x.dot).bind λg=>(if g=true then some L else ((zS L x (λo p=>yQ o p)).bind λj=>((insO L j.1 ([x]:List GF)).bind λv39=>some v39))))=some (layP L x):=by
 rw [leafXhas_is,ua];unfold layP;cases h:L.any λy=>decide (y.dot=x.dot) with
 | true=>rfl
 | false =>
  simp only [uk,uH];obtain ⟨b,e⟩:=searchI m hs x;rw [e,ua,insO_is m x (tw_le _ _),ua,take_tw,drop_tw]
theorem containsDot_is (L:List GE) (d:GE):y8 L d=some (L.any λy=>decide (y=d)):=by
 unfold y8 qA;have:=first_loop (α:=GE) (f:=λx=>some (decide (x=d))) (q:=λx=>decide (x=d)) L (λ_ _=>rfl);have e:∀(h:Nat) (g:GE),(if (d.actor.rep==g.actor.rep&&(d.actor.inc==g.actor.inc&&(d.seq==g.seq&&true)))=true then some (.ret (h:Int)) else some (.nxt ()):Option (Out Int Unit))=((some (decide (g=d)):Option Bool).bind λv=>if v=true then some (.ret (h:Int)) else some (.nxt ())):=λh g=>by
  rw [dotEq,ua]
  grind
 simp only [e];rw [this,ua,firstI_pos]
theorem dropC_is (x:GF) (e:GH):wl x e=some (e.op.dots.any λy=>decide (y=x.dot)):=by
 unfold wl;rw [containsDot_is];rfl

def xf (l:GC) (e:GH):GC :=
 if e.op.kind=1 then { l with n:=IntKind.wrap .i64 (l.n+e.op.n) }
 else if e.op.kind=2 then (if (decide (l.time=0) || (if l.time ≠ e.time then decide (l.time < e.time) else ye l.dot e.dot))=true then { l with time:=e.time,dot:=e.dot,text:=e.op.text } else l)
 else if e.op.kind=3 then (if (l.tombs.any λy=>decide (y=e.dot))=true then l else { l with items:=layP l.items ⟨0,e.dot,e.op.text⟩ })
 else if e.op.kind=4 then { l with items:=l.items.filter (λx=>!(e.op.dots.any λy=>decide (y=x.dot))),tombs:=burs l.tombs e.op.dots }
 else { l with items:=layP l.items ⟨e.time,e.dot,e.op.text⟩ }
def zeroLf:GC:=GC.mk (0:Int) (0:Int) (0:Int) (GE.mk (GJ.mk (0:Int) (0:Int)) (0:Int)) ([]:zu) ([]:List GF) ([]:List GE)
def applyW (l:GC) (e:GH):GC×Int:=if (!leafB l || !eventB e)=true then (zeroLf,2) else if wT e.op.kind ≠ l.typ then (zeroLf,15) else (xf l e,0)
theorem riseB_of (h:leafB l=true):l.items.Pairwise λa b=>yc a b=true:=by
 unfold leafB at h;split at h
 ·simp_all
 ·split at h
  ·simp_all
  ·split at h
   ·simp only [ud] at h;exact rise_pw h.1.2.1.2
   ·split at h
    ·simp only [ud] at h;exact rise_pw h.2.1.2
    ·cases h
theorem tombs_of (h:leafB l=true):l.tombs.Pairwise λa b=>ye a b=true:=by
 unfold leafB at h;split at h
 ·simp_all
 ·split at h
  ·simp_all
  ·split at h
   ·simp only [ud,tombsB] at h;exact rising_pw h.2.1.2
   ·simp_all
theorem apart_of_leaf (h:leafB l=true):∀x ∈ l.items,∀d ∈ l.tombs,d ≠ x.dot:=by
 intro x g d hd;unfold leafB at h;split at h
 ·simp_all
 ·split at h
  ·simp_all
  ·split at h
   ·simp only [ud,tombsB] at h
    grind
   ·simp_all
theorem kind_of (h:eventB e=true):1<=e.op.kind/\e.op.kind<=5:=by
 simp only [eventB,opB,ud,uj] at h;omega
theorem dots_of (h:eventB e=true):e.op.dots.length<=64:=by
 simp only [eventB,opB,ud,uj] at h;omega
theorem leafApply_is (e:GH) (hi:l.items.length<=1048576) (m:l.tombs.length<=1048576):leafApply l e=some (applyW l e):=by
 unfold leafApply applyW;rw [leafMay_is (by unfold maxLen;omega) (by unfold maxLen;omega),ua];cases hl:leafB l with
 | false=>simp [zeroLf]
 | true =>
  simp only [tn,tj,uP,ur,opMayEvent_is,ua];cases he:eventB e with
  | false=>simp [zeroLf]
  | true =>
   simp only [tn,uk,uH,opType_is,ua];by_cases hk:wT e.op.kind=l.typ
   ·rw [uC (show ¬ (wT e.op.kind != l.typ)=true by simp [hk]),uC (show ¬ wT e.op.kind ≠ l.typ by simp [hk])];rw [qS (by unfold lim;omega),ua,qr (by unfold lim;omega),ua];unfold xf;by_cases h1:e.op.kind=1
    ·simp_all
    simp only [h1,uH];by_cases h2:e.op.kind=2
    ·simp only [h2,ur,vG,ua];have h:(l.time==(0:Int))=decide (l.time=0):=by rfl
     rw [h];cases h0:decide (l.time=0) with
     | true=>simp
     | false =>
      simp only [uP,ur,ua,tj];generalize (if l.time ≠ e.time then decide (l.time < e.time) else ye l.dot e.dot)=b;cases b <;> rfl
    simp only [h2,uH];by_cases h3:e.op.kind=3
    ·simp only [h3,ur,containsDot_is,ua];have:=progLay_is hi (riseB_of hl) ⟨0,e.dot,e.op.text⟩;simp only at this;rw [this];cases l.tombs.any (λy=>decide (y=e.dot)) <;> rfl
    simp only [h3,uH];have hd:=dots_of he;by_cases h4:e.op.kind=4
    ·simp only [h4,ur];rw [zj (by unfold lim;omega),sortDots_is (by simp [lim];omega),ua,compact_is (by rw [(srt_perm _).length_eq];simp;omega),ua,
      deleteI_is (q:=λx=>e.op.dots.any λy=>decide (y=x.dot)) (by omega) (λx _=>dropC_is x e),ua,burs_eq (tombs_of hl)]
     rfl
    simp only [h4,uH];have j:e.op.kind=5:=by have:=kind_of he;omega
    simp only [j,ur];have:=progLay_is hi (riseB_of hl) ⟨e.time,e.dot,e.op.text⟩
    simp_all
   ·have g:(wT e.op.kind != l.typ)=true:=by simp [hk]
    simp only [g,ur,hk,ne_eq,px,uk,uH,zeroLf]
theorem refTombs_fold:∀(ds L:List GE) (n:Nat),L.length+ds.length<=16777215->zp (λ(o:Nat) (j:GE) (m:(List GE))=>(((ref05Bury m j).bind λg=>some (.nxt g)):Option (Out (GC×Int) (List GE)))) ds n L=some (.inr (burs L ds))
 | [],L,n,_=>rfl
 | d::ds,L,n,h=>by
  simp only [uu] at h;have p:=bur_len L d;simp only [zp];rw [refBury_is (by omega),ua];exact refTombs_fold ds (burP L d) (n+1) (by omega)
theorem refLeft_is (L:List GF) (T:List GE) (o:L.length<=16777215):ref05Left L T=some (L.filter λx=>!(T.any λy=>decide (y=x.dot))):=by
 unfold ref05Left;have:∀(L s:List GF) (n:Nat),s.length+L.length<=16777215->zp (λ(p:Nat) (j:GF) (m:(List GF))=>(((vB T j.dot).bind λg=>(if (!g)=true then (yl ((m).length+(([j]:List GF)).length<=lim) (some (.nxt (m++([j]:List GF))))) else some (.nxt m))):Option (Out (List GF) (List GF)))) L n s=some (.inr (s++L.filter λx=>!(T.any λy=>decide (y=x.dot)))):=by
  intro L
  induction L with
  | nil=>intro s n _;simp [zp]
  | cons x r ih =>
   intro s n h;simp only [uu] at h;simp only [zp,vA,ua];cases hx:T.any λy=>decide (y=x.dot) with
   | true =>
    simp only [tn,uk,uH];rw [sK,uC (by simp [hx])];have:=ih s (n+1) (by omega);simp only [vA,ua] at this;omega
   | false =>
    simp only [sE,ur];rw [zj (by simp [lim];omega),sK,uv (by simp [hx])];have:=ih (s++[x]) (n+1) (by simp;omega);simp only [vA,ua,uB,rQ] at this;omega
 simp_all
theorem refApply_is (e:GH) (hi:l.items.length<=1048576) (t:l.tombs.length<=1048576) (h0:0<=l.time):ref05Apply l e=some (applyW l e):=by
 unfold ref05Apply applyW;rw [ref05May_is (by unfold maxLen;omega) (by unfold maxLen;omega) h0,ua];cases hl:leafB l with
 | false=>simp [zeroLf]
 | true =>
  simp only [tn,tj,uP,ur,ref04MayEvent_is,ua];cases he:eventB e with
  | false=>simp [zeroLf]
  | true =>
   simp only [tn,uk,uH,ref04Type_is,ua];by_cases hk:wT e.op.kind=l.typ
   ·rw [uC (show ¬ (wT e.op.kind != l.typ)=true by simp [hk]),uC (show ¬ wT e.op.kind ≠ l.typ by simp [hk])];unfold xf;by_cases h1:e.op.kind=1
    ·simp_all
    have m:(e.op.kind==(1:Int))=false:=by simp [h1]
    simp only [h1,m,uk,uH];by_cases h2:e.op.kind=2
    ·simp only [h2,uP,ur,ref05Ahead_is,ua]
     grind
    have n2:(e.op.kind==(2:Int))=false:=by simp [h2]
    simp only [h2,n2,uk,uH];by_cases g:e.op.kind=3
    ·simp only [g,uP,ur,vA,ua];cases l.tombs.any (λy=>decide (y=e.dot)) with
     | true=>rfl
     | false=>simp only [sE,ur,uk,uH];rw [refLay_is (by omega)];rfl
    have r:(e.op.kind==(3:Int))=false:=by simp [g]
    simp only [g,r,uk,uH];have hd:=dots_of he;by_cases h4:e.op.kind=4
    ·simp only [h4,uP,ur];rw [refTombs_fold _ _ _ (by omega)];simp only [lp];rw [refLeft_is _ _ (by omega),ua];congr 3;refine rN λx p=>?_;congr 1;rw [tv,ry,ry];constructor
     ·rintro ⟨d,hd,h⟩
      have h:=tq h;rcases (burs_mem _ _ _).1 hd with g | g
      ·simp_all
      ·exact (apart_of_leaf hl x p d g h).elim
     ·rintro ⟨d,hd,h⟩
      exact ⟨d,(burs_mem _ _ _).2 (.inl hd),h⟩
    have s:(e.op.kind==(4:Int))=false:=by simp [h4]
    simp only [h4,s,uk,uH];have o:e.op.kind=5:=by have:=kind_of he;omega
    simp only [o,uP,ur];rw [refLay_is (by omega)];rfl
   ·have j:(wT e.op.kind != l.typ)=true:=by simp [hk]
    simp only [j,ur,hk,ne_eq,px,uk,uH,zeroLf]


theorem bsf_loop {cmp:GC->Int->Option Int} {x:List GC} {s:Int} (z:x.length<=16777216) (t:∀i n,x[i]?=some n->∃v,cmp n s=some v/\(i < c->v < 0)/\(c<=i->0<=v)) :
  ∀(k lo hi:Nat),hi - lo<=k->lo<=c->c<=hi->hi<=x.length->zZ (ρ:=Int×Bool) (λ(g:Int×Int)=>((if (decide (g.1 < g.2))=true then ((zQ x (IntKind.wrap .i64 ((Int.fdiv (IntKind.wrap .u64 ((IntKind.wrap .i64 (g.1+g.2)))) (2 ^ (min (1:Int).toNat (IntKind.bits .u64))))))).bind λu=>((cmp u s).bind λh=>(if (decide (h < (0:Int)))=true then some (.nxt ((IntKind.wrap .i64 ((IntKind.wrap .i64 ((Int.fdiv (IntKind.wrap .u64 ((IntKind.wrap .i64 (g.1+g.2)))) (2 ^ (min (1:Int).toNat (IntKind.bits .u64))))))+(1:Int))),g.2)) else some (.nxt (g.1,(IntKind.wrap .i64 ((Int.fdiv (IntKind.wrap .u64 ((IntKind.wrap .i64 (g.1+g.2)))) (2 ^ (min (1:Int).toNat (IntKind.bits .u64))))))))))) else some (.brk (g.1,g.2))):Option (Out _ (Int×Int)))) ((lo:Int),(hi:Int))=some (.inr ((c:Int),(c:Int))):=by
 intro k
 induction k with
 | zero =>
  intro lo hi r j o hh;obtain rfl:lo=hi:=by omega
  obtain rfl:lo=c:=by omega
  rw [yI];simp
 | succ k ih =>
  intro lo hi r j o hh;rw [yI];by_cases hlt:lo < hi
  ·have hd:decide ((lo:Int) < (hi:Int))=true:=uT (by omega);simp only [hd,ur,half_mid hlt (by omega)];have m:(lo+hi) / 2 < x.length:=by omega
   rw [qL m,ua];obtain ⟨v,w,p,y⟩:=t ((lo+hi) / 2) _ (ue m);rw [w,ua];by_cases hcm:(lo+hi) / 2 < c
   ·rw [uT (p hcm),uv rfl];simp only;have e:IntKind.wrap .i64 ((((lo+hi) / 2:Nat):Int)+1)=(((lo+hi) / 2+1:Nat):Int):=by rw [x9 (by omega)];omega
    rw [e];exact ih _ _ (by omega) (by omega) o hh
   ·rw [tb (by omega)];simp only [uk,uH];exact ih _ _ (by omega) j (by omega) (by omega)
  ·grind
theorem bsf_is {cmp:GC->Int->Option Int} {x:List GC} {s:Int} (m:x.length<=16777216) (j:c<=x.length) (g:∀i n,x[i]?=some n->∃v,cmp n s=some v/\(i < c->v < 0)/\(c<=i->0<=v)) :
  zG x s cmp=(if c < x.length then cmp (x.getD c default) s else some 1).bind λv=>some ((c:Int),(decide (c < x.length)&&(v==0))):=by
 unfold zG;have:=bsf_loop m g x.length 0 x.length (by omega) (tz _) j (uh _);simp only [rx] at this;rw [show ((0:Int),(x.length:Int))=(((0:Nat):Int),(x.length:Int)) from rfl] at *;rw [this];simp only [lp];by_cases h:c < x.length
 ·have hd:decide ((c:Int) < (x.length:Int))=true:=uT (by omega);simp only [hd,h,ur,ut,uP,rW,uU];rw [zj (by omega)]
 ·have hd:decide ((c:Int) < (x.length:Int))=false:=tb (by omega);simp only [hd,h,uH,s9,rk,ua];rfl

theorem putC_is (x:GC) (k:Int):wJ x k=some (cmpI x.typ k):=by unfold wJ;rw [cmpU8is];rfl
theorem cmpI_neg {a b:Int}:cmpI a b < 0 ↔ a < b:=by unfold cmpI;split <;> (try split) <;> omega
theorem cmpI_zero {a b:Int}:cmpI a b=0 ↔ a=b:=by unfold cmpI;split <;> (try split) <;> omega
theorem split_typ (k:Int) (h:ls.Pairwise λx y=>x.typ < y.typ):(∃A B,ls=A++B/\(∀y ∈ A,y.typ < k)/\∀y ∈ B,k < y.typ) \/ ∃A x B,ls=A++x::B/\x.typ=k/\(∀y ∈ A,y.typ < k)/\∀y ∈ B,k < y.typ:=by
 induction ls with
 | nil=>exact .inl ⟨[],[],rfl,λ_ h=>by simp at h,λ_ h=>by simp at h⟩
 | cons x t ih =>
  obtain ⟨m,j⟩:=uL.1 h;rcases Int.lt_trichotomy x.typ k with e | e | e
  ·grind
  ·exact .inr ⟨[],x,t,rfl,e,λ_ h=>by simp at h,λy g=>by simp_all⟩
  ·refine .inl ⟨[],x::t,rfl,λ_ h=>by simp at h,λy g=>?_⟩
   grind
theorem layLs_none (h:∀y ∈ A,y.typ < l.typ) (j:∀y ∈ B,l.typ < y.typ):qn l.typ l true (A++B)=A++l::B:=by
 unfold qn;rw [uv rfl,tU,tU];rw [tM.2 (λy g=>uT (h y g)),t8.2 (λy g=>by grind),
  t8.2 (λy g=>by grind),tM.2 (λy g=>uT (j y g))]
 simp
theorem layLs_some (m:x.typ=l.typ) (h:∀y ∈ A,y.typ < l.typ) (j:∀y ∈ B,l.typ < y.typ):qn l.typ l true (A++x::B)=A++l::B:=by
 unfold qn;rw [uv rfl,tU,tU,sK,sK];rw [uC (by simp;omega),uC (by simp;omega)];rw [tM.2 (λy g=>uT (h y g)),t8.2 (λy g=>by grind),
  t8.2 (λy g=>by grind),tM.2 (λy g=>uT (j y g))]
 simp
theorem bsf_none (t:(A++B).length<=16777216) (p:∀y ∈ A,y.typ < k) (j:∀y ∈ B,k < y.typ):zG (A++B) k (λo s=>wJ o s)=some ((A.length:Int),false):=by
 rw [bsf_is (c:=A.length) t (by simp) λi m hi=>⟨_,putC_is m k,λg=>by
   rw [un g] at hi;exact cmpI_neg.2 (p m (uW hi)),λg=>by
   rw [um g] at hi;have:=j m (uW hi);have u:¬ cmpI m.typ k < 0:=λh=>by rw [cmpI_neg] at h;omega
   omega⟩]
 cases B with
 | nil=>simp
 | cons y B =>
  have e:(A++y::B).getD A.length default=y:=by simp
  have:=j y (by simp);rw [uv (by simp),e,putC_is];have r:(cmpI y.typ k==0)=false:=by
   rw [sH,Ne,cmpI_zero];omega
  simp [r]
theorem bsf_some (r:(A++x::B).length<=16777216) (hs:x.typ=k) (o:∀y ∈ A,y.typ < k) (u:∀y ∈ B,k < y.typ):zG (A++x::B) k (λj p=>wJ j p)=some ((A.length:Int),true):=by
 rw [bsf_is (c:=A.length) r (by simp) λi m hi=>⟨_,putC_is m k,λg=>by
   rw [un g] at hi;exact cmpI_neg.2 (o m (uW hi)),λg=>by
   rw [um g] at hi;have t:¬ m.typ < k:=by
    grind
   have s:¬ cmpI m.typ k < 0:=λh=>by rw [cmpI_neg] at h;omega
   omega⟩]
 have e:(A++x::B).getD A.length default=x:=by simp
 rw [uv (by simp),e,putC_is,cmpI_zero.2 hs];simp
theorem insO_at {α:Type} {A B:List α} (x:α) (h:(A++B).length<=16777216):insO (A++B) (A.length:Int) [x]=some (A++x::B):=by
 unfold insO;rw [uv ⟨⟨by omega,by simp;omega⟩,by simp,yV (by simp_all)⟩];simp
noncomputable def putX (n:Nat) (p:List zu) (l2:GC) (y7:GA) (v6:List GA) (i:Int):Option (List GA) :=
 (if (decide (((p).length:Int) > (1:Int)))=true then ((slc p (1:Int) ((p).length:Int)).bind λm10=>((wa n y7.subs m10 l2).bind λv11=>((zQ v6 i).bind λy12=>some (v6.set i.toNat (GA.mk y7.name y7.leaves v11))))) else ((xA y7.leaves).bind λv13=>((zG v13 l2.typ (λx0 x1=>wJ x0 x1)).bind λv14=>(if (!v14.2)=true then ((insO v13 v14.1 ([l2]:List GC)).bind λv16=>((zQ v16 v14.1).bind λy17=>((zQ v6 i).bind λy18=>some (v6.set i.toNat (GA.mk y7.name (v16.set v14.1.toNat l2) y7.subs))))) else ((zQ v13 v14.1).bind λy19=>((zQ v6 i).bind λy20=>some (v6.set i.toNat (GA.mk y7.name (v13.set v14.1.toNat l2) y7.subs))))))))
theorem putN_eq (n:Nat) (t0:List GA) (g:List zu) (m:GC):wa (n+1) t0 g m=((yY t0).bind λh=>((zQ g (0:Int)).bind λr=>((treeXfind h r).bind λv3=>(if (!v3.2)=true then ((zQ g (0:Int)).bind λs=>((insO h v3.1 ([(GA.mk s ([]:List GC) ([]:List GA))]:List GA)).bind λo=>((zQ o v3.1).bind λp=>putX n g m p o v3.1))) else ((zQ h v3.1).bind λj=>putX n g m j h v3.1))))):=rfl
theorem putX_leaf {s:zu} {A B:List GA} {x:GA} (p:x.leaves.length<=16777215) (h:x.leaves.Pairwise λx y=>x.typ < y.typ):putX n [s] l x (A++x::B) (A.length:Int)=some (A++⟨x.name,qn l.typ l true x.leaves,x.subs⟩::B):=by
 unfold putX;have o:decide (((([s]:List zu).length:Int)) > 1)=false:=rfl;have j:zQ (A++x::B) (A.length:Int)=some x:=zB (by simp);simp only [o,uk,uH];rw [cloneLeaf_is (yV (by omega)),ua];rcases split_typ l.typ h with ⟨C,D,e,g,hd⟩ | ⟨C,z,D,e,m,g,hd⟩
 ·rw [e,bsf_none (by grind) g hd,ua];simp only [sE,ur];rw [insO_at _ (by grind),ua,zB (x:=l) (by simp),ua,j,ua,layLs_none g hd];simp
 ·rw [e,bsf_some (by grind) m g hd,ua];simp only [tn,uk,uH];rw [zB (x:=z) (by simp),ua,j,ua,layLs_some m g hd];simp
theorem putX_sub {s a:zu} {r:List zu} {A B:List GA} {x:GA} {g:List GA} (o:(s::a::r).length<=16777216) (h:wa n x.subs (a::r) l=some g):putX n (s::a::r) l x (A++x::B) (A.length:Int)=some (A++⟨x.name,x.leaves,g⟩::B):=by
 unfold putX;have j:decide ((((s::a::r).length:Int)) > 1)=true:=uT (by grind);have m:zQ (A++x::B) (A.length:Int)=some x:=zB (by simp);simp only [j,ur];rw [slc_at ⟨by omega,by grind,tR _⟩,ua];have p:((s::a::r).take (((s::a::r).length:Int)).toNat).drop (1:Int).toNat=a::r:=by rw [ut,sa];rfl
 simp_all
theorem find_eq (t:List GA) (s:zu):treeXfind t s=(zn t s (λh j=>xJ h j)).bind λg=>some (g.1,g.2):=rfl

theorem layLs_len:(qn k l there ls).length<=ls.length+1:=by
 unfold qn;split
 ·have g:=rK (λx:GC=>decide (x.typ < k)) ls;have h:=g.length_eq;have j:(ls.filter λx=>decide (k < x.typ)).length<=(ls.filter λx=>!decide (x.typ < k)).length:=by
   have:(ls.filter λx=>decide (k < x.typ))=(ls.filter λx=>!decide (x.typ < k)).filter (λx=>decide (k < x.typ)):=by
    rw [rH];refine rN λx _=>?_;rw [tv];simp;omega
   grind
  grind
 ·grind
theorem lay_leaf {s:zu} {A m B:List GA} {sb:List GA} (u:LeafOk l) (t:m.length=if f=true then 1 else 0) (o:zn (A++m++B) s (λr v=>xJ r v)=some ((A.length:Int),f))
  (g:((if f=true then ((zQ (A++m++B) (A.length:Int)).bind λj=>some (.inr (j.name,j.leaves,j.subs))) else some (.inr (s,([]:List GC),([]:List GA)))):Option (List GA ⊕ (zu×(List GC)×(List GA))))=some (.inr (s,ls,sb)))
  (C:(A++m++B).length<=16777216) (z:ls.length<=16777215) (w:sb.length<=16777217) (h:ls.Pairwise λx y=>x.typ < y.typ) :
  xV (n+1) (A++m++B) [s] l.typ l true=some (A++fitN s (qn l.typ l true ls) sb++B):=by
 have p:zQ [s] (0:Int)=some s:=rfl;have:=layLs_len (k:=l.typ) (l:=l) (there:=true) (ls:=ls);rw [layN_eq,p,ua,o,ua,ua];simp only [];rw [g,yB,layIn_leaf (λ_=>⟨rfl,u⟩) (by omega) h,yB,layRest_is t (by omega) (by omega) (by omega)]
theorem lay_sub {s a:zu} {r:List zu} {A m B:List GA} {sb g:List GA} (v:m.length=if f=true then 1 else 0) (t:zn (A++m++B) s (λu y=>xJ u y)=some ((A.length:Int),f))
  (j:((if f=true then ((zQ (A++m++B) (A.length:Int)).bind λo=>some (.inr (o.name,o.leaves,o.subs))) else some (.inr (s,([]:List GC),([]:List GA)))):Option (List GA ⊕ (zu×(List GC)×(List GA))))=some (.inr (s,ls,sb)))
  (D:(A++m++B).length<=16777216) (C:ls.length<=16777215) (z:g.length<=16777217) (w:(s::a::r).length<=16777216) (h:xV n sb (a::r) k l there=some g) :
  xV (n+1) (A++m++B) (s::a::r) k l there=some (A++fitN s ls g++B):=by
 have p:zQ (s::a::r) (0:Int)=some s:=rfl;rw [layN_eq,p,ua,t,ua,ua];simp only [];rw [j,yB,layIn_sub w h,yB,layRest_is v (by omega) (by omega) (by omega)]
theorem fit_one {g:zu} {sb:List GA} (h:ls ≠ [] \/ sb ≠ []):fitN g ls sb=[⟨g,ls,sb⟩]:=by
 unfold fitN;rw [uC];rcases h with h | h
 ·simp_all
 ·simp_all
theorem layLs_ne:qn l.typ l true ls ≠ []:=List.ne_nil_of_mem (layLs_mem.2 (.inr ⟨rfl,rfl⟩))
theorem put_lay {l:GC} (S:leafB l=true) (G:LeafOk l):∀(p:List zu) (t:List GA) (d n:Nat),p ≠ []->p.all nameB=true->d+p.length<=3->treeB d t=true->(zx [] t).length<=16777214->p.length < n ->
  wa n t p l=xV n t p l.typ l true
 | [],_,_,_,h,_,_,_,_,_=>absurd rfl h
 | _::_,_,_,0,_,_,_,_,_,h=>by omega
 | s::q,t,d,n+1,_,hp,hd,ht,hw,hn=>by
  simp only [tI,ud,uu] at hp hd hn;obtain ⟨V,R⟩:=zP ht;have D:t.length<=16777214:=uJ (wW _ d (by rw [yU];exact uq.2 R)) hw;have w:zQ (s::q) (0:Int)=some s:=rfl
  -- what is below
  have below:∀(sb:List GA) (c:zu) (m:List zu),q=c::m->treeB (d+1) sb=true->(zx [] sb).length<=16777214->∃g,wa n sb q l=some g/\xV n sb q l.typ l true=some g/\g ≠ []/\g.length<=16777215:=by
   intro sb c m r u M;subst r;obtain ⟨g,U,Z,e3,Y⟩:=lay_is (k:=l.typ) (l:=l) (there:=true) (λ_=>⟨rfl,S,G⟩) (c::m) sb (d+1) n (by simp) hp.2 (by omega) u (by omega) (by omega);have N:=wW sb (d+1) (by rw [yU];exact uq.2 (zP u).2);refine ⟨g,?_,U,?_,by omega⟩
   ·rw [<- U];exact put_lay S G (c::m) sb (d+1) n (by simp) hp.2 (by omega) u M (by omega)
   ·intro e;have:=(Y [] ⟨[]++(c::m),l⟩).2 (.inr ⟨rfl,rfl⟩);rw [e] at this;simp [zx] at this
  rcases split_up s V with ⟨A,B,e,P,v⟩ | ⟨A,x,B,e,H,P,v⟩
  ·have O:(A++B).length<=16777214:=by rw [<- e];exact D
   have o:=bs_none (by omega) P v;have j:zn (A++[]++B) s (λI Q=>xJ I Q)=some ((A.length:Int),false):=by simp_all
   have y:A++B=A++[]++B:=by simp
   have L:wa (n+1) t (s::q) l=putX n (s::q) l ⟨s,[],[]⟩ (A++⟨s,[],[]⟩::B) (A.length:Int):=by
    rw [putN_eq,cloneNode_is (yV (by omega)),ua,w,ua,find_eq,e,o,ua,ua];simp only [sE,ur,ua];rw [insO_at _ (by omega),ua,zB (x:=⟨s,[],[]⟩) (by simp),ua]
   rw [L];cases r:q with
   | nil =>
    rw [putX_leaf (x:=⟨s,[],[]⟩) (by simp) (by simp),e,y,lay_leaf (ls:=[]) (sb:=[]) G (by simp) j rfl (by grind) (by simp) (by simp) (by simp),fit_one (.inl layLs_ne)];simp
   | cons c m =>
    obtain ⟨g,z,E,K,X⟩:=below [] c m r (tree_nil _) (by simp [zx]);rw [r] at z E;rw [putX_sub (x:=⟨s,[],[]⟩) (by grind) z,e,y,lay_sub (ls:=[]) (sb:=[]) (f:=false) (by simp) j rfl (by grind) (by simp) (by omega) (by grind) E,fit_one (.inr K)];simp
  ·have O:(A++x::B).length<=16777214:=by rw [<- e];exact D
   have o:=bs_some (by omega) H P v;have j:zn (A++[x]++B) s (λI Q=>xJ I Q)=some ((A.length:Int),true):=by simp_all
   have y:A++x::B=A++[x]++B:=by simp
   have F:x ∈ t:=by rw [e];simp
   obtain ⟨n1,n2,T⟩:=x8 (R x F);have W:=qH F;have N:=wW x.subs (d+1) (by rw [yU];exact uq.2 (zP n2).2);have C:((if true=true then ((zQ (A++[x]++B) (A.length:Int)).bind λJ=>some (.inr (J.name,J.leaves,J.subs))) else some (.inr (s,([]:List GC),([]:List GA)))):Option (List GA ⊕ (zu×(List GC)×(List GA))))=some (.inr (s,x.leaves,x.subs)):=by
    rw [uv rfl,zB (x:=x) (by simp),ua,H]
   have L:wa (n+1) t (s::q) l=putX n (s::q) l x (A++x::B) (A.length:Int):=by
    rw [putN_eq,cloneNode_is (yV (by omega)),ua,w,ua,find_eq,e,o,ua,ua];simp only [tn,uk,uH];rw [zB (x:=x) (by simp),ua]
   rw [L];cases r:q with
   | nil =>
    rw [putX_leaf (x:=x) (by omega) (ql T).1,e,y,lay_leaf (ls:=x.leaves) (sb:=x.subs) G (by simp) j C (by grind) (by omega) (by omega) (ql T).1,fit_one (.inl layLs_ne),H];simp
   | cons c m =>
    obtain ⟨g,z,E,K,X⟩:=below x.subs c m r n2 (by omega);rw [r] at z E;rw [putX_sub (x:=x) (by grind) z,e,y,lay_sub (ls:=x.leaves) (sb:=x.subs) (f:=true) (by simp) j C (by grind) (by omega) (by omega) (by grind) E,fit_one (.inr K),H];simp

noncomputable def l7A (t0:List GA) (path1:List zu):(List GA)×Int->Option (Out (List GA) ((List GA)×Int)):=(λ(s1:(List GA)×Int)=>((yl (((decide (s1.2 < ((t0).length:Int)))==true)=true->0<=s1.2/\s1.2 < ((t0).length:Int)) ((yl (((decide (s1.2 < ((t0).length:Int)))==true)=true->0<=(0:Int)/\(0:Int) < ((path1).length:Int)) ((if ((decide (s1.2 < ((t0).length:Int)))&&(Op.bytesLess (((t0).getD s1.2.toNat default).name) ((path1).getD (0:Int).toNat default)))=true then ((zQ t0 s1.2).bind λy22=>(yl ((s1.1).length+(([y22]:List GA)).length<=lim) (some (.nxt ((s1.1++([y22]:List GA)),(IntKind.wrap .i64 (s1.2+(1:Int)))))))) else some (.brk (s1.1,s1.2))))))):Option (Out _ ((List GA)×Int))))
noncomputable def l7B (ls:List GC) (l2:GC):(List GC)×Int->Option (Out (List GA) ((List GC)×Int)):=(λ(sd62:(List GC)×Int)=>((yl (((decide (sd62.2 < ((ls).length:Int)))==true)=true->0<=sd62.2/\sd62.2 < ((ls).length:Int)) ((if ((decide (sd62.2 < ((ls).length:Int)))&&(decide (((ls).getD sd62.2.toNat default).typ < l2.typ)))=true then ((zQ ls sd62.2).bind λy66=>(yl ((sd62.1).length+(([y66]:List GC)).length<=lim) (some (.nxt ((sd62.1++([y66]:List GC)),(IntKind.wrap .i64 (sd62.2+(1:Int)))))))) else some (.brk (sd62.1,sd62.2))))):Option (Out _ ((List GC)×Int))))
theorem l7A_is {t:List GA} {s:zu} {q:List zu} (u:t.length<=16777216) (a b:List GA) (e:t=a++b) (p:∀y ∈ a,Op.bytesLess y.name s=true) (v:∀y r,b=y::r->Op.bytesLess y.name s=false) :
  ∀(k i:Nat),a.length - i<=k->i<=a.length->zZ (l7A t (s::q)) (a.take i,(i:Int))=some (.inr (a,(a.length:Int))):=by
 have w:t.length=a.length+b.length:=by rw [e];simp
 intro k
 induction k with
 | zero =>
  intro i g hi;obtain rfl:i=a.length:=by omega
  rw [yI];have:l7A t (s::q) (a.take a.length,(a.length:Int))=some (.brk (a,(a.length:Int))):=by
   unfold l7A;simp only [sa];rw [zj (by simp_all),zj (by intro h;simp)];cases hbb:b with
   | nil =>
    simp_all
   | cons y r =>
    simp_all
  rw [this]
 | succ k ih =>
  intro i g hi;rcases sB i a.length with h | h
  ·rw [yI];have m:t[i]?=some a[i]:=by grind
   have hd:t.getD i default=a[i]:=by simp_all
   have:l7A t (s::q) (a.take i,(i:Int))=some (.nxt (a.take (i+1),((i+1:Nat):Int))):=by
    unfold l7A;simp only;rw [zj (by omega),zj (by intro h;simp)];have j:(s::q).getD (0:Int).toNat default=s:=rfl;have o:IntKind.wrap .i64 ((i:Int)+1)=((i+1:Nat):Int):=by rw [x9 (by omega)];omega
    rw [ut,hd,j,p _ (sJ h),uT (by omega),tf,uv rfl,zB m,ua,zj (yV (by simp;omega)),o]
    simp_all
   grind
  ·grind

theorem l7B_at (s:ls.length<=16777216) (a b:List GC) (e:ls=a++b) (m:∀y ∈ a,y.typ < l.typ) (t:∀y r,b=y::r->¬ y.typ < l.typ) :
  ∀(k i:Nat),a.length - i<=k->i<=a.length->zZ (l7B ls l) (a.take i,(i:Int))=some (.inr (a,(a.length:Int))):=by
 have p:ls.length=a.length+b.length:=by rw [e];simp
 intro k
 induction k with
 | zero =>
  intro i g hi;obtain rfl:i=a.length:=by omega
  rw [yI];have:l7B ls l (a.take a.length,(a.length:Int))=some (.brk (a,(a.length:Int))):=by
   unfold l7B;simp only [sa];rw [zj (by simp_all)];cases hbb:b with
   | nil =>
    simp_all
   | cons y r =>
    grind
  rw [this]
 | succ k ih =>
  intro i g hi;rcases sB i a.length with h | h
  ·rw [yI];have o:ls[i]?=some a[i]:=by grind
   have hd:ls.getD i default=a[i]:=by simp_all
   have:l7B ls l (a.take i,(i:Int))=some (.nxt (a.take (i+1),((i+1:Nat):Int))):=by
    unfold l7B;simp only;have j:IntKind.wrap .i64 ((i:Int)+1)=((i+1:Nat):Int):=by rw [x9 (by omega)];omega
    rw [zj (by omega),ut,hd,uT (m _ (sJ h)),uT (by omega),tf,uv rfl,zB o,ua,zj (yV (by simp;omega)),j]
    simp_all
   grind
  ·grind

noncomputable def l7R (n:Nat) (t0:List GA) (path1:List zu) (l2:GC) (A:List GA) (sd30:Int×zu×(List GC)×(List GA)):Option (List GA):=(if (decide (((path1).length:Int) > (1:Int)))=true then ((slc path1 (1:Int) ((path1).length:Int)).bind λm38=>((wp n sd30.2.2.2 m38 l2).bind λv39=>(yl ((A).length+(([(GA.mk sd30.2.1 sd30.2.2.1 v39)]:List GA)).length<=lim) (((slc t0 sd30.1 ((t0).length:Int)).bind λm41=>(yl (((A++([(GA.mk sd30.2.1 sd30.2.2.1 v39)]:List GA))).length+(m41).length<=lim) (some ((A++([(GA.mk sd30.2.1 sd30.2.2.1 v39)]:List GA))++m41)))))))) else (lp (zZ (l7B sd30.2.2.1 l2) (([]:List GC),(0:Int))) λ(sd62:(List GC)×Int)=>(yl (((decide (sd62.2 < ((sd30.2.2.1).length:Int)))==true)=true->0<=sd62.2/\sd62.2 < ((sd30.2.2.1).length:Int)) ((if ((decide (sd62.2 < ((sd30.2.2.1).length:Int)))&&(((sd30.2.2.1).getD sd62.2.toNat default).typ==l2.typ))=true then (yl ((sd62.1).length+(([l2]:List GC)).length<=lim) (((slc sd30.2.2.1 (IntKind.wrap .i64 (sd62.2+(1:Int))) ((sd30.2.2.1).length:Int)).bind λm72=>(yl (((sd62.1++([l2]:List GC))).length+(m72).length<=lim) ((yl ((A).length+(([(GA.mk sd30.2.1 ((sd62.1++([l2]:List GC))++m72) sd30.2.2.2)]:List GA)).length<=lim) (((slc t0 sd30.1 ((t0).length:Int)).bind λm75=>(yl (((A++([(GA.mk sd30.2.1 ((sd62.1++([l2]:List GC))++m72) sd30.2.2.2)]:List GA))).length+(m75).length<=lim) (some ((A++([(GA.mk sd30.2.1 ((sd62.1++([l2]:List GC))++m72) sd30.2.2.2)]:List GA))++m75))))))))))) else (yl ((sd62.1).length+(([l2]:List GC)).length<=lim) (((slc sd30.2.2.1 sd62.2 ((sd30.2.2.1).length:Int)).bind λm78=>(yl (((sd62.1++([l2]:List GC))).length+(m78).length<=lim) ((yl ((A).length+(([(GA.mk sd30.2.1 ((sd62.1++([l2]:List GC))++m78) sd30.2.2.2)]:List GA)).length<=lim) (((slc t0 sd30.1 ((t0).length:Int)).bind λm81=>(yl (((A++([(GA.mk sd30.2.1 ((sd62.1++([l2]:List GC))++m78) sd30.2.2.2)]:List GA))).length+(m81).length<=lim) (some ((A++([(GA.mk sd30.2.1 ((sd62.1++([l2]:List GC))++m78) sd30.2.2.2)]:List GA))++m81))))))))))))))))
theorem lay7_eq2 (n:Nat) (t0:List GA) (g:List zu) (p:GC):wp (n+1) t0 g p=(lp (zZ (l7A t0 g) (([]:List GA),(0:Int))) λ(h:(List GA)×Int)=>((zQ g (0:Int)).bind λo=>(lp ((yl (((decide (h.2 < ((t0).length:Int)))==true)=true->0<=h.2/\h.2 < ((t0).length:Int)) ((yl (((decide (h.2 < ((t0).length:Int)))==true)=true->0<=(0:Int)/\(0:Int) < ((g).length:Int)) ((if ((decide (h.2 < ((t0).length:Int)))&&(((t0).getD h.2.toNat default).name==((g).getD (0:Int).toNat default)))=true then ((zQ t0 h.2).bind λj=>some (.inr ((IntKind.wrap .i64 (h.2+(1:Int))),j.name,j.leaves,j.subs))) else some (.inr (h.2,o,([]:List GC),([]:List GA)))))))):Option (_ ⊕ (Int×zu×(List GC)×(List GA)))) λm=>l7R n t0 g p h.1 m))):=rfl

theorem vQ {α:Type} (L:List α) (i:Nat):((L.take ((L.length:Int)).toNat).drop ((i:Int)).toNat)=L.drop i:=by simp
theorem l7R_sub {t A:List GA} {s a:zu} {r:List zu} {g:zu} {sb u:List GA} (hi:i<=t.length) (v:t.length<=16777215) (w:A.length<=8388608) (o:t.length<=8388607) (p:(s::a::r).length<=16777216) (h:wp n sb (a::r) l=some u) :
  l7R n t (s::a::r) l A ((i:Int),g,ls,sb)=some (A++[⟨g,ls,u⟩]++t.drop i):=by
 unfold l7R;have j:decide ((((s::a::r).length:Int)) > 1)=true:=uT (by grind);simp only [j,ur];rw [slc_at ⟨by omega,by grind,tR _⟩,ua];have m:((s::a::r).take (((s::a::r).length:Int)).toNat).drop (1:Int).toNat=a::r:=by rw [ut,sa];rfl
 rw [m,h,ua,zj (yV (by simp;omega)),slc_at ⟨by omega,by omega,tR _⟩,ua,vQ,zj (yV (by simp;omega))]
theorem l7R_leaf {t A:List GA} {s:zu} {u:zu} {sb:List GA} (hi:i<=t.length) (H:A.length<=8388608) (E:t.length<=8388607) (m:ls.length<=8388607) (o:ls.Pairwise λx y=>x.typ < y.typ) :
  l7R n t [s] l A ((i:Int),u,ls,sb)=some (A++[⟨u,qn l.typ l true ls,sb⟩]++t.drop i):=by
 unfold l7R;have v:decide (((([s]:List zu).length:Int)) > 1)=false:=rfl;simp only [v,uk,uH];rcases split_typ l.typ o with ⟨C,D,e,j,hd⟩ | ⟨C,z,D,e,w,j,hd⟩
 ·have p:=l7B_at (ls:=ls) (l:=l) (by omega) C D e j (λy r h=>by grind) C.length 0 (by omega) (by omega);rw [show (([]:List GC),(0:Int))=(C.take 0,((0:Nat):Int)) from rfl,p,yB,e,layLs_none j hd];rw [e] at m;simp only [uo] at m;simp only [];rw [zj (by simp_all)];have g:((decide (((C.length:Nat):Int) < ((C++D).length:Int)))&&(((C++D).getD ((C.length:Nat):Int).toNat default).typ==l.typ))=false:=by
   grind
  rw [g];simp only [uk,uH];rw [zj (yV (by simp;omega)),slc_at ⟨by omega,by grind,tR _⟩,ua,vQ,rj,zj (yV (by simp;omega)),zj (yV (by simp;omega)),slc_at ⟨by omega,by omega,tR _⟩,ua,vQ,zj (yV (by simp;omega))];simp
 ·have p:=l7B_at (ls:=ls) (l:=l) (by omega) C (z::D) e j (λy r h=>by simp_all) C.length 0 (by omega) (by omega);rw [show (([]:List GC),(0:Int))=(C.take 0,((0:Nat):Int)) from rfl,p,yB,e,layLs_some w j hd];rw [e] at m;simp only [uo,uu] at m;simp only [];rw [zj (by simp_all)];have g:((decide (((C.length:Nat):Int) < ((C++z::D).length:Int)))&&(((C++z::D).getD ((C.length:Nat):Int).toNat default).typ==l.typ))=true:=by
   grind
  rw [g];simp only [ur];have F:IntKind.wrap .i64 ((C.length:Int)+1)=((C.length+1:Nat):Int):=by rw [x9 (by omega)];omega
  have G:(C++z::D).drop (C.length+1)=D:=by
   simp_all
  rw [zj (yV (by simp;omega)),F,slc_at ⟨by omega,by grind,tR _⟩,ua,vQ,G,zj (yV (by simp;omega)),zj (yV (by simp;omega)),slc_at ⟨by omega,by omega,tR _⟩,ua,vQ,zj (yV (by simp;omega))];simp
theorem lay7_none {s:zu} {q:List zu} {A B:List GA} (h:(A++B).length<=16777215) (o:NLt s A) (j:NGt s B):wp (n+1) (A++B) (s::q) l=l7R n (A++B) (s::q) l A ((A.length:Int),s,[],[]):=by
 have p:=l7A_is (t:=A++B) (s:=s) (q:=q) (by omega) A B rfl o (λy r hh=>by
  have:=j y (by rw [hh];simp);rcases hx:Op.bytesLess y.name s with _ | _
  ·rfl
  ·have:=xG this hx;rw [vq] at this;cases this) A.length 0 (by omega) (by omega)
 rw [lay7_eq2,show (([]:List GA),(0:Int))=(A.take 0,((0:Nat):Int)) from rfl,p,yB];have m:zQ (s::q) (0:Int)=some s:=rfl;simp only [m,ua];rw [zj (by simp_all),zj (by intro h;simp)];have g:((decide (((A.length:Nat):Int) < ((A++B).length:Int)))&&(((A++B).getD ((A.length:Nat):Int).toNat default).name==((s::q).getD (0:Int).toNat default)))=false:=by
  cases B with
  | nil=>simp
  | cons y B =>
   have:=less_ne (j y (by simp))
   grind
 rw [g];rfl
theorem lay7_some {s:zu} {q:List zu} {A B:List GA} {x:GA} (j:x.name=s) (h:(A++x::B).length<=16777215) (o:NLt s A) (w:NGt s B):wp (n+1) (A++x::B) (s::q) l=l7R n (A++x::B) (s::q) l A (((A.length+1:Nat):Int),s,x.leaves,x.subs):=by
 have v:=l7A_is (t:=A++x::B) (s:=s) (q:=q) (by omega) A (x::B) rfl o (λy r hh=>by
  injection hh with u _;rw [<- u,j,vq]) A.length 0 (by omega) (by omega)
 rw [lay7_eq2,show (([]:List GA),(0:Int))=(A.take 0,((0:Nat):Int)) from rfl,v,yB];have m:zQ (s::q) (0:Int)=some s:=rfl;simp only [m,ua];rw [zj (by simp_all),zj (by intro h;simp)];have g:((decide (((A.length:Nat):Int) < ((A++x::B).length:Int)))&&(((A++x::B).getD ((A.length:Nat):Int).toNat default).name==((s::q).getD (0:Int).toNat default)))=true:=by
  grind
 rw [g];simp only [uo,uu] at h;have p:IntKind.wrap .i64 ((A.length:Int)+1)=((A.length+1:Nat):Int):=by rw [x9 (by omega)];omega
 simp only [ur];rw [zB (x:=x) (by simp),ua,yB,p,j]

theorem lay7_lay {l:GC} (S:leafB l=true) (F:LeafOk l):∀(p:List zu) (t:List GA) (d n:Nat),p ≠ []->p.all nameB=true->d+p.length<=3->treeB d t=true->(zx [] t).length<=8388606->p.length < n ->
  wp n t p l=xV n t p l.typ l true
 | [],_,_,_,h,_,_,_,_,_=>absurd rfl h
 | _::_,_,_,0,_,_,_,_,_,h=>by omega
 | s::q,t,d,n+1,_,hp,hd,ht,hw,hn=>by
  simp only [tI,ud,uu] at hp hd hn;obtain ⟨W,R⟩:=zP ht;have z:t.length<=8388606:=uJ (wW _ d (by rw [yU];exact uq.2 R)) hw;have below:∀(sb:List GA) (c:zu) (o:List zu),q=c::o->treeB (d+1) sb=true->(zx [] sb).length<=8388606->∃g,wp n sb q l=some g/\xV n sb q l.typ l true=some g/\g ≠ []/\g.length<=16777215:=by
   intro sb c o r u K;subst r;obtain ⟨g,V,e2,e3,Z⟩:=lay_is (k:=l.typ) (l:=l) (there:=true) (λ_=>⟨rfl,S,F⟩) (c::o) sb (d+1) n (by simp) hp.2 (by omega) u (by omega) (by omega);have M:=wW sb (d+1) (by rw [yU];exact uq.2 (zP u).2);refine ⟨g,?_,V,?_,by omega⟩
   ·rw [<- V];exact lay7_lay S F (c::o) sb (d+1) n (by simp) hp.2 (by omega) u K (by omega)
   ·intro e;have:=(Z [] ⟨[]++(c::o),l⟩).2 (.inr ⟨rfl,rfl⟩);rw [e] at this;simp [zx] at this
  rcases split_up s W with ⟨A,B,e,E,m⟩ | ⟨A,x,B,e,P,E,m⟩
  ·have N:(A++B).length<=8388606:=by rw [<- e];exact z
   have O:A.length<=8388606:=by grind
   have I:=bs_none (by omega) E m;have j:zn (A++[]++B) s (λG Q=>xJ G Q)=some ((A.length:Int),false):=by simp_all
   have v:A++B=A++[]++B:=by simp
   rw [e,lay7_none (by omega) E m];cases r:q with
   | nil =>
    rw [l7R_leaf (by simp) (by omega) (by omega) (by simp) (by simp),v,lay_leaf (ls:=[]) (sb:=[]) F (by simp) j rfl (by grind) (by simp) (by simp) (by simp),fit_one (.inl layLs_ne)];simp
   | cons c o =>
    obtain ⟨g,w,C,J,Y⟩:=below [] c o r (tree_nil _) (by simp [zx]);rw [r] at w C;rw [l7R_sub (by simp) (by omega) (by omega) (by omega) (by grind) w,v,lay_sub (ls:=[]) (sb:=[]) (f:=false) (by simp) j rfl (by grind) (by simp) (by omega) (by grind) C,fit_one (.inr J)];simp
  ·have N:(A++x::B).length<=8388606:=by rw [<- e];exact z
   have O:A.length+1<=8388606:=by grind
   have I:=bs_some (by omega) P E m;have j:zn (A++[x]++B) s (λG Q=>xJ G Q)=some ((A.length:Int),true):=by simp_all
   have v:A++x::B=A++[x]++B:=by simp
   have D:x ∈ t:=by rw [e];simp
   obtain ⟨n1,n2,T⟩:=x8 (R x D);have X:=qH D;have M:=wW x.subs (d+1) (by rw [yU];exact uq.2 (zP n2).2);have y:((if true=true then ((zQ (A++[x]++B) (A.length:Int)).bind λH=>some (.inr (H.name,H.leaves,H.subs))) else some (.inr (s,([]:List GC),([]:List GA)))):Option (List GA ⊕ (zu×(List GC)×(List GA))))=some (.inr (s,x.leaves,x.subs)):=by
    rw [uv rfl,zB (x:=x) (by simp),ua,P]
   have U:(A++x::B).drop (A.length+1)=B:=by rw [<- tB,rj];rfl
   rw [e,lay7_some P (by omega) E m];cases r:q with
   | nil =>
    rw [l7R_leaf (by simp) (by omega) (by omega) (by omega) (ql T).1,U,v,lay_leaf (ls:=x.leaves) (sb:=x.subs) F (by simp) j y (by grind) (by omega) (by omega) (ql T).1,fit_one (.inl layLs_ne)]
   | cons c o =>
    obtain ⟨g,w,C,J,Y⟩:=below x.subs c o r n2 (by omega);rw [r] at w C;rw [l7R_sub (by simp) (by omega) (by omega) (by omega) (by grind) w,U,v,lay_sub (ls:=x.leaves) (sb:=x.subs) (f:=true) (by simp) j y (by grind) (by omega) (by omega) (by grind) C,fit_one (.inr J)]

theorem ilt_tot {a b:GF} (h:a.dot ≠ b.dot):yc a b=true \/ yc b a=true:=by
 unfold yc;rcases dlt_tot a.dot b.dot with e | e | e
 ·simp_all
 ·grind
 ·grind
theorem pw_next {α:Type} [Inhabited α] {lt:α->α->Prop} {L:List α} (h:L.Pairwise lt) {i:Nat} {x:α} (hi:L[i]?=some x) (h0:i ≠ 0):lt (L.getD (i - 1) default) x:=by
 obtain ⟨g,rfl⟩:=uc.1 hi;have e:L.getD (i - 1) default=L[i - 1]:=by grind
 rw [e];exact uZ.1 h _ _ _ _ (by omega)
theorem riseB_pw (h:L.Pairwise λa b=>yc a b=true):riseB L=true:=by
 refine allI_iff.2 λi x hi=>?_;by_cases h0:i=0
 ·simp [h0]
 ·simp only [h0,s9,tj,prevI];exact pw_next (lt:=λa b=>yc a b=true) h hi h0
theorem rising_of_pw {L:List GE} (h:L.Pairwise λa b=>ye a b=true):xW L=true:=by
 rw [rising_allI];refine allI_iff.2 λi x hi=>?_;unfold xR;by_cases h0:i=0
 ·simp [h0]
 ·simp only [h0,s9,tj];exact pw_next (lt:=λa b=>ye a b=true) h hi h0
theorem layP_mem {x y:GF} (h:y ∈ layP L x):y ∈ L \/ y=x:=by
 unfold layP at h;split at h
 ·simp_all
 ·rcases uD.1 h with h | h
  ·exact .inl ((List.takeWhile_sublist _).mem h)
  ·rcases uD.1 h with h | h
   ·simp_all
   ·exact .inl ((pN _).mem h)
theorem layP_pw (x:GF) (h:L.Pairwise λa b=>yc a b=true):(layP L x).Pairwise λa b=>yc a b=true:=by
 unfold layP;split
 ·exact h
 ·rename_i g;simp only [rq,t6,uj] at g;exact ins_pw (lt:=yc) (λ_ _ _=>ilt_tr) h λy j=>ilt_tot (a:=y) (b:=x) (g y j)
theorem layP_once (x:GF) (h:onceB L=true):onceB (layP L x)=true:=by
 unfold layP;split
 ·exact h
 ·rename_i j;simp only [rq,t6,uj] at j;unfold onceB at h ⊢;rw [uj] at h ⊢;have g:(L.takeWhile (λy=>yc y x)++([x]++L.dropWhile λy=>yc y x)).Perm (x::L):=by
   have e:=tw (p:=λy=>yc y x) (l:=L)
   grind
  rw [(g.map (·.dot)).nodup_iff,uz,r8]
  simp_all
theorem layP_len (L:List GF) (x:GF):(layP L x).length<=L.length+1:=by
 unfold layP;split
 ·omega
 ·have e:=congrArg List.length (tw (p:=λy=>yc y x) (l:=L))
  grind
theorem all_layP {x:GF} (h:L.all q=true) (m:q x=true):(layP L x).all q=true :=
 uq.2 λy g=>by
  rcases layP_mem g with j | j
  ·simp_all
  ·simp_all
structure EvOk (e:GH):Prop where
 dot:wP e.dot=true
 time:qX e.time=true
 kind:1<=e.op.kind/\e.op.kind<=5
 path:pathB e.op.path=true
 text:e.op.text.length<=40
 dots:e.op.kind=4->e.op.dots.all wP=true
 dlen:e.op.dots.length<=64
theorem evOk (h:eventB e=true):EvOk e:=by
 have g:=kind_of h;have hd:=dots_of h;simp only [eventB,opB,ud,uj] at h;obtain ⟨⟨⟨o,m⟩,r⟩,⟨⟨⟨⟨_,j⟩,p⟩,_⟩,s⟩⟩:=h;refine ⟨o,?_,g,j,p,λt=>?_,hd⟩
 ·simp [qX,m,r]
 ·simp_all
theorem type_range (h:1<=k/\k<=5):1<=wT k/\wT k<=4:=by
 unfold wT;omega
theorem applyP_typ (l:GC) (e:GH):(xf l e).typ=l.typ:=by
 unfold xf
 grind
theorem applyP_may (g:leafB l=true) (O:eventB e=true) (o:wT e.op.kind=l.typ):leafB (xf l e)=true:=by
 have h:=riseB_of g;have w:=tombs_of g;have G:=apart_of_leaf g;obtain ⟨D,z,P,d4,F,I,Q⟩:=evOk O;have K:=applyP_typ l e;by_cases k1:e.op.kind=1
 ·have E:l.typ=1:=by rw [<- o,k1];rfl
  unfold xf;rw [uv k1];unfold leafB at g ⊢;rw [uv E] at g;simp only [E,ur];exact g
 by_cases k2:e.op.kind=2
 ·have y:l.typ=2:=by rw [<- o,k2];rfl
  unfold xf;rw [uC k1,uv k2];generalize (decide (l.time=0) || (if l.time ≠ e.time then decide (l.time < e.time) else ye l.dot e.dot))=b;cases b
  case false=>exact g
  case true =>
   simp only [ur];unfold leafB at g ⊢;rw [uC (by omega),uv y] at g;simp only [y];rw [uC (by omega),uv trivial];simp only [ud,uj] at g ⊢;refine ⟨g.1,?_⟩;have:¬ e.time=0:=by
    simp only [qX,ud,uj] at z;omega
   simp_all
 by_cases k3:e.op.kind=3
 ·have t3:l.typ=3:=by rw [<- o,k3];rfl
  unfold xf;rw [uC k1,uC k2,uv k3];split
  ·exact g
  ·rename_i M;simp only [rq,t6,uj] at M;unfold leafB at g ⊢;rw [uC (by omega),uC (by omega),uv t3] at g;simp only [t3];rw [uC (by omega),uC (by omega),uv trivial];simp only [ud,uj] at g ⊢;obtain ⟨⟨⟨p,m⟩,⟨⟨t,C⟩,r⟩⟩,j⟩:=g;refine ⟨⟨⟨p,by simpa [zeroB] using m⟩,⟨⟨all_layP t ?_,riseB_pw (layP_pw _ h)⟩,layP_once _ r⟩⟩,?_⟩
   ·simp [vL,D,F]
   ·simp only [tombsB,ud] at j ⊢;refine ⟨j.1,uq.2 λd hd=>?_⟩;simp only [tH,t6,uj];intro x u J;rcases layP_mem u with s | s
    ·simp_all
    ·grind
 by_cases k4:e.op.kind=4
 ·have t3:l.typ=3:=by rw [<- o,k4];rfl
  have hd:=I k4;unfold xf;rw [uC k1,uC k2,uC k3,uv k4];unfold leafB at g ⊢;rw [uC (by omega),uC (by omega),uv t3] at g;simp only [t3];rw [uC (by omega),uC (by omega),uv trivial];simp only [ud,uj] at g ⊢;obtain ⟨⟨⟨p,m⟩,⟨⟨t,C⟩,r⟩⟩,j⟩:=g;refine ⟨⟨⟨p,by simpa [zeroB] using m⟩,⟨⟨uq.2 λx u=>uq.1 t x (tO.1 u).1,riseB_pw (h.filter _)⟩,?_⟩⟩,?_⟩
  ·unfold onceB at r ⊢
   grind
  ·simp only [tombsB,ud] at j ⊢;refine ⟨⟨uq.2 λd v=>?_,rising_of_pw (burs_pw _ w)⟩,uq.2 λd v=>?_⟩
   ·rcases (burs_mem _ _ _).1 v with s | s
    ·simp_all
    ·simp_all
   ·simp only [tH,t6,uj];intro x u J;obtain ⟨R,N⟩:=tO.1 u;simp only [tH,t6,uj] at N;rcases (burs_mem _ _ _).1 v with s | s
    ·grind
    ·simp_all
 ·have H:e.op.kind=5:=by omega
  have t4:l.typ=4:=by rw [<- o,H];rfl
  unfold xf;rw [uC k1,uC k2,uC k3,uC k4];unfold leafB at g ⊢;rw [uC (by omega),uC (by omega),uC (by omega),uv t4] at g;simp only [t4];rw [uC (by omega),uC (by omega),uC (by omega),uv trivial];simp only [ud,uj] at g ⊢;obtain ⟨⟨⟨p,m⟩,j⟩,⟨⟨t,C⟩,r⟩⟩:=g;refine ⟨⟨⟨p,by simpa [zeroB] using m⟩,j⟩,⟨⟨all_layP t ?_,riseB_pw (layP_pw _ h)⟩,layP_once _ r⟩⟩;simp [vL,D,z,F]
theorem applyP_ok (g:LeafOk l) (j:eventB e=true) (hi:l.items.length<=1048576) (o:l.tombs.length<=1048576):LeafOk (xf l e)/\(xf l e).items.length<=l.items.length+1/\(xf l e).tombs.length<=l.tombs.length+64:=by
 have d:=evOk j;have r:0<=e.time:=by have:=d.time;simp only [qX,ud,uj] at this;omega
 have h:=λx=>layP_len l.items x;have m:=burs_len e.op.dots l.tombs;have p:=rf (λx:GF=>!(e.op.dots.any λy=>decide (y=x.dot))) l.items;have hd:=d.dlen;have key:(xf l e).items.length<=l.items.length+1/\(xf l e).tombs.length<=l.tombs.length+64/\0<=(xf l e).time:=by
  unfold xf;split
  ·exact ⟨by simp,by simp,g.time⟩
  split
  ·grind
  split
  ·split
   ·exact ⟨by simp,by simp,g.time⟩
   ·exact ⟨h _,by simp,g.time⟩
  split
  ·exact ⟨by grind,by grind,g.time⟩
  ·exact ⟨h _,by simp,g.time⟩
 exact ⟨⟨by omega,by omega,key.2.2⟩,key.1,key.2.1⟩

def vV (k:Int):GC:=GC.mk k (0:Int) (0:Int) (GE.mk (GJ.mk (0:Int) (0:Int)) (0:Int)) ([]:zu) ([]:List GF) ([]:List GE)
theorem leafNew_is (h:1<=k/\k<=4):vX k=some (vV k):=by
 unfold vX;rw [uC (by simp;omega)];rfl
theorem refNew_is (h:1<=k/\k<=4):ref05New k=some (vV k):=by
 unfold ref05New;rw [uv (by simp;omega)];rfl
theorem newLf_may (h:1<=k/\k<=4):leafB (vV k)=true:=by
 have:k=1 \/ k=2 \/ k=3 \/ k=4:=by omega
 rcases this with rfl | rfl | rfl | rfl <;> decide
theorem newLf_ok (k:Int):LeafOk (vV k):=⟨by simp [vV],by simp [vV],tR _⟩
theorem node7_is (t:List GA) (s:zu):ref07Xnode t s=some (match nodeOf t s with | some x=>(x,true) | none=>(node0,false)):=by
 unfold ref07Xnode;have key:∀(L:List GA) (i:Nat),zp (ρ:=GA×Bool) (λ(j:Nat) (g:GA) (m:Unit)=>((if (g.name==s)=true then some (.ret (g,true)) else some (.nxt ())):Option (Out _ Unit))) L i ()=some (match nodeOf L s with | some x=>.inl (x,true) | none=>.inr ()):=by
  intro L
  induction L with
  | nil=>intro i;rfl
  | cons y r ih =>
   intro i;rw [zp];unfold nodeOf;rw [pc];cases h:(y.name==s)
   ·simp only [uk,uH];exact ih (i+1)
   ·rfl
 rw [key];cases nodeOf t s <;> rfl
noncomputable def l7F (v1:GC):Nat->zu->(List GA)×zu×(List GC)×(List GA)->Option (Out (GC×Bool) ((List GA)×zu×(List GC)×(List GA))):=(λ(n1:Nat) (x1:zu) (s1:(List GA)×zu×(List GC)×(List GA))=>(((ref07Xnode s1.1 x1).bind λv32=>(if (!v32.2)=true then some (.ret (v1,false)) else some (.nxt (v32.1.subs,v32.1.name,v32.1.leaves,v32.1.subs))))))
noncomputable def l7S (ls:List GC) (kind2:Int):Int->Option (Out (GC×Bool) Int):=(λ(s2:Int)=>((if (((decide (s2 < ((ls).length:Int)))&&(decide (kind2 >= (1:Int))))&&(decide (kind2<=(4:Int))))=true then ((zQ ls s2).bind λy63=>(if (y63.typ==kind2)=true then ((zQ ls s2).bind λy65=>some (.ret (y65,true))) else some (.nxt (IntKind.wrap .i64 (s2+(1:Int)))))) else some (.brk s2))))
theorem leaf7_eq (t0:List GA) (h:List zu) (g:Int):ref07Leaf t0 h g=((ref05New g).bind λj=>(lp (zp (l7F j) h 0 (t0,([]:zu),([]:List GC),([]:List GA))) λ(m:(List GA)×zu×(List GC)×(List GA))=>(lp (zZ (l7S m.2.2.1 g) (0:Int)) λ(s2:Int)=>some (j,false)))):=rfl
theorem l7_walk (v:GC):∀(p:List zu) (n:Nat) (t:List GA) (z:zu×(List GC)×(List GA)),p ≠ [] ->
  zp (l7F v) p n (t,z)=some (match wC t p with | some x=>.inr (x.subs,x.name,x.leaves,x.subs) | none=>.inl (v,false))
 | [],_,_,_,h=>absurd rfl h
 | [s],n,t,z,_=>by
  simp only [wC,zp,l7F,node7_is,ua]
  grind
 | s::c::q,n,t,z,_=>by
  have j:=λu z=>l7_walk v (c::q) (n+1) u z (by simp);simp only [wC];cases e:nodeOf t s with
  | none=>rw [zp];simp only [l7F,node7_is,e,ua];rfl
  | some x =>
   have g:l7F v n s (t,z)=some (.nxt (x.subs,x.name,x.leaves,x.subs)):=by simp only [l7F,node7_is,e,ua];rfl
   rw [zp,g,ua]
   simp_all
theorem l7_scan (o:1<=k/\k<=4) (p:ls.length<=16777216):∀(m i:Nat),ls.length - i=m->i<=ls.length->zZ (l7S ls k) (i:Int)=some (match (ls.drop i).find? (λy=>y.typ==k) with | some y=>.inl (y,true) | none=>.inr (ls.length:Int)):=by
 intro m
 induction m with
 | zero =>
  intro i h hi;obtain rfl:i=ls.length:=by omega
  rw [yI];unfold l7S;simp
 | succ m ih =>
  intro i h hi;have g:i < ls.length:=by omega
  rw [yI];have hd:ls.drop i=ls[i]::ls.drop (i+1):=su g;have j:((decide ((i:Int) < (ls.length:Int))&&decide (k >= 1))&&decide (k<=4))=true:=by simp;omega
  rw [hd,pc];cases e:(ls[i].typ==k)
  ·have:l7S ls k (i:Int)=some (.nxt ((i+1:Nat):Int)):=by
    unfold l7S;rw [uv j,qL g,ua,e];simp only [uk,uH];rw [x9 (by omega)];rfl
   grind
  ·have:l7S ls k (i:Int)=some (.ret (ls[i],true)):=by
    unfold l7S;rw [uv j,qL g,ua,e];simp
   rw [this]
theorem leaves_len:∀{p:List zu} {t:List GA} {d:Nat} {x:GA},treeB d t=true->p ≠ []->wC t p=some x->x.leaves.length<=(zx [] t).length
 | [],_,_,_,_,h,_=>absurd rfl h
 | [s],t,d,x,h,_,e=>by
  have j:x ∈ t:=sx (show nodeOf t s=some x from e);have:=qH j;omega
 | s::c::q,t,d,x,h,_,e=>by
  simp only [wC] at e;cases hn:nodeOf t s with
  | none=>rw [hn] at e;cases e
  | some y =>
   rw [hn,ua] at e;have g:y ∈ t:=sx (show nodeOf t s=some y from hn);have o:=leaves_len (x8 ((zP h).2 y g)).2.1 (by simp) e;have m:=qH g;omega
theorem leaf7_is {t:List GA} (h:treeB 0 t=true) (u:(zx [] t).length<=16777215) {p:List zu} (m:p ≠ []) {k:Int} (o:1<=k/\k<=4) :
  (∃l,GL.mk p l ∈ zx [] t/\l.typ=k/\ref07Leaf t p k=some (l,true)) \/ ((∀r ∈ zx [] t,vZ r ≠ (p,k))/\ref07Leaf t p k=some (vV k,false)):=by
 have g:=λl=>row_at p t 0 [] l m h;simp only [uR] at g;have j:(∀l,¬ (GL.mk p l ∈ zx [] t/\l.typ=k))->∀r ∈ zx [] t,vZ r ≠ (p,k):=λw r v e=>by
  have:=row_mk e;simp only [uR] at this;exact w r.leaf ⟨by rw [<- this];exact v,congrArg Prod.snd e⟩
 rw [leaf7_eq,refNew_is o,ua,l7_walk _ p 0 t _ m];cases e:wC t p with
 | none =>
  right;refine ⟨j λl hh=>?_,rfl⟩;obtain ⟨x,y,_⟩:=(g l).1 hh.1
  simp_all
 | some x =>
  simp only [lp];have s:x.leaves.length<=16777215:=by
   exact uJ (leaves_len h m e) u
  have hs:=l7_scan o (by omega:x.leaves.length<=16777216) x.leaves.length 0 (by omega) (tz _);simp only [sf,rx] at hs
  grind

theorem name_len {s:zu} (h:nameB s=true):s.length<=12/\∀b ∈ s,b ≠ 0:=by
 simp only [nameB,ud,uj,uq] at h;refine ⟨h.1.2,λb g e=>?_⟩;have:=h.2 b g;rw [e] at this;revert this;decide
def wS (n:Nat):List GL->Nat
 | []=>0
 | r::L=>r.leaf.bk+17 * (r.path.length - n)+wS n L
theorem wS_app (n:Nat):∀A B:List GL,wS n (A++B)=wS n A+wS n B
 | [],B=>by simp [wS]
 | r::A,B=>by simp only [tP,wS,wS_app n A B];omega
theorem wS_leaves (a:List zu) (s:zu):∀ls:List GC,wS a.length (ls.map λl=>GL.mk (a++[s]) l)=(ls.map GC.bk).sum+17 * ls.length
 | []=>rfl
 | l::ls=>by
  simp only [uz,wS,wS_leaves a s ls,si,uu,uo,uV];omega
theorem wS_up (n:Nat):∀L:List GL,(∀r ∈ L,n+1<=r.path.length)->wS n L=wS (n+1) L+17 * L.length
 | [],_=>rfl
 | r::L,h=>by
  have j:=h r (by simp);simp only [wS,wS_up n L (λq g=>h q (by simp [g])),uu];omega
theorem bk_is (x:GA):x.bk=(x.name.length+1)+(((x.leaves.map GC.bk).sum+1)+((GA.bks x.subs+1)+0))+1:=by cases x;simp only [GA.bk]
theorem bks_rows:∀(t:List GA) (d:Nat) (a:List zu),(∀x ∈ t,nodeB d x=true)->GA.bks t<=wS a.length (zx a t):=by
 refine vk (λ_ _ _=>by simp [GA.bks]) ?_;intro x r u p d a j;have z:=p d a λy o=>j y (by simp [o]);have h:=j x (by simp);obtain ⟨v,n2,_⟩:=x8 h;have s:=u (d+1) (a++[x.name]) (zP n2).2;have w:=(name_len v).1;have g:=wW [x] d (by simp [qe,h]);rw [rows_one,wh] at g;simp only [uo,ul,uu,uV,tA] at s g;rw [len_rows x.subs ([]++[x.name]) (a++[x.name])] at g;show x.bk+GA.bks r<=wS a.length (rowsN a x++zx a r);rw [wS_app,wh,wS_app,wS_leaves,wS_up a.length _ λq m=>by
  have:=(rows_path _ _ q m).1;simp at this;omega]
 have C:=bk_is x;omega
theorem wS_sub {lt:GL->GL->Prop} (g:∀x,¬ lt x x) (n:Nat):∀(L M:List GL),L.Pairwise lt->(∀x ∈ L,x ∈ M)->wS n L<=wS n M
 | [],_,_,_=>tz _
 | x::L,M,h,hs=>by
  obtain ⟨o,j⟩:=uL.1 h;obtain ⟨A,B,rfl⟩:=pr (hs x (by simp));have:=wS_sub g n L (A++B) j λy m=>by
   grind
  rw [wS_app] at this;rw [wS_app];simp only [wS];omega
def lS:List GL->Nat
 | []=>0
 | r::L=>r.leaf.bk+lS L
theorem wS_le:∀L:List GL,(∀r ∈ L,r.path.length<=3)->wS 0 L<=lS L+51 * L.length
 | [],_=>uh _
 | r::L,h=>by
  have m:=h r (by simp);have j:=wS_le L λq g=>h q (by simp [g]);simp only [wS,lS,uu];omega
theorem rows_wf:∀(t:List GA) (a:List zu),GA.wfs t->∀r ∈ zx a t,GC.wf r.leaf:=by
 refine vk (λ_ _ _ h=>by simp [zx] at h) ?_;intro x r p o a h q g;simp only [GA.wfs] at h;have g:q ∈ rowsN a x++zx a r:=g;rcases uD.1 g with g | g
 ·have j:x.name.length<=maxLen/\(x.leaves.length<=maxLen/\∀y ∈ x.leaves,GC.wf y)/\GA.wfs x.subs:=by
   have:=h.1;cases x;simpa only [GA.wf] using this
  rcases rowsN_mem.1 g with ⟨l,m,rfl⟩ | g
  ·simp_all
  ·grind
 ·grind
theorem wf_rows:∀(t:List GA) (d:Nat) (a:List zu),(∀x ∈ t,nodeB d x=true)->(zx a t).length<=maxLen->(∀r ∈ zx a t,GC.wf r.leaf)->GA.wfs t:=by
 refine vk (λ_ _ _ _ _=>by simp [GA.wfs]) ?_;intro x r D z d a v j g;have j:(rowsN a x++zx a r).length<=maxLen:=j;have g:∀q ∈ rowsN a x++zx a r,GC.wf q.leaf:=g;rw [wh] at j;simp only [uo,ul] at j;obtain ⟨E,n2,_⟩:=x8 (v x (by simp));have w:=z d a (λy o=>v y (by simp [o])) (by omega) (λq m=>g q (by simp [m]));have p:=D (d+1) (a++[x.name]) (zP n2).2 (by omega) (λq m=>g q (uD.2 (.inl (rowsN_mem.2 (.inr m)))));have C:=(name_len E).1;have h:x.name.length<=maxLen:=uJ C (by decide);have s:∀y ∈ x.leaves,GC.wf y:=λy o=>g ⟨a++[x.name],y⟩ (uD.2 (.inl (rowsN_mem.2 (.inl ⟨y,o,rfl⟩))));have u:x.leaves.length<=maxLen:=by omega
 simp only [GA.wfs];refine ⟨?_,w⟩;revert h s u p;cases x;intro p h s u;simp only [GA.wf]
 simp_all

theorem ownC_is (h:LeafOk l):vY l=some l:=by
 unfold vY;rw [qS (yV (by have:=h.items;omega)),ua,qr (yV (by have:=h.tombs;omega)),ua]
theorem changed_is:∀(n:Nat) (t:List GA),GA.deps t < n->Small t->xN n t (λr=>vY r)=some t
 | 0,_,h,_=>by omega
 | n+1,t,h,hs=>by
  unfold xN;have z:=hs.len;rw [loop_keep (λ_=>true) (λx=>x) t 0 [] (yV (by simp;omega))]
  ·simp
  ·intro i x s g w;have p:=qR g;have v:=wt x;have u:=hs.leaves g;rw [changed_is n x.subs (by omega) (hs.subs g),ua];rw [loop_keep (λ_=>true) (λl=>l) x.leaves 0 [] (yV (by simp;omega))]
   ·have o:(x.leaves.filter λ_=>true)=x.leaves:=by simp
    simp only [yB,uR,List.map_id_fun',id,o,ur];rw [zj (by omega)];cases x;simp
   ·intro j l s2 m y;show ((vY l).bind _)=_;rw [ownC_is (hs.leaf g m),ua,zj (by omega)];simp
theorem own7_is {t:List GA} (h:Small t):treeXown t=some t:=by
 unfold treeXown treeXchanged;rw [qT (GA.deps t+1) λn g=>changed_is n t (by omega) h,ua]
theorem wS_len:∀L:List GL,(∀r ∈ L,1<=r.path.length)->17 * L.length<=wS 0 L
 | [],_=>uh _
 | r::L,h=>by
  have m:=h r (by simp);have j:=wS_len L λq g=>h q (by simp [g]);simp only [wS,uu];omega
structure Fine (t:List GA):Prop where
 small:Small t
 tree:treeB 0 t=true
 ws:wS 0 (zx [] t)<=14680064
 leaf:∀r ∈ zx [] t,r.leaf.bk<=1048576
theorem Fine.row {t:List GA} (h:Fine t) {r:GL} (g:r ∈ zx [] t):RowOk' r:=rows_ok t 0 [] h.small h.tree rfl rfl r g
theorem Fine.len {t:List GA} (h:Fine t):(zx [] t).length<=863533:=by
 have j:=wS_len (zx [] t) λr g=>by
  have:=(qk (h.row g).path).1
  grind
 have:=h.ws;omega
theorem rows_small {u:List GA} {M:List GL} (m:treeB 0 u=true) (y:wS 0 M<=16777216) (w:M.length<=1048576) (o:∀r ∈ M,GC.wf r.leaf) (h:∀r ∈ zx [] u,r ∈ M):Small u/\wS 0 (zx [] u)<=wS 0 M:=by
 have j:∀x:GL,¬ kltB (vZ x) (vZ x)=true:=λx h=>by rw [klt_irr] at h;cases h
 have g:=rows_sorted m [];have t:=bks_rows u 0 [] (zP m).2;have p:=wS_sub j 0 _ _ g h;have v:=sub_len j _ _ g h;simp only [uV] at t;exact ⟨⟨wf_rows u 0 [] (zP m).2 (uJ (uJ v w) (by decide)) λr s=>o r (h r s),by omega⟩,p⟩
theorem small_put {t u:List GA} {p:List zu} (g:Fine t) (m:treeB 0 u=true) (v:l.bk<=1100000) (o:GC.wf l) (s:p.length<=3) (h:∀r ∈ zx [] u,r ∈ zx [] t \/ r=⟨p,l⟩):Small u:=by
 have y:=g.ws;have w:=g.len;refine (rows_small (M:=zx [] t++[⟨p,l⟩]) m (by rw [wS_app];simp only [wS];omega) (by simp;omega) (λr j=>?_) λr j=>?_).1
 ·rcases uD.1 j with h | h
  ·exact rows_wf t [] g.small.1 r h
  ·simp_all
 ·simp_all
theorem dots_bk (L:List GE):(L.map GE.bk).sum=5 * L.length:=by
 induction L with
 | nil=>rfl
 | cons d r ih =>
  have:GE.bk d=5:=rfl
  grind
theorem sum_filter_le {α:Type} (f:α->Nat) (q:α->Bool):∀L:List α,((L.filter q).map f).sum<=(L.map f).sum
 | []=>by simp
 | x::r=>by
  have:=sum_filter_le f q r
  grind
theorem lay_bk (L:List GF) (x:GF):((layP L x).map GF.bk).sum<=(L.map GF.bk).sum+x.bk:=by
 unfold layP;split
 ·omega
 ·have e:=tw (p:=λy=>yc y x) (l:=L)
  grind
theorem applyP_bk (g:eventB e=true):(xf l e).bk<=l.bk+1000:=by
 have d:=evOk g;have o:=lay_bk l.items ⟨0,e.dot,e.op.text⟩;have j:=lay_bk l.items ⟨e.time,e.dot,e.op.text⟩;have s:=burs_len e.op.dots l.tombs;have m:=sum_filter_le GF.bk (λx:GF=>!(e.op.dots.any λy=>decide (y=x.dot))) l.items;have hd:=d.dlen;have r:=d.text;have b0:∀x:GE,GE.bk x=5:=λ_=>rfl;have h:GF.bk ⟨0,e.dot,e.op.text⟩<=60:=by simp only [GF.bk,b0];omega
 have p:GF.bk ⟨e.time,e.dot,e.op.text⟩<=60:=by simp only [GF.bk,b0];omega
 unfold xf;split
 ·simp only [GC.bk];omega
 split
 ·generalize (decide (l.time=0) || (if l.time ≠ e.time then decide (l.time < e.time) else ye l.dot e.dot))=b;cases b
  ·simp_all
  ·simp only [ur,GC.bk,b0];omega
 split
 ·split
  ·omega
  ·simp only [GC.bk];omega
 split
 ·simp only [GC.bk,dots_bk];omega
 ·simp only [GC.bk];omega
theorem inK_wrap64 (n:Int):InK .i64 (IntKind.wrap .i64 n):=by
 unfold InK;rw [IntKind.wrap_i64];constructor
 ·show (-9223372036854775808:Int)<=_;omega
 ·show _<=(9223372036854775807:Int);omega
theorem all_lay {q:GF->Prop} {x:GF} (h:∀y ∈ L,q y) (m:q x):∀y ∈ layP L x,q y:=λy g=>by
 rcases layP_mem g with j | j
 ·simp_all
 ·simp_all
theorem applyP_wf (F:GC.wf l) (H:eventB e=true) (E:GH.wf e) (hi:l.items.length<=1048576) (D:l.tombs.length<=1048576):GC.wf (xf l e):=by
 have d:=evOk H;obtain ⟨g,r,o,m,s,j,p⟩:=F;obtain ⟨w,C,G⟩:=E;obtain ⟨M,J,N,v,I⟩:=G;have t:∀n,n<=1048700->n<=maxLen:=λn h=>uJ h (by decide);have O:=λx=>layP_len l.items x;have P:=burs_len e.op.dots l.tombs;have K:=rf (λx:GF=>!(e.op.dots.any λy=>decide (y=x.dot))) l.items;have hd:=d.dlen;have z:InK .u64 0:=⟨tR _,by decide⟩
 unfold xf;split
 ·exact ⟨g,inK_wrap64 _,o,m,s,j,p⟩
 split
 ·generalize (decide (l.time=0) || (if l.time ≠ e.time then decide (l.time < e.time) else ye l.dot e.dot))=b;cases b
  ·exact ⟨g,r,o,m,s,j,p⟩
  ·exact ⟨g,r,C,w,v,j,p⟩
 split
 ·split
  ·exact ⟨g,r,o,m,s,j,p⟩
  ·exact ⟨g,r,o,m,s,⟨t _ (by grind),all_lay j.2 ⟨z,w,v⟩⟩,p⟩
 split
 ·refine ⟨g,r,o,m,s,⟨t _ (by grind),λy u=>j.2 y (tO.1 u).1⟩,⟨t _ (by grind),λy u=>?_⟩⟩;rcases (burs_mem _ _ _).1 u with h | h
  ·simp_all
  ·simp_all
 ·exact ⟨g,r,o,m,s,⟨t _ (by grind),all_lay j.2 ⟨C,w,v⟩⟩,p⟩
theorem newLf_wf (h:1<=k/\k<=4):GC.wf (vV k):=by
 have z:InK .u64 0:=⟨tR _,by decide⟩
 have j:InK .u8 0:=⟨tR _,by decide⟩
 have g:InK .u32 0:=⟨tR _,by decide⟩
 have m:InK .i64 0:=⟨by decide,by decide⟩
 refine ⟨⟨by show (0:Int)<=k;omega,by show k<=255;omega⟩,m,z,⟨⟨j,g⟩,z⟩,by simp [vV],⟨by simp [vV],by simp [vV]⟩,⟨by simp [vV],by simp [vV]⟩⟩

theorem tlR_false (g:1<=k/\k<=4) {m:Bool×zu×(List GC)×(List GA)} {v:GC} (h:tlR k m=some (v,false)):v=vV k:=by
 unfold tlR at h;obtain ⟨j,_,h⟩:=tD.1 h;obtain ⟨v50,_,h⟩:=tD.1 h;split at h
 ·rw [leafNew_is g,ua] at h
  simp_all
 ·obtain ⟨y,_,h⟩:=tD.1 h;obtain ⟨a,_,h⟩:=tD.1 h;obtain ⟨b,_,h⟩:=tD.1 h
  simp_all
theorem treeLeaf_false {t:List GA} {p:List zu} (m:p ≠ []) {k:Int} (j:1<=k/\k<=4) {v:GC} (h:vP t p k=some (v,false)):v=vV k:=by
 have g:=tl_walk p 0 t (decide ((p.length:Int) > 0),([]:zu),([]:List GC),([]:List GA)) m;rw [tl_eq] at h;cases e:wC t p with
 | none =>
  rw [e] at g;obtain ⟨u,g⟩:=g;rw [g] at h;simp only [yB] at h;exact tlR_false j h
 | some x =>
  rw [e] at g;simp only at g;rw [g] at h;simp only [yB] at h;exact tlR_false j h
theorem leaf_lens (l:GC):l.items.length<=l.bk/\l.tombs.length<=l.bk:=by
 have g:=sum_len (f:=GF.bk) (λx=>by simp only [GF.bk];omega) l.items;have h:=dots_bk l.tombs;simp only [GC.bk];omega
theorem leaf_both {t:List GA} (w:Fine t) {p:List zu} (z:p ≠ []) {k:Int} (m:1<=k/\k<=4) :
  ∃l b,vP t p k=some (l,b)/\ref07Leaf t p k=some (l,b)/\l.typ=k/\leafB l=true/\LeafOk l/\GC.wf l/\l.bk<=1048576/\((b=true/\GL.mk p l ∈ zx [] t) \/ (b=false/\l=vV k/\∀r ∈ zx [] t,vZ r ≠ (p,k))):=by
 have E:=w.len;have hs:=w.small;have s:=w.tree;have o:=λr j=>rows_ok t 0 [] hs s rfl rfl r j;rcases treeLeaf_is s (λr j=>(o r j).ok) z m with ⟨l,g,h,C⟩ | ⟨g,v,h⟩ <;> rcases leaf7_is s (by omega) z m with ⟨F,y,u,D⟩ | ⟨y,u⟩
 ·have e:=sorted_key (key:=vZ) (rows_sorted s []) g y (by simp only [vZ];rw [h,u]);injection e with _ e;subst e;have j:=o _ g;refine ⟨l,true,C,D,h,j.leaf,j.ok,rows_wf t [] hs.1 _ g,?_,.inl ⟨rfl,g⟩⟩;exact w.leaf _ g
 ·exact absurd (by simp only [vZ];rw [h]) (y _ g)
 ·exact absurd (by simp only [vZ];rw [u]) (g _ y)
 ·have e:=treeLeaf_false z m h;subst e;exact ⟨vV k,false,h,u,rfl,newLf_may m,newLf_ok k,newLf_wf m,(by simp [vV,GC.bk,GE.bk,GJ.bk]),.inr ⟨rfl,rfl,g⟩⟩
theorem put_all (o:leafB l=true) (m:LeafOk l) {p:List zu} {t u:List GA} (y:pathB p=true) (h:treeB 0 t=true) (F:(zx [] t).length<=8388606) (z:treeB 0 u=true) (G:∀r,r ∈ zx [] u ↔ (r ∈ zx [] t/\vZ r ≠ (p,l.typ)) \/ (true=true/\r=⟨p,l⟩)) :
  treeXput t p l=some u/\ref07Lay t p l=some u:=by
 obtain ⟨j,D,g⟩:=qk y;have key:∀n,p.length+1<=n->xV n t p l.typ l true=some u:=λn v=>by
  obtain ⟨E,w,C,_,s⟩:=lay_is (k:=l.typ) (l:=l) (there:=true) (λ_=>⟨rfl,o,m⟩) p t 0 n j g (by omega) h (by omega) (by omega);have s:=s [];simp only [uR] at s;rw [w,rows_ext C z λr=>by simp_all]
 refine ⟨qT (p.length+1) λn v=>?_,qT (p.length+1) λn v=>?_⟩
 ·rw [put_lay o m p t 0 n j g (by omega) h (by omega) (by omega)]
  simp_all
 ·rw [lay7_lay o m p t 0 n j g (by omega) h (by omega) (by omega)]
  simp_all
theorem apply_is {t:List GA} (m:Fine t) (g:eventB e=true) (N:GH.wf e) :
  ∃u l b,treeApply t e=some (u,0)/\qc t e=some (u,0)/\Small u/\treeB 0 u=true/\vP t e.op.path (wT e.op.kind)=some (l,b)/\l.typ=wT e.op.kind/\leafB (xf l e)=true/\LeafOk (xf l e) /\
   ∀r,r ∈ zx [] u ↔ (r ∈ zx [] t/\vZ r ≠ (e.op.path,wT e.op.kind)) \/ r=⟨e.op.path,xf l e⟩:=by
 have d:=evOk g;have hs:=m.small;have o:=m.tree;have I:=type_range d.kind;obtain ⟨O,H,Q⟩:=qk d.path;obtain ⟨l,b,C,G,y,J,D,P,S,_⟩:=leaf_both m O I;have E:=leaf_lens l;have s:=applyP_may J g y.symm;have R:(xf l e).typ=wT e.op.kind:=by rw [applyP_typ,y]
 obtain ⟨p,_⟩:=applyP_ok D g (by omega) (by omega);have w:=m.len;obtain ⟨u,_,v,_,K⟩:=lay_all (k:=(xf l e).typ) (l:=xf l e) (there:=true) (λ_=>⟨rfl,s,p⟩) d.path o (by omega);obtain ⟨M,U⟩:=put_all s p d.path o (by omega) v K;have F:Small u:=small_put m v (uJ (applyP_bk g) (by omega)) (applyP_wf P g N (by omega) (by omega)) H λr T=>by
  grind
 have h:l.items.length<=1048576:=by omega
 have j:l.tombs.length<=1048576:=by omega
 have z:applyW l e=(xf l e,0):=by
  unfold applyW
  simp_all
 refine ⟨u,l,b,?_,?_,F,v,C,y,s,p,λr=>by simp_all⟩
 ·unfold treeApply;rw [treeMay_is hs,opMayEvent_is,o,g];simp only [ua,tn,uP,ur,rO,uk,uH];rw [opType_is,ua,C,ua,leafApply_is e h j,z,ua];simp only [sR,uk,uH];rw [M,ua,own7_is F,ua]
 ·unfold qc;rw [ref07May_is hs,ref04MayEvent_is,o,g];simp only [ua,tn,uP,ur,rO,uk,uH];rw [ref04Type_is,ua,G,ua,refApply_is e h j D.time,z,ua]
  simp_all

def ddQ:List zu->List zu
 | []=>[]
 | [x]=>[x]
 | x::y::r=>if x=y then ddQ (y::r) else x::ddQ (y::r)
theorem dd_snocQ:∀(A:List zu) (x y:zu),ddQ (A++[x,y])=if x=y then ddQ (A++[x]) else ddQ (A++[x])++[y]
 | [],x,y=>by by_cases h:x=y <;> simp [ddQ,h]
 | [a],x,y=>by
  by_cases h:x=y
  ·subst h;by_cases h2:a=x <;> simp [ddQ,h2]
  ·by_cases h2:a=x <;> simp [ddQ,h2,h]
 | a::b::A,x,y=>by
  have g:=dd_snocQ (b::A) x y;simp only [tP] at g ⊢;simp only [ddQ];rw [g];by_cases h:a=b <;> by_cases h2:x=y <;> simp [h,h2]
theorem dd_memQ:∀(L:List zu) (d:zu),d ∈ ddQ L ↔ d ∈ L
 | [],_=>by simp [ddQ]
 | [x],_=>by simp [ddQ]
 | x::y::r,d=>by
  simp only [ddQ];split
  ·rename_i h;subst h;rw [dd_memQ (x::r) d];simp
  ·rw [uQ,dd_memQ (y::r) d];simp
theorem dd_strictQ {lt:zu->zu->Prop} (j:∀a b,¬ lt b a->a=b \/ lt a b) (p:∀a b c,lt a b->lt b c->lt a c):∀(L:List zu),L.Pairwise (λa b=>¬ lt b a)->(ddQ L).Pairwise lt
 | [],_=>by simp [ddQ]
 | [x],_=>by simp [ddQ]
 | x::y::r,h=>by
  have t:=(uL.1 h).2;have s:=dd_strictQ j p (y::r) t;simp only [ddQ];split
  ·exact s
  ·rename_i o;refine uL.2 ⟨λz m=>?_,s⟩;rw [dd_memQ] at m;have g:lt x y:=(j x y ((uL.1 h).1 y (by simp))).resolve_left o;rcases uQ.1 m with rfl | m
   ·exact g
   ·rcases j y z ((uL.1 t).1 z m) with rfl | u
    ·exact g
    ·exact p _ _ _ g u
theorem take_snoc2Q {L:List zu} {a b:zu} (g:L[n]?=some a) (h:L[n+1]?=some b):L.take (n+2)=L.take n++[a,b]:=by
 rw [tC,tC,g,h];simp
theorem dd_stepQ {L:List zu} {a b:zu} (g:L[n]?=some a) (h:L[n+1]?=some b):ddQ (L.take (n+2))=if a=b then ddQ (L.take (n+1)) else ddQ (L.take (n+1))++[b]:=by
 rw [take_snoc2Q g h,dd_snocQ,tC,g];rfl
noncomputable def cmpInQ (n:Nat) (s1:Int):Int×Int×(List zu)->Option (Out (Out (List zu) Int) (Int×Int×(List zu))):=λ(s2:Int×Int×(List zu))=>((yl ((s2.2.2).length=n) ((if (decide (s2.2.1 < ((n - s1.toNat:Nat):Int)))=true then ((zQ (s2.2.2.drop s1.toNat) s2.2.1).bind λy51=>((zQ (s2.2.2.drop s1.toNat) (IntKind.wrap .i64 (s2.2.1 - (1:Int)))).bind λy52=>(if (!(y51==y52))=true then ((zQ (s2.2.2.drop s1.toNat) s2.2.1).bind λy54=>((zQ s2.2.2 s2.1).bind λy55=>some (.nxt ((IntKind.wrap .i64 (s2.1+(1:Int))),(IntKind.wrap .i64 (s2.2.1+(1:Int))),(s2.2.2.set s2.1.toNat y54))))) else some (.nxt (s2.1,(IntKind.wrap .i64 (s2.2.1+(1:Int))),s2.2.2))))) else some (.brk (s2.1,s2.2.1,s2.2.2))))))
theorem cmpIn_runQ {L:List zu} (S:L.length<=16777216) {k0:Nat} (H:0 < k0) (O:k0 < L.length) {a:zu} (I:L[k0 - 1]?=some a) (F:L[k0]?=some a) (K:ddQ (L.take k0)=L.take k0) :
  ∃r,zZ (cmpInQ L.length (k0:Int)) ((k0:Int),1,L)=some (.inr r)/\∃m:Nat,r.1=(m:Int)/\m<=L.length/\r.2.2.length=L.length/\r.2.2.take m=ddQ L:=by
 refine wE (f:=cmpInQ L.length (k0:Int)) (λs=>∃m b:Nat,s.1=(m:Int)/\s.2.1=(b:Int)/\1<=b/\k0+b<=L.length/\m+1<=k0+b/\s.2.2.length=L.length/\s.2.2.take m=ddQ (L.take (k0+b))/\s.2.2.drop (k0+b - 1)=L.drop (k0+b - 1))
  _ (λs=>L.length - s.2.1.toNat) ?_ _ _ rfl ⟨k0,1,rfl,rfl,uh _,by omega,by omega,rfl,?_,by simp⟩
 ·rintro ⟨i,j,M⟩ ⟨m,b,y,E,P,R,Q,o,u,w⟩
  simp only at y E o u w;subst y E;simp only [cmpInQ,yl,o,ur,ut];by_cases hb:k0+b < L.length
  ·right;have h:∀t,k0+b - 1<=t->M[t]?=L[t]?:=λt N=>by
    have:=congrArg (λl=>l[t - (k0+b - 1)]?) w;simp only [uG] at this
    rwa [show k0+b - 1+(t - (k0+b - 1))=t by omega] at this
   have D:L[k0+b]?=some L[k0+b]:=ue hb;have hb1:k0+b - 1 < L.length:=by omega
   have z:L[k0+b - 1]?=some (L[k0+b - 1]'hb1):=ue hb1;have C:zQ (M.drop k0) (b:Int)=some L[k0+b]:=by simp only [zQ,ut,uG];rw [uv (by omega),h _ (by omega),D]
   have G:zQ (M.drop k0) (IntKind.wrap .i64 ((b:Int) - 1))=some (L[k0+b - 1]'hb1):=by
    rw [wrap_p1 (by omega) (by omega)];simp only [zQ,ut,uG];rw [uv (by omega),show k0+(b - 1)=k0+b - 1 by omega,h _ (by omega),z]
   have J:zQ M (m:Int)=some (M[m]'(by omega)):=by simp [zQ]
   have g:=dd_stepQ (L:=L) (n:=k0+b - 1) z (by rw [show k0+b - 1+1=k0+b by omega];exact D);rw [show k0+b - 1+2=k0+(b+1) by omega,show k0+b - 1+1=k0+b by omega] at g;have p:M.drop (k0+(b+1) - 1)=L.drop (k0+(b+1) - 1):=by
    have:=congrArg (λl=>l.drop 1) w;simp only [tB] at this
    rwa [show k0+b - 1+1=k0+(b+1) - 1 by omega] at this
   rw [uv (by simp;omega),C,ua,G,ua];by_cases he:L[k0+b]=L[k0+b - 1]'hb1
   ·refine ⟨((m:Int),((b+1:Nat):Int),M),by simp [he,xL (show b<=16777216 by omega)],⟨m,b+1,rfl,rfl,by omega,by omega,by omega,o,?_,p⟩,by simp;omega⟩;rw [g,uv he.symm];exact u
   ·refine ⟨(((m+1:Nat):Int),((b+1:Nat):Int),M.set m L[k0+b]),?_,⟨m+1,b+1,rfl,rfl,by omega,by omega,by omega,by simpa using o,?_,?_⟩,by simp;omega⟩
    ·simp [he,C,J,xL (show b<=16777216 by omega),xL (show m<=16777216 by omega)]
    ·rw [g,uC (λe=>he e.symm),<- u,tC,sU (uh _),uE (by omega)];rfl
    ·rw [sV (by omega)];exact p
  ·left;have v:k0+b=L.length:=by omega
   rw [uC (by simp;omega)];exact ⟨_,rfl,m,rfl,by omega,o,by rw [u,v,sa]⟩
 ·have:=dd_stepQ (L:=L) (n:=k0 - 1) I (by rw [show k0 - 1+1=k0 by omega];exact F);rw [show k0 - 1+2=k0+1 by omega,show k0 - 1+1=k0 by omega,uv rfl] at this;rw [this,K]
noncomputable def cmpOutQ (s0:List zu):Int->Option (Out (List zu) Int):=λ(s1:Int)=>((if (decide (s1 < ((s0).length:Int)))=true then ((zQ s0 s1).bind λy35=>((zQ s0 (IntKind.wrap .i64 (s1 - (1:Int)))).bind λy36=>(if (y35==y36)=true then (yl (0<=s1/\s1<=((s0.length:Nat):Int)) ((lp (zZ (cmpInQ s0.length s1) (s1,(1:Int),s0)) λ(s2:Int×Int×(List zu))=>(yl (0<=s2.1/\s2.1<=((s0.length:Nat):Int)) (((slc (s2.2.2.take s2.1.toNat++List.replicate (s0.length - s2.1.toNat) ([]:zu)) (0:Int) s2.1).bind λm57=>some (.ret m57))))))) else some (.nxt (IntKind.wrap .i64 (s1+(1:Int))))))) else some (.brk s1)))
theorem compact_eqQ (g:List zu):xP g=(if (decide (((g).length:Int) < (2:Int)))=true then some g else (lp (zZ (cmpOutQ g) (1:Int)) λ(_:Int)=>some g)):=rfl
theorem cmpOut_runQ {L:List zu} (w:L.length<=16777216):∀(n k:Nat),L.length - k=n->0 < k->k<=L.length->ddQ (L.take k)=L.take k->lp (zZ (cmpOutQ L) (k:Int)) (λ(_:Int)=>some L)=some (ddQ L):=by
 intro n
 induction n with
 | zero =>
  intro k y h0 hk hd;have:k=L.length:=by omega
  subst this;rw [yI];simp only [cmpOutQ];rw [uC (by simp)];simp only [lp];rw [sa] at hd;rw [hd]
 | succ n ih =>
  intro k y h0 hk hd;have g:k < L.length:=by omega
  have o:L[k]?=some L[k]:=ue g;have hk1:k - 1 < L.length:=by omega
  have j:L[k - 1]?=some (L[k - 1]'hk1):=ue hk1;rw [yI];have s:zQ L (k:Int)=some L[k]:=by simp [zQ]
  have r:zQ L (IntKind.wrap .i64 ((k:Int) - 1))=some (L[k - 1]'hk1):=by
   rw [wrap_p1 h0 (by omega)];simp only [zQ,ut];rw [uv (by omega),j]
  have h:=dd_stepQ (L:=L) (n:=k - 1) j (by rw [show k - 1+1=k by omega];exact o);rw [show k - 1+2=k+1 by omega,show k - 1+1=k by omega] at h;by_cases he:L[k]=L[k - 1]'hk1
  ·obtain ⟨p,u,m,t,z,C,v⟩:=cmpIn_runQ w h0 g (a:=L[k]) (by rw [he];exact j) o hd;have hs:slc (p.2.2.take ((m:Int)).toNat++List.replicate (L.length - ((m:Int)).toNat) ([]:zu)) (0:Int) (m:Int)=some (p.2.2.take m):=by
    unfold slc;rw [uv (by simp;omega)];simp only [ut,pt,sf];rw [u2 (by simp;omega),pQ,Nat.min_self]
   have:cmpOutQ L (k:Int)=some (.ret (ddQ L)):=by
    simp only [cmpOutQ];rw [uv (by simp;omega),s,ua,r,ua,uv (by simp [he])];rw [zj (by omega),u];simp only [lp];rw [zj (by rw [t];omega),t,hs,ua,v]
   rw [this];rfl
  ·have:cmpOutQ L (k:Int)=some (.nxt ((k+1:Nat):Int)):=by
    simp only [cmpOutQ];rw [uv (by simp;omega),s,ua,r,ua,uC (by simp [he]),xL (by omega)]
   rw [this];refine ih (k+1) (by omega) (by omega) (by omega) ?_;rw [h,uC (λe=>he e.symm),hd,tC,o];rfl
theorem compact_isQ {L:List zu} (g:L.length<=16777216):xP L=some (ddQ L):=by
 rw [compact_eqQ];by_cases h:L.length < 2
 ·rw [uv (by simp;omega)]
  match L,h with
  | [],_=>rfl
  | [x],_=>rfl
  | _::_::_,h=>simp at h;omega
 ·rw [uC (by simp;omega)];have:=cmpOut_runQ g (L.length - 1) 1 rfl (by omega) (by omega) (by
   match L,h with
   | x::y::r,_=>rfl
   | [],h=>simp at h
   | [x],h=>simp at h)
  exact this
def srtQ (L:List zu):List zu:=L.mergeSort λa b=>!Op.bytesLess b a
theorem sortS_is {L:List zu} (g:L.length<=lim):sortS L=some (srtQ L):=by
 unfold sortS srtQ;rw [uv g];congr 2;funext x y;rw [tv];simp only [uj,tH,Go.Proofs.bytesLess_eq,rJ];exact (List.not_lt).symm
theorem srtQ_perm (L:List zu):(srtQ L).Perm L:=pi ..
theorem srtQ_pw (L:List zu):(srtQ L).Pairwise λa b=>¬ Op.bytesLess b a=true:=by
 have:=pL (le:=λa b:zu=>!Op.bytesLess b a) (λa b c m g=>by
  simp only [tH] at *;cases h:Op.bytesLess c a with
  | false=>rfl
  | true =>
   rcases less_tot a b with rfl | j | j
   ·rw [g] at h;cases h
   ·rw [xG h j] at g;cases g
   ·rw [m] at j;cases j) (λa b=>by
  cases h:Op.bytesLess b a with
  | false=>rfl
  | true =>
   cases g:Op.bytesLess a b with
   | false=>rfl
   | true=>have:=xG h g;rw [vq] at this;cases this) L
 refine this.imp λ{a b} h=>?_;simpa using h
theorem srtQ_up {L:List zu} (h:L.Pairwise λa b=>Op.bytesLess a b=true):srtQ L=L:=by
 refine sorted_one (cf:=λa b=>if Op.bytesLess a b=true then -1 else 1) (srtQ_perm L) ((srtQ_pw L).imp ?_) (h.imp ?_) ?_
 ·intro a b j g;split at g
  ·contradiction
  ·omega
 ·intro a b j g;split at g
  ·rename_i o;have:=xG j o;rw [vq] at this;cases this
  ·omega
 ·intro x y r p m g;rcases less_tot x y with e | e | e
  ·exact e
  ·rw [uv e] at m;omega
  ·rw [uv e] at g;omega
def onceQ (L:List zu) (d:zu):List zu:=if (L.any λy=>decide (y=d))=true then L else L.takeWhile (λy=>Op.bytesLess y d)++([d]++L.dropWhile λy=>Op.bytesLess y d)
theorem onceQ_mem (L:List zu) (d x:zu):x ∈ onceQ L d ↔ x=d \/ x ∈ L:=by
 unfold onceQ;split
 ·rename_i h;rw [ry] at h;obtain ⟨y,g,e⟩:=h;have e:=tq e;subst e;constructor
  ·exact .inr
  ·rintro (rfl | h)
   ·exact g
   ·exact h
 ·have h:x ∈ L ↔ x ∈ L.takeWhile (λy=>Op.bytesLess y d) \/ x ∈ L.dropWhile (λy=>Op.bytesLess y d):=by
   rw [<- uD,tw]
  rw [h];simp only [uD,ux];constructor
  ·rintro (h | h | h)
   ·exact .inr (.inl h)
   ·exact .inl h
   ·exact .inr (.inr h)
  ·rintro (h | h | h)
   ·exact .inr (.inl h)
   ·exact .inl h
   ·exact .inr (.inr h)
theorem onceQ_pw {L:List zu} (d:zu) (h:L.Pairwise λa b=>Op.bytesLess a b=true):(onceQ L d).Pairwise λa b=>Op.bytesLess a b=true:=by
 unfold onceQ;split
 ·exact h
 ·rename_i m;refine ins_pw (lt:=λa b:zu=>Op.bytesLess a b) (λ_ _ _=>xG) h λy j=>?_;rcases less_tot y d with rfl | g | g
  ·exfalso;apply m;rw [ry];exact ⟨y,j,by simp⟩
  ·exact .inl g
  ·exact .inr g
def oncesQ (L ds:List zu):List zu:=ds.foldl onceQ L
theorem oncesQ_mem:∀(ds L:List zu) (x:zu),x ∈ oncesQ L ds ↔ x ∈ ds \/ x ∈ L
 | [],L,x=>by simp [oncesQ]
 | d::ds,L,x=>by
  have:=oncesQ_mem ds (onceQ L d) x;simp only [oncesQ,so] at this ⊢;rw [this,onceQ_mem];simp only [uQ];constructor
  ·rintro (h | h | h)
   ·exact .inl (.inr h)
   ·exact .inl (.inl h)
   ·exact .inr h
  ·rintro ((h | h) | h)
   ·exact .inr (.inl h)
   ·exact .inl h
   ·exact .inr (.inr h)
theorem oncesQ_pw:∀(ds:List zu) {L:List zu},L.Pairwise (λa b=>Op.bytesLess a b=true)->(oncesQ L ds).Pairwise λa b=>Op.bytesLess a b=true
 | [],_,h=>h
 | d::ds,_,h=>oncesQ_pw ds (onceQ_pw d h)
theorem onces_eq (ds:List zu):ddQ (srtQ ds)=oncesQ [] ds:=by
 refine strict_ext (lt:=λa b=>Op.bytesLess a b=true) (λa=>by simp [vq]) (λ_ _ _=>xG) _ _ (dd_strictQ (lt:=λa b=>Op.bytesLess a b=true) (λa b g=>?_) (λ_ _ _=>xG) _ (srtQ_pw _)) (oncesQ_pw ds List.Pairwise.nil) λx=>?_
 ·rcases less_tot a b with e | e | e
  ·exact .inl e
  ·exact .inr e
  ·exact (g e).elim
 ·rw [dd_memQ,(srtQ_perm _).mem_iff,oncesQ_mem];simp

def subsAt:List GA->List zu->List GA
 | t,[]=>t
 | t,s::p=>subsAt (match nodeOf t s with | some x=>x.subs | none=>[]) p
theorem lin_step (t:List GA) (s:zu):((xz t s).bind λg=>(some (.nxt g.1.subs):Option (Out (List zu) (List GA))))=some (.nxt (match nodeOf t s with | some x=>x.subs | none=>[])):=by
 rw [linear_is];cases nodeOf t s <;> rfl
theorem lin_walk:∀(p:List zu) (n:Nat) (t:List GA),zp (λ(m:Nat) (g:zu) (h:(List GA))=>(((xz h g).bind λj=>some (.nxt j.1.subs)):Option (Out (List zu) (List GA)))) p n t=some (.inr (subsAt t p))
 | [],_,_=>rfl
 | s::p,n,t=>by
  simp only [zp,lin_step t s,subsAt];exact lin_walk p (n+1) _
theorem app_loop {α g ρ:Type} (f:α->g):∀(L:List α) (n:Nat) (A:List g),A.length+L.length<=16777216->zp (λ(_:Nat) (x:α) (s:List g)=>((yl ((s).length+(([f x]:List g)).length<=lim) (some (.nxt (s++([f x]:List g))))):Option (Out ρ (List g)))) L n A=some (.inr (A++L.map f))
 | [],n,A,_=>by simp [zp]
 | x::r,n,A,h=>by
  simp only [uu] at h;have j:yl (A.length+([f x]:List g).length<=lim) (some (.nxt (A++[f x])):Option (Out ρ (List g)))=some (.nxt (A++[f x])):=zj (by simp [lim];omega);simp only [zp,j];rw [app_loop f r (n+1) (A++[f x]) (by simp;omega)];simp
theorem own7N:∀(n:Nat) (t:List GA),GA.deps t < n->Small t->ref07OwnN n t=some t
 | 0,_,h,_=>by omega
 | n+1,t,h,hs=>by
  unfold ref07OwnN;have D:=hs.len;rw [loop_keep (λ_=>true) (λx=>x) t 0 [] (yV (by simp;omega))]
  ·simp
  ·intro i x s g o;have v:=qR g;have y:=wt x;have w:=hs.leaves g;rw [own7N n x.subs (by omega) (hs.subs g),ua];rw [loop_keep (λ_=>true) (λl=>l) x.leaves 0 [] (yV (by simp;omega))]
   ·have r:(x.leaves.filter λ_=>true)=x.leaves:=by simp
    simp only [yB,uR,List.map_id_fun',id,r,ur];rw [zj (by simpa using o)];cases x;simp
   ·intro j l s2 m p;have u:=hs.leaf g m;have C:=u.items;have z:=u.tombs;rw [zj (by simp [lim];omega),zj (by simp [lim];omega),zj (by simpa using p)];cases l;simp
theorem own7_same {t:List GA} (h:Small t):ref07Own t=some t:=by
 unfold ref07Own;exact qT (GA.deps t+1) λn g=>own7N n t (by omega) h

theorem lpW {ρ:Type} {f:σ->Option (Out ρ σ)} {rest:σ->Option ρ} {p:σ} {P:ρ->Prop} (j g:σ->Prop) (o:σ->Nat) (hi:j p) (h:∀s,j s->(∃m,f s=some (.brk m)/\g m) \/ ∃m,f s=some (.nxt m)/\j m/\o m < o s) (u:∀s,g s->∃r,rest s=some r/\P r):∃r,lp (zZ f p) rest=some r/\P r:=by
 obtain ⟨m,e,t⟩:=wE j g o h _ p rfl hi;rw [e];exact u m t
theorem lpN {τ ρ:Type} {f:σ->Option (Out (Out ρ τ) σ)} {rest:σ->Option (Out ρ τ)} {p:σ} {P:τ->Prop} (j g:σ->Prop) (o:σ->Nat) (hi:j p) (h:∀s,j s->(∃m,f s=some (.brk m)/\g m) \/ ∃m,f s=some (.nxt m)/\j m/\o m < o s) (u:∀s,g s->∃r,rest s=some (.nxt r)/\P r):∃r,lp (zZ f p) rest=some (.nxt r)/\P r:=by
 obtain ⟨m,e,t⟩:=wE j g o h _ p rfl hi;rw [e];exact u m t
theorem qM {α:Type} {L:List α} {k:Nat} (h:k < L.length):zQ L (k:Int)=some L[k]:=by
 unfold zQ;rw [uv (by omega),ut,ue h]
theorem take_sum {α:Type} (f:α->Nat) {L:List α} {k:Nat} (h:k < L.length):((L.take (k+1)).map f).sum=((L.take k).map f).sum+f L[k]:=by
 rw [tC,ue h];simp only [Option.toList_some,tE,pd,uz,tr,si,List.sum_nil,tS]
theorem take_le {α:Type} (f:α->Nat) (L:List α) (k:Nat):((L.take k).map f).sum<=(L.map f).sum:=by
 have e:(L.map f).sum=((L.take k).map f).sum+((L.drop k).map f).sum:=by rw [<- pd,<- tE,se]
 omega
theorem items_ge {ρ:Type}:∀(L:List GF) (i:Nat) (s:Int),0<=s->s+((L.map GF.bk).sum:Nat)<=1099511627776->∃v,zp (λ(_:Nat) (j:GF) (g:Int)=>(some (.nxt (IntKind.wrap .i64 ((IntKind.wrap .i64 (g+(1:Int)))+((j.text).length:Int)))):Option (Out ρ Int))) L i s=some (.inr v)/\s+L.length<=v/\v<=s+((L.map GF.bk).sum:Nat)
 | [],_,s,_,_=>⟨s,rfl,by simp,by simp⟩
 | x::L,i,s,h0,h1=>by
  simp only [uz,si] at h1 ⊢;have o:x.text.length+1<=GF.bk x:=by unfold GF.bk;omega
  have h:IntKind.wrap .i64 (s+(1:Int))=s+1:=x9 (by omega);have m:IntKind.wrap .i64 (s+1+(x.text.length:Int))=s+1+x.text.length:=x9 (by omega);obtain ⟨v,e,p,r⟩:=items_ge (ρ:=ρ) L (i+1) (s+1+x.text.length) (by omega) (by omega);exact ⟨v,by simp only [zp,h,m];exact e,by simp only [uu];omega,by omega⟩
def lw (l:GC):Nat:=1+l.items.length+l.tombs.length
def rowsW (t:List GA):Nat:=((zx [] t).map λr=>lw r.leaf).sum
def rl (x:GA):Nat:=((rowsN [] x).map λr=>lw r.leaf).sum
theorem rows_lenA (a:List zu) (t:List GA):((zx a t).map λr=>lw r.leaf).sum=rowsW t:=by
 have:=rows_pre t a [];rw [sq] at this;rw [this,s6];rfl
theorem sum_flat {α h:Type} (g:α->List h) (w:h->Nat):∀L:List α,((L.flatMap g).map w).sum=(L.map λx=>((g x).map w).sum).sum
 | []=>rfl
 | x::r=>by
  have:=sum_flat g w r;simp only [sm,tE,pd,uz,si,this]
theorem rows_rl (t:List GA):rowsW t=(t.map rl).sum:=by
 unfold rowsW;rw [yT,sum_flat];rfl
theorem rl_is (x:GA):rl x=(x.leaves.map lw).sum+rowsW x.subs:=by
 unfold rl;rw [wh,tE,pd,rows_lenA,s6];rfl
theorem size_ge:∀(n:Nat) (t:List GA) (d:Int),GA.deps t < n->Small t->0<=d->d+GA.deps t<=10->∃v,xj n t d=some v/\((rowsW t:Nat):Int)<=v/\v<=(GA.bks t:Int)
 | 0,_,_,h,_,_,_=>by omega
 | n+1,t,d,h,hs,h0,hd=>by
  unfold xj;have hl:=hs.len;have hB:(t.map GA.bk).sum<=16777216:=by rw [<- GA.bks_eq];exact hs.2
  refine lpW (λs=>∃k:Nat,s.2=(k:Int)/\k<=t.length/\(((t.take k).map rl).sum:Int)<=s.1/\s.1<=(((t.take k).map GA.bk).sum:Int)) (λs=>((t.map rl).sum:Int)<=s.1/\s.1<=((t.map GA.bk).sum:Int)) (λs=>t.length - s.2.toNat) ⟨0,rfl,tz _,by simp,by simp⟩ ?_ (λs hs=>⟨s.1,rfl,by rw [rows_rl];exact hs.1,by rw [GA.bks_eq];exact hs.2⟩)
  rintro ⟨a,i⟩ ⟨k,p,V,C,z⟩
  dsimp only at p C z ⊢;subst p;by_cases hlt:k < t.length
  ·right;have D:t[k] ∈ t:=sJ hlt;have H:=hs.leaves D;have N:=qR D;have E:=wt t[k];have R:IntKind.wrap .i64 (d+(1:Int))=d+1:=x9 (by omega);obtain ⟨v,e,Y,v2⟩:=size_ge n t[k].subs (d+1) (by omega) (hs.subs D) (by omega) (by omega);rw [uv (by simp;omega)];simp only [qM hlt,ua,R,e];have s1:=take_sum GA.bk hlt;have s2:=take_sum rl hlt;have s3:=take_le GA.bk t (k+1);have s4:=take_le rl t k;have S:=bk_node t[k];have O:=rl_is t[k];have z0:(0:Int)<=a:=by omega
   have G:IntKind.wrap .i64 (a+(1:Int))=a+1:=x9 (by omega);have T:IntKind.wrap .i64 (a+1+(t[k].name.length:Int))=a+1+t[k].name.length:=x9 (by omega);have I:IntKind.wrap .i64 (a+1+t[k].name.length+v)=a+1+t[k].name.length+v:=x9 (by omega);have F:IntKind.wrap .i64 ((k:Int)+(1:Int))=((k+1:Nat):Int):=(x9 (by omega)).trans (by omega);simp only [G,T,I,F];obtain ⟨g,y⟩:∃g,a+1+t[k].name.length+v=g:=⟨_,rfl⟩
   rw [y];refine Exists.imp (λ_ h=>⟨h.1,h.2.1,h.2.2⟩) (lpN (P:=λu:Int×Int=>(∃k:Nat,u.2=(k:Int)/\k<=t.length/\(((t.take k).map rl).sum:Int)<=u.1/\u.1<=(((t.take k).map GA.bk).sum:Int))/\t.length - u.2.toNat < t.length - (k:Int).toNat) (λs=>∃q:Nat,s.2=(q:Int)/\q<=t[k].leaves.length/\g+(((t[k].leaves.take q).map lw).sum:Nat)<=s.1/\s.1<=g+(((t[k].leaves.take q).map GC.bk).sum:Nat)) (λs=>g+((t[k].leaves.map lw).sum:Nat)<=s.1/\s.1<=g+((t[k].leaves.map GC.bk).sum:Nat)) (λs=>t[k].leaves.length - s.2.toNat) ⟨0,rfl,tz _,by simp,by simp⟩ ?_ ?_)
   ·rintro ⟨b,j⟩ ⟨q,m,W,o,r⟩
    dsimp only at m o r ⊢;subst m;have u3:=take_le GC.bk t[k].leaves q;by_cases hql:q < t[k].leaves.length
    ·right;rw [uv (uT (by omega))];simp only [qM hql,ua];have u1:=take_sum GC.bk hql;have u5:=take_sum lw hql;have u6:lw t[k].leaves[q]=1+t[k].leaves[q].items.length+t[k].leaves[q].tombs.length:=rfl;have X:=take_le GC.bk t[k].leaves (q+1);have Z:(t[k].leaves[q].items.map GF.bk).sum+t[k].leaves[q].tombs.length+t[k].leaves[q].text.length+1<=GC.bk t[k].leaves[q]:=by
      have:=dots_bk t[k].leaves[q].tombs;unfold GC.bk;omega
     have J:IntKind.wrap .i64 (b+(1:Int))=b+1:=x9 (by omega);have U:IntKind.wrap .i64 (b+1+(t[k].leaves[q].text.length:Int))=b+1+t[k].leaves[q].text.length:=x9 (by omega);have K:IntKind.wrap .i64 (b+1+t[k].leaves[q].text.length+(t[k].leaves[q].tombs.length:Int))=b+1+t[k].leaves[q].text.length+t[k].leaves[q].tombs.length:=x9 (by omega);have Q:IntKind.wrap .i64 ((q:Int)+(1:Int))=((q+1:Nat):Int):=(x9 (by omega)).trans (by omega);simp only [J,U,K,Q];obtain ⟨w,M,x1,x2⟩:=items_ge (ρ:=Out (Out Int (Int×Int)) (Int×Int)) t[k].leaves[q].items 0 (b+1+t[k].leaves[q].text.length+t[k].leaves[q].tombs.length) (by omega) (by omega);rw [M,yB];exact ⟨_,rfl,⟨q+1,rfl,by omega,by dsimp only;omega,by dsimp only;omega⟩,by dsimp only;omega⟩
    ·left;rw [uC (by simp;omega)];obtain rfl:q=t[k].leaves.length:=by omega
     rw [sa] at o r;exact ⟨_,rfl,o,r⟩
   ·rintro ⟨b,j⟩ ⟨o,r⟩
    dsimp only at o r ⊢;refine ⟨_,rfl,⟨k+1,rfl,by omega,?_,?_⟩,by dsimp only;omega⟩
    ·dsimp only;omega
    ·dsimp only;omega
  ·left;rw [uC (by simp;omega)];obtain rfl:k=t.length:=by omega
   rw [sa] at C z;exact ⟨_,rfl,C,z⟩
theorem deps_le:∀(t:List GA) (d:Nat),d<=2->qe d t=true->GA.deps t<=3 - d:=by
 refine vk (λd _ _=>by simp [GA.deps]) ?_;intro x r v u d hd o;rw [yU,tI,ud,<- yU] at o;obtain ⟨j,m⟩:=o;have y:=u d hd m;obtain ⟨w,g,z⟩:=x8 j;have hs:=wt x;have p:GA.deps x.subs<=2 - d:=by
  by_cases h0:x.subs=[]
  ·rw [h0];simp [GA.deps]
  ·unfold treeB at g;simp only [ud,tG,uj] at g;have s:d+1 < 3:=by
    rcases g.1.1 with h | h
    ·exact absurd (pK.1 h) h0
    ·exact h
   have:=v (d+1) (by omega) g.2;omega
 simp only [GA.deps];omega
end
end Go.Vv
