/- Layer 31: what the plain laws lean on. -/
import Derived.Test.YtcociipjgndnaaaGreatD
import Derived.Test.YtcociipjgndnaaaGreatVvRd
set_option linter.all false
namespace Go.Vv
open Go
variable {i c n d:Nat} {b:UInt8} {σ:Type} {L ds:List GF} {q:GH->Bool} {l:GC} {a:GF} {ls L0:List GC} {r:GE} {del:GC->Option Bool} {k:Int} {there:Bool} {x:List GH} {cmp:GH->GH->Option Int} {e:GJ}
section
structure GO where
 path:(List zx)
 typ:Int
 had:Bool
 has:Bool
 was:GC
 is:GC
 deriving DecidableEq,Inhabited
def GO.wf (x:GO):Prop:=(x.path.length<=maxLen/\∀y ∈ x.path,y.length<=maxLen)/\(InK .u8 x.typ)/\(True)/\(True)/\(GC.wf x.was)/\(GC.wf x.is)
def GO.bk (x:GO):Nat:=(((x.path.map (λs=>s.length+1)).sum+1)+(1+(1+(1+(GC.bk x.was+(GC.bk x.is+0))))))+1
noncomputable def xQ (n0:GA) (name1:zx):Option Int :=
 ((stringsCompare n0.name name1).bind λv1=>some v1)
noncomputable def wx (s0:(List GC)) (del1:(GC->Option Bool)):Option (List GC) :=
 ((yK s0 del1).bind λv1=>(if (v1==(-1:Int))=true then some s0 else (lp (ye (λ(s1:Int×Int×(List GC))=>((yg ((s1.2.2).length=s0.length) ((if (decide (s1.2.1 < ((s0.length:Nat):Int)))=true then ((yw s1.2.2 s1.2.1).bind λy14=>((del1 y14).bind λv15=>(if (!v15)=true then ((yw s1.2.2 s1.1).bind λy17=>some (.nxt ((IntKind.wrap .i64 (s1.1+(1:Int))),(IntKind.wrap .i64 (s1.2.1+(1:Int))),(s1.2.2.set s1.1.toNat y14)))) else some (.nxt (s1.1,(IntKind.wrap .i64 (s1.2.1+(1:Int))),s1.2.2))))) else some (.brk (s1.1,s1.2.1,s1.2.2))))):Option (Out _ (Int×Int×(List GC))))) (v1,(IntKind.wrap .i64 (v1+(1:Int))),s0)) λ(s1:Int×Int×(List GC))=>(yg (0<=s1.1/\s1.1<=((s0.length:Nat):Int)) (((slc (s1.2.2.take s1.1.toNat++List.replicate (s0.length - s1.1.toNat) zLf) (0:Int) s1.1).bind λm19=>some m19))))))
noncomputable def diffXlayC2 (x0:GC) (c0:Int):Option Bool :=
 some (x0.typ==c0)
noncomputable def diffXown (l0:GC):Option GC :=
 ((yU l0.items).bind λv1=>((xf l0.tombs).bind λv2=>some (GC.mk l0.typ l0.n l0.time l0.dot l0.text v1 v2)))
noncomputable def diffXlayC3 (x0:GC) (y1:GC):Option Int :=
 ((wg x0.typ y1.typ).bind λv1=>some v1)
noncomputable def x9:Nat->(t0:(List GA))->(path1:(List zx))->(kind2:Int)->(l3:GC)->(there4:Bool)->Option (List GA)
 | 0,_,_,_,_,_=>none
 | n+1,t0,path1,kind2,l3,there4=>((yw path1 (0:Int)).bind λy1=>((zp t0 y1 (λx0 x1=>xQ x0 x1)).bind λv2=>((yw path1 (0:Int)).bind λy3=>(lp ((if v2.2=true then ((yw t0 v2.1).bind λy7=>some (.inr (y7.name,y7.leaves,y7.subs))) else some (.inr (y3,([]:List GC),([]:List GA)))):Option (_ ⊕ (zx×(List GC)×(List GA)))) λ(s1:zx×(List GC)×(List GA))=>(lp ((if (decide (((path1).length:Int) > (1:Int)))=true then ((slc path1 (1:Int) ((path1).length:Int)).bind λm20=>((x9 n s1.2.2 m20 kind2 l3 there4).bind λv21=>some (.inr (s1.2.1,v21)))) else ((xJ s1.2.1).bind λv22=>((wx v22 (λx0=>diffXlayC2 x0 kind2)).bind λv23=>(if there4=true then ((diffXown l3).bind λv25=>(yg ((v23).length+(([v25]:List GC)).length<=yM) (((sortO (λx y=>diffXlayC3 x y) (v23++([v25]:List GC))).bind λv27=>some (.inr (v27,s1.2.2)))))) else some (.inr (v23,s1.2.2)))))):Option (_ ⊕ ((List GC)×(List GA)))) λ(s2:(List GC)×(List GA))=>((slc t0 (0:Int) v2.1).bind λm28=>((xi m28).bind λv29=>(if (decide ((IntKind.wrap .i64 (((s2.1).length:Int)+((s2.2).length:Int))) > (0:Int)))=true then (yg ((v29).length+(([(GA.mk s1.1 s2.1 s2.2)]:List GA)).length<=yM) ((if v2.2=true then ((slc t0 (IntKind.wrap .i64 (v2.1+(1:Int))) ((t0).length:Int)).bind λm35=>(yg (((v29++([(GA.mk s1.1 s2.1 s2.2)]:List GA))).length+(m35).length<=yM) (some ((v29++([(GA.mk s1.1 s2.1 s2.2)]:List GA))++m35)))) else ((slc t0 v2.1 ((t0).length:Int)).bind λm37=>(yg (((v29++([(GA.mk s1.1 s2.1 s2.2)]:List GA))).length+(m37).length<=yM) (some ((v29++([(GA.mk s1.1 s2.1 s2.2)]:List GA))++m37))))))) else (if v2.2=true then ((slc t0 (IntKind.wrap .i64 (v2.1+(1:Int))) ((t0).length:Int)).bind λm40=>(yg ((v29).length+(m40).length<=yM) (some (v29++m40)))) else ((slc t0 v2.1 ((t0).length:Int)).bind λm42=>(yg ((v29).length+(m42).length<=yM) (some (v29++m42)))))))))))))
noncomputable def diffXlay (t0:(List GA)) (path1:(List zx)) (kind2:Int) (l3:GC) (there4:Bool):Option (List GA):=anyN λn=>x9 n t0 path1 kind2 l3 there4
end
section
def alnum (b:UInt8):Bool:=(decide (97<=b.toNat)&&decide (b.toNat<=122)) || (decide (65<=b.toNat)&&decide (b.toNat<=90)) || (decide (48<=b.toNat)&&decide (b.toNat<=57))
def other (r:Int):Bool:=!((decide (97<=r)&&decide (r<=122)) || (decide (65<=r)&&decide (r<=90)) || (decide (48<=r)&&decide (r<=57)))
def runeIdx (q:Int->Bool) (s:List UInt8) (i:Nat):Int :=
 if h:i < s.length then (if q (dec s i).1 then i else if (dec s i).2=0 then -1 else runeIdx q s (i+(dec s i).2)) else -1
termination_by s.length - i
decreasing_by omega
theorem dec_width (s:List UInt8) (i:Nat) (h:i < s.length):1<=(dec s i).2:=by
 have hs:i < (⟨s.toArray⟩:ByteArray).size:=by simpa [ByteArray.size] using h
 by_cases ha:((⟨s.toArray⟩:ByteArray)[i]'hs).toNat < 128
 ·unfold dec;rw [decode_ascii _ i hs ha];exact ug _
 ·exact (decode_high _ i hs (by omega)).2
theorem dec_low {s:List UInt8} (g:s[i]?=some b) (h:b.toNat < 128):dec s i=(b.toNat,1):=by
 have f:i < s.length:=(uc.1 g).1;have hs:i < (⟨s.toArray⟩:ByteArray).size:=by simpa [ByteArray.size] using f
 have e:((⟨s.toArray⟩:ByteArray)[i]'hs)=b:=by
  have j:((⟨s.toArray⟩:ByteArray)[i]'hs)=s[i]:=rfl
  simp_all
 unfold dec;rw [decode_ascii _ i hs (by simp_all),e]
theorem dec_hi {s:List UInt8} (g:s[i]?=some b) (h:128<=b.toNat):128<=(dec s i).1:=by
 have f:i < s.length:=(uc.1 g).1;have hs:i < (⟨s.toArray⟩:ByteArray).size:=by simpa [ByteArray.size] using f
 have e:((⟨s.toArray⟩:ByteArray)[i]'hs)=b:=by
  have j:((⟨s.toArray⟩:ByteArray)[i]'hs)=s[i]:=rfl
  simp_all
 exact (decode_high _ i hs (by simp_all)).1
theorem other_alnum:other (b.toNat:Int)=!alnum b:=by
 unfold other alnum;congr 1
 grind
theorem rune_all {s:List UInt8} (h:s.all alnum=true):∀(n i:Nat),s.length - i=n->runeIdx other s i=-1
 | n,i,hn=>by
  rw [runeIdx.eq_def];by_cases hi:i < s.length
  ·rw [pJ hi];have j:s[i]?=some s[i]:=ui hi;have g:alnum s[i]=true:=by simp_all
   have f:s[i].toNat < 128:=by
    unfold alnum at g
    grind
   rw [dec_low j f];simp only [other_alnum,g,tg,uh,uz,sM];exact rune_all h (s.length - (i+1)) (i+1) rfl
  ·grind
 termination_by n=>n
 decreasing_by omega
theorem rune_some {s:List UInt8} {k:Nat} {b:UInt8} (g:s[k]?=some b) (m:alnum b=false):∀(n i:Nat),k - i=n->i<=k->0<=runeIdx other s i
 | n,i,hn,hik=>by
  have o:k < s.length:=(uc.1 g).1;have hi:i < s.length:=by omega
  rw [runeIdx.eq_def,pJ hi];by_cases ho:other ((dec s i).1:Nat)=true
  ·simp_all
  ·rw [uu ho];have h:s[i]?=some s[i]:=ui hi;have f:s[i].toNat < 128:=by
    refine Decidable.byContradiction λhh=>ho ?_;have:=dec_hi h (by omega);unfold other;simp;omega
   rw [dec_low h f] at ho ⊢;rw [other_alnum] at ho;have j:i ≠ k:=by
    grind
   simp only [sM,uz];exact rune_some g m (k - (i+1)) (i+1) rfl (by omega)
 termination_by n=>n
 decreasing_by omega

def nameB (s:zx):Bool:=decide (1<=s.length)&&decide (s.length<=12)&&s.all alnum
def pathB (p:List zx):Bool:=decide (1<=p.length)&&decide (p.length<=3)&&p.all nameB
theorem bnd1 (n:Nat):decide ((n:Int) >= 1)=decide (1<=n):=rO.2 (by omega)
theorem bnd12 (n:Nat):decide ((n:Int)<=12)=decide (n<=12):=rO.2 (by omega)
theorem bnd3 (n:Nat):decide ((n:Int)<=3)=decide (n<=3):=rO.2 (by omega)
theorem ref04IsName_is (s:zx):vM s=some (nameB s):=by
 unfold vM nameB;rw [loopL_all alnum false]
 ·split
  ·grind
  ·rename_i h;simp only [tH,ul] at h;have g:1<=s.length:=by omega
   have f:s.length<=12:=by omega
   cases ha:s.all alnum <;> simp [g,f]
 ·intro i x _;unfold alnum
  grind
theorem rune_loop (q:Int->Bool) (s:zx) {f:Nat->Option (Out Int Nat)} (g:∀i,f i=if i < s.length then (if q (dec s i).1=true then some (.ret (i:Int)) else some (.nxt (i+(dec s i).2))) else some (.brk i)) :
  ∀(k i:Nat),s.length - i=k->lp (ye f i) (λ_=>some (-1:Int))=some (runeIdx q s i)
 | k,i,hk=>by
  rw [xA,runeIdx.eq_def,g];by_cases h:i < s.length
  ·have j:=dec_width s i h;rw [ur h,pJ h];by_cases hq:q (dec s i).1=true
   ·simp [hq]
   ·have h0:¬ (dec s i).2=0:=by omega
    simp only [uu hq,uu h0];exact rune_loop q s g (s.length - (i+(dec s i).2)) _ rfl
  ·rw [uu h,dif_neg h];rfl
 termination_by k=>k
 decreasing_by omega
theorem stringsContains_other (s:zx):wh s (λx=>opIsNameC1 x)=some (!s.all alnum):=by
 have e:(λx=>opIsNameC1 x)=λx=>some (other x):=by
  funext x;unfold opIsNameC1 other;congr 1
  grind
 unfold wh vW vG;rw [e,rune_loop other s (λi=>by simp) _ 0 rfl];simp only [ua];congr 1;cases h:s.all alnum with
 | true=>rw [rune_all h _ 0 rfl];rfl
 | false =>
  rw [List.all_eq_false] at h;obtain ⟨b,g,j⟩:=h;obtain ⟨k,f,rfl⟩:=List.getElem_of_mem g;have:=rune_some (ui f) (by simp_all) _ 0 rfl (tu _);simp [this]
theorem opIsName_is (s:zx):opIsName s=some (nameB s):=by
 unfold opIsName nameB;rw [stringsContains_other,bnd1,bnd12];cases h1:decide (1<=s.length) <;> cases h2:decide (s.length<=12) <;> simp
theorem contains_is {f:zx->Option Bool} {q:zx->Bool} (p:List zx) (g:∀x ∈ p,f x=some (q x)):xp p f=some (p.any q):=by
 unfold xp ww;rw [first_loop p g];simp only [ua,firstI_any]
theorem opMayPath_is (p:List zx):opMayPath p=some (pathB p):=by
 unfold opMayPath pathB;rw [contains_is (q:=λs=>!nameB s) p (λx _=>by unfold opMayPathC1;rw [opIsName_is];rfl),bnd1,bnd3];have e:p.any (λs=>!nameB s)=!p.all nameB:=by grind
 rw [e];cases h1:decide (1<=p.length) <;> cases h2:decide (p.length<=3) <;> simp
def actorB (a:GK):Bool:=decide (a.rep < 16)&&decide (a.inc >= 1)&&decide (a.inc<=4)
def vk (d:GF):Bool:=actorB d.actor&&decide (d.seq >= 1)&&decide (d.seq<=1048576)
theorem dotMay_is (d:GF):dotMay d=some (vk d):=rfl
theorem ref03MayActor_is (a:GK):qp a=some (actorB a):=by
 unfold qp actorB
 grind
theorem ref03May_is (d:GF):ref03May d=some (vk d):=by unfold ref03May;rw [ref03MayActor_is];rfl
def ym (a b:GF):Bool:=if a.actor.rep ≠ b.actor.rep then decide (a.actor.rep < b.actor.rep) else if a.actor.inc ≠ b.actor.inc then decide (a.actor.inc < b.actor.inc) else decide (a.seq < b.seq)
theorem ref03Less_is (a b:GF):qa a b=some (ym a b):=by
 unfold qa ym
 grind
def cmpI (a b:Int):Int:=if a < b then -1 else if b < a then 1 else 0
theorem cmpU8is (a b:Int):wg a b=some (cmpI a b):=by
 unfold wg vS cmpI;simp only [s8,ua,uh,uz,ul,gt_iff_lt]
 grind
theorem cmpU32is (a b:Int):va a b=some (cmpI a b):=by
 unfold va vA cmpI;simp only [s8,ua,uh,uz,ul,gt_iff_lt]
 grind
theorem cmpU64is (a b:Int):wr a b=some (cmpI a b):=by
 unfold wr vz cmpI;simp only [s8,ua,uh,uz,ul,gt_iff_lt]
 grind
def or2 (a b:Int):Int:=if a ≠ 0 then a else b
theorem cmpOr2_is (a b:Int):cmpOrInt [a,b]=some (or2 a b):=by
 unfold cmpOrInt or2;by_cases h1:a=0 <;> by_cases h2:b=0 <;> simp [zq,h1,h2]
def actorCmp (a b:GK):Int:=or2 (cmpI a.rep b.rep) (cmpI a.inc b.inc)
def dotCmp (a b:GF):Int:=or2 (actorCmp a.actor b.actor) (cmpI a.seq b.seq)
theorem dotXcompare_is (a b:GK):dotXcompare a b=some (actorCmp a b):=by
 unfold dotXcompare;rw [cmpU8is,cmpU32is];simp only [ua];rw [cmpOr2_is];rfl
theorem dotCompare_is (a b:GF):vj a b=some (dotCmp a b):=by
 unfold vj;rw [dotXcompare_is,cmpU64is];simp only [ua];rw [cmpOr2_is];rfl
theorem dotCmp_lt (a b:GF):decide (dotCmp a b >= 0)=!ym a b:=by
 unfold dotCmp actorCmp ym cmpI or2
 grind

def wc:List GF->Bool
 | a::b::r=>ym a b&&wc (b::r)
 | _=>true
def xY (ds:List GF) (i:Nat) (x:GF):Bool:=decide (i=0) || ym (ds.getD (i - 1) default) x
theorem rising_loop (ds:List GF) {g:Nat->GF->Unit->Option (Out Bool Unit)}
  (s:∀i x,ds[i]?=some x->g i x ()=if (vk x&&xY ds i x)=true then some (.nxt ()) else some (.ret false)) :
  lp (zq g ds 0 ()) (λ_=>some true)=some (ds.all vk&&wc ds):=by
 have key:∀(L pre:List GF),ds=pre++L->lp (zq g L pre.length ()) (λ_=>some true)=some (L.all vk&&wc (match pre.getLast? with | some y=>y::L | none=>L)):=by
  intro L
  induction L with
  | nil=>intro pre h;cases hp:pre.getLast? <;> simp [zq,wc]
  | cons x t ih =>
   intro pre h;have u:ds[pre.length]?=some x:=by rw [h];simp
   have f:=ih (pre++[x]) (by rw [h];simp);simp only [uo,un,uN,uT,List.getLast?_append,pw,rY] at f;simp only [zq,s _ _ u];cases hp:pre.getLast? with
   | none =>
    have j:pre=[]:=pg.1 hp;subst j;simp only [uN,uT] at f ⊢;cases hd:vk x <;> simp [xY,hd,f]
   | some y =>
    have m:pre ≠ []:=by grind
    have h0:0 < pre.length:=rU.2 m;have o:ds.getD (pre.length - 1) default=y:=by
     grind
    have p:xY ds pre.length x=ym y x:=by
     unfold xY;rw [o]
     simp_all
    rw [p];cases hd:vk x <;> cases hlt:ym y x <;> simp [hd,hlt,f,wc]
 have:=key ds [] rfl
 simp_all
theorem same_loop {α:Type} [DecidableEq α] (M:List α) {eq:α->α->Bool} (g:∀a b,eq a b=decide (a=b)) {f:Nat->α->Unit->Option (Out Bool Unit)} :
  ∀(L:List α) (i:Nat),L.length+i=M.length->(∀j x,L[j]?=some x->f (i+j) x ()=(yw M ((i+j:Nat):Int)).bind λy=>if (!eq x y)=true then some (.ret false) else some (.nxt ())) ->
  zq f L i ()=if L=M.drop i then some (.inr ()) else some (.inl false)
 | [],i,hl,_=>by
  rw [tq (by simp_all)];rfl
 | x::t,i,hl,h=>by
  simp only [un] at hl;have hi:i < M.length:=by omega
  have h0:=h 0 x rfl;simp only [tQ] at h0;rw [wP hi] at h0;have o:=same_loop M g (f:=f) t (i+1) (by omega) (λj y m=>by have:=h (j+1) y m;rw [show i+1+j=i+(j+1) by omega];exact this);have e:M.drop i=M[i]::M.drop (i+1):=(sX hi).symm;simp only [zq,h0,ua,g,e]
  grind
theorem dotEq (a b:GF):(a.actor.rep==b.actor.rep&&(a.actor.inc==b.actor.inc&&(a.seq==b.seq&&true)))=decide (a=b):=by
 rcases a with ⟨⟨h,g⟩,a3⟩;rcases b with ⟨⟨f,j⟩,m⟩
 grind
theorem slicesEqualDot_is (L M:List GF):vH L M=some (decide (L=M)):=by
 unfold vH;by_cases hl:L.length=M.length
 ·have e:((L.length:Int) != (M.length:Int))=false:=by simp;omega
  rw [e,same_loop M dotEq L 0 (by omega) (λj x f=>by simp)];by_cases h:L=M <;> simp [h]
 ·have e:((L.length:Int) != (M.length:Int))=true:=by simp;omega
  rw [e,uU (λh=>hl (by rw [h]))];rfl
section
variable {α ρ:Type}
def allI (g:Nat->α->Bool) (L:List α):Bool:=L.zipIdx.all λp=>g p.2 p.1
theorem allI_iff {g:Nat->α->Bool} {L:List α}:allI g L=true ↔ ∀i x,L[i]?=some x->g i x=true:=by
 unfold allI;rw [ut];constructor
 ·intro h i x f;exact h (x,i) (List.mem_zipIdx_iff_getElem?.2 f)
 ·grind
theorem loopL_allI (g:Nat->α->Bool) {r:ρ} {f:Nat->α->Unit->Option (Out ρ Unit)}:∀(L:List α) (k:Nat),(∀i x,L[i]?=some x->f (k+i) x ()=if g (k+i) x=true then some (.nxt ()) else some (.ret r)) ->
  zq f L k ()=if ((L.zipIdx k).all λp=>g p.2 p.1)=true then some (.inr ()) else some (.inl r)
 | [],_,_=>rfl
 | x::t,k,h=>by
  have h0:=h 0 x rfl;simp only [tQ] at h0;have j:=loopL_allI g (f:=f) (r:=r) t (k+1) (λi y m=>by have:=h (i+1) y (by simp_all);rw [show k+1+i=k+(i+1) by omega];exact this);simp only [zq,h0,pr,u7]
  grind
theorem qi (g:Nat->α->Bool) {r:σ} {L:List α} {f:Nat->α->Unit->Option (Out σ Unit)} {rest:Unit->Option σ} (h:∀i x,L[i]?=some x->f i x ()=if g i x=true then some (.nxt ()) else some (.ret r)) :
  lp (zq f L 0 ()) rest=if allI g L=true then rest () else some r:=by
 rw [loopL_allI g L 0 (λi x j=>by simpa using h i x j)];unfold allI;split <;> rfl
theorem lp_all0 (g:α->Bool) {r:σ} {L:List α} {f:Nat->α->Unit->Option (Out σ Unit)} {rest:Unit->Option σ} (m:∀i x,L[i]?=some x->f i x ()=if g x=true then some (.nxt ()) else some (.ret r)) :
  lp (zq f L 0 ()) rest=if L.all g=true then rest () else some r:=by
 rw [qi (λ_=>g) m];have:allI (λ_=>g) L=L.all g:=by
  rw [tw,allI_iff,ut];exact ⟨λh x j=>by obtain ⟨i,hi⟩:=uZ.1 j;exact h i x hi,λh i x j=>h x (uQ j)⟩
 rw [this]
end
theorem qE {j:Nat} (f:j+1<=maxLen):IntKind.wrap .i64 (((j+1:Nat):Int) - 1)=(j:Int):=by
 simp only [maxLen] at f;rw [yY (by omega)];omega
theorem wrap_add1 {j:Nat} (f:j+1<=maxLen):IntKind.wrap .i64 ((j:Int)+1)=((j+1:Nat):Int):=by
 simp only [maxLen] at f;rw [yY (by omega)];omega
theorem pos_succ (j:Nat):decide (((j+1:Nat):Int) > 0)=true:=uA (by omega)
def timeB (n:Int):Bool:=decide (n >= 1)&&decide (n<=1099511627776)
def yv (a b:GH):Bool:=if a.time ≠ b.time then decide (a.time < b.time) else ym a.dot b.dot
theorem leafXisTime_is (n:Int):leafXisTime n=some (timeB n):=rfl
theorem leafXisText_is (s:zx):qO s=some (decide (s.length<=40)):=by unfold qO;rw [rO.2 (show ((s.length:Int)<=40) ↔ s.length<=40 by omega)]
theorem dotCmp_neg (a b:GF):decide (dotCmp a b < 0)=ym a b:=by
 have h:=dotCmp_lt a b
 grind
theorem leafAhead_is (a:Int) (d:GF) (b:Int) (o:GF):leafAhead a d b o=some (if a ≠ b then decide (a < b) else ym d o):=by
 unfold leafAhead qd;rw [cmpU64is,dotCompare_is];simp only [ua,cmpOr2_is];congr 1;by_cases h:a=b
 ·subst h;have:cmpI a a=0:=by unfold cmpI;simp
  simp [or2,this,dotCmp_neg]
 ·have:cmpI a b ≠ 0:=by unfold cmpI;split <;> (try split) <;> omega
  simp only [or2,this,ne_eq,pk,up,h];unfold cmpI;rw [tw];simp only [ul];split <;> (try split) <;> omega
theorem ref05Ahead_is (a:Int) (d:GF) (b:Int) (o:GF):vL a d b o=some (if a ≠ b then decide (a < b) else ym d o):=by
 unfold vL;by_cases h:a=b <;> simp [h,ref03Less_is]
def prevI {α:Type} [Inhabited α] (L:List α) (i:Nat):α:=L.getD (i - 1) default
def qR (timed:Bool) (x:GH):Bool:=vk x.dot&&decide (x.text.length<=40)&&(if timed then timeB x.time else decide (x.time=0))
def riseB (L:List GH):Bool:=allI (λi x=>decide (i=0) || yv (prevI L i) x) L
def onceB (L:List GH):Bool:=decide ((L.map (·.dot)).Nodup)
theorem eqb_iff (a b:GF):GF.eqb a b=decide (a=b):=by unfold GF.eqb;exact dotEq a b
def keysM (m:List (GF×Int)):List GF:=m.map (·.1)
theorem mput_keys (m:List (GF×Int)) (k:GF) (v:Int):keysM (mput GF.eqb m k v)=if k ∈ keysM m then keysM m else keysM m++[k]:=by
 induction m with
 | nil=>simp [mput,keysM]
 | cons e r ih =>
  simp only [mput,eqb_iff];by_cases h:k=e.1
  ·simp [h,keysM]
  ·simp only [uU h,uh,uz,keysM,ux,uP] at ih ⊢
   grind
theorem twice_fold:∀(L:List GH) (m:List (GF×Int)),(keysM m).Nodup ->
  (L.foldl (λs x=>mput GF.eqb s x.dot (IntKind.wrap .i64 ((wQ GF.eqb 0 s x.dot)+1))) m).length<=m.length+L.length /\
  ((L.foldl (λs x=>mput GF.eqb s x.dot (IntKind.wrap .i64 ((wQ GF.eqb 0 s x.dot)+1))) m).length=m.length+L.length ↔ (keysM m++L.map (·.dot)).Nodup)
 | [],m,h=>by simp [h]
 | x::t,m,h=>by
  simp only [sg];have f:=mput_keys m x.dot (IntKind.wrap .i64 ((wQ GF.eqb 0 m x.dot)+1));generalize hm:mput GF.eqb m x.dot (IntKind.wrap .i64 ((wQ GF.eqb 0 m x.dot)+1))=m' at f;have p:m'.length=(keysM m').length:=by simp [keysM]
  have j:m.length=(keysM m).length:=by simp [keysM]
  by_cases hx:x.dot ∈ keysM m
  ·rw [ur hx] at f;have g:=twice_fold t m' (by simp_all)
   grind
  ·rw [uu hx] at f;have o:(keysM m++[x.dot]).Nodup:=by
    grind
   have g:=twice_fold t m' (by simp_all)
   grind
theorem leafXtwice_is (L:List GH):leafXtwice L=some (!onceB L):=by
 unfold leafXtwice;rw [loopL_fold (λs x=>mput GF.eqb s x.dot (IntKind.wrap .i64 ((wQ GF.eqb 0 s x.dot)+1))) L 0 [] (λ_ _ _ _=>rfl)];have h:=twice_fold L [] (by simp [keysM]);simp only [uN,uT,keysM,tB,uY] at h;simp only [yJ,onceB];congr 1
 grind
theorem leafXitems_is {L:List GH} (t:L.length<=maxLen) (f:Bool):leafXitems L f=some (L.all (qR f)&&riseB L&&onceB L):=by
 unfold leafXitems;rw [qi (r:=false) (λi x=>qR f x&&(decide (i=0) || yv (prevI L i) x))]
 ·rw [leafXtwice_is];have e:allI (λi x=>qR f x&&(decide (i=0) || yv (prevI L i) x)) L=(L.all (qR f)&&riseB L):=by
   rw [tw,ud,riseB,allI_iff,allI_iff,ut];constructor
   ·intro h;exact ⟨λx g=>by obtain ⟨i,hi⟩:=uZ.1 g;have:=h i x hi;simp only [ud] at this;exact this.1,λi x g=>by simp_all⟩
   ·grind
  grind
 ·intro i x g;have hi:i < L.length:=(uc.1 g).1;simp only [dotMay_is,leafXisText_is,leafXisTime_is,ua,leafAhead_is];have p:qR f x=(vk x.dot&&decide (x.text.length<=40)&&(f==timeB x.time)&&(f || decide (x.time=0))):=by
   unfold qR;cases f
   ·by_cases h0:x.time=0
    ·simp [h0,show timeB 0=false from rfl]
    ·simp [h0]
   ·simp
  rw [p];cases hd:vk x.dot
  ·simp
  cases ht:decide (x.text.length<=40)
  ·simp
  by_cases htt:f=timeB x.time
  ·have s:(x.time != 0)=!decide (x.time=0):=by rw [tw];simp
   have m:(f==timeB x.time)=true:=by simp_all
   rw [s,m];cases hzz:(f || decide (x.time=0))
   ·simp_all
   have:(!f&&!decide (x.time=0))=false:=by grind
   rw [this];rcases i with _ | j
   ·simp [yg,htt]
   ·rw [qE (by omega),pos_succ];have o:(j:Int) < (L.length:Int):=by omega
    simp [yg,o,prevI,yv,htt]
    grind
  ·grind

theorem itemEq (a b:GH):(a.time==b.time&&(a.dot.actor.rep==b.dot.actor.rep&&(a.dot.actor.inc==b.dot.actor.inc&&(a.dot.seq==b.dot.seq&&(a.text==b.text&&true)))))=decide (a=b):=by
 rcases a with ⟨a0,⟨⟨h,g⟩,a3⟩,a4⟩;rcases b with ⟨b0,⟨⟨f,j⟩,o⟩,m⟩
 grind
theorem slicesEqualItem_is (L M:List GH):vq L M=some (decide (L=M)):=by
 unfold vq;by_cases hl:L.length=M.length
 ·have e:((L.length:Int) != (M.length:Int))=false:=by simp;omega
  rw [e,same_loop M itemEq L 0 (by omega) (λj x f=>by simp)];by_cases h:L=M <;> simp [h]
 ·have e:((L.length:Int) != (M.length:Int))=true:=by simp;omega
  rw [e,uU (λh=>hl (by rw [h]))];rfl
theorem leafSame_is (a b:GC):leafSame a b=some (decide (a=b)):=by
 unfold leafSame;simp only [slicesEqualItem_is,slicesEqualDot_is,dotEq];rcases a with ⟨a0,j,h,a3,a4,a5,t⟩;rcases b with ⟨b0,f,o,s,p,g,m⟩
 simp only [GC.mk.injEq]
 grind
def dot0:GF:=⟨⟨0,0⟩,0⟩
def zeroB (l:GC):Bool:=decide (l.time=0)&&decide (l.dot=dot0)&&decide (l.text=[])
def tombsB (l:GC):Bool:=l.tombs.all vk&&wc l.tombs&&l.tombs.all (λd=>!l.items.any λx=>decide (x.dot=d))
def leafB (l:GC):Bool :=
 if l.typ=1 then zeroB l&&decide (l.items=[])&&decide (l.tombs=[])
 else if l.typ=2 then decide (l.n=0)&&decide (l.items=[])&&decide (l.tombs=[])&&(if l.time=0 then decide (l.dot=dot0)&&decide (l.text=[]) else timeB l.time&&vk l.dot&&decide (l.text.length<=40))
 else if l.typ=3 then decide (l.n=0)&&zeroB l&&(l.items.all (qR false)&&riseB l.items&&onceB l.items)&&tombsB l
 else if l.typ=4 then decide (l.n=0)&&zeroB l&&decide (l.tombs=[])&&(l.items.all (qR true)&&riseB l.items&&onceB l.items)
 else false
theorem containsItem_is {f:GH->Option Bool} (p:List GH) (g:∀x ∈ p,f x=some (q x)):xD p f=some (p.any q):=by
 unfold xD yL;rw [first_loop p g,ua,firstI_any]
theorem leafXhas_is (L:List GH) (d:GF):leafXhas L d=some (L.any λx=>decide (x.dot=d)):=by
 unfold leafXhas;rw [containsItem_is (q:=λx=>decide (x.dot=d)) L (λx _=>by unfold leafXhasC1;rw [dotEq]),ua]
theorem rising_allI (ds:List GF):wc ds=allI (λi x=>xY ds i x) ds:=by
 have h:=rising_loop ds (g:=λi x _=>if (vk x&&xY ds i x)=true then some (.nxt ()) else some (.ret false)) (λ_ _ _=>rfl);have key:∀(L pre:List GF),ds=pre++L->wc (match pre.getLast? with | some y=>y::L | none=>L)=(L.zipIdx pre.length).all λp=>xY ds p.2 p.1:=by
  intro L
  induction L with
  | nil=>intro pre _;cases pre.getLast? <;> simp [wc]
  | cons x t ih =>
   intro pre hd;have f:=ih (pre++[x]) (by rw [hd];simp);simp only [uo,un,uN,uT,List.getLast?_append,pw,rY] at f;simp only [pr,u7];cases hp:pre.getLast? with
   | none =>
    have j:pre=[]:=pg.1 hp;subst j;simp only [uN,uT] at f ⊢;rw [f];simp [xY]
   | some y =>
    have m:pre ≠ []:=by grind
    have h0:0 < pre.length:=rU.2 m;have o:ds.getD (pre.length - 1) default=y:=by
     grind
    have s:xY ds pre.length x=ym y x:=by
     unfold xY;rw [o,uU (by omega)];rfl
    rw [s,<- f];simp [wc]
 simpa [allI] using key ds [] rfl
theorem leafXtombs_is (m:l.tombs.length<=maxLen):leafXtombs l=some (tombsB l):=by
 unfold leafXtombs;rw [qi (r:=false) (λi x=>vk x&&xY l.tombs i x&&!(l.items.any λy=>decide (y.dot=x)))]
 ·have e:allI (λi x=>vk x&&xY l.tombs i x&&!(l.items.any λy=>decide (y.dot=x))) l.tombs=tombsB l:=by
   unfold tombsB;rw [tw,rising_allI,ud,ud,allI_iff,allI_iff,ut,ut];constructor
   ·intro h;refine ⟨⟨λx f=>?_,λi x f=>?_⟩,λx f=>?_⟩
    ·obtain ⟨i,hi⟩:=uZ.1 f;have:=h i x hi;simp only [ud] at this;exact this.1.1
    ·simp_all
    ·obtain ⟨i,hi⟩:=uZ.1 f;have:=h i x hi;simp only [ud] at this;exact this.2
   ·grind
  grind
 ·intro i x f;have hi:i < l.tombs.length:=(uc.1 f).1;simp only [dotMay_is,ua,dotCompare_is,leafXhas_is];cases hd:vk x
  ·rfl
  rcases i with _ | j
  ·cases hh:(l.items.any λy=>decide (y.dot=x)) <;> simp [yg,xY]
  ·rw [qE (by omega),pos_succ];have o:(j:Int) < (l.tombs.length:Int):=by omega
   have g:xY l.tombs (j+1) x=ym (l.tombs.getD j default) x:=by rfl
   have e:=dotCmp_lt (l.tombs.getD j default) x;rw [zk (by omega),g,uw]
   grind
theorem leafMay_is (hi:l.items.length<=maxLen) (m:l.tombs.length<=maxLen):leafMay l=some (leafB l):=by
 unfold leafMay leafB;simp only [leafSame_is,leafXisTime_is,dotMay_is,leafXisText_is,leafXitems_is hi,leafXtombs_is m,dotEq,ua];rcases l with ⟨t,n,g,d,h,f,j⟩
 simp only [GC.mk.injEq,zeroB,rb,dot0];by_cases h1:t=1
 ·simp only [h1,up];congr 1;rw [tw];simp [sN]
  grind
 by_cases h2:t=2
 ·subst h2;by_cases h0:g=0
  ·subst h0;by_cases hd:d=⟨⟨0,0⟩,0⟩
   ·by_cases hx:h=[]
    ·simp [hd,hx];rw [tw];simp [sN]
    ·simp_all
   ·have v:((0:Int)==0&&!decide (d=⟨⟨0,0⟩,0⟩))=true:=by simp [hd]
    simp [hd];intro p;rcases d with ⟨⟨u,o⟩,s⟩
    simp_all
  ·cases htt:timeB g <;> cases hdd:vk d <;> cases hxx:decide (h.length<=40) <;> simp_all [sN]
   grind
 by_cases h3:t=3
 ·subst h3;cases ha:(f.all (qR false)&&riseB f&&onceB f) <;> cases hb:tombsB ⟨3,n,g,d,h,f,j⟩ <;> simp [sN]
  grind
 by_cases h4:t=4
 ·subst h4;cases ha:(f.all (qR true)&&riseB f&&onceB f) <;> simp [sN]
  grind
 simp_all

theorem ref05Item_is (L:List GH) (d:GF):ref05Item L d=some (firstI (λx=>decide (x.dot=d)) L):=by
 unfold ref05Item;rw [loopL_first (λx:GH=>decide (x.dot=d)) (λi _=>(i:Int)) _ _ (λi x _=>by rw [dotEq])];unfold firstI;cases h:L.findIdx? (λx=>decide (x.dot=d)) with
 | none=>simp
 | some j =>
  obtain ⟨f,_⟩:=sK.1 h
  simp_all
theorem vX (L:List GF) (d:GF):vY L d=some (L.any λx=>decide (x=d)):=by
 unfold vY;rw [lp_all0 (r:=true) (λx:GF=>!decide (x=d)) (λi x _=>by rw [dotEq];cases decide (x=d) <;> rfl)]
 grind
theorem first_nodup (L:List GH):(∀(i:Nat) (x:GH),L[i]?=some x->firstI (λy:GH=>decide (y.dot=x.dot)) L=(i:Int)) ↔ (L.map (·.dot)).Nodup:=by
 constructor
 ·intro h;rw [pb,tj];intro i j hi f g e;simp only [uq] at hi f;simp only [List.getElem_map] at e;have s:=h i _ (ui hi);have p:=h j _ (ui f)
  grind
 ·intro h i x o;obtain ⟨hi,rfl⟩:=uc.1 o;unfold firstI;have:L.findIdx? (λy=>decide (y.dot=L[i].dot))=some i:=by
   rw [sK];refine ⟨hi,by simp,λj f=>?_⟩;have m:j < L.length:=by omega
   simp only [ul];intro e;rw [pb,tj] at h
   simp_all
  rw [this]
def itemR (t:Int) (x:GH):Bool:=vk x.dot&&decide (x.text.length<=40)&&(decide (t ≠ 3) || decide (x.time=0))&&(decide (t ≠ 4) || timeB x.time)
def tailB (l:GC):Bool:=l.items.all (itemR l.typ)&&onceB l.items&&l.items.all (λx=>!(l.tombs.any λy=>decide (y=x.dot)))&&riseB l.items&&(l.tombs.all vk&&wc l.tombs)
theorem items_allI (l:GC):allI (λi x=>itemR l.typ x&&(decide (firstI (λy:GH=>decide (y.dot=x.dot)) l.items=(i:Int))&&(!(l.tombs.any λy=>decide (y=x.dot))&&(decide (i=0) || yv (prevI l.items i) x)))) l.items =
  (l.items.all (itemR l.typ)&&onceB l.items&&l.items.all (λx=>!(l.tombs.any λy=>decide (y=x.dot)))&&riseB l.items):=by
 rw [tw,allI_iff];simp only [ud,ul,onceB,riseB,allI_iff,ut,<- first_nodup];constructor
 ·intro h;refine ⟨⟨⟨λx f=>?_,λi x f=>(h i x f).2.1⟩,λx f=>?_⟩,λi x f=>(h i x f).2.2.2⟩
  ·obtain ⟨i,hi⟩:=uZ.1 f;exact (h i x hi).1
  ·obtain ⟨i,hi⟩:=uZ.1 f;exact (h i x hi).2.2.1
 ·grind
theorem tombs_allI (ds:List GF):allI (λi x=>vk x&&xY ds i x) ds=(ds.all vk&&wc ds):=by
 rw [tw,allI_iff,rising_allI];simp only [ud,allI_iff,ut];constructor
 ·intro h;exact ⟨λx f=>by obtain ⟨i,hi⟩:=uZ.1 f;exact (h i x hi).1,λi x f=>(h i x f).2⟩
 ·grind
theorem ref05May_is (hi:l.items.length<=maxLen) (K:l.tombs.length<=maxLen) (h0:0<=l.time):ref05May l=some (leafB l):=by
 unfold ref05May;simp only [ref03May_is,ref05Item_is,vX,ref05Ahead_is,ref03Less_is,ua,dotEq];generalize hT:lp (zq _ l.items 0 ()) _=T;have H:decide ((l.items.length:Int) > 0)=!decide (l.items=[]):=by cases l.items <;> simp
 have I:decide ((l.tombs.length:Int) > 0)=!decide (l.tombs=[]):=by cases l.tombs <;> simp
 have o:T=some (tailB l):=by
  rw [<- hT,qi (r:=false) (λi x=>itemR l.typ x&&(decide (firstI (λy:GH=>decide (y.dot=x.dot)) l.items=(i:Int))&&(!(l.tombs.any λy=>decide (y=x.dot))&&(decide (i=0) || yv (prevI l.items i) x))))]
  ·rw [qi (r:=false) (λi x=>vk x&&xY l.tombs i x)]
   ·rw [items_allI,tombs_allI];unfold tailB;cases (l.items.all (itemR l.typ)&&onceB l.items&&l.items.all (λx=>!(l.tombs.any λy=>decide (y=x.dot)))&&riseB l.items) <;> cases (l.tombs.all vk&&wc l.tombs) <;> simp
   ·intro i x u;have t:i < l.tombs.length:=(uc.1 u).1;have m:l.tombs.getD i default=x:=by grind
    rcases i with _ | j
    ·cases hd:vk x <;> simp [yg,xY]
    ·rw [qE (by omega),pos_succ,uw,uw,m];have w:xY l.tombs (j+1) x=ym (l.tombs.getD j default) x:=by rfl
     rw [zk (by omega),zk (by omega),w]
     grind
  ·intro i x u;have t:i < l.items.length:=(uc.1 u).1;have A:decide ((x.text.length:Int) > 40)=!decide (x.text.length<=40):=by grind
   have F:(((l.typ==4)&&(decide (x.time < 1) || decide (x.time > 1099511627776))))=!(decide (l.typ ≠ 4) || timeB x.time):=by
    rw [tw];simp [timeB]
   have B:((l.typ==3)&&(x.time != 0))=!(decide (l.typ ≠ 3) || decide (x.time=0)):=by grind
   rw [A,F,B];have J:(((!vk x.dot || !decide (x.text.length<=40)) || !(decide (l.typ ≠ 3) || decide (x.time=0))) || !(decide (l.typ ≠ 4) || timeB x.time))=!itemR l.typ x:=by unfold itemR;simp only [Bool.not_and]
   rw [J];have G:(firstI (λy:GH=>decide (y.dot=x.dot)) l.items != (i:Int))=!decide (firstI (λy:GH=>decide (y.dot=x.dot)) l.items=(i:Int)):=by rfl
   cases hr:itemR l.typ x
   ·simp
   simp only [tg,BEq.rfl,up,ua,tv];rw [G];cases hf:decide (firstI (λy:GH=>decide (y.dot=x.dot)) l.items=(i:Int))
   ·simp
   cases htb:l.tombs.any λy=>decide (y=x.dot)
   ·rcases i with _ | j
    ·rfl
    ·rw [qE (by omega),pos_succ,uw];rw [zk (by omega),zk (by omega)];have w:(if (l.items.getD j default).time ≠ x.time then decide ((l.items.getD j default).time < x.time) else ym (l.items.getD j default).dot x.dot)=yv (prevI l.items (j+1)) x:=rfl
     grind
   ·simp
 subst o;clear hT;rw [H,I];have D:(l.time != 0)=!decide (l.time=0):=by rfl
 have C:(l.time==0)=decide (l.time=0):=by rfl
 have z3:(l.text==([]:zx))=decide (l.text=[]):=by grind
 have z4:decide (l.time > 1099511627776)=!decide (l.time<=1099511627776):=by grind
 have z5:decide ((l.text.length:Int) > 40)=!decide (l.text.length<=40):=by grind
 have s:zeroB l=(decide (l.time=0)&&decide (l.dot=dot0)&&decide (l.text=[])):=rfl;have E:(l.dot.actor.rep==0&&(l.dot.actor.inc==0&&(l.dot.seq==0&&true)))=decide (l.dot=dot0):=dotEq l.dot dot0;rw [D,C,z3,z4,z5,E];by_cases h1:l.typ=1
 ·have hi:decide (l.items=[])=true->tailB l=(l.tombs.all vk&&wc l.tombs):=by
   intro h;have:=u6 h;unfold tailB;rw [this];simp [onceB,riseB,allI]
  unfold leafB;simp only [h1,up,s];cases hi2:decide (l.items=[])
  ·simp
  ·rw [hi hi2];cases ht2:decide (l.tombs=[])
   ·simp
   ·have:=u6 ht2;rw [this];cases decide (l.time=0) <;> cases decide (l.dot=dot0) <;> cases decide (l.text=[]) <;> simp [wc]
 by_cases h2:l.typ=2
 ·have hi:decide (l.items=[])=true->tailB l=(l.tombs.all vk&&wc l.tombs):=by
   intro h;have:=u6 h;unfold tailB;rw [this];simp [onceB,riseB,allI]
  unfold leafB;have g:timeB l.time=(!decide (l.time=0)&&decide (l.time<=1099511627776)):=by
   unfold timeB;rw [tw];simp;omega
  simp only [h2,up,g];cases hn:decide (l.n=0)
  ·simp_all
  ·have f:l.n=0:=u6 hn;cases hi2:decide (l.items=[])
   ·simp [f]
   ·rw [hi hi2];cases ht2:decide (l.tombs=[])
    ·simp [f]
    ·have:=u6 ht2;rw [this];by_cases ht0:l.time=0
     ·cases hdd:decide (l.dot=dot0) <;> cases htx:decide (l.text=[]) <;> simp [f,ht0,wc]
     ·cases hm:decide (l.time<=1099511627776) <;> cases hdd:vk l.dot <;> cases htx:decide (l.text.length<=40) <;> simp [f,ht0,wc]
 by_cases h3:l.typ=3
 ·have v:(λx=>itemR 3 x)=qR false:=by
   funext x;unfold itemR qR;simp
  have p:tailB l=(l.items.all (qR false)&&riseB l.items&&onceB l.items&&tombsB l):=by
   unfold tailB tombsB
   grind
  unfold leafB;simp only [h3,p,s];cases hn:decide (l.n=0)
  ·simp_all
  ·have f:l.n=0:=u6 hn;cases decide (l.time=0) <;> cases decide (l.dot=dot0) <;> cases decide (l.text=[]) <;> simp [f]
 by_cases h4:l.typ=4
 ·have v:(λx=>itemR 4 x)=qR true:=by
   funext x;unfold itemR qR;simp
  have p:decide (l.tombs=[])=true->tailB l=(l.items.all (qR true)&&riseB l.items&&onceB l.items):=by
   intro h;have:=u6 h;unfold tailB;rw [h4,show itemR 4=qR true from v,this];cases l.items.all (qR true) <;> cases onceB l.items <;> cases riseB l.items <;> simp [wc]
  unfold leafB;simp only [h4,s];cases hn:decide (l.n=0)
  ·simp_all
  ·have f:l.n=0:=u6 hn;cases ht2:decide (l.tombs=[])
   ·simp [f]
   ·rw [p ht2];cases decide (l.time=0) <;> cases decide (l.dot=dot0) <;> cases decide (l.text=[]) <;> simp [f]
 have z:l.typ < 1 \/ 4 < l.typ:=by omega
 have:(decide (l.typ < 1) || decide (l.typ > 4))=true:=by simp;omega
 unfold leafB
 simp_all

mutual
def GA.dep:GA->Nat
 | ⟨_,_,sb⟩=>GA.deps sb+1
def GA.deps:List GA->Nat
 | []=>0
 | x::r=>max x.dep (GA.deps r)
end
theorem qf {x:GA}:∀{t:List GA},x ∈ t->x.dep<=GA.deps t
 | [],h=>by cases h
 | y::r,h=>by
  simp only [GA.deps];rcases uP.1 h with rfl | h
  ·omega
  ·have:=qf h;omega
theorem xX (x:GA):GA.deps x.subs+1=x.dep:=by cases x;simp [GA.dep]
def Small (t:List GA):Prop:=GA.wfs t/\GA.bks t<=16777216
theorem bk_pos (x:GA):1<=x.bk:=by cases x;simp only [GA.bk];omega
theorem len_bks:∀t:List GA,t.length<=GA.bks t
 | []=>by simp_all
 | x::r=>by have:=len_bks r;have:=bk_pos x;simp only [GA.bks,un];omega
theorem bk_mem {x:GA}:∀{t:List GA},x ∈ t->x.bk<=GA.bks t
 | [],h=>by cases h
 | y::r,h=>by
  simp only [GA.bks];rcases uP.1 h with rfl | h
  ·omega
  ·have:=bk_mem h;omega
theorem sum_len {α:Type} {f:α->Nat} (h:∀x,1<=f x):∀l:List α,l.length<=(l.map f).sum
 | []=>by simp
 | x::r=>by have:=sum_len h r;have:=h x;simp only [un,ux,tX];omega
theorem sum_mem {α:Type} {f:α->Nat} {x:α}:∀{l:List α},x ∈ l->f x<=(l.map f).sum
 | [],h=>by cases h
 | y::r,h=>by
  simp only [ux,tX];rcases uP.1 h with rfl | h
  ·omega
  ·have:=sum_mem (f:=f) h;omega
theorem bk_node (x:GA):x.name.length+1+((x.leaves.map GC.bk).sum+1)+(GA.bks x.subs+1)<=x.bk:=by cases x;simp only [GA.bk];omega
theorem Small.subs {t:List GA} (h:Small t) {x:GA} (f:x ∈ t):Small x.subs:=by
 refine ⟨?_,by have:=bk_mem f;have:=bk_node x;have:=h.2;omega⟩;have:=(GA.wfs_iff t).1 h.1 x f;cases x;simp only [GA.wf] at this;exact this.2.2
theorem Small.len {t:List GA} (h:Small t):t.length<=16777216:=uB (len_bks t) h.2
structure LeafOk (l:GC):Prop where
 items:l.items.length<=16777216
 tombs:l.tombs.length<=16777216
 time:0<=l.time
theorem Small.leaf {t:List GA} (h:Small t) {x:GA} (j:x ∈ t) {l:GC} (g:l ∈ x.leaves):LeafOk l:=by
 have s:=bk_mem j;have o:=bk_node x;have w:=h.2;have p:l.bk<=_:=sum_mem (f:=GC.bk) g;have v:(l.items.map GH.bk).sum+1+((l.tombs.map GF.bk).sum+1)<=l.bk:=by unfold GC.bk;omega
 have m:=sum_len (f:=GH.bk) (λx=>by unfold GH.bk;omega) l.items;have u:=sum_len (f:=GF.bk) (λx=>by unfold GF.bk;omega) l.tombs;refine ⟨by omega,by omega,?_⟩;have:=(GA.wfs_iff t).1 h.1 x j;cases x;simp only [GA.wf] at this;have:=this.2.1.2 l g;unfold GC.wf at this;have:=this.2.2.1;unfold InK at this;simp [IntKind.min,IntKind.max,IntKind.signed,IntKind.bits] at this;omega
theorem Small.leaves {t:List GA} (h:Small t) {x:GA} (g:x ∈ t):x.leaves.length<=16777216:=by
 have o:=bk_mem g;have m:=bk_node x;have p:=h.2;have j:=sum_len (f:=GC.bk) (λx=>by unfold GC.bk;omega) x.leaves;omega
def upB (t:List GA):Bool:=allI (λi x=>decide (i=0) || Op.bytesLess (t.getD (i - 1) default).name x.name) t
def leavesB (ls:List GC):Bool:=allI (λi l=>leafB l&&(decide (i=0) || decide ((ls.getD (i - 1) default).typ < l.typ))) ls
mutual
def nodeB (d:Nat):GA->Bool
 | ⟨nm,ls,sb⟩=>nameB nm&&!(ls.isEmpty&&sb.isEmpty)&&((sb.isEmpty || decide (d+1 < 3))&&upB sb&&nodesB (d+1) sb)&&leavesB ls
def nodesB (d:Nat):List GA->Bool
 | []=>true
 | x::r=>nodeB d x&&nodesB d r
end
def treeB (d:Nat) (t:List GA):Bool:=(t.isEmpty || decide (d < 3))&&upB t&&nodesB d t
theorem xu (d:Nat):∀t,nodesB d t=t.all (nodeB d)
 | []=>rfl
 | x::r=>by simp only [nodesB,u7,xu d r]
theorem nodeB_eq (d:Nat) (x:GA):nodeB d x=(nameB x.name&&!(x.leaves.isEmpty&&x.subs.isEmpty)&&treeB (d+1) x.subs&&leavesB x.leaves):=by cases x;rfl
theorem up_nodes (d:Nat) (t:List GA):allI (λi x=>nodeB d x&&(decide (i=0) || Op.bytesLess (t.getD (i - 1) default).name x.name)) t=(upB t&&nodesB d t):=by
 rw [tw,allI_iff,xu];simp only [ud,upB,allI_iff,ut];constructor
 ·intro h;exact ⟨λi x f=>(h i x f).2,λx f=>by obtain ⟨i,hi⟩:=uZ.1 f;exact (h i x hi).1⟩
 ·grind
theorem lenE {α:Type} (l:List α):((l.length:Int)==0)=l.isEmpty:=by cases l <;> simp;omega
theorem treeXmayN_is:∀(n:Nat) (t:List GA) (d:Nat),GA.deps t < n->d<=3->Small t->qF n t (d:Int)=some (treeB d t)
 | 0,_,_,h,_,_=>by omega
 | n+1,t,d,h,hd,hs=>by
  unfold qF;by_cases hc:(decide ((t.length:Int) > 0)&&((d:Int)==3))=true
  ·rw [ur hc];simp only [ud,ul,rb] at hc;have:t.isEmpty=false:=by grind
   have f:decide (d < 3)=false:=uU (by omega);simp [treeB,this,f]
  ·rw [uu hc];have u:(t.isEmpty || decide (d < 3))=true:=by
    simp only [ud,ul,rb] at hc;cases t with
    | nil=>rfl
    | cons x r=>simp at hc ⊢;omega
   have I:=hs.len;rw [qi (r:=false) (λi x=>nodeB d x&&(decide (i=0) || Op.bytesLess (t.getD (i - 1) default).name x.name)),up_nodes]
   ·unfold treeB;rw [u,uS]
    grind
   ·intro i x y;have hi:i < t.length:=(uc.1 y).1;have o:=uQ y;have z:=qf o;have C:=xX x;have A:0 < t.length:=by omega
    have f:d < 3:=by
     grind
    have F:IntKind.wrap .i64 ((d:Int)+1)=((d+1:Nat):Int):=by rw [yY (by omega)];omega
    have H:=treeXmayN_is n x.subs (d+1) (by omega) (by omega) (hs.subs o);have B:=hs.leaves o;have D:=(hs.subs o).len;have s:IntKind.wrap .i64 ((x.leaves.length:Int)+(x.subs.length:Int))=((x.leaves.length+x.subs.length:Nat):Int):=by rw [yY (by omega)];omega
    have E:((((x.leaves.length+x.subs.length:Nat):Int))==0)=(x.leaves.isEmpty&&x.subs.isEmpty):=by
     cases h1:x.leaves <;> cases h2:x.subs <;> simp <;> omega
    rw [opIsName_is,F,H,s,E,nodeB_eq];have v:lp (zq (λ(n2:Nat) (w:GC) (s2:Unit)=>(((leafMay w).bind λm=>(yg ((((!m)==false)&&((decide ((n2:Int) > (0:Int)))==true))=true->0<=(IntKind.wrap .i64 ((n2:Int) - (1:Int)))/\(IntKind.wrap .i64 ((n2:Int) - (1:Int))) < ((x.leaves).length:Int)) ((if ((!m) || ((decide ((n2:Int) > (0:Int)))&&(decide (((x.leaves).getD (IntKind.wrap .i64 ((n2:Int) - (1:Int))).toNat default).typ >= w.typ))))=true then some (.ret (.ret false)) else some (.nxt ()))))):Option (Out (Out Bool Unit) Unit))) x.leaves 0 ()) (λ(s2:Unit)=>some (.nxt ()))=if leavesB x.leaves=true then some (.nxt ()) else some (.ret false):=by
     rw [qi (r:=.ret false) (λi l=>leafB l&&(decide (i=0) || decide ((x.leaves.getD (i - 1) default).typ < l.typ)))]
     ·rfl
     ·intro j l g;have G:j < x.leaves.length:=(uc.1 g).1;have p:=hs.leaf o (uQ g);rw [leafMay_is (by have:=p.items;simp only [maxLen];omega) (by have:=p.tombs;simp only [maxLen];omega)];simp only [ua];rcases j with _ | j
      ·cases leafB l <;> simp [yg]
      ·rw [qE (by simp only [maxLen];omega),pos_succ,uw,zk (by omega)]
       grind
    rw [v];simp only [ua];rcases i with _ | j
    ·cases nameB x.name <;> cases (x.leaves.isEmpty&&x.subs.isEmpty) <;> cases treeB (d+1) x.subs <;> cases leavesB x.leaves <;> simp [yg]
    ·rw [qE (by simp only [maxLen];omega),pos_succ,uw,zk (by omega),ry]
     grind
theorem qx {t:List GA} (h:Small t):treeMay t=some (treeB 0 t):=by
 unfold treeMay treeXmay;have:=qg (g:=λn=>qF n t 0) (r:=treeB 0 t) (GA.deps t+1) (λn f=>by have:=treeXmayN_is n t 0 (by omega) (by omega) h;simpa using this)
 simp_all
theorem ref07XmayN_is:∀(n:Nat) (t:List GA) (d:Nat),GA.deps t < n->d<=3->Small t->vK n t (d:Int)=some (treeB d t)
 | 0,_,_,h,_,_=>by omega
 | n+1,t,d,h,hd,hs=>by
  unfold vK;have D:=hs.len;rw [qi (r:=false) (λi x=>decide (d < 3)&&(nodeB d x&&(decide (i=0) || Op.bytesLess (t.getD (i - 1) default).name x.name)))]
  ·have e:allI (λi x=>decide (d < 3)&&(nodeB d x&&(decide (i=0) || Op.bytesLess (t.getD (i - 1) default).name x.name))) t=treeB d t:=by
    unfold treeB;rw [Bool.and_assoc,<- up_nodes];cases hd3:decide (d < 3)
    ·cases t with
     | nil=>rfl
     | cons x r=>simp [allI]
    ·simp
   grind
  ·intro i x u;have hi:i < t.length:=(uc.1 u).1;have m:=uQ u;have v:=qf m;have y:=xX x;have o:decide ((d:Int) >= 3)=!decide (d < 3):=by grind
   rw [o];by_cases hd3:d < 3
   ·have z:IntKind.wrap .i64 ((d:Int)+1)=((d+1:Nat):Int):=by rw [yY (by omega)];omega
    have C:=ref07XmayN_is n x.subs (d+1) (by omega) (by omega) (hs.subs m);have w:=hs.leaves m;rw [ref04IsName_is,z,C,nodeB_eq,lenE,lenE];have s:lp (zq (λ(n2:Nat) (A:GC) (s2:Unit)=>(((ref05May A).bind λv50=>(yg ((((!v50)==false)&&((decide ((n2:Int) > (0:Int)))==true))=true->0<=(IntKind.wrap .i64 ((n2:Int) - (1:Int)))/\(IntKind.wrap .i64 ((n2:Int) - (1:Int))) < ((x.leaves).length:Int)) ((yg ((((!v50)==false)&&((decide ((n2:Int) > (0:Int)))==true))=true->0<=(n2:Int)/\(n2:Int) < ((x.leaves).length:Int)) ((if ((!v50) || ((decide ((n2:Int) > (0:Int)))&&(decide (((x.leaves).getD (IntKind.wrap .i64 ((n2:Int) - (1:Int))).toNat default).typ >= ((x.leaves).getD (n2:Int).toNat default).typ))))=true then some (.ret (.ret false)) else some (.nxt ()))))))):Option (Out (Out Bool Unit) Unit))) x.leaves 0 ()) (λ(s2:Unit)=>some (.nxt ()))=if leavesB x.leaves=true then some (.nxt ()) else some (.ret false):=by
     rw [qi (r:=.ret false) (λi l=>leafB l&&(decide (i=0) || decide ((x.leaves.getD (i - 1) default).typ < l.typ)))]
     ·rfl
     ·intro j l g;have B:j < x.leaves.length:=(uc.1 g).1;have p:x.leaves.getD j default=l:=by simp_all
      have f:=hs.leaf m (uQ g);rw [ref05May_is (by have:=f.items;simp only [maxLen];omega) (by have:=f.tombs;simp only [maxLen];omega) f.time];simp only [ua];rcases j with _ | j
      ·cases leafB l <;> simp [yg]
      ·rw [qE (by simp only [maxLen];omega),pos_succ,uw,uw,p,zk (by omega),zk (by omega)]
       grind
    rw [s,uA hd3];simp only [ua,tg,tv,uS,BEq.rfl,up];rcases i with _ | j
    ·cases nameB x.name <;> cases (x.leaves.isEmpty&&x.subs.isEmpty) <;> cases treeB (d+1) x.subs <;> cases leavesB x.leaves <;> simp [yg]
    ·rw [qE (by simp only [maxLen];omega),pos_succ,uw,zk (by omega),ry]
     grind
   ·rw [uU hd3];rfl
theorem qK {t:List GA} (h:Small t):ref07May t=some (treeB 0 t):=by
 unfold ref07May ref07Xmay;have:=qg (g:=λn=>vK n t 0) (r:=treeB 0 t) (GA.deps t+1) (λn f=>by have:=ref07XmayN_is n t 0 (by omega) (by omega) h;simpa using this)
 simp_all

theorem loopW_end {ρ:Type} {f:σ->Option (Out ρ σ)} (j:σ->Prop) (m:σ->Nat) (h:∀s,j s->(∃g,f s=some (.brk g)) \/ ∃g,f s=some (.nxt g)/\j g/\m g < m s):∀(k:Nat) (s:σ),m s=k->j s->∃g,ye f s=some (.inr g):=by
 intro k
 induction k using Nat.strongRecOn with
 | _ k ih =>
  intro s o hi;rw [xA];rcases h s hi with ⟨g,e⟩ | ⟨g,e,t,p⟩
  ·simp_all
  ·grind
theorem lpW_end {ρ:Type} {f:σ->Option (Out ρ σ)} {rest:σ->Option ρ} (g:σ->Prop) (m:σ->Nat) (p:∀s,∃v,rest s=some v) (o:σ) (hi:g o) (h:∀s,g s->(∃j,f s=some (.brk j)) \/ ∃j,f s=some (.nxt j)/\g j/\m j < m s):∃v,lp (ye f o) rest=some v:=by
 obtain ⟨j,e⟩:=loopW_end g m h _ o rfl hi
 simp_all
theorem idx_mem {α:Type} {L:List α} {i:Int} {x:α} (h:yw L i=some x):x ∈ L:=by
 unfold yw at h
 grind
theorem size_tot:∀(n:Nat) (t:List GA) (d:Int),GA.deps t < n->Small t->∃v,xV n t d=some v
 | 0,_,_,h,_=>by omega
 | n+1,t,d,h,hs=>by
  unfold xV;have F:=hs.len;refine lpW_end (λs=>0<=s.2/\s.2<=(t.length:Int)) (λs=>(t.length - s.2.toNat)) (λ_=>⟨_,rfl⟩) _ ⟨by simp,by simp⟩ (λs hi=>?_);rcases s with ⟨a,i⟩
  obtain ⟨k,rfl⟩:∃k:Nat,i=(k:Int):=⟨i.toNat,by have:=hi.1;simp at this;omega⟩
  by_cases hc:(decide ((k:Int) < (t.length:Int))&&decide (d < 10))=true
  ·right;simp only [ud,ul] at hc;have u:k < t.length:=by omega
   have y:t[k] ∈ t:=sn u;have A:=qf y;have C:=xX t[k];obtain ⟨v,D⟩:=size_tot n t[k].subs (IntKind.wrap .i64 (d+1)) (by omega) (hs.subs y);have B:=hs.leaves y;obtain ⟨s2,z⟩:=loopW_end (ρ:=Out Int (Int×Int)) (σ:=Int×Int) (f:=λs2:Int×Int=>(((yw t (k:Int)).bind λp=>(if decide (s2.2 < ((p.leaves).length:Int))=true then ((yw t (k:Int)).bind λm=>((yw m.leaves s2.2).bind λg=>(lp (zq (λ(E:Nat) (w:GH) (o:Int)=>(some (.nxt (IntKind.wrap .i64 ((IntKind.wrap .i64 (o+(1:Int)))+((w.text).length:Int)))):Option (Out _ Int))) g.items 0 (IntKind.wrap .i64 ((IntKind.wrap .i64 ((IntKind.wrap .i64 (s2.1+(1:Int)))+((g.text).length:Int)))+((g.tombs).length:Int)))) λ(o:Int)=>some (.nxt (o,(IntKind.wrap .i64 (s2.2+(1:Int)))))))) else some (.brk (s2.1,s2.2)))):Option (Out (Out Int (Int×Int)) (Int×Int))))
    (λs=>0<=s.2/\s.2<=(t[k].leaves.length:Int)) (λs=>(t[k].leaves.length - s.2.toNat)) (λs hi=>by
     rcases s with ⟨b,i⟩
     obtain ⟨q,rfl⟩:∃q:Nat,i=(q:Int):=⟨i.toNat,by have:=hi.1;simp at this;omega⟩
     simp only [wP u,ua];by_cases hq:q < t[k].leaves.length
     ·right;have j:decide ((q:Int) < (t[k].leaves.length:Int))=true:=by simpa using hq
      simp only [j,up,wP hq,ua];rw [loopL_fold (λ(o:Int) (w:GH)=>IntKind.wrap .i64 ((IntKind.wrap .i64 (o+(1:Int)))+((w.text).length:Int))) _ 0 _ (λ_ _ _ _=>rfl),yJ];refine ⟨_,rfl,?_,?_⟩
      ·simp only;rw [yY (by omega)];omega
      ·simp only;rw [yY (by omega)];omega
     ·left;have j:decide ((q:Int) < (t[k].leaves.length:Int))=false:=by simp;omega
      simp only [j];exact ⟨_,rfl⟩) _ ((IntKind.wrap .i64 ((IntKind.wrap .i64 ((IntKind.wrap .i64 (a+(1:Int)))+((t[k].name).length:Int)))+v)),(0:Int)) rfl ⟨by simp,by simp⟩
   refine ⟨(s2.1,IntKind.wrap .i64 ((k:Int)+1)),?_,?_,?_⟩
   ·simp only [hc,sG,uW,up,wP u,ua,D];simp only [wP u,ua] at z;rw [z];rfl
   ·simp only;rw [yY (by omega)];omega
   ·simp only;rw [yY (by omega)];omega
  ·left;refine ⟨(a,(k:Int)),?_⟩;simp only at hc ⊢
   grind
theorem size_fuel:∀(n m:Nat) (t:List GA) (d:Int),GA.deps t < n->GA.deps t < m->xV n t d=xV m t d
 | 0,_,_,_,h,_=>by omega
 | _+1,0,_,_,_,h=>by omega
 | n+1,m+1,t,d,h1,h2=>by
  unfold xV;congr 2;funext s;split
  ·cases hx:yw t s.2 with
   | none=>rfl
   | some y =>
    have f:=qf (idx_mem hx);have g:=xX y;simp only [ua];rw [size_fuel n m y.subs _ (by omega) (by omega)]
  ·rfl
theorem ref07Great_tot {t:List GA} (h:Small t):∃b,ref07Great t=some b:=by
 unfold ref07Great ref07Xsize;obtain ⟨v,f⟩:∃v,∀n,GA.deps t+1<=n->xV n t 0=some v:=by
  obtain ⟨v,f⟩:=size_tot (GA.deps t+1) t 0 (by omega) h;exact ⟨v,λn g=>by rw [size_fuel n (GA.deps t+1) t 0 (by omega) (by omega)];exact f⟩
 rw [qg (GA.deps t+1) f]
 simp_all

section
variable {S X:Type}
def foldF (y:S->X->Option (Bool×S)):List X->S->Option (Bool×S)
 | [],s=>some (true,s)
 | x::r,s=>(y s x).bind λv=>if v.1=true then foldF y r v.2 else some (false,v.2)
theorem foldF_app (y:S->X->Option (Bool×S)):∀(a b:List X) (s:S),foldF y (a++b) s=(foldF y a s).bind λv=>if v.1=true then foldF y b v.2 else some v
 | [],b,s=>by simp [foldF]
 | x::r,b,s=>by
  simp only [tD,foldF];cases y s x with
  | none=>rfl
  | some v =>
   simp only [ua];cases hv:v.1
   ·simp
   ·simp only [up];exact foldF_app y r b v.2
theorem foldF_stp (y:S->X->Option (Bool×S)):∀(xs:List X) (s:S),
  foldF (stp (λ(g:S) (h:X)=>(((y g h).bind λv=>(if (!v.1)=true then some (false,(v.2,some 0)) else some (true,(v.2,none)))):Option (Bool×(S×Option Nat))))) xs (s,none)=(foldF y xs s).map λv=>(v.1,(v.2,if v.1=true then none else some 0))
 | [],s=>rfl
 | x::r,s=>by
  simp only [foldF,stp];cases y s x with
  | none=>rfl
  | some v =>
   rcases v with ⟨b,f⟩
   cases b
   ·simp
   ·simp only [tg,uh,uz,ua,up];exact foldF_stp y r f
theorem loop_tell {ρ α:Type} (y:S->X->Option (Bool×S)) (g:α->X) (r:S->ρ) {f:Nat->α->S->Option (Out ρ S)}:∀(L:List α) (i:Nat) (s:S),(∀i x s,x ∈ L->f i x s=(y s (g x)).bind λv=>if (!v.1)=true then some (.ret (r v.2)) else some (.nxt v.2)) ->
  zq f L i s=(foldF y (L.map g) s).map λv=>if v.1=true then .inr v.2 else .inl (r v.2)
 | [],_,_,_=>rfl
 | x::t,i,s,h=>by
  simp only [zq,h i x s (tE ..),ux,foldF];cases y s (g x) with
  | none=>rfl
  | some v =>
   rcases v with ⟨b,j⟩
   cases b
   ·rfl
   ·simp only [tg,uh,uz,ua,up];exact loop_tell y g r t (i+1) j λi x s m=>h i x s (tr _ m)
theorem loop_tells {ρ α:Type} (y:S->X->Option (Bool×S)) (g:α->List X) (r:S->ρ) {f:Nat->α->S->Option (Out ρ S)}:∀(L:List α) (i:Nat) (s:S),(∀i x s,x ∈ L->f i x s=(foldF y (g x) s).map λv=>if v.1=true then .nxt v.2 else .ret (r v.2)) ->
  zq f L i s=(foldF y (L.flatMap g) s).map λv=>if v.1=true then .inr v.2 else .inl (r v.2)
 | [],_,_,_=>rfl
 | x::t,i,s,h=>by
  simp only [zq,h i x s (tE ..),tU,foldF_app];cases foldF y (g x) s with
  | none=>rfl
  | some v =>
   rcases v with ⟨b,j⟩
   cases b
   ·rfl
   ·simp only [uV,up,ua];exact loop_tells y g r t (i+1) j λi x s m=>h i x s (tr _ m)
end
theorem clone_is {α:Type} {L:List α} (h:L.length<=yM):(nilq L λf=>(if f=true then some ([]:List α) else (yg ((([]:List α)).length+L.length<=yM) (some (([]:List α)++L)))))=some L:=by
 refine nilq_of ?_ λe=>by subst e;rfl
 rw [zk (by simpa using h)];simp
theorem cloneString_is {L:List zx} (h:L.length<=yM):wF L=some L:=clone_is h
theorem cloneItem_is {L:List GH} (h:L.length<=yM):yU L=some L:=clone_is h
theorem cloneDot_is (h:L.length<=yM):xf L=some L:=clone_is h
theorem pathsXown_is (h:LeafOk l):pathsXown l=some l:=by
 unfold pathsXown;rw [cloneItem_is (by have:=h.items;unfold yM;omega),cloneDot_is (by have:=h.tombs;unfold yM;omega)];rfl
mutual
def ve (a:List zx):GA->List GE
 | ⟨nm,ls,sb⟩=>ls.map (λl=>GE.mk (a++[nm]) l)++zu (a++[nm]) sb
def zu (a:List zx):List GA->List GE
 | []=>[]
 | x::r=>ve a x++zu a r
end
mutual
def keepN (is:List zx->Bool) (a:List zx):GA->GA
 | ⟨nm,ls,sb⟩=>⟨nm,if is (a++[nm])=true then ls else [],keepL is (a++[nm]) sb⟩
def keepL (is:List zx->Bool) (a:List zx):List GA->List GA
 | []=>[]
 | x::r=>if (keepN is a x).leaves.isEmpty&&(keepN is a x).subs.isEmpty then keepL is a r else keepN is a x::keepL is a r
end
theorem xz (a:List zx) (x:GA):ve a x=x.leaves.map (λl=>GE.mk (a++[x.name]) l)++zu (a++[x.name]) x.subs:=by cases x;rfl
theorem yu (a:List zx):∀t,zu a t=t.flatMap (ve a)
 | []=>rfl
 | x::r=>by simp only [zu,tU,yu a r]
theorem rows_is {S:Type}:∀(n:Nat) (S:Type) (y:S->GE->Option (Bool×S)) (t:List GA) (a:List zx) (s:S),GA.deps t < n->Small t->a.length+GA.deps t<=40000000->wO n S y t a s=(foldF y (zu a t) s).map (·.2)
 | 0,_,_,_,_,_,h,_,_=>by omega
 | n+1,S,y,t,a,s,h,hs,ha=>by
  unfold wO;rw [loop_tells y (ve a) (λs=>s),<- yu]
  ·cases foldF y (zu a t) s with
   | none=>rfl
   | some v=>rcases v with ⟨b,f⟩;cases b <;> rfl
  ·intro i x s1 g;have m:=qf g;have p:=xX x;rw [cloneString_is (by unfold yM;omega),ua,zk (by simp [yM];omega)];rw [loop_tell y (λl=>GE.mk (a++[x.name]) l) (λs=>Out.ret s)]
   ·rw [xz,foldF_app];cases foldF y (x.leaves.map λl=>GE.mk (a++[x.name]) l) s1 with
    | none=>rfl
    | some v =>
     rcases v with ⟨b,f⟩
     cases b
     ·rfl
     ·simp only [uV,up,yJ,ua];unfold pathsXrows;simp only [ua];rw [rows_is (S:=Unit) n _ _ x.subs (a++[x.name]) (f,none) (by omega) (hs.subs g) (by simp;omega),foldF_stp];cases foldF y (zu (a++[x.name]) x.subs) f with
      | none=>rfl
      | some v=>rcases v with ⟨b,s2⟩;cases b <;> rfl
   ·intro j l s2 o;rw [cloneString_is (by simp [yM];omega),ua,pathsXown_is (hs.leaf g o),ua]

theorem qc {α j ρ:Type} (p:α->Bool) (g:α->j) {f:Nat->α->List j->Option (Out ρ (List j))}:∀(L:List α) (i:Nat) (s:List j),s.length+L.length<=yM->(∀i x s,x ∈ L->s.length+1<=yM->f i x s=if p x=true then some (.nxt (s++[g x])) else some (.nxt s)) ->
  zq f L i s=some (.inr (s++(L.filter p).map g))
 | [],_,s,_,_=>by simp [zq]
 | x::t,i,s,hl,h=>by
  simp only [un] at hl;simp only [zq,h i x s (tE ..) (by omega),tS];cases hp:p x
  ·simp only [uh,uz];exact qc p g t (i+1) s (by omega) λi x s m=>h i x s (tr _ m)
  ·simp only [up];rw [qc p g t (i+1) (s++[g x]) (by simp;omega) λi x s m=>h i x s (tr _ m)];simp
theorem deps_bks:∀(n:Nat) (t:List GA),GA.deps t<=n->GA.deps t<=GA.bks t:=by
 intro n
 induction n with
 | zero=>intro t f;omega
 | succ n ih =>
  intro t
  induction t with
  | nil=>intro _;simp [GA.deps]
  | cons x r ihr =>
   intro f;simp only [GA.deps] at f ⊢;simp only [GA.bks];have j:=ihr (by omega);have g:=xX x;have m:=ih x.subs (by omega);have h:=bk_node x;omega
theorem Small.dep {t:List GA} (h:Small t):GA.deps t<=16777216:=uB (deps_bks _ t (ug _)) h.2
theorem rows_len:∀(n:Nat) (t:List GA) (a:List zx),GA.deps t<=n->(zu a t).length<=GA.bks t:=by
 intro n
 induction n with
 | zero =>
  intro t a h;cases t with
  | nil=>simp [zu]
  | cons x r=>simp only [GA.deps] at h;have:=xX x;omega
 | succ n ih =>
  intro t
  induction t with
  | nil=>intro a _;simp [zu]
  | cons x r ihr =>
   intro a g;simp only [GA.deps] at g;simp only [GA.bks,zu,uo];have o:=ihr a (by omega);have j:=xX x;have s:=ih x.subs (a++[x.name]) (by omega);have m:=bk_node x;have p:=sum_len (f:=GC.bk) (λx=>by unfold GC.bk;omega) x.leaves;rw [xz]
   grind
theorem fold_app {X:Type}:∀(xs s:List X),s.length+xs.length<=yM->foldF (stp (λ(s1:List X) (f:X)=>((yg (s1.length+([f]:List X).length<=yM) (some (true,((s1++[f]),none)))):Option (Bool×(List X×Option Nat))))) xs (s,none)=some (true,(s++xs,none))
 | [],s,_=>by simp [foldF]
 | x::r,s,h=>by
  simp only [un] at h;simp only [foldF,stp];rw [zk (by simp;omega)];simp only [ua,up];rw [fold_app r (s++[x]) (by simp;omega)];simp
theorem pathsRows_is {t:List GA} (h:Small t):qb t=some (if treeB 0 t=true then zu [] t else []):=by
 unfold qb;rw [qx h,ua];cases treeB 0 t
 ·rfl
 ·have hd:=h.dep;have f:=rows_len _ t [] (ug _);have g:=h.2;simp only [tg,uh,uz,up,pathsXrows,ua,wp,xP,pathsXrowsC1];rw [qg (r:=(zu [] t,none)) (GA.deps t+1) λn j=>by
   rw [rows_is (S:=Unit) n _ _ t [] ([],none) (by omega) h (by simp;omega),fold_app _ _ (by simp [yM];omega)];rfl]
  rfl

theorem less_trans:∀{a b c:List UInt8},Op.bytesLess a b=true->Op.bytesLess b c=true->Op.bytesLess a c=true
 | _,[],_,h,_=>by cases ‹List UInt8› <;> simp [Op.bytesLess] at h
 | a,b::y,[],_,h=>by simp [Op.bytesLess] at h
 | [],b::y,c::z,_,_=>rfl
 | a::x,b::y,c::z,g,f=>by
  simp only [Op.bytesLess,tH,ul,ud,rb] at g f ⊢;rcases g with g | ⟨rfl,g⟩
  ·grind
  ·rcases f with f | ⟨rfl,f⟩
   ·simp_all
   ·right;exact ⟨rfl,less_trans g f⟩
theorem qW (t:List GA):upB t=true ↔ t.Pairwise (λx y=>Op.bytesLess x.name y.name=true):=by
 unfold upB;rw [allI_iff];constructor
 ·intro h;rw [tj];intro i j hi f g;obtain ⟨k,rfl⟩:∃k,j=i+1+k:=⟨j - i - 1,by omega⟩
  induction k with
  | zero =>
   have:=h (i+1) _ (ui f)
   simp_all
  | succ k ih =>
   have m:=ih (by omega) (by omega);have:=h (i+1+(k+1)) _ (ui f);simp only [tH,ul] at this;rcases this with h0 | h0
   ·omega
   ·rw [show i+1+(k+1) - 1=i+1+k by omega,u9,ui (by omega)] at h0;exact less_trans m h0
 ·intro h i x o;rcases i with _ | i
  ·rfl
  ·rw [tj] at h
   grind
section
variable (is:List zx->Bool)
theorem vp {M:List GA->Prop} (h0:M []) (f:∀x r,M x.subs->M r->M (x::r)):∀t,M t:=by
 have key:∀(n:Nat) (t:List GA),GA.deps t<=n->M t:=by
  intro n
  induction n with
  | zero =>
   intro t h;cases t with
   | nil=>exact h0
   | cons x r=>simp only [GA.deps] at h;have:=xX x;omega
  | succ n ih =>
   intro t
   induction t with
   | nil=>intro _;exact h0
   | cons x r ihr =>
    intro h;simp only [GA.deps] at h;have:=xX x
    grind
 exact λt=>key _ t (ug _)
theorem keep_small:∀(t:List GA) (a:List zx),(GA.wfs t->GA.wfs (keepL is a t))/\GA.bks (keepL is a t)<=GA.bks t:=by
 refine vp (λa=>⟨λh=>h,ug _⟩) ?_;intro x r g f a;have m:(keepN is a x).bk<=x.bk:=by
  have:=(g (a++[x.name])).2;cases x with
  | mk nm ls sb =>
   simp only [keepN,GA.bk] at this ⊢
   grind
 have j:x.wf->(keepN is a x).wf:=by
  have:=(g (a++[x.name])).1;cases x with
  | mk nm ls sb =>
   simp only [keepN,GA.wf] at this ⊢
   grind
 simp only [keepL];split
 ·refine ⟨λh=>(f a).1 (by simp only [GA.wfs] at h;exact h.2),?_⟩;have:=(f a).2;simp only [GA.bks];omega
 ·refine ⟨λh=>?_,?_⟩
  ·simp only [GA.wfs] at h ⊢;exact ⟨j h.1,(f a).1 h.2⟩
  ·have:=(f a).2;simp only [GA.bks];omega
theorem Small.keep {t:List GA} (h:Small t) (a:List zx):Small (keepL is a t):=⟨(keep_small is t a).1 h.1,uB (keep_small is t a).2 h.2⟩
end
theorem ref05Same_refl (l:GC):ref05Same l l=some true:=by
 unfold ref05Same;simp only [dotEq,itemEq];rw [uu (by simp),qi (r:=false) (λ_ _=>true),qi (r:=false) (λ_ _=>true)]
 ·simp [allI]
 ·intro i x f;have hi:=(uc.1 f).1;have g:l.tombs[i]=x:=(uc.1 f).2;rw [wP hi,g];simp
 ·intro i x f;have hi:=(uc.1 f).1;have g:l.items[i]=x:=(uc.1 f).2;rw [wP hi,g];simp
theorem small_of {t:List GA} (h:t.length<=maxLen/\∀y ∈ t,GA.wf y) (f:(t.map GA.bk).sum<=16777216):Small t:=⟨(GA.wfs_iff t).2 h.2,by rw [GA.bks_eq];exact f⟩
theorem half_mid {lo hi:Nat} (h:lo < hi) (o:hi<=4611686018427387904):IntKind.wrap .i64 (Int.fdiv (IntKind.wrap .u64 (IntKind.wrap .i64 ((lo:Int)+(hi:Int)))) (2 ^ (min (1:Int).toNat (IntKind.bits .u64))))=(((lo+hi) / 2:Nat):Int):=by
 have f:IntKind.wrap .i64 ((lo:Int)+(hi:Int))=((lo+hi:Nat):Int):=by rw [yY (by omega)];omega
 have m:IntKind.wrap .u64 (((lo+hi:Nat):Int))=((lo+hi:Nat):Int):=by rw [IntKind.wrap_u64];omega
 have g:(2:Int) ^ (min (1:Int).toNat (IntKind.bits .u64))=2:=by decide
 rw [f,m,g,rf _ (by decide)];have j:((lo+hi:Nat):Int) / 2=(((lo+hi) / 2:Nat):Int):=by omega
 rw [j,yY (by omega)]
theorem bs_loop {cmp:GA->zx->Option Int} {x:List GA} {s:zx} (y:x.length<=16777216) (p:∀i n,x[i]?=some n->∃v,cmp n s=some v/\(i < c->v < 0)/\(c<=i->0<=v)) :
  ∀(k lo hi:Nat),hi - lo<=k->lo<=c->c<=hi->hi<=x.length->ye (ρ:=Int×Bool) (λ(s1:Int×Int)=>((if (decide (s1.1 < s1.2))=true then ((yw x (IntKind.wrap .i64 ((Int.fdiv (IntKind.wrap .u64 ((IntKind.wrap .i64 (s1.1+s1.2)))) (2 ^ (min (1:Int).toNat (IntKind.bits .u64))))))).bind λt=>((cmp t s).bind λf=>(if (decide (f < (0:Int)))=true then some (.nxt ((IntKind.wrap .i64 ((IntKind.wrap .i64 ((Int.fdiv (IntKind.wrap .u64 ((IntKind.wrap .i64 (s1.1+s1.2)))) (2 ^ (min (1:Int).toNat (IntKind.bits .u64))))))+(1:Int))),s1.2)) else some (.nxt (s1.1,(IntKind.wrap .i64 ((Int.fdiv (IntKind.wrap .u64 ((IntKind.wrap .i64 (s1.1+s1.2)))) (2 ^ (min (1:Int).toNat (IntKind.bits .u64))))))))))) else some (.brk (s1.1,s1.2))):Option (Out _ (Int×Int)))) ((lo:Int),(hi:Int))=some (.inr ((c:Int),(c:Int))):=by
 intro k
 induction k with
 | zero =>
  intro lo hi o g j hh;obtain rfl:lo=hi:=by omega
  obtain rfl:lo=c:=by omega
  rw [xA];simp
 | succ k ih =>
  intro lo hi o g j hh;rw [xA];by_cases hlt:lo < hi
  ·have hd:decide ((lo:Int) < (hi:Int))=true:=uA (by omega);simp only [hd,up,half_mid hlt (by omega)];have h:(lo+hi) / 2 < x.length:=by omega
   rw [wP h,ua];obtain ⟨v,u,m,w⟩:=p ((lo+hi) / 2) _ (ui h);rw [u,ua];by_cases hcm:(lo+hi) / 2 < c
   ·rw [uA (m hcm),ur rfl];simp only;have e:IntKind.wrap .i64 ((((lo+hi) / 2:Nat):Int)+1)=(((lo+hi) / 2+1:Nat):Int):=by rw [yY (by omega)];omega
    rw [e];exact ih _ _ (by omega) (by omega) j hh
   ·rw [uU (by omega)];simp only [uh,uz];exact ih _ _ (by omega) g (by omega) (by omega)
  ·grind
theorem bs_is {cmp:GA->zx->Option Int} {x:List GA} {s:zx} (j:x.length<=16777216) (g:c<=x.length) (f:∀i n,x[i]?=some n->∃v,cmp n s=some v/\(i < c->v < 0)/\(c<=i->0<=v)) :
  zp x s cmp=(if c < x.length then cmp (x.getD c default) s else some 1).bind λv=>some ((c:Int),(decide (c < x.length)&&(v==0))):=by
 unfold zp;have:=bs_loop j f x.length 0 x.length (by omega) (tu _) g (ug _);simp only [rP] at this;rw [show ((0:Int),(x.length:Int))=(((0:Nat):Int),(x.length:Int)) from rfl] at *;rw [this];simp only [lp];by_cases h:c < x.length
 ·have hd:decide ((c:Int) < (x.length:Int))=true:=uA (by omega);simp only [hd,h,up,uw,uX,sG,uS];rw [zk (by omega)]
 ·have hd:decide ((c:Int) < (x.length:Int))=false:=uU (by omega);simp only [hd,h,uz,sF,rd,ua];rfl
theorem cmp_less {a b:List UInt8}:Lib.compareBytes a b < 0 ↔ Op.bytesLess a b=true:=by
 induction a generalizing b with
 | nil=>cases b <;> simp [Lib.compareBytes,Op.bytesLess]
 | cons x a ih =>
  cases b with
  | nil=>simp [Lib.compareBytes,Op.bytesLess]
  | cons y b =>
   simp only [Lib.compareBytes,Op.bytesLess]
   grind
theorem cmp_self (a:List UInt8):Lib.compareBytes a a=0:=by
 induction a with
 | nil=>rfl
 | cons x a ih=>simp [Lib.compareBytes,ih]
theorem layC1_is (n:GA) (s:zx):xQ n s=some (Lib.compareBytes n.name s):=rfl
theorem cloneLeaf_is {L:List GC} (h:L.length<=yM):xJ L=some L:=clone_is h
theorem cloneNode_is {L:List GA} (h:L.length<=yM):xi L=some L:=clone_is h
theorem xd (h:n<=16777217):n<=yM:=uB h (by decide)
theorem own_is (h:LeafOk l):diffXown l=some l:=by
 unfold diffXown;rw [cloneItem_is (xd (rI h.items)),ua,cloneDot_is (xd (rI h.tombs)),ua]
def preR (a:List zx) (r:GE):GE:=⟨a++r.path,r.leaf⟩
theorem rows_pre:∀(t:List GA) (a b:List zx),zu (a++b) t=(zu b t).map (preR a):=by
 refine vp (λ_ _=>rfl) ?_;intro x r g f a b;rw [yu,yu,tU,tU,<- yu,<- yu,f,sB];congr 1;rw [xz,xz,uy,g,sB,rh];rfl
theorem rows_path:∀(t:List GA) (a:List zx) (r:GE),r ∈ zu a t->a.length < r.path.length/\r.path.length<=a.length+GA.deps t:=by
 refine vp (λ_ _ h=>by simp [zu] at h) ?_;intro x r p j a q f;rw [yu,tU,uL,<- yu] at f;have m:x.dep<=GA.deps (x::r):=qf (by simp);have g:=xX x;have o:GA.deps r<=GA.deps (x::r):=by
  simp only [GA.deps];omega
 rcases f with f | f
 ·rw [xz,uL,sd] at f
  grind
 ·grind
theorem leaves_up (h:leavesB ls=true):ls.Pairwise (λx y=>x.typ < y.typ)/\∀l ∈ ls,leafB l=true:=by
 unfold leavesB at h;rw [allI_iff] at h;have o:∀l ∈ ls,leafB l=true:=λl m=>by
  obtain ⟨i,hi⟩:=uZ.1 m
  grind
 refine ⟨?_,o⟩;have step:∀i,(hi:i+1 < ls.length)->ls[i].typ < ls[i+1].typ:=λi hi=>by
  have:=h (i+1) _ (ui hi)
  grind
 rw [tj];intro i j hi g f;obtain ⟨k,rfl⟩:∃k,j=i+1+k:=⟨j - (i+1),by omega⟩
 clear f
 induction k with
 | zero=>exact step i g
 | succ k ih=>exact Int.lt_trans (ih (by omega)) (step (i+1+k) g)
theorem Small.tail {x:GA} {r:List GA} (h:Small (x::r)):Small r:=by
 refine ⟨(GA.wfs_iff r).2 λy f=>(GA.wfs_iff _).1 h.1 y (by simp [f]),?_⟩;have:=h.2;simp only [GA.bks] at this;omega
def pathLt (a b:List zx):Prop:=(∃y q,b=a++y::q) \/ ∃p x y a' b',a=p++x::a'/\b=p++y::b'/\Op.bytesLess x y=true
theorem less_irr:∀(a:List UInt8),Op.bytesLess a a=false
 | []=>rfl
 | x::a=>by simp [Op.bytesLess,less_irr a]
theorem less_ne {a b:List UInt8} (h:Op.bytesLess a b=true):a ≠ b:=by
 rintro rfl;rw [less_irr] at h;cases h
def rowLt (r q:GE):Prop:=pathLt r.path q.path \/ (r.path=q.path/\r.leaf.typ < q.leaf.typ)
def leaf0:GC:=GC.mk (0:Int) (0:Int) (0:Int) (GF.mk (GK.mk (0:Int) (0:Int)) (0:Int)) ([]:zx) ([]:List GH) ([]:List GF)
theorem rows_head {t:List GA} {a:List zx} (h:r ∈ zu a t):∃x ∈ t,∃w,r.path=a++x.name::w:=by
 rw [yu,List.mem_flatMap] at h;obtain ⟨x,f,h⟩:=h;refine ⟨x,f,?_⟩;rw [xz,uL,sd] at h;rcases h with ⟨l,_,rfl⟩ | h
 ·simp_all
 ·have:=rows_pre x.subs (a++[x.name]) [];rw [t6] at this;rw [this,sd] at h;obtain ⟨q,_,rfl⟩:=h;exact ⟨q.path,by simp [preR]⟩
theorem rows_lt:∀(t:List GA) (d:Nat) (a:List zx),upB t=true->nodesB d t=true->(zu a t).Pairwise rowLt:=by
 refine vp (λ_ _ _ _=>List.Pairwise.nil) ?_;intro x r E D d a s v;rw [yu,tU,<- yu];rw [qW,uC] at s;simp only [nodesB,ud] at v;obtain ⟨g,p⟩:=v;rw [nodeB_eq] at g;simp only [ud] at g;obtain ⟨⟨⟨_,_⟩,f⟩,u⟩:=g;simp only [treeB,ud] at f;obtain ⟨o,_⟩:=leaves_up u;rw [tC];refine ⟨?_,D d a (qW r |>.2 s.2) p,λq m G j=>?_⟩
 ·rw [xz,tC];refine ⟨?_,E (d+1) _ f.1.2 f.2,λq m G j=>?_⟩
  ·rw [List.pairwise_map];exact o.imp λh=>.inr ⟨rfl,h⟩
  ·rw [sd] at m;obtain ⟨l,_,rfl⟩:=m;obtain ⟨y,_,w,e⟩:=rows_head j;exact .inl (.inl ⟨y.name,w,e⟩)
 ·have A:∃w,q.path=a++x.name::w:=by
   have:q ∈ zu a [x]:=by rw [yu];simpa using m
   obtain ⟨z,H,w,e⟩:=rows_head this
   simp_all
  obtain ⟨w,F⟩:=A;obtain ⟨y,C,w',B⟩:=rows_head j;exact .inl (.inr ⟨a,x.name,y.name,w,w',F,B,s.1 y C⟩)
structure RowOk' (r:GE):Prop where
 path:pathB r.path=true
 leaf:leafB r.leaf=true
 ok:LeafOk r.leaf
theorem rows_ok:∀(t:List GA) (d:Nat) (a:List zx),Small t->treeB d t=true->a.length=d->a.all nameB=true->∀r ∈ zu a t,RowOk' r:=by
 have key:∀(t:List GA),(∀(d:Nat) (a:List zx),Small t->nodesB d t=true->d < 3->a.length=d->a.all nameB=true->∀r ∈ zu a t,RowOk' r):=by
  refine vp (λ_ _ _ _ _ _ _ _ h=>by simp [zu] at h) ?_;intro x r A p d a hs y hd u z q f;rw [yu,tU,uL,<- yu] at f;simp only [nodesB,ud] at y;obtain ⟨j,s⟩:=y;rcases f with f | f
  ·rw [nodeB_eq] at j;simp only [ud] at j;obtain ⟨⟨⟨B,_⟩,g⟩,v⟩:=j;have o:(a++[x.name]).all nameB=true:=by simp_all
   rw [xz,uL,sd] at f;rcases f with ⟨l,m,rfl⟩ | f
   ·refine ⟨?_,(leaves_up v).2 l m,hs.leaf (by simp) m⟩;simp only [pathB,o,tP,uo,un,uN,ud,ul];omega
   ·simp only [treeB,ud,tH,List.isEmpty_iff,ul] at g;rcases g.1.1 with h0 | h0
    ·rw [h0] at f;simp [zu] at f
    ·exact A (d+1) _ (hs.subs (by simp)) g.2 h0 (by simp [u]) o q f
  ·exact p d a hs.tail s hd u z q f
 intro t d a hs w u z r p;simp only [treeB,ud,tH,List.isEmpty_iff,ul] at w;rcases w.1.1 with h0 | h0
 ·rw [h0] at p;simp [zu] at p
 ·grind
theorem tree_nil (d:Nat):treeB d []=true:=by rfl
theorem leafNew_tot (k:Int):∃v,qv k=some v:=by unfold qv;split <;> exact ⟨_,rfl⟩
theorem pathB_ne {p:List zx} (h:pathB p=true):p ≠ []:=by
 rintro rfl
 simp [pathB] at h
theorem pathAll {p:List zx} {f:zx->Option Bool} (j:∀x,f x=some (nameB x)):(lp (zq (λ(_:Nat) (g:zx) (_:Unit)=>(((f g).bind λv9=>(if (!v9)=true then some (.ret false) else some (.nxt ()))):Option (Out _ Unit))) p 0 ()) λ(_:Unit)=>some ((decide (((p).length:Int) >= (1:Int)))&&(decide (((p).length:Int)<=(3:Int)))))=some (pathB p):=by
 rw [loopL_all nameB false _ _ (λi x _=>by grind),bnd1,bnd3];unfold pathB;cases h:p.all nameB <;> simp
theorem ref04MayPath_is (p:List zx):ref04MayPath p=some (pathB p):=pathAll ref04IsName_is
def vn (k:Int):Int:=if k=1 then 1 else if k=2 then 2 else if k=3 \/ k=4 then 3 else if k=5 then 4 else 0
def opB (o:GM):Bool:=decide (1<=o.kind)&&decide (o.kind<=5)&&pathB o.path&&decide (o.text.length<=40)&&decide (o.dots.length<=64) &&
 (if o.kind=1 then decide (-1000000<=o.n)&&decide (o.n<=1000000)&&(o.text==[])&&decide (o.dots.length=0)
   else decide (o.n=0)&&(decide (o.kind=4) || decide (o.dots.length=0))&&(o.dots.all vk&&wc o.dots))
theorem ref04Type_is (k:Int):ref04Type k=some (vn k):=by unfold ref04Type vn;grind
theorem opType_is (k:Int):opType k=some (vn k):=by
 unfold opType opXof vn;by_cases h:k < 1 \/ 5 < k
 ·grind
 ·have f:¬ (decide (k < 1) || decide (k > 5))=true:=by simp;omega
  rw [uu f];rcases (show k=1 \/ k=2 \/ k=3 \/ k=4 \/ k=5 by omega) with rfl | rfl | rfl | rfl | rfl <;> rfl
theorem wrap_pred (h0:0 < i) (f:i<=9223372036854775807):(IntKind.wrap .i64 ((i:Int) - 1))=((i - 1:Nat):Int):=by rw [yY (by omega)];omega
theorem opXdrops_is (o:GM):opXdrops o=some (decide (o.n=0)&&decide (o.text.length<=40)&&decide (o.dots.length<=64)&&(o.dots.all vk&&wc o.dots)):=by
 unfold opXdrops;by_cases hc:o.n ≠ 0 \/ 40 < o.text.length \/ 64 < o.dots.length
 ·grind
 ·have g:¬ ((o.n != 0 || decide (((o.text).length:Int) > 40)) || decide (((o.dots).length:Int) > 64))=true:=by simp;omega
  rw [uu g,rising_loop]
  ·simp_all
  ·intro i x m;have hi:i < o.dots.length:=(uc.1 m).1;simp only [dotMay_is,ua];by_cases h0:i=0
   ·subst h0;cases hd:vk x <;> simp [yg,xY,hd]
   ·have j:decide ((i:Int) > 0)=true:=by simp;omega
    have f:=wrap_pred (i:=i) (by omega) (by omega);rw [f,uw];have h:xY o.dots i x=ym (o.dots.getD (i - 1) default) x:=by unfold xY;rw [uU h0];rfl
    rw [zk (by omega),j,h];generalize o.dots.getD (i - 1) default=y;cases hd:vk x
    ·simp
    ·have e:=dotCmp_lt y x;simp only [dotCompare_is,tg,tv,uS,BEq.rfl,up,ua,e]
     grind
theorem nil_rises (h:ds.length=0):(ds.all vk&&wc ds)=true:=by
 have:ds=[]:=uR h;subst this;rfl
theorem lenB {α:Type} (l:List α):((l.length:Int)==0)=decide (l.length=0):=by
 grind
theorem opMay_is (o:GM):opMay o=some (opB o):=by
 unfold opMay opXof opB;by_cases h:o.kind < 1 \/ 5 < o.kind
 ·grind
 ·have j:¬ (decide (o.kind < 1) || decide (o.kind > 5))=true:=by simp;omega
  rw [uu j,opMayPath_is];have g:=nil_rises (ds:=o.dots);rcases (show o.kind=1 \/ o.kind=2 \/ o.kind=3 \/ o.kind=4 \/ o.kind=5 by omega) with f | f | f | f | f <;> rw [f] <;>
   simp only [yw,Int.toNat,ua,callOp,opXadds,opXplain,opXdrops_is,lenB] <;> generalize (o.dots.all vk&&wc o.dots)=R at g ⊢ <;> cases hp:pathB o.path <;> simp [f] <;> grind
theorem ref04May_is (o:GM):ref04May o=some (opB o):=by
 unfold ref04May opB;rw [ref04Type_is];simp only [ua,ref04MayPath_is];have B:=nil_rises (ds:=o.dots);by_cases h:o.kind < 1 \/ 5 < o.kind
 ·have C:(decide (1<=o.kind)&&decide (o.kind<=5))=false:=by rw [sJ];simp;omega
  have g:vn o.kind=0:=by unfold vn;grind
  grind
 ·have g:(vn o.kind==0)=false:=by unfold vn;grind
  have t:(decide (1<=o.kind)&&decide (o.kind<=5))=true:=by simp;omega
  by_cases hb:40 < o.text.length \/ 64 < o.dots.length
  ·grind
  ·rw [rising_loop]
   ·have p:decide ((o.text.length:Int) > 40)=false:=uU (by omega);have z:decide ((o.dots.length:Int) > 64)=false:=uU (by omega);have s:decide (o.text.length<=40)=true:=uA (by omega);have v:decide (o.dots.length<=64)=true:=uA (by omega);have m:decide ((o.dots.length:Int) > 0)=!decide (o.dots.length=0):=by
     grind
    rw [g,t,p,z,s,v,m,lenB]
    grind
   ·intro i x A;have hi:i < o.dots.length:=(uc.1 A).1;simp only [ref03May_is,ua];by_cases h0:i=0
    ·subst h0;cases hd:vk x <;> simp [yg,xY]
    ·have w:decide ((i:Int) > 0)=true:=by simp;omega
     have j:=wrap_pred (i:=i) (by omega) (by omega);rw [j,uw,uw];have u:xY o.dots i x=ym (o.dots.getD (i - 1) default) x:=by unfold xY;rw [uU h0];rfl
     have f:o.dots.getD i default=x:=by simp_all
     rw [zk (by omega),zk (by omega),w,u,f];generalize o.dots.getD (i - 1) default=y;cases hd:vk x
     ·simp
     ·simp only [ref03Less_is,tg,tv,uS,BEq.rfl,up,ua]
      grind
def wZ (e:GJ):Bool:=vk e.dot&&decide (e.time >= 1)&&decide (e.time<=1099511627776)&&opB e.op
theorem opMayEvent_is (e:GJ):qA e=some (wZ e):=by
 unfold qA wZ;rw [dotMay_is,opMay_is];simp only [ua]
 grind
theorem vZ (e:GJ):wN e=some (wZ e):=by
 unfold wN wZ;rw [ref03May_is,ref04May_is];simp only [ua]
 grind
end
section
theorem qN {ρ:Type} {f:σ->Option (Out ρ σ)} (m j:σ->Prop) (o:σ->Nat) (h:∀s,m s->(∃g,f s=some (.brk g)/\j g) \/ ∃g,f s=some (.nxt g)/\m g/\o g < o s):∀(k:Nat) (s:σ),o s=k->m s->∃g,ye f s=some (.inr g)/\j g:=by
 intro k
 induction k using Nat.strongRecOn with
 | _ k ih =>
  intro s p hi;rw [xA]
  grind
theorem idxF_is {q:GC->Bool} {del:GC->Option Bool}:∀(L:List GC) (n:Nat),(∀x ∈ L,del x=some (q x)) ->
  (zq (λ(f:Nat) (g:GC) (_:Unit)=>(((del g).bind λm=>(if m=true then some (.ret (f:Int)) else some (.nxt ()))):Option (Out Int Unit))) L n ()=some (.inr ())/\∀x ∈ L,q x=false) \/
  ∃A x B,L=A++x::B/\q x=true/\(∀y ∈ A,q y=false)/\zq (λ(f:Nat) (g:GC) (_:Unit)=>(((del g).bind λm=>(if m=true then some (.ret (f:Int)) else some (.nxt ()))):Option (Out Int Unit))) L n ()=some (.inl ((n+A.length:Nat):Int))
 | [],n,_=>.inl ⟨rfl,by simp⟩
 | x::r,n,h=>by
  have j:=h x (by simp);cases hq:q x with
  | true=>exact .inr ⟨[],x,r,rfl,hq,by simp,by simp [zq,j,hq]⟩
  | false =>
   rcases idxF_is r (n+1) (λy o=>h y (by simp [o])) with ⟨e,p⟩ | ⟨A,y,B,rfl,s,p,e⟩
   ·refine .inl ⟨by simp only [zq,j,hq,ua];exact e,?_⟩
    simp_all
   ·refine .inr ⟨x::A,y,B,rfl,s,?_,?_⟩
    ·simp_all
    ·simp only [zq,j,hq,ua]
     grind
theorem vF {a:Nat} (h:a<=16777216):IntKind.wrap .i64 ((a:Int)+1)=((a+1:Nat):Int):=wrap_add1 (uB (pu h) (by decide))
noncomputable def delF (del:GC->Option Bool) (n:Nat):Int×Int×(List GC)->Option (Out (List GC) (Int×Int×(List GC))):=λs1=>((yg ((s1.2.2).length=n) ((if (decide (s1.2.1 < ((n:Nat):Int)))=true then ((yw s1.2.2 s1.2.1).bind λy14=>((del y14).bind λv15=>(if (!v15)=true then ((yw s1.2.2 s1.1).bind λy17=>some (.nxt ((IntKind.wrap .i64 (s1.1+(1:Int))),(IntKind.wrap .i64 (s1.2.1+(1:Int))),(s1.2.2.set s1.1.toNat y14)))) else some (.nxt (s1.1,(IntKind.wrap .i64 (s1.2.1+(1:Int))),s1.2.2))))) else some (.brk (s1.1,s1.2.1,s1.2.2))))))
theorem delR_eq (g:List GC) (f:GC->Option Bool):wx g f=((yK g f).bind λj=>(if (j==(-1:Int))=true then some g else (lp (ye (delF f g.length) (j,(IntKind.wrap .i64 (j+(1:Int))),g)) λ(s1:Int×Int×(List GC))=>(yg (0<=s1.1/\s1.1<=((g.length:Nat):Int)) (((slc (s1.2.2.take s1.1.toNat++List.replicate (g.length - s1.1.toNat) zLf) (0:Int) s1.1).bind λh=>some h)))))):=rfl
theorem delF_run {q:GC->Bool} (z:L0.length<=16777216) (h:∀x ∈ L0,del x=some (q x)) {a0 b0:Nat} (C:a0 < b0) (B:b0<=L0.length) (F:L0.take a0=(L0.take b0).filter λx=>!q x) :
  ∃o,ye (delF del L0.length) ((a0:Int),(b0:Int),L0)=some (.inr o)/\∃a:Nat,o.1=(a:Int)/\a < L0.length/\o.2.2.length=L0.length/\o.2.2.take a=L0.filter λx=>!q x:=by
 refine qN (f:=delF del L0.length) (λs=>∃a b:Nat,s.1=(a:Int)/\s.2.1=(b:Int)/\a < b/\b<=L0.length/\s.2.2.length=L0.length/\s.2.2.take a=(L0.take b).filter (λx=>!q x)/\s.2.2.drop b=L0.drop b)
  _ (λs=>L0.length - s.2.1.toNat) ?_ _ _ rfl ⟨a0,b0,rfl,rfl,C,B,rfl,F,rfl⟩
 rintro ⟨i,j,M⟩ ⟨a,b,w,A,H,y,u,v,p⟩
 simp only at w A u v p;subst w A;simp only [delF,yg,u,up];by_cases hb:b < L0.length
 ·right;have E:M[b]?=L0[b]?:=by
   have:=congrArg (λl=>l[0]?) p
   grind
  have D:L0[b]?=some L0[b]:=ui hb;have hd:=h L0[b] (sn hb);have m:yw M (b:Int)=some L0[b]:=by simp [yw,E]
  have g:yw M (a:Int)=some (M[a]'(by omega)):=by simp [yw]
  rw [ur (by simp;omega),m,ua,hd,ua];have t:L0.take (b+1)=L0.take b++[L0[b]]:=by simp_all
  cases hq:q L0[b] with
  | true =>
   refine ⟨((a:Int),((b+1:Nat):Int),M),by simp [vF (uB y z)],⟨a,b+1,rfl,rfl,by omega,by omega,u,?_,?_⟩,by simp;omega⟩
   ·grind
   ·have:=congrArg (λl=>l.drop 1) p;simpa [tm] using this
  | false =>
   refine ⟨(((a+1:Nat):Int),((b+1:Nat):Int),M.set a L0[b]),by simp [g,vF (uB y z),vF (show a<=16777216 by omega)],⟨a+1,b+1,rfl,rfl,by omega,by omega,by simp_all,?_,?_⟩,by simp;omega⟩
   ·rw [t8,rm (ug _),v,t,th,uE (by omega)];simp [hq]
   ·have:=congrArg (λl=>l.drop 1) p;rw [rn (by omega)];simpa [tm] using this
 ·left;have G:b=L0.length:=by omega
  rw [uu (by simp;omega)]
  grind
theorem deleteR_is {q:GC->Bool} (s:L0.length<=16777216) (h:∀x ∈ L0,del x=some (q x)):wx L0 del=some (L0.filter λx=>!q x):=by
 rw [delR_eq];unfold yK;rcases idxF_is L0 0 h with ⟨e,j⟩ | ⟨A,x,B,p,o,j,e⟩
 ·rw [e];simp only [lp,ua,uX,up];rw [tx.2 (λx z=>by simp_all)]
 ·rw [e];have g:L0.length=A.length+1+B.length:=by grind
  simp only [lp,ua,uT];rw [uu (by simp_all),vF (by omega)];obtain ⟨f,t,a,m,C,u,v⟩:=delF_run s h (a0:=A.length) (b0:=A.length+1) (by omega) (by omega) (by
   rw [p,rV,tM,uG (by omega),show A.length+1 - A.length=1 by omega,th];simp only [sC,pI,tS,o,List.filter_nil];rw [tx.2 (λy w=>by simp_all)];simp)
  rw [t];simp only [yg];rw [ur (by omega),m];have hs:slc (f.2.2.take ((a:Int)).toNat++List.replicate (L0.length - ((a:Int)).toNat) zLf) (0:Int) (a:Int)=some (f.2.2.take a):=by
   unfold slc
   grind
  simp_all

theorem less_tot:∀(a b:List UInt8),a=b \/ Op.bytesLess a b=true \/ Op.bytesLess b a=true
 | [],[]=>.inl rfl
 | [],_::_=>.inr (.inl rfl)
 | _::_,[]=>.inr (.inr rfl)
 | x::a,y::b=>by
  by_cases h:x=y
  ·subst h;rcases less_tot a b with rfl | h | h
   ·simp_all
   ·exact .inr (.inl (by simp [Op.bytesLess,h]))
   ·exact .inr (.inr (by simp [Op.bytesLess,h]))
  ·have f:x.toNat ≠ y.toNat:=λe=>h (UInt8.toNat_inj.1 e);rcases Nat.lt_or_gt_of_ne f with h | h
   ·exact .inr (.inl (by simp [Op.bytesLess,rM,h]))
   ·exact .inr (.inr (by simp [Op.bytesLess,rM,h]))
def pltB:List zx->List zx->Bool
 | _,[]=>false
 | [],_::_=>true
 | x::a,y::b=>Op.bytesLess x y || (decide (x=y)&&pltB a b)
theorem plt_irr:∀a,pltB a a=false
 | []=>rfl
 | x::a=>by simp [pltB,less_irr,plt_irr a]
theorem plt_trans:∀{a b c:List zx},pltB a b=true->pltB b c=true->pltB a c=true
 | _,[],_,h,_=>by cases ‹List zx› <;> simp [pltB] at h
 | _,_::_,[],_,h=>by simp [pltB] at h
 | [],_::_,_::_,_,_=>rfl
 | x::a,y::b,z::c,g,f=>by
  simp only [pltB,tH,ud,ul] at *;rcases g with g | ⟨rfl,g⟩
  ·rcases f with f | ⟨rfl,f⟩
   ·exact .inl (less_trans g f)
   ·simp_all
  ·rcases f with f | ⟨rfl,f⟩
   ·simp_all
   ·exact .inr ⟨rfl,plt_trans g f⟩
theorem plt_path:∀{a b:List zx},pltB a b=true->pathLt a b
 | _,[],h=>by cases ‹List zx› <;> simp [pltB] at h
 | [],y::b,_=>.inl ⟨y,b,rfl⟩
 | x::a,y::b,h=>by
  simp only [pltB,tH,ud,ul] at h;rcases h with h | ⟨rfl,h⟩
  ·exact .inr ⟨[],x,y,a,b,rfl,rfl,h⟩
  ·rcases plt_path h with ⟨z,q,rfl⟩ | ⟨p,u,v,a',f,rfl,rfl,g⟩
   ·exact .inl ⟨z,q,rfl⟩
   ·exact .inr ⟨x::p,u,v,a',f,rfl,rfl,g⟩
theorem path_plt {a b:List zx} (h:pathLt a b):pltB a b=true:=by
 rcases h with ⟨y,q,rfl⟩ | ⟨p,x,y,a',f,rfl,rfl,h⟩
 ·induction a with
  | nil=>rfl
  | cons x a ih=>simp [pltB,ih]
 ·induction p with
  | nil=>simp [pltB,h]
  | cons x a ih=>simp [pltB,ih]
def Key:=List zx×Int
def kltB (a b:Key):Bool:=pltB a.1 b.1 || (decide (a.1=b.1)&&decide (a.2 < b.2))
theorem klt_irr (a:Key):kltB a a=false:=by simp [kltB,plt_irr]
theorem klt_trans {a b c:Key} (g:kltB a b=true) (f:kltB b c=true):kltB a c=true:=by
 simp only [kltB,tH,ud,ul] at *;rcases g with g | ⟨h,g⟩
 ·rcases f with f | ⟨j,f⟩
  ·exact .inl (plt_trans g f)
  ·simp_all
 ·grind
def ekey (e:GO):Key:=(e.path,e.typ)
def ql (r:GE):Key:=(r.path,r.leaf.typ)
theorem sortO_lt {α:Type} {c:α->α->Option Int} {cf:α->α->Int} {lt:α->α->Prop} {L R:List α} (F:∀x ∈ L,∀y ∈ L,c x y=some (cf x y)) (w:∀x y,cf x y < 0 ↔ lt x y) (o:∀x,¬ lt x x) (u:∀x y z,lt x y->lt y z->lt x z)
  (B:∀x ∈ L,∀y ∈ L,x=y \/ lt x y \/ lt y x) (t:R.Perm L) (hs:R.Pairwise lt) (C:L.length<=yM):sortO c L=some R:=by
 unfold sortO;rw [ur (λx f y g=>by simp_all)];have hd:∀x ∈ L,∀y ∈ L,(c x y).getD 0 < 0 ↔ lt x y:=λx f y g=>by simp_all
 have p:∀x y,lt x y->¬ lt y x:=λx y m j=>o x (u _ _ _ m j);have v:R.Pairwise λa b=>¬ (c b a).getD 0 < 0:=by
  have:R.Pairwise λa b=>a ∈ L/\b ∈ L/\lt a b:=by
   refine pp ?_ hs
   grind
  refine this.imp ?_
  simp_all
 refine sortF_of ⟨λx f h=>o x ((hd x f x f).1 h),λx y z f g s m j=>(hd x f z s).2 (u _ _ _ ((hd x f y g).1 m) ((hd y g z s).1 j)),λx y z f g s m j E=>?_⟩ C ⟨t,v⟩ ?_
 ·grind
 ·rintro M ⟨D,A⟩
  refine sorted_one (D.trans t.symm) A v λx y f g m j=>?_
  grind
theorem cmp_pos:∀{a b:List UInt8},Op.bytesLess b a=true->0 < Lib.compareBytes a b
 | [],b,h=>by cases b <;> simp [Op.bytesLess] at h
 | _::_,[],_=>by simp [Lib.compareBytes]
 | x::a,y::b,h=>by
  simp only [Op.bytesLess,tH,ud,ul,rb] at h;rcases h with h | ⟨rfl,h⟩
  ·have g:y.toNat < x.toNat:=rM.1 h;have f:¬ x < y:=λe=>by grind
   simp [Lib.compareBytes,h,f]
  ·have:=cmp_pos h;simp [Lib.compareBytes,this]
def NLt (s:zx) (A:List GA):Prop:=∀y ∈ A,Op.bytesLess y.name s=true
def NGt (s:zx) (B:List GA):Prop:=∀y ∈ B,Op.bytesLess s y.name=true
theorem split_up {t:List GA} (s:zx) (h:upB t=true):(∃A B,t=A++B/\NLt s A/\NGt s B) \/ ∃A x B,t=A++x::B/\x.name=s/\NLt s A/\NGt s B:=by
 rw [qW] at h
 induction t with
 | nil=>exact .inl ⟨[],[],rfl,λ_ h=>by simp at h,λ_ h=>by simp at h⟩
 | cons x t ih =>
  obtain ⟨o,m⟩:=uC.1 h;rcases less_tot x.name s with e | e | e
  ·exact .inr ⟨[],x,t,rfl,e,λ_ h=>by simp at h,λy f=>by simp_all⟩
  ·rcases ih m with ⟨A,B,rfl,j,g⟩ | ⟨A,z,B,rfl,p,j,g⟩
   ·refine .inl ⟨x::A,B,rfl,λy f=>?_,g⟩;rcases uP.1 f with rfl | f
    ·exact e
    ·exact j y f
   ·refine .inr ⟨x::A,z,B,rfl,p,λy f=>?_,g⟩
    grind
  ·refine .inl ⟨[],x::t,rfl,λ_ h=>by simp at h,λy f=>?_⟩;rcases uP.1 f with rfl | f
   ·exact e
   ·exact less_trans e (o y f)
theorem bs_none {A B:List GA} {s:zx} (t:(A++B).length<=16777216) (j:NLt s A) (g:NGt s B):zp (A++B) s (λh p=>xQ h p)=some ((A.length:Int),false):=by
 rw [bs_is (c:=A.length) t (by simp) λi m hi=>⟨_,layC1_is m s,λf=>by
   rw [um f] at hi;exact cmp_less.2 (j m (uQ hi)),λf=>by
   rw [uk f] at hi;exact pP (cmp_pos (g m (uQ hi)))⟩]
 cases B with
 | nil=>simp
 | cons y B =>
  have e:(A++y::B).getD A.length default=y:=by simp
  have:=cmp_pos (g y (by simp));rw [ur (by simp),e,layC1_is];have o:(Lib.compareBytes y.name s==0)=false:=by simp;omega
  simp [o]
theorem bs_some {A B:List GA} {x:GA} {s:zx} (t:(A++x::B).length<=16777216) (hs:x.name=s) (j:NLt s A) (p:NGt s B):zp (A++x::B) s (λg o=>xQ g o)=some ((A.length:Int),true):=by
 subst hs;rw [bs_is (c:=A.length) t (by simp) λi m hi=>⟨_,layC1_is m x.name,λf=>by
   rw [um f] at hi;exact cmp_less.2 (j m (uQ hi)),λf=>by
   rw [uk f] at hi;rcases uP.1 (uQ hi) with rfl | h
   ·rw [cmp_self];exact uF _
   ·exact pP (cmp_pos (p m h))⟩]
 have e:(A++x::B).getD A.length default=x:=by simp
 rw [ur (by simp),e,layC1_is,cmp_self];simp
noncomputable def layIn (n:Nat) (path1:List zx) (kind2:Int) (l3:GC) (there4:Bool) (s1:zx×(List GC)×(List GA)):Option (List GA ⊕ ((List GC)×(List GA))):=((if (decide (((path1).length:Int) > (1:Int)))=true then ((slc path1 (1:Int) ((path1).length:Int)).bind λm20=>((x9 n s1.2.2 m20 kind2 l3 there4).bind λv21=>some (.inr (s1.2.1,v21)))) else ((xJ s1.2.1).bind λv22=>((wx v22 (λx0=>diffXlayC2 x0 kind2)).bind λv23=>(if there4=true then ((diffXown l3).bind λv25=>(yg ((v23).length+(([v25]:List GC)).length<=yM) (((sortO (λx y=>diffXlayC3 x y) (v23++([v25]:List GC))).bind λv27=>some (.inr (v27,s1.2.2)))))) else some (.inr (v23,s1.2.2)))))):Option (_ ⊕ ((List GC)×(List GA))))
noncomputable def layRest (t0:List GA) (i:Int) (f:Bool) (nm:zx) (s2:(List GC)×(List GA)):Option (List GA):=((slc t0 (0:Int) i).bind λm28=>((xi m28).bind λv29=>(if (decide ((IntKind.wrap .i64 (((s2.1).length:Int)+((s2.2).length:Int))) > (0:Int)))=true then (yg ((v29).length+(([(GA.mk nm s2.1 s2.2)]:List GA)).length<=yM) ((if f=true then ((slc t0 (IntKind.wrap .i64 (i+(1:Int))) ((t0).length:Int)).bind λm35=>(yg (((v29++([(GA.mk nm s2.1 s2.2)]:List GA))).length+(m35).length<=yM) (some ((v29++([(GA.mk nm s2.1 s2.2)]:List GA))++m35)))) else ((slc t0 i ((t0).length:Int)).bind λm37=>(yg (((v29++([(GA.mk nm s2.1 s2.2)]:List GA))).length+(m37).length<=yM) (some ((v29++([(GA.mk nm s2.1 s2.2)]:List GA))++m37))))))) else (if f=true then ((slc t0 (IntKind.wrap .i64 (i+(1:Int))) ((t0).length:Int)).bind λm40=>(yg ((v29).length+(m40).length<=yM) (some (v29++m40)))) else ((slc t0 i ((t0).length:Int)).bind λm42=>(yg ((v29).length+(m42).length<=yM) (some (v29++m42))))))))
theorem layN_eq (n:Nat) (t0:List GA) (f:List zx) (h:Int) (o:GC) (g:Bool):x9 (n+1) t0 f h o g=((yw f (0:Int)).bind λu=>((zp t0 u (λp t=>xQ p t)).bind λj=>((yw f (0:Int)).bind λs=>(lp ((if j.2=true then ((yw t0 j.1).bind λm=>some (.inr (m.name,m.leaves,m.subs))) else some (.inr (s,([]:List GC),([]:List GA)))):Option (_ ⊕ (zx×(List GC)×(List GA)))) λ(s1:zx×(List GC)×(List GA))=>(lp (layIn n f h o g s1) λ(s2:(List GC)×(List GA))=>layRest t0 j.1 j.2 s1.1 s2))))):=rfl
def qP (k:Int) (l:GC) (there:Bool) (ls:List GC):List GC:=if there=true then ls.filter (λx=>decide (x.typ < k))++[l]++ls.filter (λx=>decide (k < x.typ)) else ls.filter (λx=>!decide (x.typ=k))
theorem ups_inj (h:ls.Pairwise λx y=>x.typ < y.typ) {x y:GC} (f:x ∈ ls) (g:y ∈ ls) (e:x.typ=y.typ):x=y:=by
 induction ls with
 | nil=>simp at f
 | cons z r ih =>
  obtain ⟨m,j⟩:=uC.1 h
  grind
theorem layLs_up (f:there=true->l.typ=k) (h:ls.Pairwise λx y=>x.typ < y.typ):(qP k l there ls).Pairwise λx y=>x.typ < y.typ:=by
 unfold qP;split
 ·rename_i j;have f:=f j;rw [tC,tC];refine ⟨⟨h.filter _,by simp,λx m y g=>?_⟩,h.filter _,λx m y g=>?_⟩
  ·simp_all
  ·grind
 ·grind
theorem sortLs_is (j:l.typ=k) (p:ls.length<=16777216) (h:ls.Pairwise λx y=>x.typ < y.typ):sortO (λx y=>diffXlayC3 x y) (ls.filter (λx=>!decide (x.typ=k))++[l])=some (qP k l true ls):=by
 have o:=s7 (λx:GC=>!decide (x.typ=k)) ls;refine sortO_lt (α:=GC) (cf:=λx y=>cmpI x.typ y.typ) (lt:=λx y=>x.typ < y.typ) (λx _ y _=>by unfold diffXlayC3;rw [cmpU8is];rfl) (λx y=>by unfold cmpI;split <;> (try split) <;> omega) (λx h=>by omega) (λx y z m s=>by omega) ?_ ?_ (layLs_up (λ_=>j) h) (xd (by simp;omega))
 ·intro x g y f;rcases Int.lt_trichotomy x.typ y.typ with e | e | e
  ·omega
  ·left;rcases uL.1 g with g | g <;> rcases uL.1 f with f | f
   ·exact ups_inj h (tL.1 g).1 (tL.1 f).1 e
   ·simp_all
   ·simp_all
   ·simp_all
  ·omega
 ·unfold qP;rw [ur rfl];have m:(ls.filter (λx=>decide (x.typ < k))++ls.filter (λx=>decide (k < x.typ))).Perm (ls.filter λx=>!decide (x.typ=k)):=by
   have:=rE (λx:GC=>decide (x.typ < k)) (ls.filter λx=>!decide (x.typ=k));rw [rz,rz] at this;refine List.Perm.trans (.of_eq ?_) this;congr 1 <;> refine rJ λx _=>?_ <;> rw [tw] <;> simp <;> omega
  grind
theorem layIn_leaf {s:zx} {j:zx} {sb:List GA} (g:there=true->l.typ=k/\LeafOk l) (f:ls.length<=16777216) (h:ls.Pairwise λx y=>x.typ < y.typ) :
  layIn n [s] k l there (j,ls,sb)=some (.inr (qP k l there ls,sb)):=by
 unfold layIn;have m:decide (((([s]:List zx).length:Int)) > 1)=false:=rfl;have t:=s7 (λx:GC=>!decide (x.typ=k)) ls;simp only [m,uh,uz];rw [cloneLeaf_is (xd (by omega)),ua,deleteR_is (q:=λx=>decide (x.typ=k)) f (λx _=>by rfl),ua];cases there with
 | false=>simp [qP]
 | true =>
  obtain ⟨p,o⟩:=g rfl;simp only [up];rw [own_is o,ua,zk (xd (by simp;omega)),sortLs_is p f h,ua]
theorem layIn_sub {s a:zx} {r:List zx} {g:zx} {sb f:List GA} (m:(s::a::r).length<=16777216) (h:x9 n sb (a::r) k l there=some f):layIn n (s::a::r) k l there (g,ls,sb)=some (.inr (ls,f)):=by
 unfold layIn;have j:decide ((((s::a::r).length:Int)) > 1)=true:=uA (by grind);simp only [j,up];rw [vI ⟨by omega,by grind,uF _⟩,ua];have o:((s::a::r).take (((s::a::r).length:Int)).toNat).drop (1:Int).toNat=a::r:=by rw [uw,sW];rfl
 simp_all
def fitN (nm:zx) (ls:List GC) (sb:List GA):List GA:=if ls.length+sb.length=0 then [] else [⟨nm,ls,sb⟩]
theorem layRest_is {A B:List GA} {m:List GA} {o:zx} {sb:List GA} {f:Bool} (j:m.length=if f=true then 1 else 0) (t:(A++m++B).length<=16777216) (w:ls.length<=16777216) (v:sb.length<=16777217) :
  layRest (A++m++B) (A.length:Int) f o (ls,sb)=some (A++fitN o ls sb++B):=by
 simp only [uo] at t;unfold layRest;rw [vI ⟨uF _,by omega,by simp;omega⟩,ua];have s:((A++m++B).take ((A.length:Int)).toNat).drop (0:Int).toNat=A:=by simp
 rw [s,cloneNode_is (xd (by omega)),ua];have u:∀(c:List GA),c.length<=A.length+1->((if f=true then ((slc (A++m++B) (IntKind.wrap .i64 ((A.length:Int)+(1:Int))) ((A++m++B).length:Int)).bind λh=>(yg (c.length+(h).length<=yM) (some (c++h)))) else ((slc (A++m++B) (A.length:Int) ((A++m++B).length:Int)).bind λg=>(yg (c.length+(g).length<=yM) (some (c++g))))):Option (List GA))=some (c++B):=by
  intro c y;cases f with
  | true =>
   simp only [up] at j ⊢;rw [yY (by omega),vI ⟨by omega,by simp;omega,uF _⟩,ua];have e:((A++m++B).take (((A++m++B).length:Int)).toNat).drop ((A.length:Int)+1).toNat=B:=by
    rw [uw,sW,show ((A.length:Int)+1).toNat=(A++m).length by simp;omega,sS]
   rw [e,zk (xd (by omega))]
  | false =>
   simp only [uh,uz] at j ⊢;obtain rfl:=uR j;rw [vI ⟨by omega,by simp;omega,uF _⟩,ua];have e:((A++[]++B).take (((A++[]++B).length:Int)).toNat).drop ((A.length:Int)).toNat=B:=by
    grind
   rw [e,zk (xd (by omega))]
 unfold fitN;have p:IntKind.wrap .i64 ((ls.length:Int)+(sb.length:Int))=(ls.length:Int)+(sb.length:Int):=yY (by omega);simp only [p];by_cases h0:ls.length+sb.length=0
 ·simp_all
 ·rw [uu h0,ur (by simp;omega),zk (xd (by simp;omega))]
  grind

theorem leaves_of (h:ls.Pairwise λx y=>x.typ < y.typ) (j:∀l ∈ ls,leafB l=true):leavesB ls=true:=by
 unfold leavesB;rw [allI_iff];intro i x f;have g:=j x (uQ f);simp only [g,uS];rcases i with _ | i
 ·rfl
 ·obtain ⟨hi,rfl⟩:=uc.1 f;have:=tj.1 h i (i+1) (by omega) hi (by omega)
  grind
theorem qI (a:List zx) (A B:List GA):zu a (A++B)=zu a A++zu a B:=by rw [yu,yu,yu,List.flatMap_append]
theorem rowsN_mem {a:List zx} {x:GA}:r ∈ ve a x ↔ (∃l ∈ x.leaves,r=⟨a++[x.name],l⟩) \/ r ∈ zu (a++[x.name]) x.subs:=by
 rw [xz,uL,sd]
 grind
theorem q9 {a:List zx} {x:GA}:zu a [x]=ve a x:=by simp [zu]
theorem fit_mem {a:List zx} {f:zx} {sb:List GA}:r ∈ zu a (fitN f ls sb) ↔ (∃l ∈ ls,r=⟨a++[f],l⟩) \/ r ∈ zu (a++[f]) sb:=by
 unfold fitN;split
 ·rename_i h;have j:ls=[]:=uR (by omega);have g:sb=[]:=uR (by omega);subst j g;simp [zu]
 ·rw [q9,rowsN_mem]
theorem len_rows (t:List GA) (a b:List zx):(zu a t).length=(zu b t).length:=by
 have g:=rows_pre t a [];have f:=rows_pre t b []
 simp_all
theorem vt:∀(t:List GA) (d:Nat),nodesB d t=true->t.length<=(zu [] t).length:=by
 refine vp (λ_ _=>tu _) ?_;intro x r o m d g;simp only [nodesB,ud] at g;have p:=m d g.2;have f:=g.1;rw [nodeB_eq] at f;simp only [ud,treeB,tT,sJ] at f;have j:=o (d+1) f.1.2.2;rw [show x::r=[x]++r from rfl,qI,q9,xz];simp only [uo,uq,un,uN];rw [len_rows x.subs ([]++[x.name]) []];rcases f.1.1.2 with h | h
 ·cases hl:x.leaves with
  | nil=>rw [hl] at h;cases h
  | cons l ls=>simp only [un];omega
 ·cases hl:x.subs with
  | nil=>rw [hl] at h;cases h
  | cons l ls=>rw [hl] at j;simp only [un] at j;omega
theorem mem_rows_len {t:List GA} {x:GA} (f:x ∈ t):x.leaves.length+(zu [] x.subs).length<=(zu [] t).length:=by
 obtain ⟨A,B,rfl⟩:=pc f;rw [qI,show x::B=[x]++B from rfl,qI,q9,xz];simp only [uo,uq];rw [len_rows x.subs ([]++[x.name]) []];omega
theorem zN {t:List GA} (h:treeB d t=true):upB t=true/\∀x ∈ t,nodeB d x=true:=by
 simp only [treeB,ud,xu,ut] at h
 simp_all
theorem treeB_of {t:List GA} (hd:d < 3) (g:upB t=true) (f:∀x ∈ t,nodeB d x=true):treeB d t=true:=by
 simp only [treeB,ud,xu,ut,g,hd,sG,pA,true_and];exact f
theorem wI {x:GA} (h:nodeB d x=true):nameB x.name=true/\treeB (d+1) x.subs=true/\leavesB x.leaves=true:=by
 rw [nodeB_eq] at h
 simp_all
theorem find_node {t:List GA} (s:zx) (h:treeB d t=true) (z:(zu [] t).length<=16777215):∃A m B f ls sb,t=A++m++B/\NLt s A/\NGt s B/\m.length=(if f=true then 1 else 0)/\zp t s (λv C=>xQ v C)=some ((A.length:Int),f) /\
  ((if f=true then ((yw t (A.length:Int)).bind λo=>some (.inr (o.name,o.leaves,o.subs))) else some (.inr (s,([]:List GC),([]:List GA)))):Option (List GA ⊕ (zx×(List GC)×(List GA))))=some (.inr (s,ls,sb))/\treeB (d+1) sb=true/\leavesB ls=true /\
  ls.length+(zu [] sb).length<=(zu [] t).length/\∀a r,r ∈ zu a m ↔ (∃l ∈ ls,r=⟨a++[s],l⟩) \/ r ∈ zu (a++[s]) sb:=by
 obtain ⟨y,u⟩:=zN h;have D:t.length<=16777215:=uB (vt t d (by rw [xu];exact ut.2 u)) z;rcases split_up s y with ⟨A,B,rfl,j,g⟩ | ⟨A,x,B,rfl,p,j,g⟩
 ·refine ⟨A,[],B,false,[],[],by simp,j,g,rfl,bs_none (by omega) j g,rfl,tree_nil _,rfl,by simp [zu],λa r=>by simp [zu]⟩
 ·obtain ⟨E,n2,w⟩:=wI (u x (by simp));refine ⟨A,[x],B,true,x.leaves,x.subs,by simp,j,g,rfl,bs_some (by omega) p j g,?_,n2,w,mem_rows_len (by simp),λa r=>?_⟩
  ·rw [ur rfl,zB (x:=x) (by simp),ua,p]
  ·rw [q9,rowsN_mem,p]
theorem rows_off {s:zx} {A:List GA} (h:∀y ∈ A,y.name ≠ s) {a q:List zx} {r:GE} (f:r ∈ zu a A):r.path ≠ a++s::q:=by
 obtain ⟨x,g,w,e⟩:=rows_head f
 simp_all
theorem NLt.ne {s:zx} {A:List GA} (h:NLt s A):∀y ∈ A,y.name ≠ s:=λy f=>less_ne (h y f)
theorem NGt.ne {s:zx} {A:List GA} (h:NGt s A):∀y ∈ A,y.name ≠ s:=λy f=>(less_ne (h y f)).symm
theorem lay_fin {A m B:List GA} {s:zx} {sb:List GA} (hd:d < 3) (h:treeB d (A++m++B)=true) (p:NLt s A) (o:NGt s B) (hs:nameB s=true) (w:leavesB ls=true) (v:treeB (d+1) sb=true):treeB d (A++fitN s ls sb++B)=true:=by
 obtain ⟨u,n⟩:=zN h;rw [qW,tC,tC] at u;have t:∀x ∈ A,∀y ∈ B,Op.bytesLess x.name y.name=true:=λx f y g=>less_trans (p x f) (o y g);have j:∀x ∈ fitN s ls sb,x=⟨s,ls,sb⟩/\¬ ls.length+sb.length=0:=λx f=>by
  unfold fitN at f
  simp_all
 refine treeB_of hd ?_ ?_
 ·rw [qW,tC,tC];refine ⟨⟨u.1.1,?_,λx f y g=>by rw [(j y g).1];exact p x f⟩,u.2.1,λx f y g=>?_⟩
  ·unfold fitN;split <;> simp
  ·rcases uL.1 f with f | f
   ·simp_all
   ·rw [(j x f).1];exact o y g
 ·intro x f;rcases uL.1 f with f | f
  ·rcases uL.1 f with f | f
   ·simp_all
   ·obtain ⟨rfl,h0⟩:=j x f;rw [nodeB_eq]
    grind
  ·simp_all
theorem fit_len (s:zx) (ls:List GC) (sb:List GA):(fitN s ls sb).length<=1:=by unfold fitN;split <;> simp
theorem layLs_mem {x:GC}:x ∈ qP k l there ls ↔ (x ∈ ls/\x.typ ≠ k) \/ (there=true/\x=l):=by
 unfold qP
 grind
theorem lay_is {k:Int} {l:GC} {there:Bool} (F:there=true->l.typ=k/\leafB l=true/\LeafOk l):∀(p:List zx) (t:List GA) (d n:Nat),p ≠ []->p.all nameB=true->d+p.length<=3->treeB d t=true->(zu [] t).length<=16777215->p.length < n ->
  ∃t',x9 n t p k l there=some t'/\treeB d t'=true/\t'.length<=t.length+1/\∀a r,r ∈ zu a t' ↔ (r ∈ zu a t/\ql r ≠ (a++p,k)) \/ (there=true/\r=⟨a++p,l⟩)
 | [],_,_,_,h,_,_,_,_,_=>absurd rfl h
 | _::_,_,_,0,_,_,_,_,_,h=>by omega
 | s::q,t,d,n+1,_,hp,hd,ht,hw,hn=>by
  simp only [u7,ud,un] at hp hd hn;obtain ⟨A,m,B,f,ls,sb,rfl,G,E,M,I,J,u,C,K,v⟩:=find_node s ht hw;have H:yw (s::q) (0:Int)=some s:=rfl;obtain ⟨y,Z⟩:=leaves_up C;have T:(A++m++B).length<=16777215:=uB (vt _ d (by rw [xu];exact ut.2 (zN ht).2)) hw;have R:=λo g=>fit_len s o g;have j:∀o g,(A++fitN s o g++B).length<=(A++m++B).length+1:=λo g=>by
   grind
  rw [layN_eq,H,ua,I,ua,ua];simp only [];rw [J,yJ];cases q with
  | nil =>
   rw [layIn_leaf (λh=>⟨(F h).1,(F h).2.2⟩) (by omega) y,yJ,layRest_is M (by omega) (by
    have:(qP k l there ls).length<=ls.length+1:=by
     unfold qP;split
     ·have w:=rE (λx:GC=>decide (x.typ < k)) ls;have D:=w.length_eq;have h3:(ls.filter λx=>decide (k < x.typ)).length<=(ls.filter λx=>!decide (x.typ < k)).length:=by
       have:(ls.filter λx=>decide (k < x.typ))=(ls.filter λx=>!decide (x.typ < k)).filter (λx=>decide (k < x.typ)):=by
        rw [rz];refine rJ λx _=>?_;rw [tw];simp;omega
       grind
      grind
     ·grind
    omega) (by have:=vt sb (d+1) (by rw [xu];exact ut.2 (zN u).2);omega)]
   refine ⟨_,rfl,lay_fin (by omega) ht G E hp.1 (leaves_of (layLs_up (λh=>(F h).1) y) λx z=>?_) u,j _ _,λa r=>?_⟩
   ·rcases layLs_mem.1 z with h | ⟨h,rfl⟩
    ·simp_all
    ·simp_all
   ·simp only [qI,uL,fit_mem,v];have N:r ∈ zu a A->ql r ≠ (a++[s],k):=λh e=>rows_off G.ne h (congrArg Prod.fst e);have Y:r ∈ zu a B->ql r ≠ (a++[s],k):=λh e=>rows_off E.ne h (congrArg Prod.fst e);have Q:r ∈ zu (a++[s]) sb->ql r ≠ (a++[s],k):=λh e=>by
     have:=(rows_path sb _ r h).1;rw [show r.path=a++[s] from congrArg Prod.fst e] at this;omega
    constructor
    ·rintro ((h | ⟨x,z,rfl⟩ | h) | h)
     ·grind
     ·rcases layLs_mem.1 z with ⟨w,D⟩ | ⟨w,rfl⟩
      ·exact .inl ⟨.inl (.inr (.inl ⟨x,w,rfl⟩)),λe=>D (congrArg Prod.snd e)⟩
      ·simp_all
     ·grind
     ·grind
    ·rintro (⟨(h | ⟨x,z,rfl⟩ | h) | h,D⟩ | ⟨w,rfl⟩)
     ·simp_all
     ·exact .inl (.inr (.inl ⟨x,layLs_mem.2 (.inl ⟨z,λe=>D (by rw [<- e];rfl)⟩),rfl⟩))
     ·simp_all
     ·simp_all
     ·exact .inl (.inr (.inl ⟨l,layLs_mem.2 (.inr ⟨w,rfl⟩),rfl⟩))
  | cons c q =>
   obtain ⟨g,U,P,e3,V⟩:=lay_is F (c::q) sb (d+1) n (by simp) hp.2 (by omega) u (by omega) (by omega);have O:=vt sb (d+1) (by rw [xu];exact ut.2 (zN u).2);rw [layIn_sub (by grind) U,yJ,layRest_is M (by omega) (by omega) (by omega)];refine ⟨_,rfl,lay_fin (by omega) ht G E hp.1 C P,j _ _,λa r=>?_⟩;simp only [qI,uL,fit_mem,v,V];have W:a++[s]++c::q=a++s::c::q:=by simp
   rw [W];have N:r ∈ zu a A->ql r ≠ (a++s::c::q,k):=λh e=>rows_off G.ne h (congrArg Prod.fst e);have Y:r ∈ zu a B->ql r ≠ (a++s::c::q,k):=λh e=>rows_off E.ne h (congrArg Prod.fst e);have Q:∀x,r=⟨a++[s],x⟩->ql r ≠ (a++s::c::q,k):=λx h e=>by
    rw [h] at e;have:=congrArg List.length (congrArg Prod.fst e);simp [ql] at this
   grind

theorem rowLt_iff {q:GE}:rowLt r q ↔ kltB (ql r) (ql q)=true:=by
 unfold rowLt kltB ql;simp only [tH,ud,ul];constructor
 ·rintro (h | h)
  ·exact .inl (path_plt h)
  ·simp_all
 ·rintro (h | h)
  ·exact .inl (plt_path h)
  ·simp_all
theorem sorted_ext {α:Type} {lt:α->α->Prop} (f:∀x,¬ lt x x) (g:∀x y z,lt x y->lt y z->lt x z):∀{L M:List α},L.Pairwise lt->M.Pairwise lt->(∀x,x ∈ L ↔ x ∈ M)->L=M
 | [],[],_,_,_=>rfl
 | [],y::M,_,_,h=>by have:=(h y).2 (by simp);simp at this
 | x::L,[],_,_,h=>by have:=(h x).1 (by simp);simp at this
 | x::L,y::M,h1,h2,h=>by
  obtain ⟨p,j⟩:=uC.1 h1;obtain ⟨o,m⟩:=uC.1 h2;have e:x=y:=by
   rcases uP.1 ((h x).1 (by simp)) with e | t
   ·exact e
   ·rcases uP.1 ((h y).2 (by simp)) with e | s
    ·simp_all
    ·grind
  subst e;rw [sorted_ext f g j m λz=>?_]
  grind
theorem filter_app_left {α:Type} {P:α->Bool} {A B:List α} (g:∀x ∈ A,P x=true) (h:∀x ∈ B,P x=false):(A++B).filter P=A/\(A++B).filter (λx=>!P x)=B:=by
 rw [th,th,tx.2 g,tp.2 (λx f=>by simp_all),tp.2 (λx f=>by simp_all),tx.2 (λx f=>by simp_all)];simp
theorem app_split {α:Type} {P:α->Bool} {A B C D:List α} (h:A++B=C++D) (j:∀x ∈ A,P x=true) (f:∀x ∈ B,P x=false) (m:∀x ∈ C,P x=true) (g:∀x ∈ D,P x=false):A=C/\B=D:=by
 obtain ⟨a,b⟩:=filter_app_left j f;obtain ⟨c,d⟩:=filter_app_left m g
 simp_all
theorem rowsN_head {a:List zx} {x:GA} (h:r ∈ ve a x):∃w,r.path=a++x.name::w:=by
 rw [<- q9] at h;obtain ⟨y,f,w,e⟩:=rows_head h
 simp_all
theorem rowsN_ne {x:GA} (h:nodeB d x=true) (a:List zx):∃r L,ve a x=r::L:=by
 have f:=vt [x] d (by simp [nodesB,h]);rw [len_rows [x] [] a,q9] at f;cases e:ve a x with
 | nil=>rw [e] at f;simp at f
 | cons r L=>exact ⟨r,L,rfl⟩
def hasN (n:Nat) (s:zx) (r:GE):Bool:=decide ((r.path.drop n).head?=some s)
theorem hasN_is (a w:List zx) (s f:zx) {r:GE} (h:r.path=a++f::w):hasN a.length s r=decide (f=s):=by
 unfold hasN;rw [h,sS];simp
theorem rows_inj:∀(t:List GA) (d:Nat) (a:List zx) (t':List GA),treeB d t=true->treeB d t'=true->zu a t=zu a t'->t=t':=by
 have key:∀(t:List GA) (d:Nat) (a:List zx) (t':List GA),(∀x ∈ t,nodeB d x=true)->upB t=true->(∀x ∈ t',nodeB d x=true)->upB t'=true->zu a t=zu a t'->t=t':=by
  refine vp ?_ ?_
  ·intro d a t' _ _ h _ e;cases t' with
   | nil=>rfl
   | cons y r =>
    obtain ⟨q,L,m⟩:=rowsN_ne (h y (by simp)) a;rw [zu,zu,m] at e;simp at e
  ·intro x r N M d a t' o B n2 u e;cases t' with
   | nil =>
    obtain ⟨q,L,m⟩:=rowsN_ne (o x (by simp)) a;rw [zu,zu,m] at e;simp at e
   | cons y s =>
    rw [qW,uC] at B u;have e:ve a x++zu a r=ve a y++zu a s:=e;have j:x.name=y.name:=by
     obtain ⟨q,L,m⟩:=rowsN_ne (o x (by simp)) a;obtain ⟨Q,L',E⟩:=rowsN_ne (n2 y (by simp)) a;have F:=e;rw [m,E] at F;injection F with I _;subst I;obtain ⟨w,v⟩:=rowsN_head (a:=a) (x:=x) (r:=q) (by rw [m];simp);obtain ⟨w',p⟩:=rowsN_head (a:=a) (x:=y) (r:=q) (by rw [E];simp)
     simp_all
    obtain ⟨D,J⟩:=app_split (P:=hasN a.length x.name) e
     (λq f=>by obtain ⟨w,h⟩:=rowsN_head f;rw [hasN_is a w _ _ h];simp)
     (λq f=>by
      obtain ⟨z,g,w,h⟩:=rows_head f;rw [hasN_is a w _ _ h];exact uU (less_ne (B.1 z g)).symm)
     (λq f=>by obtain ⟨w,h⟩:=rowsN_head f;rw [hasN_is a w _ _ h,j];simp)
     (λq f=>by
      obtain ⟨z,g,w,h⟩:=rows_head f;rw [hasN_is a w _ _ h,j];exact uU (less_ne (u.1 z g)).symm)
    have R:=M d a s (λz g=>o z (by simp [g])) ((qW r).2 B.2) (λz g=>n2 z (by simp [g])) ((qW s).2 u.2) J;rw [xz,xz,<- j] at D;obtain ⟨K,A⟩:=app_split (P:=λq=>decide (q.path.length=a.length+1)) D
     (λq f=>by grind)
     (λq f=>by have:=(rows_path _ _ q f).1;simp at this;exact uU (by omega))
     (λq f=>by grind)
     (λq f=>by have:=(rows_path _ _ q f).1;simp at this;exact uU (by omega))
    have H:x.leaves=y.leaves:=by
     have:=congrArg (List.map (·.leaf)) K;simpa [rh,sO] using this
    obtain ⟨_,C,_⟩:=wI (o x (by simp));obtain ⟨_,G,_⟩:=wI (n2 y (by simp));have O:=N (d+1) (a++[x.name]) y.subs (zN C).2 (zN C).1 (zN G).2 (zN G).1 A;cases x;cases y
    simp_all
 intro t d a t' v p e;exact key t d a t' (zN v).2 (zN v).1 (zN p).2 (zN p).1 e
theorem rows_sorted {t:List GA} (h:treeB d t=true) (a:List zx):(zu a t).Pairwise λr q=>kltB (ql r) (ql q)=true:=by
 have:=rows_lt t d a (zN h).1 (by rw [xu];exact ut.2 (zN h).2);exact this.imp λh=>rowLt_iff.1 h
theorem rows_ext {t t':List GA} (g:treeB 0 t=true) (f:treeB 0 t'=true) (h:∀r,r ∈ zu [] t ↔ r ∈ zu [] t'):t=t' :=
 rows_inj t 0 [] t' g f (sorted_ext (lt:=λr q=>kltB (ql r) (ql q)=true) (λx h=>by rw [klt_irr] at h;cases h) (λ_ _ _=>klt_trans) (rows_sorted g []) (rows_sorted f []) h)
theorem sorted_key {α:Type} {key:α->Key} {L:List α} (h:L.Pairwise λr q=>kltB (key r) (key q)=true) {x y:α} (p:x ∈ L) (s:y ∈ L) (e:key x=key y):x=y:=by
 induction L with
 | nil=>simp at p
 | cons z r ih =>
  obtain ⟨o,t⟩:=uC.1 h;rcases uP.1 p with j | f <;> rcases uP.1 s with m | g
  ·rw [j,m]
  ·have:=o y g;rw [<- j,e,klt_irr] at this;cases this
  ·have:=o x f;rw [<- m,e,klt_irr] at this;cases this
  ·simp_all

theorem first_is {α:Type} {q:α->Bool} {del:α->Option Bool}:∀(L:List α) (n:Nat),(∀x ∈ L,del x=some (q x)) ->
  (zq (λ(f:Nat) (g:α) (_:Unit)=>(((del g).bind λm=>(if m=true then some (.ret (f:Int)) else some (.nxt ()))):Option (Out Int Unit))) L n ()=some (.inr ())/\∀x ∈ L,q x=false) \/
  ∃A x B,L=A++x::B/\q x=true/\(∀y ∈ A,q y=false)/\zq (λ(f:Nat) (g:α) (_:Unit)=>(((del g).bind λm=>(if m=true then some (.ret (f:Int)) else some (.nxt ()))):Option (Out Int Unit))) L n ()=some (.inl ((n+A.length:Nat):Int))
 | [],n,_=>.inl ⟨rfl,by simp⟩
 | x::r,n,h=>by
  have j:=h x (by simp);cases hq:q x with
  | true=>exact .inr ⟨[],x,r,rfl,hq,by simp,by simp [zq,j,hq]⟩
  | false =>
   rcases first_is r (n+1) (λy o=>h y (by simp [o])) with ⟨e,p⟩ | ⟨A,y,B,rfl,s,p,e⟩
   ·refine .inl ⟨by simp only [zq,j,hq,ua];exact e,?_⟩
    simp_all
   ·refine .inr ⟨x::A,y,B,rfl,s,?_,?_⟩
    ·simp_all
    ·simp only [zq,j,hq,ua]
     grind
def node0:GA:=GA.mk ([]:zx) ([]:List GC) ([]:List GA)
def nodeOf (t:List GA) (s:zx):Option GA:=t.find? λx=>x.name==s
theorem linear_is (t:List GA) (s:zx):qG t s=some (match nodeOf t s with | some x=>(x,true) | none=>(node0,false)):=by
 unfold qG xZ;rcases first_is (q:=λx:GA=>x.name==s) (del:=λf=>treeXlinearC1 f s) t 0 (λx _=>rfl) with ⟨e,h⟩ | ⟨A,x,B,rfl,j,g,e⟩
 ·rw [e];have:nodeOf t s=none:=pd.2 λx m=>by simp_all
  rw [this];rfl
 ·rw [e];have:nodeOf (A++x::B) s=some x:=by
   unfold nodeOf
   grind
  rw [this];simp only [lp,ua,uT];rw [uu (by simp),zB (x:=x) (by simp)];rfl
def vD:List GA->List zx->Option GA
 | _,[]=>none
 | t,[s]=>nodeOf t s
 | t,s::c::q=>(nodeOf t s).bind λx=>vD x.subs (c::q)
noncomputable def tlF:Nat->zx->(List GA)×Bool×zx×(List GC)×(List GA)->Option (Out ((GC×Bool) ⊕ (Bool×zx×(List GC)×(List GA))) ((List GA)×Bool×zx×(List GC)×(List GA))):=(λ(_:Nat) (x2:zx) (s2:(List GA)×Bool×zx×(List GC)×(List GA))=>(((qG s2.1 x2).bind λv47=>(if (!v47.2)=true then some (.brk (s2.1,v47.2,v47.1.name,v47.1.leaves,v47.1.subs)) else some (.nxt (v47.1.subs,v47.2,v47.1.name,v47.1.leaves,v47.1.subs))))))
noncomputable def tlR (kind2:Int) (s1:Bool×zx×(List GC)×(List GA)):Option (GC×Bool):=((yK s1.2.2.1 (λx0=>treeLeafC1 x0 kind2)).bind λv49=>((if (((!s1.1) || (decide (v49 < (0:Int))))==false)=true then qv kind2 else some default).bind λv50=>(if (((!s1.1) || (decide (v49 < (0:Int)))) || (v50.typ==(0:Int)))=true then ((qv kind2).bind λv52=>some (v52,false)) else ((yw s1.2.2.1 v49).bind λy53=>((yU y53.items).bind λv54=>((xf y53.tombs).bind λv55=>some ((GC.mk y53.typ y53.n y53.time y53.dot y53.text v54 v55),true)))))))
theorem tl_eq (t0:List GA) (f:List zx) (g:Int):qX t0 f g=(lp ((lp (zq tlF f 0 (t0,(decide (((f).length:Int) > (0:Int))),([]:zx),([]:List GC),([]:List GA))) λ(s2:(List GA)×Bool×zx×(List GC)×(List GA))=>some (.inr (s2.2.1,s2.2.2.1,s2.2.2.2.1,s2.2.2.2.2))):Option ((GC×Bool) ⊕ (Bool×zx×(List GC)×(List GA)))) (tlR g)):=rfl
theorem tl_walk:∀(p:List zx) (n:Nat) (t:List GA) (z:Bool×zx×(List GC)×(List GA)),p ≠ [] ->
  match vD t p with
  | some x=>zq tlF p n (t,z)=some (.inr (x.subs,true,x.name,x.leaves,x.subs))
  | none=>∃u,zq tlF p n (t,z)=some (.inr (u,false,([]:zx),([]:List GC),([]:List GA)))
 | [],_,_,_,h=>absurd rfl h
 | [s],n,t,z,_=>by
  simp only [vD,zq,tlF,linear_is,ua];cases nodeOf t s with
  | none=>exact ⟨t,rfl⟩
  | some x=>rfl
 | s::c::q,n,t,z,_=>by
  have f:=λu z=>tl_walk (c::q) (n+1) u z (by simp);simp only [vD];cases e:nodeOf t s with
  | none=>exact ⟨t,by rw [zq];simp only [tlF,linear_is,e,ua];rfl⟩
  | some x =>
   have g:tlF n s (t,z)=some (.nxt (x.subs,true,x.name,x.leaves,x.subs)):=by simp only [tlF,linear_is,e,ua];rfl
   have:=f x.subs (true,x.name,x.leaves,x.subs);rw [zq,g,ua];omega
theorem nodeOf_split {t:List GA} (s:zx) (h:upB t=true):(nodeOf t s=none/\∀y ∈ t,y.name ≠ s) \/ ∃A x B,t=A++x::B/\nodeOf t s=some x/\x.name=s/\(∀y ∈ A,y.name ≠ s)/\∀y ∈ B,y.name ≠ s:=by
 rcases split_up s h with ⟨A,B,rfl,g,j⟩ | ⟨A,x,B,rfl,m,g,j⟩
 ·left;have:∀y ∈ A++B,y.name ≠ s:=λy f=>by
   rcases uL.1 f with f | f
   ·exact g.ne y f
   ·exact j.ne y f
  exact ⟨pd.2 λy f=>by simp_all,this⟩
 ·refine .inr ⟨A,x,B,rfl,?_,m,g.ne,j.ne⟩;unfold nodeOf;rw [List.find?_append,pd.2 (λy f=>by simp [g.ne y f]),pH];simp [m]
theorem row_at:∀(p:List zx) (t:List GA) (d:Nat) (a:List zx) (l:GC),p ≠ []->treeB d t=true->(GE.mk (a++p) l ∈ zu a t ↔ ∃x,vD t p=some x/\l ∈ x.leaves)
 | [],_,_,_,_,h,_=>absurd rfl h
 | s::q,t,d,a,l,_,h=>by
  obtain ⟨u,w⟩:=zN h;rcases nodeOf_split s u with ⟨e,o⟩ | ⟨A,x,B,rfl,e,v,z,m⟩
  ·have j:vD t (s::q)=none:=by cases q <;> simp [vD,e]
   rw [j];constructor
   ·intro f;exact (rows_off o f rfl).elim
   ·simp_all
  ·rw [qI,show x::B=[x]++B from rfl,qI,q9,uL,uL,rowsN_mem,v];have D:¬ GE.mk (a++s::q) l ∈ zu a A:=λf=>rows_off z f rfl;have G:¬ GE.mk (a++s::q) l ∈ zu a B:=λf=>rows_off m f rfl;have g:=(wI (w x (by simp))).2.1;cases q with
   | nil =>
    have E:¬ GE.mk (a++[s]) l ∈ zu (a++[s]) x.subs:=λf=>by
     have:=(rows_path _ _ _ f).1;simp at this
    have j:vD (A++x::B) [s]=some x:=e
    simp_all
   | cons c q =>
    have y:=row_at (c::q) x.subs (d+1) (a++[s]) l (by simp) g;have C:a++[s]++c::q=a++s::c::q:=by simp
    rw [C] at y;have F:vD (A++([x]++B)) (s::c::q)=vD x.subs (c::q):=by
     show (nodeOf (A++x::B) s).bind _=_;rw [e];rfl
    simp_all
theorem row_mk {p:List zx} (h:ql r=(p,k)):r=GE.mk ([]++p) r.leaf:=by
 have e:r.path=p:=congrArg Prod.fst h;cases r;simp only at e;rw [e];rfl
theorem leafNew_typ (h:1<=k/\k<=4):∃v,qv k=some v/\v.typ=k:=by
 unfold qv;rw [uu (by simp;omega)]
 simp_all
theorem tlR_none (s:zx):∃v,tlR k (false,s,([]:List GC),([]:List GA))=some (v,false):=by
 obtain ⟨v,e⟩:=leafNew_tot k;refine ⟨v,?_⟩;unfold tlR yK;simp [zq,lp,e]
theorem treeLeaf_is {t:List GA} (h:treeB 0 t=true) (w:∀r ∈ zu [] t,LeafOk r.leaf) {p:List zx} (D:p ≠ []) {k:Int} (I:1<=k/\k<=4) :
  (∃l,GE.mk p l ∈ zu [] t/\l.typ=k/\qX t p k=some (l,true)) \/ ((∀r ∈ zu [] t,ql r ≠ (p,k))/\∃v,qX t p k=some (v,false)):=by
 have j:=tl_walk p 0 t (decide ((p.length:Int) > 0),([]:zx),([]:List GC),([]:List GA)) D;have F:=λl=>row_at p t 0 [] l D h;rw [tl_eq];cases e:vD t p with
 | none =>
  rw [e] at j;obtain ⟨u,j⟩:=j;right;refine ⟨λr g m=>?_,?_⟩
  ·have:=row_mk m
   grind
  ·rw [j];exact tlR_none []
 | some x =>
  rw [e] at j;simp only at j;rw [j];simp only [yJ];obtain ⟨v0,M,n2⟩:=leafNew_typ I;unfold tlR yK;rcases first_is (q:=λy:GC=>y.typ==k) (del:=λH=>treeLeafC1 H k) x.leaves 0 (λx _=>rfl) with ⟨G,C⟩ | ⟨A,y,B,s,C,N,G⟩
  ·right;refine ⟨λr g m=>?_,v0,?_⟩
   ·have:=row_mk m;rw [this] at g;obtain ⟨O,o,J⟩:=(F _).1 g;rw [e] at o;injection o with o;subst o;have:=C _ J;simp only [beq_eq_false_iff_ne] at this;exact this (congrArg Prod.snd m)
   ·simp_all
  ·left;have K:y ∈ x.leaves:=by simp_all
   have f:GE.mk ([]++p) y ∈ zu [] t:=(F y).2 ⟨x,e,K⟩;have z:y.typ=k:=by simp_all
   have E:=w _ f;refine ⟨y,f,z,?_⟩;simp only [];rw [G];simp only [lp,ua,uT];have c1:((!true) || (decide (((A.length:Nat):Int) < (0:Int))))=false:=by simp
   rw [c1];simp only [uX,up,M,ua,tv,n2];rw [uu (by simp;omega),s,zB (x:=y) (by simp),ua,cloneItem_is (xd (rI E.items)),ua,cloneDot_is (xd (rI E.tombs)),ua]

structure EOk (e:GO):Prop where
 path:pathB e.path=true
 typ:1<=e.typ/\e.typ<=4
 any:e.had=true \/ e.has=true
 ne:e.had=true->e.has=true->e.was ≠ e.is
 was1:e.had=true->leafB e.was=true/\LeafOk e.was/\e.was.typ=e.typ
 was0:e.had=false->e.was=leaf0
 is1:e.has=true->leafB e.is=true/\LeafOk e.is/\e.is.typ=e.typ
 is0:e.has=false->e.is=leaf0
theorem sub_len {α:Type} {lt:α->α->Prop} (f:∀x,¬ lt x x):∀(L M:List α),L.Pairwise lt->(∀x ∈ L,x ∈ M)->L.length<=M.length
 | [],_,_,_=>tu _
 | x::L,M,h,hs=>by
  obtain ⟨m,g⟩:=uC.1 h;obtain ⟨A,B,rfl⟩:=pc (hs x (by simp));have:=sub_len f L (A++B) g λy j=>by
   grind
  grind
theorem qM {p:List zx} (h:pathB p=true):p ≠ []/\p.length<=3/\p.all nameB=true:=by
 refine ⟨pathB_ne h,?_⟩;simp only [pathB,ud,ul] at h
 simp_all
theorem lay_all {p:List zx} {t:List GA} (s:there=true->l.typ=k/\leafB l=true/\LeafOk l) (z:pathB p=true) (o:treeB 0 t=true) (v:(zu [] t).length<=16777215) :
  ∃t',diffXlay t p k l there=some t'/\treeB 0 t'=true/\(zu [] t').length<=(zu [] t).length+1/\∀r,r ∈ zu [] t' ↔ (r ∈ zu [] t/\ql r ≠ (p,k)) \/ (there=true/\r=⟨p,l⟩):=by
 obtain ⟨w,B,m⟩:=qM z;obtain ⟨t',E,j,_,f⟩:=lay_is s p t 0 (p.length+1) w m (by omega) o v (by omega);have f:=f [];simp only [uY] at f;refine ⟨t',qg (p.length+1) λn D=>?_,j,?_,f⟩
 ·obtain ⟨u,y,A,_,g⟩:=lay_is s p t 0 n w m (by omega) o v (by omega);have g:=g [];simp only [uY] at g;rw [y,rows_ext A j λr=>by rw [g,f]]
 ·have:=sub_len (lt:=λr q=>kltB (ql r) (ql q)=true) (λx h=>by rw [klt_irr] at h;cases h) (zu [] t') (zu [] t++[⟨p,l⟩]) (rows_sorted j []) λr C=>by
   grind
  simp_all
structure EFits (t:List GA) (e:GO):Prop where
 had:e.had=true->GE.mk e.path e.was ∈ zu [] t
 new:e.had=false->∀r ∈ zu [] t,ql r ≠ ekey e
end
section
theorem idxI_is {q:GH->Bool} {del:GH->Option Bool}:∀(L:List GH) (n:Nat),(∀x ∈ L,del x=some (q x)) ->
  (zq (λ(f:Nat) (g:GH) (_:Unit)=>(((del g).bind λm=>(if m=true then some (.ret (f:Int)) else some (.nxt ()))):Option (Out Int Unit))) L n ()=some (.inr ())/\∀x ∈ L,q x=false) \/
  ∃A x B,L=A++x::B/\q x=true/\(∀y ∈ A,q y=false)/\zq (λ(f:Nat) (g:GH) (_:Unit)=>(((del g).bind λm=>(if m=true then some (.ret (f:Int)) else some (.nxt ()))):Option (Out Int Unit))) L n ()=some (.inl ((n+A.length:Nat):Int))
 | [],n,_=>.inl ⟨rfl,by simp⟩
 | x::r,n,h=>by
  have j:=h x (by simp);cases hq:q x with
  | true=>exact .inr ⟨[],x,r,rfl,hq,by simp,by simp [zq,j,hq]⟩
  | false =>
   rcases idxI_is r (n+1) (λy o=>h y (by simp [o])) with ⟨e,p⟩ | ⟨A,y,B,rfl,s,p,e⟩
   ·refine .inl ⟨by simp only [zq,j,hq,ua];exact e,?_⟩
    simp_all
   ·refine .inr ⟨x::A,y,B,rfl,s,?_,?_⟩
    ·simp_all
    ·simp only [zq,j,hq,ua]
     grind
noncomputable def delI (del:GH->Option Bool) (n:Nat):Int×Int×(List GH)->Option (Out (List GH) (Int×Int×(List GH))):=λs1=>((yg ((s1.2.2).length=n) ((if (decide (s1.2.1 < ((n:Nat):Int)))=true then ((yw s1.2.2 s1.2.1).bind λy14=>((del y14).bind λv15=>(if (!v15)=true then ((yw s1.2.2 s1.1).bind λy17=>some (.nxt ((IntKind.wrap .i64 (s1.1+(1:Int))),(IntKind.wrap .i64 (s1.2.1+(1:Int))),(s1.2.2.set s1.1.toNat y14)))) else some (.nxt (s1.1,(IntKind.wrap .i64 (s1.2.1+(1:Int))),s1.2.2))))) else some (.brk (s1.1,s1.2.1,s1.2.2))))))
theorem delRI_eq (g:List GH) (f:GH->Option Bool):xN g f=((yL g f).bind λj=>(if (j==(-1:Int))=true then some g else (lp (ye (delI f g.length) (j,(IntKind.wrap .i64 (j+(1:Int))),g)) λ(s1:Int×Int×(List GH))=>(yg (0<=s1.1/\s1.1<=((g.length:Nat):Int)) (((slc (s1.2.2.take s1.1.toNat++List.replicate (g.length - s1.1.toNat) (GH.mk (0:Int) (GF.mk (GK.mk (0:Int) (0:Int)) (0:Int)) ([]:zx))) (0:Int) s1.1).bind λh=>some h)))))):=rfl
theorem delI_run {del:GH->Option Bool} {L0:List GH} (z:L0.length<=16777216) (h:∀x ∈ L0,del x=some (q x)) {a0 b0:Nat} (C:a0 < b0) (B:b0<=L0.length) (F:L0.take a0=(L0.take b0).filter λx=>!q x) :
  ∃o,ye (delI del L0.length) ((a0:Int),(b0:Int),L0)=some (.inr o)/\∃a:Nat,o.1=(a:Int)/\a < L0.length/\o.2.2.length=L0.length/\o.2.2.take a=L0.filter λx=>!q x:=by
 refine qN (f:=delI del L0.length) (λs=>∃a b:Nat,s.1=(a:Int)/\s.2.1=(b:Int)/\a < b/\b<=L0.length/\s.2.2.length=L0.length/\s.2.2.take a=(L0.take b).filter (λx=>!q x)/\s.2.2.drop b=L0.drop b)
  _ (λs=>L0.length - s.2.1.toNat) ?_ _ _ rfl ⟨a0,b0,rfl,rfl,C,B,rfl,F,rfl⟩
 rintro ⟨i,j,M⟩ ⟨a,b,w,A,H,y,u,v,p⟩
 simp only at w A u v p;subst w A;simp only [delI,yg,u,up];by_cases hb:b < L0.length
 ·right;have E:M[b]?=L0[b]?:=by
   have:=congrArg (λl=>l[0]?) p
   grind
  have D:L0[b]?=some L0[b]:=ui hb;have hd:=h L0[b] (sn hb);have m:yw M (b:Int)=some L0[b]:=by simp [yw,E]
  have g:yw M (a:Int)=some (M[a]'(by omega)):=by simp [yw]
  rw [ur (by simp;omega),m,ua,hd,ua];have t:L0.take (b+1)=L0.take b++[L0[b]]:=by simp_all
  cases hq:q L0[b] with
  | true =>
   refine ⟨((a:Int),((b+1:Nat):Int),M),by simp [vF (uB y z)],⟨a,b+1,rfl,rfl,by omega,by omega,u,?_,?_⟩,by simp;omega⟩
   ·grind
   ·have:=congrArg (λl=>l.drop 1) p;simpa [tm] using this
  | false =>
   refine ⟨(((a+1:Nat):Int),((b+1:Nat):Int),M.set a L0[b]),by simp [g,vF (uB y z),vF (show a<=16777216 by omega)],⟨a+1,b+1,rfl,rfl,by omega,by omega,by simp_all,?_,?_⟩,by simp;omega⟩
   ·rw [t8,rm (ug _),v,t,th,uE (by omega)];simp [hq]
   ·have:=congrArg (λl=>l.drop 1) p;rw [rn (by omega)];simpa [tm] using this
 ·left;have G:b=L0.length:=by omega
  rw [uu (by simp;omega)]
  grind
theorem deleteI_is {del:GH->Option Bool} {L0:List GH} (s:L0.length<=16777216) (h:∀x ∈ L0,del x=some (q x)):xN L0 del=some (L0.filter λx=>!q x):=by
 rw [delRI_eq];unfold yL;rcases idxI_is L0 0 h with ⟨e,j⟩ | ⟨A,x,B,p,o,j,e⟩
 ·rw [e];simp only [lp,ua,uX,up];rw [tx.2 (λx z=>by simp_all)]
 ·rw [e];have g:L0.length=A.length+1+B.length:=by grind
  simp only [lp,ua,uT];rw [uu (by simp_all),vF (by omega)];obtain ⟨f,t,a,m,C,u,v⟩:=delI_run s h (a0:=A.length) (b0:=A.length+1) (by omega) (by omega) (by
   rw [p,rV,tM,uG (by omega),show A.length+1 - A.length=1 by omega,th];simp only [sC,pI,tS,o,List.filter_nil];rw [tx.2 (λy w=>by simp_all)];simp)
  rw [t];simp only [yg];rw [ur (by omega),m];have hs:slc (f.2.2.take ((a:Int)).toNat++List.replicate (L0.length - ((a:Int)).toNat) (GH.mk (0:Int) (GF.mk (GK.mk (0:Int) (0:Int)) (0:Int)) ([]:zx))) (0:Int) (a:Int)=some (f.2.2.take a):=by
   unfold slc
   grind
  simp_all
theorem bsI_loop {s:GH} (y:x.length<=1048576) (p:∀i n,x[i]?=some n->∃v,cmp n s=some v/\(i < c->v < 0)/\(c<=i->0<=v)) :
  ∀(k lo hi:Nat),hi - lo<=k->lo<=c->c<=hi->hi<=x.length->ye (ρ:=Int×Bool) (λ(s1:Int×Int)=>((if (decide (s1.1 < s1.2))=true then ((yw x (IntKind.wrap .i64 ((Int.fdiv (IntKind.wrap .u64 ((IntKind.wrap .i64 (s1.1+s1.2)))) (2 ^ (min (1:Int).toNat (IntKind.bits .u64))))))).bind λt=>((cmp t s).bind λf=>(if (decide (f < (0:Int)))=true then some (.nxt ((IntKind.wrap .i64 ((IntKind.wrap .i64 ((Int.fdiv (IntKind.wrap .u64 ((IntKind.wrap .i64 (s1.1+s1.2)))) (2 ^ (min (1:Int).toNat (IntKind.bits .u64))))))+(1:Int))),s1.2)) else some (.nxt (s1.1,(IntKind.wrap .i64 ((Int.fdiv (IntKind.wrap .u64 ((IntKind.wrap .i64 (s1.1+s1.2)))) (2 ^ (min (1:Int).toNat (IntKind.bits .u64))))))))))) else some (.brk (s1.1,s1.2))):Option (Out _ (Int×Int)))) ((lo:Int),(hi:Int))=some (.inr ((c:Int),(c:Int))):=by
 intro k
 induction k with
 | zero =>
  intro lo hi o g j hh;obtain rfl:lo=hi:=by omega
  obtain rfl:lo=c:=by omega
  rw [xA];simp
 | succ k ih =>
  intro lo hi o g j hh;rw [xA];by_cases hlt:lo < hi
  ·have hd:decide ((lo:Int) < (hi:Int))=true:=uA (by omega);simp only [hd,up,half_mid hlt (by omega)];have h:(lo+hi) / 2 < x.length:=by omega
   rw [wP h,ua];obtain ⟨v,u,m,w⟩:=p ((lo+hi) / 2) _ (ui h);rw [u,ua];by_cases hcm:(lo+hi) / 2 < c
   ·rw [uA (m hcm),ur rfl];simp only;have e:IntKind.wrap .i64 ((((lo+hi) / 2:Nat):Int)+1)=(((lo+hi) / 2+1:Nat):Int):=by rw [yY (by omega)];omega
    rw [e];exact ih _ _ (by omega) (by omega) j hh
   ·rw [uU (by omega)];simp only [uh,uz];exact ih _ _ (by omega) g (by omega) (by omega)
  ·grind
theorem bsI_is {s:GH} (j:x.length<=1048576) (g:c<=x.length) (f:∀i n,x[i]?=some n->∃v,cmp n s=some v/\(i < c->v < 0)/\(c<=i->0<=v)) :
  zT x s cmp=(if c < x.length then cmp (x.getD c default) s else some 1).bind λv=>some ((c:Int),(decide (c < x.length)&&(v==0))):=by
 unfold zT;have:=bsI_loop j f x.length 0 x.length (by omega) (tu _) g (ug _);simp only [rP] at this;rw [show ((0:Int),(x.length:Int))=(((0:Nat):Int),(x.length:Int)) from rfl] at *;rw [this];simp only [lp];by_cases h:c < x.length
 ·have hd:decide ((c:Int) < (x.length:Int))=true:=uA (by omega);simp only [hd,h,up,uw,uX,sG,uS];rw [zk (by omega)]
 ·have hd:decide ((c:Int) < (x.length:Int))=false:=uU (by omega);simp only [hd,h,uz,sF,rd,ua];rfl

def dd:List GF->List GF
 | []=>[]
 | [x]=>[x]
 | x::y::r=>if x=y then dd (y::r) else x::dd (y::r)
theorem dd_snoc:∀(A:List GF) (x y:GF),dd (A++[x,y])=if x=y then dd (A++[x]) else dd (A++[x])++[y]
 | [],x,y=>by by_cases h:x=y <;> simp [dd,h]
 | [a],x,y=>by
  by_cases h:x=y
  ·subst h;by_cases h2:a=x <;> simp [dd,h2]
  ·by_cases h2:a=x <;> simp [dd,h2,h]
 | a::b::A,x,y=>by
  have f:=dd_snoc (b::A) x y;simp only [tD] at f ⊢;simp only [dd]
  grind
theorem dd_mem:∀(L:List GF) (d:GF),d ∈ dd L ↔ d ∈ L
 | [],_=>by simp [dd]
 | [x],_=>by simp [dd]
 | x::y::r,d=>by
  simp only [dd];split
  ·rename_i h;subst h;rw [dd_mem (x::r) d];simp
  ·rw [uP,dd_mem (y::r) d];simp
theorem dd_strict {lt:GF->GF->Prop} (f:∀a b,¬ lt b a->a=b \/ lt a b) (p:∀a b c,lt a b->lt b c->lt a c):∀(L:List GF),L.Pairwise (λa b=>¬ lt b a)->(dd L).Pairwise lt
 | [],_=>by simp [dd]
 | [x],_=>by simp [dd]
 | x::y::r,h=>by
  have o:=(uC.1 h).2;have m:=dd_strict f p (y::r) o;simp only [dd];split
  ·exact m
  ·rename_i j;refine uC.2 ⟨λz g=>?_,m⟩;rw [dd_mem] at g;have s:lt x y:=(f x y ((uC.1 h).1 y (by simp))).resolve_left j;rcases uP.1 g with rfl | g
   ·omega
   ·rcases f y z ((uC.1 o).1 z g) with rfl | t
    ·omega
    ·grind
def nn (L:List GF):Prop:=∀i a b,L[i]?=some a->L[i+1]?=some b->a ≠ b
theorem take_snoc2 {b:GF} (f:L[n]?=some a) (g:L[n+1]?=some b):L.take (n+2)=L.take n++[a,b]:=by
 rw [t8,t8,f,g];simp
theorem dd_step {b:GF} (f:L[n]?=some a) (g:L[n+1]?=some b):dd (L.take (n+2))=if a=b then dd (L.take (n+1)) else dd (L.take (n+1))++[b]:=by
 rw [take_snoc2 f g,dd_snoc,t8,f];rfl
noncomputable def cmpIn (n:Nat) (s1:Int):Int×Int×(List GF)->Option (Out (Out (List GF) Int) (Int×Int×(List GF))):=λ(s2:Int×Int×(List GF))=>((yg ((s2.2.2).length=n) ((if (decide (s2.2.1 < ((n - s1.toNat:Nat):Int)))=true then ((yw (s2.2.2.drop s1.toNat) s2.2.1).bind λy51=>((yw (s2.2.2.drop s1.toNat) (IntKind.wrap .i64 (s2.2.1 - (1:Int)))).bind λy52=>(if (!(y51.actor.rep==y52.actor.rep&&(y51.actor.inc==y52.actor.inc&&(y51.seq==y52.seq&&true))))=true then ((yw (s2.2.2.drop s1.toNat) s2.2.1).bind λy54=>((yw s2.2.2 s2.1).bind λy55=>some (.nxt ((IntKind.wrap .i64 (s2.1+(1:Int))),(IntKind.wrap .i64 (s2.2.1+(1:Int))),(s2.2.2.set s2.1.toNat y54))))) else some (.nxt (s2.1,(IntKind.wrap .i64 (s2.2.1+(1:Int))),s2.2.2))))) else some (.brk (s2.1,s2.2.1,s2.2.2))))))
theorem wrap_p1 (h0:0 < i) (f:i<=9223372036854775807):(IntKind.wrap .i64 ((i:Int) - 1))=((i - 1:Nat):Int):=wrap_pred h0 f
theorem cmpIn_run (Q:L.length<=16777216) {k0:Nat} (E:0 < k0) (K:k0 < L.length) {a:GF} (F:L[k0 - 1]?=some a) (C:L[k0]?=some a) (R:dd (L.take k0)=L.take k0) :
  ∃o,ye (cmpIn L.length (k0:Int)) ((k0:Int),1,L)=some (.inr o)/\∃m:Nat,o.1=(m:Int)/\m<=L.length/\o.2.2.length=L.length/\o.2.2.take m=dd L:=by
 refine qN (f:=cmpIn L.length (k0:Int)) (λs=>∃m b:Nat,s.1=(m:Int)/\s.2.1=(b:Int)/\1<=b/\k0+b<=L.length/\m+1<=k0+b/\s.2.2.length=L.length/\s.2.2.take m=dd (L.take (k0+b))/\s.2.2.drop (k0+b - 1)=L.drop (k0+b - 1))
  _ (λs=>L.length - s.2.1.toNat) ?_ _ _ rfl ⟨k0,1,rfl,rfl,ug _,by omega,by omega,rfl,?_,by simp⟩
 ·rintro ⟨i,j,M⟩ ⟨m,b,y,B,N,P,O,u,w,v⟩
  simp only at y B u w v;subst y B;simp only [cmpIn,yg,u,up,uw];by_cases hb:k0+b < L.length
  ·right;have p:∀t,k0+b - 1<=t->M[t]?=L[t]?:=λt J=>by
    have:=congrArg (λl=>l[t - (k0+b - 1)]?) v
    grind
   have A:L[k0+b]?=some L[k0+b]:=ui hb;have hb1:k0+b - 1 < L.length:=by omega
   have G:L[k0+b - 1]?=some (L[k0+b - 1]'hb1):=ui hb1;have z:yw (M.drop k0) (b:Int)=some L[k0+b]:=by simp only [yw,uw,uI];rw [ur (by omega),p _ (by omega),A]
   have D:yw (M.drop k0) (IntKind.wrap .i64 ((b:Int) - 1))=some (L[k0+b - 1]'hb1):=by
    rw [wrap_p1 (by omega) (by omega)];simp only [yw,uw,uI]
    grind
   have H:yw M (m:Int)=some (M[m]'(by omega)):=by simp [yw]
   have g:=dd_step (L:=L) (n:=k0+b - 1) G (by rw [show k0+b - 1+1=k0+b by omega];exact A);rw [show k0+b - 1+2=k0+(b+1) by omega,show k0+b - 1+1=k0+b by omega] at g;have h:M.drop (k0+(b+1) - 1)=L.drop (k0+(b+1) - 1):=by
    have:=congrArg (λl=>l.drop 1) v;simp only [tm] at this
    rwa [show k0+b - 1+1=k0+(b+1) - 1 by omega] at this
   rw [ur (by simp;omega),z,ua,D,ua];rw [dotEq];by_cases he:L[k0+b]=L[k0+b - 1]'hb1
   ·refine ⟨((m:Int),((b+1:Nat):Int),M),by simp [he,vF (show b<=16777216 by omega)],⟨m,b+1,rfl,rfl,by omega,by omega,by omega,u,?_,h⟩,by simp;omega⟩
    simp_all
   ·refine ⟨(((m+1:Nat):Int),((b+1:Nat):Int),M.set m L[k0+b]),?_,⟨m+1,b+1,rfl,rfl,by omega,by omega,by omega,by simp_all,?_,?_⟩,by simp;omega⟩
    ·simp [he,z,H,vF (show b<=16777216 by omega),vF (show m<=16777216 by omega)]
    ·rw [g,uu (λe=>he e.symm),<- w,t8,rm (ug _),uE (by omega)];rfl
    ·rw [rn (by omega)];exact h
  ·left;have I:k0+b=L.length:=by omega
   rw [uu (by simp;omega)]
   grind
 ·have:=dd_step (L:=L) (n:=k0 - 1) F (by rw [show k0 - 1+1=k0 by omega];exact C)
  grind
noncomputable def cmpOut (s0:List GF):Int->Option (Out (List GF) Int):=λ(s1:Int)=>((if (decide (s1 < ((s0).length:Int)))=true then ((yw s0 s1).bind λy35=>((yw s0 (IntKind.wrap .i64 (s1 - (1:Int)))).bind λy36=>(if (y35.actor.rep==y36.actor.rep&&(y35.actor.inc==y36.actor.inc&&(y35.seq==y36.seq&&true)))=true then (yg (0<=s1/\s1<=((s0.length:Nat):Int)) ((lp (ye (cmpIn s0.length s1) (s1,(1:Int),s0)) λ(s2:Int×Int×(List GF))=>(yg (0<=s2.1/\s2.1<=((s0.length:Nat):Int)) (((slc (s2.2.2.take s2.1.toNat++List.replicate (s0.length - s2.1.toNat) (GF.mk (GK.mk (0:Int) (0:Int)) (0:Int))) (0:Int) s2.1).bind λm57=>some (.ret m57))))))) else some (.nxt (IntKind.wrap .i64 (s1+(1:Int))))))) else some (.brk s1)))
theorem compact_eq (f:List GF):wE f=(if (decide (((f).length:Int) < (2:Int)))=true then some f else (lp (ye (cmpOut f) (1:Int)) λ(_:Int)=>some f)):=rfl
theorem cmpOut_run (v:L.length<=16777216):∀(n k:Nat),L.length - k=n->0 < k->k<=L.length->dd (L.take k)=L.take k->lp (ye (cmpOut L) (k:Int)) (λ(_:Int)=>some L)=some (dd L):=by
 intro n
 induction n with
 | zero =>
  intro k w h0 hk hd;have:k=L.length:=by omega
  subst this;rw [xA];simp only [cmpOut]
  simp_all
 | succ n ih =>
  intro k w h0 hk hd;have f:k < L.length:=by omega
  have h:L[k]?=some L[k]:=ui f;have hk1:k - 1 < L.length:=by omega
  have p:L[k - 1]?=some (L[k - 1]'hk1):=ui hk1;rw [xA];have s:yw L (k:Int)=some L[k]:=by simp [yw]
  have o:yw L (IntKind.wrap .i64 ((k:Int) - 1))=some (L[k - 1]'hk1):=by
   rw [wrap_p1 h0 (by omega)];simp only [yw,uw];rw [ur (by omega),p]
  have g:=dd_step (L:=L) (n:=k - 1) p (by rw [show k - 1+1=k by omega];exact h);rw [show k - 1+2=k+1 by omega,show k - 1+1=k by omega] at g;by_cases he:L[k]=L[k - 1]'hk1
  ·obtain ⟨j,t,m,y,z,A,u⟩:=cmpIn_run v h0 f (a:=L[k]) (by simp_all) h hd;have hs:slc (j.2.2.take ((m:Int)).toNat++List.replicate (L.length - ((m:Int)).toNat) (GF.mk (GK.mk (0:Int) (0:Int)) (0:Int))) (0:Int) (m:Int)=some (j.2.2.take m):=by
    unfold slc;rw [ur (by simp;omega)];simp only [uw,Int.toNat_zero,su]
    grind
   have:cmpOut L (k:Int)=some (.ret (dd L)):=by
    simp only [cmpOut];rw [ur (by simp;omega),s,ua,o,ua,dotEq,ur (by simp [he])];rw [zk (by omega),t];simp only [lp];rw [zk (by omega),y,hs,ua,u]
   simp_all
  ·have:cmpOut L (k:Int)=some (.nxt ((k+1:Nat):Int)):=by
    simp only [cmpOut];rw [ur (by simp;omega),s,ua,o,ua,dotEq,uu (by simp [he]),vF (by omega)]
   rw [this];refine ih (k+1) (by omega) (by omega) (by omega) ?_;rw [g,uu (λe=>he e.symm),hd,t8,h];rfl
theorem compact_is (f:L.length<=16777216):wE L=some (dd L):=by
 rw [compact_eq];by_cases h:L.length < 2
 ·rw [ur (by simp;omega)]
  match L,h with
  | [],_=>rfl
  | [x],_=>rfl
  | _::_::_,h=>simp at h;omega
 ·rw [uu (by simp;omega)];have:=cmpOut_run f (L.length - 1) 1 rfl (by omega) (by omega) (by
   match L,h with
   | x::y::r,_=>rfl
   | [],h=>simp at h
   | [x],h=>simp at h)
  omega

theorem dlt_irr (a:GF):ym a a=false:=by simp [ym]
theorem dlt_tr {b c:GF} (f:ym a b=true) (g:ym b c=true):ym a c=true:=by
 unfold ym at *;grind
theorem dlt_tot (a b:GF):a=b \/ ym a b=true \/ ym b a=true:=by
 rcases a with ⟨⟨h,g⟩,a3⟩;rcases b with ⟨⟨f,j⟩,m⟩
 simp only [ym,GF.mk.injEq,GK.mk.injEq];grind
theorem ilt_tr {a b c:GH} (g:yv a b=true) (f:yv b c=true):yv a c=true:=by
 unfold yv ym at *;grind
theorem ahead_pre {α:Type} {lt:α->α->Bool} (f:∀a b c,lt a b=true->lt b c=true->lt a c=true) (x:α):∀(L:List α),L.Pairwise (λa b=>lt a b=true)->∀(i:Nat) (y:α),L[i]?=some y->(lt y x=true ↔ i < (L.takeWhile λy=>lt y x).length)
 | [],_,i,y,h=>by simp at h
 | z::r,hs,i,y,h=>by
  obtain ⟨m,j⟩:=uC.1 hs;cases i with
  | zero =>
   simp only [List.getElem?_cons_zero,uj] at h;subst h;cases hz:lt z x <;> simp [tG,hz]
  | succ i =>
   simp only [rD] at h;have g:=ahead_pre f x r j i y h;cases hz:lt z x with
   | true=>simp [tG,hz,g]
   | false =>
    simp only [tG,hz,uh,uz,uN,Nat.not_lt_zero,iff_false]
    grind
theorem take_tw {α:Type} (p:α->Bool):∀L:List α,L.take (L.takeWhile p).length=L.takeWhile p
 | []=>rfl
 | x::r=>by cases h:p x <;> simp [tG,h,take_tw p r]
theorem drop_tw {α:Type} (p:α->Bool):∀L:List α,L.drop (L.takeWhile p).length=L.dropWhile p
 | []=>rfl
 | x::r=>by cases h:p x <;> simp [tG,List.dropWhile_cons,h,drop_tw p r]
theorem tw_le {α:Type} (p:α->Bool):∀L:List α,(L.takeWhile p).length<=L.length
 | []=>by simp
 | x::r=>by have:=tw_le p r;cases h:p x <;> simp [tG,h] <;> omega
theorem tw_add {α:Type} (p:α->Bool) (L:List α):(L.takeWhile p).length+(L.dropWhile p).length=L.length:=by
 rw [<- uo,tz]
theorem tw_all {α:Type} (p:α->Bool):∀(L:List α),∀y ∈ L.takeWhile p,p y=true
 | [],y,h=>by simp at h
 | x::r,y,h=>by
  cases hx:p x with
  | true =>
   rw [tG,ur hx] at h;rcases uP.1 h with rfl | h
   ·exact hx
   ·exact tw_all p r y h
  | false=>rw [tG,uu (by simp [hx])] at h;simp at h
theorem pw_of_next {α:Type} {lt:α->α->Prop} (g:∀a b c,lt a b->lt b c->lt a c):∀(L:List α),(∀i a b,L[i]?=some a->L[i+1]?=some b->lt a b)->L.Pairwise lt
 | [],_=>.nil
 | [x],_=>by simp
 | x::y::r,h=>by
  have j:=pw_of_next g (y::r) λi a b o m=>h (i+1) a b (by simp_all) (by simp_all);have h0:=h 0 x y rfl rfl;refine uC.2 ⟨λz f=>?_,j⟩;rcases uP.1 f with rfl | f
  ·exact h0
  ·exact g _ _ _ h0 ((uC.1 j).1 z f)
theorem rise_pw {L:List GH} (h:riseB L=true):L.Pairwise λa b=>yv a b=true:=by
 refine pw_of_next (lt:=λa b=>yv a b=true) (λ_ _ _=>ilt_tr) L λi a b g f=>?_;have:=allI_iff.1 h (i+1) b f;simp only [Nat.succ_ne_zero,sF,tv,prevI,ry,u9,g,rN] at this;omega
theorem rising_pw (h:wc L=true):L.Pairwise λa b=>ym a b=true:=by
 rw [rising_allI] at h;refine pw_of_next (lt:=λa b=>ym a b=true) (λ_ _ _=>dlt_tr) L λi a b g f=>?_;have:=allI_iff.1 h (i+1) b f;simp only [xY,Nat.succ_ne_zero,sF,tv,ry,u9,g,rN] at this;omega
theorem strict_ext {α:Type} {lt:α->α->Prop} (g:∀a,¬ lt a a) (j:∀a b c,lt a b->lt b c->lt a c):∀(A B:List α),A.Pairwise lt->B.Pairwise lt->(∀x,x ∈ A ↔ x ∈ B)->A=B
 | [],[],_,_,_=>rfl
 | [],b::B,_,_,h=>by have:=(h b).2 (by simp);simp at this
 | a::A,[],_,_,h=>by have:=(h a).1 (by simp);simp at this
 | a::A,b::B,hA,hB,h=>by
  obtain ⟨s,m⟩:=uC.1 hA;obtain ⟨p,o⟩:=uC.1 hB;have f:a=b:=by
   rcases uP.1 ((h a).1 (by simp)) with e | u
   ·exact e
   ·rcases uP.1 ((h b).2 (by simp)) with e | t
    ·simp_all
    ·grind
  subst f;rw [strict_ext g j A B m o λx=>?_]
  grind
def layP (L:List GH) (x:GH):List GH:=if (L.any λy=>decide (y.dot=x.dot))=true then L else L.takeWhile (λy=>yv y x)++([x]++L.dropWhile λy=>yv y x)
def burP (L:List GF) (d:GF):List GF:=if (L.any λy=>decide (y=d))=true then L else L.takeWhile (λy=>ym y d)++([d]++L.dropWhile λy=>ym y d)
theorem firstI_pos {α:Type} (p:α->Bool) (L:List α):decide (firstI p L >= 0)=L.any p:=firstI_any p L
theorem slcT {α:Type} (L:List α) (n:Nat) (h:n<=L.length):slc L (n:Int) (L.length:Int)=some (L.drop n):=by
 unfold slc
 simp_all
theorem tw_loop {α:Type} {L:List α} (p:α->Bool) {f:List α×Int->Option (Out (List α) (List α×Int))} (s:∀(A:List α) (i:Nat) (y:α),A.length=i->L[i]?=some y->f (A,(i:Int))=if p y=true then some (.nxt (A++[y],((i+1:Nat):Int))) else some (.brk (A,(i:Int))))
  (t:∀A:List α,f (A,(L.length:Int))=some (.brk (A,(L.length:Int)))):∀(n i:Nat),L.length - i=n->i<=(L.takeWhile p).length ->
  ye f (L.take i,(i:Int))=some (.inr (L.takeWhile p,((L.takeWhile p).length:Int))):=by
 intro n
 induction n with
 | zero =>
  intro i z hi;have v:=tw_le p L;have o:i=L.length:=by omega
  subst o;rw [xA,t];have C:(L.takeWhile p).length=L.length:=by omega
  have B:=take_tw p L
  grind
 | succ n ih =>
  intro i z hi;have g:i < L.length:=by omega
  have u:L[i]?=some L[i]:=ui g;have h:L.takeWhile p=L.take i++(L.drop i).takeWhile p:=by
   have s:L.take i=(L.takeWhile p).take i:=by
    conv=>lhs;rw [<- tz (p:=p) (l:=L)]
    grind
   have t:∀y ∈ L.take i,p y=true:=by
    rw [s];intro y w;exact tw_all _ _ _ (List.mem_of_mem_take w)
   conv=>lhs;rw [<- sj i L]
   simp_all
  have m:L.drop i=L[i]::L.drop (i+1):=(sX g).symm;have j:(L.take i).length=i:=by simp;omega
  rw [xA,s _ _ _ j u];cases ha:p L[i] with
  | true =>
   simp only [up];have e:L.take i++[L[i]]=L.take (i+1):=by grind
   rw [e];refine ih (i+1) (by omega) ?_;rw [h,m,tG,ur ha]
   grind
  | false =>
   simp only [uh,uz];have e:L.takeWhile p=L.take i:=by rw [h,m,tG,uu (by simp [ha])];simp
   grind
noncomputable def layF (L:List GH) (x:GH):(List GH)×Int->Option (Out (List GH) ((List GH)×Int)):=(λ(s1:(List GH)×Int)=>((yg (((decide (s1.2 < ((L).length:Int)))==true)=true->0<=s1.2/\s1.2 < ((L).length:Int)) ((yg (((decide (s1.2 < ((L).length:Int)))==true)=true->0<=s1.2/\s1.2 < ((L).length:Int)) (((if ((decide (s1.2 < ((L).length:Int)))==true)=true then vL (((L).getD s1.2.toNat default).time) (((L).getD s1.2.toNat default).dot) x.time x.dot else some default).bind λv21=>(if ((decide (s1.2 < ((L).length:Int)))&&v21)=true then ((yw L s1.2).bind λy23=>(yg ((s1.1).length+(([y23]:List GH)).length<=yM) (some (.nxt ((s1.1++([y23]:List GH)),(IntKind.wrap .i64 (s1.2+(1:Int)))))))) else some (.brk (s1.1,s1.2)))))))):Option (Out _ ((List GH)×Int))))
theorem lay_loop {L:List GH} (p:L.length<=16777216) (x:GH):ye (layF L x) ([],0)=some (.inr (L.takeWhile (λy=>yv y x),((L.takeWhile λy=>yv y x).length:Int))):=by
 refine tw_loop (λy=>yv y x) (f:=layF L x) (λA i y s m=>?_) (λA=>?_) L.length 0 (by omega) (tu _)
 ·have o:i < L.length:=(uc.1 m).1;have hd:decide ((i:Int) < (L.length:Int))=true:=uA (by omega);have g:L.getD i default=y:=by simp_all
  have h:yw L (i:Int)=some y:=by simp [yw,m]
  simp only [layF,hd];rw [zk (by omega),zk (by omega)];simp only [uX,up,uw,g,ref05Ahead_is,ua,uS];have j:(if y.time ≠ x.time then decide (y.time < x.time) else ym y.dot x.dot)=yv y x:=rfl;rw [j];cases ha:yv y x with
  | true=>simp only [up];rw [h,ua,zk (by simp [yM];omega),vF (by omega)]
  | false=>rfl
 ·have hd:decide ((L.length:Int) < (L.length:Int))=false:=uU (by omega);simp only [layF,hd];rfl
theorem refLay_is {L:List GH} (j:L.length<=16777215) (x:GH):ref05Lay L x=some (layP L x):=by
 unfold ref05Lay;rw [ref05Item_is,ua,firstI_pos];unfold layP;cases h:L.any λy=>decide (y.dot=x.dot) with
 | true=>simp only [up];rw [zk (by simp [yM];omega)];rfl
 | false =>
  simp only [uh,uz];have f:=lay_loop (L:=L) (by omega) x;unfold layF at f;have g:=tw_le (λy=>yv y x) L;have m:=tw_add (λy=>yv y x) L;rw [f];simp only [lp];rw [zk (by simp [yM];omega),slcT _ _ g,ua,drop_tw,zk (by simp [yM];omega)];simp
noncomputable def burF (L:List GF) (x:GF):(List GF)×Int->Option (Out (List GF) ((List GF)×Int)):=(λ(s1:(List GF)×Int)=>((yg (((decide (s1.2 < ((L).length:Int)))==true)=true->0<=s1.2/\s1.2 < ((L).length:Int)) (((if ((decide (s1.2 < ((L).length:Int)))==true)=true then qa ((L).getD s1.2.toNat default) x else some default).bind λv16=>(if ((decide (s1.2 < ((L).length:Int)))&&v16)=true then ((yw L s1.2).bind λy18=>(yg ((s1.1).length+(([y18]:List GF)).length<=yM) (some (.nxt ((s1.1++([y18]:List GF)),(IntKind.wrap .i64 (s1.2+(1:Int)))))))) else some (.brk (s1.1,s1.2)))))):Option (Out _ ((List GF)×Int))))
theorem bury_loop (o:L.length<=16777216) (x:GF):ye (burF L x) ([],0)=some (.inr (L.takeWhile (λy=>ym y x),((L.takeWhile λy=>ym y x).length:Int))):=by
 refine tw_loop (λy=>ym y x) (f:=burF L x) (λA i y p j=>?_) (λA=>?_) L.length 0 (by omega) (tu _)
 ·have m:i < L.length:=(uc.1 j).1;have hd:decide ((i:Int) < (L.length:Int))=true:=uA (by omega);have g:L.getD i default=y:=by simp_all
  have h:yw L (i:Int)=some y:=by simp [yw,j]
  simp only [burF,hd];rw [zk (by omega)];simp only [uX,up,uw,g,ref03Less_is,ua,uS];cases ha:ym y x with
  | true=>simp only [up];rw [h,ua,zk (by simp [yM];omega),vF (by omega)]
  | false=>rfl
 ·have hd:decide ((L.length:Int) < (L.length:Int))=false:=uU (by omega);simp only [burF,hd];rfl
theorem refBury_is (j:L.length<=16777215) (x:GF):ref05Bury L x=some (burP L x):=by
 unfold ref05Bury;rw [vX,ua];unfold burP;cases h:L.any λy=>decide (y=x) with
 | true=>simp only [up]
 | false =>
  simp only [uh,uz];have f:=bury_loop (L:=L) (by omega) x;unfold burF at f;have g:=tw_le (λy=>ym y x) L;have m:=tw_add (λy=>ym y x) L;rw [f];simp only [lp];rw [zk (by simp [yM];omega),slcT _ _ g,ua,drop_tw,zk (by simp [yM];omega)];simp

theorem sortO_le {α:Type} {c:α->α->Option Int} {cf:α->α->Int} {lt:α->α->Prop} {L R:List α} (F:∀x ∈ L,∀y ∈ L,c x y=some (cf x y)) (w:∀x y,cf x y < 0 ↔ lt x y) (o:∀x,¬ lt x x) (u:∀x y z,lt x y->lt y z->lt x z)
  (B:∀x ∈ L,∀y ∈ L,x=y \/ lt x y \/ lt y x) (t:R.Perm L) (hs:R.Pairwise λa b=>¬ lt b a) (C:L.length<=yM):sortO c L=some R:=by
 unfold sortO;rw [ur (λx f y g=>by simp_all)];have hd:∀x ∈ L,∀y ∈ L,(c x y).getD 0 < 0 ↔ lt x y:=λx f y g=>by simp_all
 have p:∀x y,lt x y->¬ lt y x:=λx y m j=>o x (u _ _ _ m j);have v:R.Pairwise λa b=>¬ (c b a).getD 0 < 0:=by
  have:R.Pairwise λa b=>a ∈ L/\b ∈ L/\¬ lt b a:=by
   refine pp ?_ hs
   grind
  refine this.imp ?_
  simp_all
 refine sortF_of ⟨λx f h=>o x ((hd x f x f).1 h),λx y z f g s m j=>(hd x f z s).2 (u _ _ _ ((hd x f y g).1 m) ((hd y g z s).1 j)),λx y z f g s m j E=>?_⟩ C ⟨t,v⟩ ?_
 ·grind
 ·rintro M ⟨D,A⟩
  refine sorted_one (D.trans t.symm) A v λx y f g m j=>?_
  grind
theorem dotCmp_iff (a b:GF):dotCmp a b < 0 ↔ ym a b=true:=by rw [<- dotCmp_neg];simp
def srt (L:List GF):List GF:=L.mergeSort λa b=>!ym b a
theorem srt_pw (L:List GF):(srt L).Pairwise λa b=>¬ ym b a=true:=by
 have:=List.pairwise_mergeSort (le:=λa b=>!ym b a) (λa b c j f=>by
  simp only [tT] at *;cases h:ym c a with
  | false=>rfl
  | true =>
   rcases dlt_tot a b with rfl | g | g
   ·rw [f] at h;cases h
   ·rw [dlt_tr h g] at f;cases f
   ·rw [j] at g;cases g) (λa b=>by
  cases h:ym b a with
  | false=>rfl
  | true =>
   cases f:ym a b with
   | false=>rfl
   | true=>have:=dlt_tr h f;rw [dlt_irr] at this;cases this) L
 refine this.imp λ{a b} h=>?_;simpa using h
theorem srt_perm (L:List GF):(srt L).Perm L:=List.mergeSort_perm ..
theorem sortDots_is (f:L.length<=yM):sortO (λx y=>vj x y) L=some (srt L) :=
 sortO_le (cf:=dotCmp) (lt:=λa b=>ym a b=true) (λx _ y _=>dotCompare_is x y) dotCmp_iff (λx=>by simp [dlt_irr]) (λ_ _ _=>dlt_tr) (λx _ y _=>dlt_tot x y) (srt_perm L) (srt_pw L) f
theorem bur_mem (L:List GF) (d x:GF):x ∈ burP L d ↔ x=d \/ x ∈ L:=by
 unfold burP;split
 ·simp_all
 ·have h:x ∈ L ↔ x ∈ L.takeWhile (λy=>ym y d) \/ x ∈ L.dropWhile (λy=>ym y d):=by
   rw [<- uL,tz]
  grind
theorem dw_not {α:Type} {lt:α->α->Bool} (h:∀a b c,lt a b=true->lt b c=true->lt a c=true) (x:α) {L:List α} (hs:L.Pairwise (λa b=>lt a b=true)):∀y ∈ L.dropWhile (λy=>lt y x),lt y x=false:=by
 intro y g;rw [<- drop_tw] at g;obtain ⟨j,f⟩:=uZ.1 g;rw [uI] at f;have:=ahead_pre h x L hs _ y f
 grind
theorem ins_pw {α:Type} {lt:α->α->Bool} (s:∀a b c,lt a b=true->lt b c=true->lt a c=true) {x:α} {L:List α} (hs:L.Pairwise (λa b=>lt a b=true)) (u:∀y ∈ L,lt y x=true \/ lt x y=true):(L.takeWhile (λy=>lt y x)++([x]++L.dropWhile λy=>lt y x)).Pairwise λa b=>lt a b=true:=by
 have g:=hs;rw [<- tz (p:=λy=>lt y x) (l:=L)] at g;obtain ⟨t,o,v⟩:=tC.1 g;have hd:∀y ∈ L.dropWhile (λy=>lt y x),lt x y=true:=λy j=>by
  rcases u y (pB _ |>.subset j) with h | h
  ·rw [dw_not s x hs y j] at h;cases h
  ·exact h
 refine tC.2 ⟨t,tC.2 ⟨by simp,o,λa m b f=>?_⟩,λa m b f=>?_⟩
 ·simp_all
 ·rcases uL.1 f with f | f
  ·rw [uM] at f;subst f;exact tw_all (λy=>lt y b) _ _ m
  ·simp_all
theorem bur_pw (d:GF) (h:L.Pairwise λa b=>ym a b=true):(burP L d).Pairwise λa b=>ym a b=true:=by
 unfold burP;split
 ·exact h
 ·rename_i j;refine ins_pw (lt:=ym) (λ_ _ _=>dlt_tr) h λy g=>?_;rcases dlt_tot y d with rfl | f | f
  ·simp_all
  ·simp_all
  ·simp_all
theorem bur_len (L:List GF) (d:GF):(burP L d).length<=L.length+1:=by
 unfold burP;split
 ·omega
 ·have:=tw_add (λy=>ym y d) L
  grind
def burs (L ds:List GF):List GF:=ds.foldl burP L
theorem burs_mem:∀(ds L:List GF) (x:GF),x ∈ burs L ds ↔ x ∈ ds \/ x ∈ L
 | [],L,x=>by simp [burs]
 | d::ds,L,x=>by
  have:=burs_mem ds (burP L d) x;simp only [burs,sg] at this ⊢;rw [this,bur_mem]
  grind
theorem burs_pw:∀(ds:List GF) {L:List GF},L.Pairwise (λa b=>ym a b=true)->(burs L ds).Pairwise λa b=>ym a b=true
 | [],_,h=>h
 | d::ds,_,h=>burs_pw ds (bur_pw d h)
theorem burs_len:∀(ds L:List GF),(burs L ds).length<=L.length+ds.length
 | [],L=>by simp [burs]
 | d::ds,L=>by
  have f:=burs_len ds (burP L d);have g:=bur_len L d;simp only [burs,sg,un] at f ⊢;omega
theorem burs_eq (h:L.Pairwise λa b=>ym a b=true):dd (srt (L++ds))=burs L ds:=by
 refine strict_ext (lt:=λa b=>ym a b=true) (λa=>by simp [dlt_irr]) (λ_ _ _=>dlt_tr) _ _ (dd_strict (lt:=λa b=>ym a b=true) (λa b f=>?_) (λ_ _ _=>dlt_tr) _ (srt_pw _)) (burs_pw ds h) λx=>?_
 ·rcases dlt_tot a b with e | e | e
  ·simp_all
  ·simp_all
  ·simp_all
 ·rw [dd_mem,(srt_perm _).mem_iff,burs_mem,uL]
  grind
theorem layC_is (a b:GH):∃v,xb a b=some v/\(v < 0 ↔ yv a b=true):=by
 have h:=leafAhead_is a.time a.dot b.time b.dot;unfold leafAhead at h;unfold xb;cases hc:qd a.time a.dot b.time b.dot with
 | none=>rw [hc] at h;cases h
 | some v =>
  rw [hc] at h;simp only [ua,uj] at h;refine ⟨v,rfl,?_⟩;have:yv a b=decide (v < 0):=h.symm
  grind
theorem searchI {L:List GH} (g:L.length<=1048576) (hs:L.Pairwise λa b=>yv a b=true) (x:GH):∃b,zT L x (λf m=>xb f m)=some (((L.takeWhile λy=>yv y x).length:Int),b):=by
 have o:=tw_le (λy=>yv y x) L;have j:∀i n,L[i]?=some n->∃v,xb n x=some v/\(i < (L.takeWhile λy=>yv y x).length->v < 0)/\((L.takeWhile λy=>yv y x).length<=i->0<=v):=λi n hi=>by
  obtain ⟨v,e,s⟩:=layC_is n x;have p:=ahead_pre (lt:=yv) (λ_ _ _=>ilt_tr) x L hs i n hi
  grind
 rw [bsI_is g o j];by_cases h:(L.takeWhile λy=>yv y x).length < L.length
 ·rw [ur h];obtain ⟨v,e,_⟩:=layC_is (L.getD (L.takeWhile λy=>yv y x).length default) x
  simp_all
 ·rw [uu h];exact ⟨_,rfl⟩
theorem insO_is {L:List GH} (g:L.length<=1048576) (x:GH) {n:Nat} (f:n<=L.length):insO L (n:Int) [x]=some (L.take n++([x]++L.drop n)):=by
 unfold insO;rw [ur ⟨⟨by omega,by omega⟩,by simp,by simp [yM];omega⟩,uw]
theorem progLay_is {L:List GH} (j:L.length<=1048576) (hs:L.Pairwise λa b=>yv a b=true) (x:GH) :
  ((leafXhas L x.dot).bind λf=>(if f=true then some L else ((zT L x (λm o=>xb m o)).bind λg=>((insO L g.1 ([x]:List GH)).bind λv39=>some v39))))=some (layP L x):=by
 rw [leafXhas_is,ua];unfold layP;cases h:L.any λy=>decide (y.dot=x.dot) with
 | true=>rfl
 | false =>
  simp only [uh,uz];obtain ⟨b,e⟩:=searchI j hs x;rw [e,ua,insO_is j x (tw_le _ _),ua,take_tw,drop_tw]
theorem containsDot_is (L:List GF) (d:GF):x5 L d=some (L.any λy=>decide (y=d)):=by
 unfold x5 qY;have:=first_loop (α:=GF) (f:=λx=>some (decide (x=d))) (q:=λx=>decide (x=d)) L (λ_ _=>rfl);have e:∀(h:Nat) (g:GF),(if (d.actor.rep==g.actor.rep&&(d.actor.inc==g.actor.inc&&(d.seq==g.seq&&true)))=true then some (.ret (h:Int)) else some (.nxt ()):Option (Out Int Unit))=((some (decide (g=d)):Option Bool).bind λv=>if v=true then some (.ret (h:Int)) else some (.nxt ())):=λh g=>by
  rw [dotEq,ua]
  grind
 simp only [e];rw [this,ua,firstI_pos]
theorem dropC_is (x:GH) (e:GJ):wv x e=some (e.op.dots.any λy=>decide (y=x.dot)):=by
 unfold wv;rw [containsDot_is];rfl

def xF (l:GC) (e:GJ):GC :=
 if e.op.kind=1 then { l with n:=IntKind.wrap .i64 (l.n+e.op.n) }
 else if e.op.kind=2 then (if (decide (l.time=0) || (if l.time ≠ e.time then decide (l.time < e.time) else ym l.dot e.dot))=true then { l with time:=e.time,dot:=e.dot,text:=e.op.text } else l)
 else if e.op.kind=3 then (if (l.tombs.any λy=>decide (y=e.dot))=true then l else { l with items:=layP l.items ⟨0,e.dot,e.op.text⟩ })
 else if e.op.kind=4 then { l with items:=l.items.filter (λx=>!(e.op.dots.any λy=>decide (y=x.dot))),tombs:=burs l.tombs e.op.dots }
 else { l with items:=layP l.items ⟨e.time,e.dot,e.op.text⟩ }
def zeroLf:GC:=GC.mk (0:Int) (0:Int) (0:Int) (GF.mk (GK.mk (0:Int) (0:Int)) (0:Int)) ([]:zx) ([]:List GH) ([]:List GF)
def applyW (l:GC) (e:GJ):GC×Int:=if (!leafB l || !wZ e)=true then (zeroLf,2) else if vn e.op.kind ≠ l.typ then (zeroLf,15) else (xF l e,0)
theorem riseB_of (h:leafB l=true):l.items.Pairwise λa b=>yv a b=true:=by
 unfold leafB at h;split at h
 ·simp_all
 ·split at h
  ·simp_all
  ·split at h
   ·simp only [ud] at h;exact rise_pw h.1.2.1.2
   ·split at h
    ·simp only [ud] at h;exact rise_pw h.2.1.2
    ·cases h
theorem tombs_of (h:leafB l=true):l.tombs.Pairwise λa b=>ym a b=true:=by
 unfold leafB at h;split at h
 ·simp_all
 ·split at h
  ·simp_all
  ·split at h
   ·simp only [ud,tombsB] at h;exact rising_pw h.2.1.2
   ·simp_all
theorem apart_of_leaf (h:leafB l=true):∀x ∈ l.items,∀d ∈ l.tombs,d ≠ x.dot:=by
 intro x f d hd;unfold leafB at h;split at h
 ·simp_all
 ·split at h
  ·simp_all
  ·split at h
   ·simp only [ud,tombsB] at h
    grind
   ·simp_all
theorem kind_of (h:wZ e=true):1<=e.op.kind/\e.op.kind<=5:=by
 simp only [wZ,opB,ud,ul] at h;omega
theorem dots_of (h:wZ e=true):e.op.dots.length<=64:=by
 simp only [wZ,opB,ud,ul] at h;omega
theorem leafApply_is (e:GJ) (hi:l.items.length<=1048576) (j:l.tombs.length<=1048576):leafApply l e=some (applyW l e):=by
 unfold leafApply applyW;rw [leafMay_is (by unfold maxLen;omega) (by unfold maxLen;omega),ua];cases hl:leafB l with
 | false=>simp [zeroLf]
 | true =>
  simp only [tg,tv,uX,up,opMayEvent_is,ua];cases he:wZ e with
  | false=>simp [zeroLf]
  | true =>
   simp only [tg,uh,uz,opType_is,ua];by_cases hk:vn e.op.kind=l.typ
   ·rw [uu (show ¬ (vn e.op.kind != l.typ)=true by simp [hk]),uu (show ¬ vn e.op.kind ≠ l.typ by simp [hk])];rw [cloneItem_is (by unfold yM;omega),ua,cloneDot_is (by unfold yM;omega),ua];unfold xF;by_cases h1:e.op.kind=1
    ·simp_all
    simp only [h1,uz];by_cases h2:e.op.kind=2
    ·simp only [h2,up,leafAhead_is,ua];have g:(l.time==(0:Int))=decide (l.time=0):=by rfl
     rw [g];cases h0:decide (l.time=0) with
     | true=>simp
     | false =>
      simp only [uX,up,ua,tv];generalize (if l.time ≠ e.time then decide (l.time < e.time) else ym l.dot e.dot)=b;cases b <;> rfl
    simp only [h2,uz];by_cases h3:e.op.kind=3
    ·simp only [h3,up,containsDot_is,ua];have:=progLay_is hi (riseB_of hl) ⟨0,e.dot,e.op.text⟩;simp only at this;rw [this];cases l.tombs.any (λy=>decide (y=e.dot)) <;> rfl
    simp only [h3,uz];have hd:=dots_of he;by_cases h4:e.op.kind=4
    ·simp only [h4,up];rw [zk (by unfold yM;omega),sortDots_is (by simp [yM];omega),ua,compact_is (by rw [(srt_perm _).length_eq];simp;omega),ua,
      deleteI_is (q:=λx=>e.op.dots.any λy=>decide (y=x.dot)) (by omega) (λx _=>dropC_is x e),ua,burs_eq (tombs_of hl)]
     rfl
    simp only [h4,uz];have h:e.op.kind=5:=by have:=kind_of he;omega
    simp only [h,up];have:=progLay_is hi (riseB_of hl) ⟨e.time,e.dot,e.op.text⟩
    simp_all
   ·have f:(vn e.op.kind != l.typ)=true:=by simp [hk]
    simp only [f,up,hk,ne_eq,pk,uh,uz,zeroLf]
theorem refTombs_fold:∀(ds L:List GF) (n:Nat),L.length+ds.length<=16777215->zq (λ(j:Nat) (g:GF) (s1:(List GF))=>(((ref05Bury s1 g).bind λf=>some (.nxt f)):Option (Out (GC×Int) (List GF)))) ds n L=some (.inr (burs L ds))
 | [],L,n,_=>rfl
 | d::ds,L,n,h=>by
  simp only [un] at h;have m:=bur_len L d;simp only [zq];rw [refBury_is (by omega),ua];exact refTombs_fold ds (burP L d) (n+1) (by omega)
theorem refLeft_is (L:List GH) (T:List GF) (j:L.length<=16777215):ref05Left L T=some (L.filter λx=>!(T.any λy=>decide (y=x.dot))):=by
 unfold ref05Left;have:∀(L s:List GH) (n:Nat),s.length+L.length<=16777215->zq (λ(m:Nat) (g:GH) (s1:(List GH))=>(((vY T g.dot).bind λf=>(if (!f)=true then (yg ((s1).length+(([g]:List GH)).length<=yM) (some (.nxt (s1++([g]:List GH))))) else some (.nxt s1))):Option (Out (List GH) (List GH)))) L n s=some (.inr (s++L.filter λx=>!(T.any λy=>decide (y=x.dot)))):=by
  intro L
  induction L with
  | nil=>intro s n _;simp [zq]
  | cons x r ih =>
   intro s n h;simp only [un] at h;simp only [zq,vX,ua];cases hx:T.any λy=>decide (y=x.dot) with
   | true =>
    simp only [tg,uh,uz];rw [tS,uu (by simp [hx])];have:=ih s (n+1) (by omega);simp only [vX,ua] at this;omega
   | false =>
    simp only [sx,up];rw [zk (by simp [yM];omega),tS,ur (by simp [hx])];have:=ih (s++[x]) (n+1) (by simp;omega);simp only [vX,ua,uy,List.singleton_append] at this;omega
 simp_all
theorem refApply_is (e:GJ) (hi:l.items.length<=1048576) (t:l.tombs.length<=1048576) (h0:0<=l.time):ref05Apply l e=some (applyW l e):=by
 unfold ref05Apply applyW;rw [ref05May_is (by unfold maxLen;omega) (by unfold maxLen;omega) h0,ua];cases hl:leafB l with
 | false=>simp [zeroLf]
 | true =>
  simp only [tg,tv,uX,up,vZ,ua];cases he:wZ e with
  | false=>simp [zeroLf]
  | true =>
   simp only [tg,uh,uz,ref04Type_is,ua];by_cases hk:vn e.op.kind=l.typ
   ·rw [uu (show ¬ (vn e.op.kind != l.typ)=true by simp [hk]),uu (show ¬ vn e.op.kind ≠ l.typ by simp [hk])];unfold xF;by_cases h1:e.op.kind=1
    ·simp_all
    have j:(e.op.kind==(1:Int))=false:=by simp [h1]
    simp only [h1,j,uh,uz];by_cases h2:e.op.kind=2
    ·simp only [h2,uX,up,ref05Ahead_is,ua]
     grind
    have n2:(e.op.kind==(2:Int))=false:=by simp [h2]
    simp only [h2,n2,uh,uz];by_cases f:e.op.kind=3
    ·simp only [f,uX,up,vX,ua];cases l.tombs.any (λy=>decide (y=e.dot)) with
     | true=>rfl
     | false=>simp only [sx,up,uh,uz];rw [refLay_is (by omega)];rfl
    have p:(e.op.kind==(3:Int))=false:=by simp [f]
    simp only [f,p,uh,uz];have hd:=dots_of he;by_cases h4:e.op.kind=4
    ·simp only [h4,uX,up];rw [refTombs_fold _ _ _ (by omega)];simp only [lp];rw [refLeft_is _ _ (by omega),ua];congr 3;refine rJ λx o=>?_;congr 1;rw [tw,List.any_eq_true,List.any_eq_true];constructor
     ·rintro ⟨d,hd,h⟩
      have h:=u6 h;rcases (burs_mem _ _ _).1 hd with f | f
      ·simp_all
      ·exact (apart_of_leaf hl x o d f h).elim
     ·rintro ⟨d,hd,h⟩
      exact ⟨d,(burs_mem _ _ _).2 (.inl hd),h⟩
    have s:(e.op.kind==(4:Int))=false:=by simp [h4]
    simp only [h4,s,uh,uz];have m:e.op.kind=5:=by have:=kind_of he;omega
    simp only [m,uX,up];rw [refLay_is (by omega)];rfl
   ·have g:(vn e.op.kind != l.typ)=true:=by simp [hk]
    simp only [g,up,hk,ne_eq,pk,uh,uz,zeroLf]
end
end Go.Vv
