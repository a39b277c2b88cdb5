/- Layer 31 of the document and of the program, of any edits: which are the same, which are ahead, which may be. -/
import Derived.Test.YtgeajmfobeecbaaGreatPlG0
set_option linter.all false
namespace Go.Vv
open Go
variable {a b t:List GA} {l A B done m:List GC} {e x:GC} {q:GC->Bool} {ra rb:List GH} {r:GH}
section
theorem same5b (a b:GE):yM a b=some (decide (a=b)):=by
 by_cases h:a=b
 ·subst h;rw [ref05Same_refl];simp
 ·obtain ⟨v,d,c⟩:=same5_is a b;rw [d];cases v with
  | true=>exact absurd (c rfl) h
  | false=>simp [h]
theorem samePath_is (a b:List zd):x9 a b=some (decide (a=b)):=by
 unfold x9;by_cases hl:a.length=b.length
 ·rw [th (by simp [hl]),wx (r:=false) (λi x=>decide (b[i]?=some x)) (λi x c=>?_)]
  ·by_cases h:a=b
   ·subst h;rw [uF (allI_iff.2 λi x c=>by simp [c])];simp
   ·rw [th (λhh=>h (uW λi=>?_))]
    ·simp [h]
    ·rcases c:a[i]? with _ | x
     ·rw [sH] at c;exact (sH.2 (by omega)).symm
     ·have:=allI_iff.1 hh i x c;simp only [uj] at this;exact this.symm
  ·have hi:=(uc.1 c).1;rw [xw (by omega:i < b.length),ua,ug (by omega:i < b.length)];by_cases e:x=b[i]
   ·simp [e]
   ·simp [e,Ne.symm e]
 ·rw [uF (by simp;omega)];have:a ≠ b:=λh=>hl (by rw [h]);simp [this]
theorem sameP_is (a b:List zd):wN a b=some (decide (a=b)):=samePath_is a b
theorem edit_eq {a b:GC}:a=b ↔ a.path=b.path/\a.typ=b.typ/\a.had=b.had/\a.has=b.has/\a.was=b.was/\a.is=b.is:=by
 cases a;cases b;simp
theorem sameE_is (a b:GC):diffSameC1 a b=some (decide (a=b)):=by
 unfold diffSameC1;rw [sameP_is];simp only [xG,ua];by_cases h1:a.path=b.path <;> by_cases h2:a.typ=b.typ <;> by_cases h3:a.had=b.had <;> by_cases h4:a.has=b.has <;> by_cases h5:a.was=b.was <;> by_cases h6:a.is=b.is <;> simp [edit_eq,h1,h2,h3,h4,h5,h6]
theorem list_all {α:Type} [DecidableEq α] {a b:List α} (d:a.length=b.length):qq (λi x=>decide (b[i]?=some x)) a=decide (a=b):=by
 by_cases h:a=b
 ·subst h;rw [allI_iff.2 λi x c=>by simp [c]];simp
 ·rw [uN h];cases e:qq (λi x=>decide (b[i]?=some x)) a
  ·rfl
  ·refine absurd (uW λi=>?_) h;rcases c:a[i]? with _ | x
   ·rw [sH] at c;exact (sH.2 (by omega)).symm
   ·have:=allI_iff.1 e i x c;simp only [uj] at this;exact this.symm
theorem diffSame_is (a b:List GC):diffSame a b=some (decide (a=b)):=by
 unfold diffSame yY;by_cases hl:a.length=b.length
 ·rw [th (by simp [hl]),wx (r:=false) (λi x=>decide (b[i]?=some x)) (λi x c=>?_),list_all hl]
  ·by_cases h:a=b <;> simp [h]
  ·have hi:=(uc.1 c).1;rw [xw (by omega:i < b.length),ua,ug (by omega:i < b.length)];simp only [sameE_is,ua];by_cases e:x=b[i]
   ·simp [e]
   ·simp [e,Ne.symm e]
 ·rw [uF (by simp;omega)];have:a ≠ b:=λh=>hl (by rw [h]);simp [this]
theorem same31_is (a b:List GC):vg a b=some (decide (a=b)):=by
 unfold vg;by_cases hl:a.length=b.length
 ·rw [th (by simp [hl]),wx (r:=false) (λi x=>decide (b[i]?=some x)) (λi x c=>?_),list_all hl]
  ·by_cases h:a=b <;> simp [h]
  ·have hi:=(uc.1 c).1;rw [xw (by omega:i < b.length),ua,ug (by omega:i < b.length),samePath_is];simp only [same5b,ua];generalize b[i]=y;rw [show decide (some y=some x)=decide (x=y) from tT.2 ⟨λh=>(uJ h).symm,λh=>by rw [h]⟩];by_cases h1:x.path=y.path <;> by_cases h2:x.typ=y.typ <;> by_cases h3:x.had=y.had <;> by_cases h4:x.has=y.has <;> by_cases h5:x.was=y.was <;> by_cases h6:x.is=y.is <;> simp [edit_eq,h1,h2,h3,h4,h5,h6]
 ·rw [uF (by simp;omega)];have:a ≠ b:=λh=>hl (by rw [h]);simp [this]
theorem plt_app {x y:zd} {p a b:List zd} (h:x ≠ y):vi (p++x::a) (p++y::b)=Op.bytesLess x y:=by
 induction p with
 | nil=>simp [vi,h]
 | cons z p ih=>simp [vi,ih,qf]
theorem plt_pre {p b:List zd} (h:b ≠ []):vi p (p++b)=true/\vi (p++b) p=false:=by
 induction p with
 | nil=>cases b with
  | nil=>exact absurd rfl h
  | cons y b=>simp [vi]
 | cons z p ih=>simp [vi,ih,qf]
theorem less_is (a b:GC) (L:a.path.length<=16777216):yT a b=some (xj (zM a) (zM b)):=by
 unfold yT
 -- the names that both have in common
 have key:∀(m i:Nat),a.path.length - i=m->i<=a.path.length->i<=b.path.length->a.path.take i=b.path.take i ->
   (yX (λ(c:Int)=>((if ((decide (c < ((a.path).length:Int)))&&(decide (c < ((b.path).length:Int))))=true then ((xe a.path c).bind λo=>((xe b.path c).bind λn=>(if (!(o==n))=true then ((xe a.path c).bind λu=>((xe b.path c).bind λs=>some (.ret (Op.bytesLess u s)))) else some (.nxt (IntKind.wrap .i64 (c+(1:Int))))))) else some (.brk c)):Option (Out Bool Int))) (i:Int)=some (.inl (xj (zM a) (zM b)))) \/
   ((∃j:Nat,yX (λ(c:Int)=>((if ((decide (c < ((a.path).length:Int)))&&(decide (c < ((b.path).length:Int))))=true then ((xe a.path c).bind λo=>((xe b.path c).bind λn=>(if (!(o==n))=true then ((xe a.path c).bind λu=>((xe b.path c).bind λs=>some (.ret (Op.bytesLess u s)))) else some (.nxt (IntKind.wrap .i64 (c+(1:Int))))))) else some (.brk c)):Option (Out Bool Int))) (i:Int)=some (.inr (j:Int)))/\((∃r,b.path=a.path++r) \/ ∃r,a.path=b.path++r)):=by
  intro m
  induction m with
  | zero =>
   intro i k v E g;right;refine ⟨⟨i,?_⟩,.inl ?_⟩
   ·rw [xi];rw [th (by simp;omega)]
   ·have:i=a.path.length:=by omega
    subst this;rw [tZ] at g;exact ⟨b.path.drop a.path.length,by conv=>lhs;rw [<- sf a.path.length b.path,<- g]⟩
  | succ m ih =>
   intro i k v E g;by_cases hb:i < b.path.length
   ·have f:i < a.path.length:=by omega
    by_cases e:a.path[i]=b.path[i]
    ·have G:a.path.take (i+1)=b.path.take (i+1):=by
      rw [rK f,rK hb,g,e]
     rw [xi];rw [uF (by simp;omega),xw f,ua,xw hb,ua,th (by simp [e])];have H:IntKind.wrap .i64 ((i:Int)+1)=((i+1:Nat):Int):=by rw [qn (by omega)];omega
     simp only [H];exact ih (i+1) (by omega) (by omega) (by omega) G
    ·left;rw [xi];rw [uF (by simp;omega),xw f,ua,xw hb,ua,uF (by simp [e])];have K:a.path=a.path.take i++a.path[i]::a.path.drop (i+1):=by rw [<- rl f,sf]
     have I:b.path=a.path.take i++b.path[i]::b.path.drop (i+1):=by rw [g,<- rl hb,sf]
     have F:xj (zM a) (zM b)=Op.bytesLess a.path[i] b.path[i]:=by
      have w:vi a.path b.path=Op.bytesLess a.path[i] b.path[i]:=by
       generalize hx:a.path[i]=x at *;generalize hy:b.path[i]=y at *;rw [K,I];exact plt_app e
      have D:a.path ≠ b.path:=λh=>e (by simp [h]);simp [xj,zM,w,D]
     rw [F];rfl
   ·right;have C:i=b.path.length:=by omega
    refine ⟨⟨i,?_⟩,.inr ?_⟩
    ·rw [xi];rw [th (by simp;omega)]
    ·subst C;rw [tZ] at g;exact ⟨a.path.drop b.path.length,by conv=>lhs;rw [<- sf b.path.length a.path,g]⟩
 rcases key _ 0 rfl (tK _) (tK _) (by simp) with h | ⟨⟨j,h⟩,w⟩
 ·have h:yX _ (0:Int)=_:=h;rw [h];rfl
 ·have h:yX _ (0:Int)=_:=h;rw [h];simp only [lp];by_cases hl:a.path.length=b.path.length
  ·have J:a.path=b.path:=by
    rcases w with ⟨r,d⟩ | ⟨r,d⟩
    ·have:r=[]:=uO (by have:=congrArg List.length d;simp at this;omega);simp [d,this]
    ·have:r=[]:=uO (by have:=congrArg List.length d;simp at this;omega);simp [d,this]
   rw [th (by simp [hl])];simp [xj,zM,J,plt_irr]
  ·rw [uF (by simp;omega)];rcases w with ⟨r,d⟩ | ⟨r,d⟩
   ·have z:r ≠ []:=λh=>hl (by simp [d,h]);have k:=(plt_pre (p:=a.path) z).1;have v:a.path.length < b.path.length:=by rw [d] at hl ⊢;simp at hl ⊢;exact sP.2 z
    rw [<- d] at k;simp [xj,zM,k,v]
   ·have z:r ≠ []:=λh=>hl (by simp [d,h]);have k:=(plt_pre (p:=b.path) z).2;have v:¬ a.path.length < b.path.length:=by rw [d];simp
    have E:a.path ≠ b.path:=λh=>hl (by rw [h]);rw [<- d] at k;simp [xj,zM,k,v,E]
theorem nothing_is (e:GC):x8 e=some (!wQ e):=by
 unfold x8 wQ;simp only [same5b];by_cases h1:e.had=e.has <;> by_cases h2:e.was=e.is <;> simp [h1,h2]
end
section
def sideB (there:Bool) (l:GE) (k:Int):Bool:=if there=true then decide (l.typ=k)&&leafB l else decide (l=w6)
def okE (e:GC):Bool:=xL e.path&&(decide (1<=e.typ)&&decide (e.typ<=4))&&(e.had || e.has)&&wQ e&&sideB e.had e.was e.typ&&sideB e.has e.is e.typ
def mayE (l:List GC):Bool:=qq (λi e=>okE e&&(decide (i=0) || xj (zM (l.getD (i - 1) default)) (zM e))) l
theorem side31_is {b:Bool} {l:GE} {k:Int} (h:LeafOk l):qx b l k=some (sideB b l k):=by
 have c:=ref05May_is (uE h.items (by decide)) (uE h.tombs (by decide)) h.time;unfold qx sideB;cases b with
 | false=>exact congrArg (λo:Option Bool=>o.bind λv3=>some v3) (same5b l w6)
 | true =>
  rw [c];by_cases e:l.typ=k <;> simp [e]
theorem sideX_is {b:Bool} {l:GE} {k:Int} (h:LeafOk l):xH b l k=some (sideB b l k):=by
 have c:=leafMay_is (uE h.items (by decide)) (uE h.tombs (by decide));unfold xH sideB;cases b with
 | false=>exact congrArg (λo:Option Bool=>o.bind λv3=>some v3) (xG l w6)
 | true =>
  rw [c];by_cases e:l.typ=k <;> simp [e]
theorem ahead_part {i:Nat} (c:l.length<=16777216) (hi:i < l.length) :
  (((decide ((i:Int) > (0:Int)))==true)=true->0<=(IntKind.wrap .i64 ((i:Int) - (1:Int)))/\(IntKind.wrap .i64 ((i:Int) - (1:Int))) < ((l).length:Int)) /\
  (0 < i->(IntKind.wrap .i64 ((i:Int) - (1:Int))).toNat=i - 1):=by
 refine ⟨λh=>?_,λh=>?_⟩
 ·simp only [tX,uj] at h;rw [qn (by omega)];omega
 ·rw [qn (by omega)];omega
theorem may31_bool {σ:Type} {r n:σ} {j h k p:Bool} (w:j=!k) (y:h=!p) (f s v u d g q:Bool) :
  ((if ((((!f || j) || h) || (!d&&!g))==false)=true then some v else some default).bind λc =>
   (if (((((!f || j) || h) || (!d&&!g)) || !c)==false)=true then some u else some default).bind λi =>
   (if ((((((!f || j) || h) || (!d&&!g)) || !c) || !i)==false)=true then some (!s) else some default).bind λo =>
   if ((((((!f || j) || h) || (!d&&!g)) || !c) || !i) || o)=true then some r else if (!q)=true then some r else some n) =
  if ((f&&(k&&p)&&(d || g)&&s&&v&&u)&&q)=true then some n else some r:=by
 subst w y;cases f <;> cases k <;> cases p <;> cases d <;> cases g <;> cases v <;> cases u <;> cases s <;> cases q <;> rfl
theorem mayX_bool {σ:Type} {r n:σ} (g k s o h i c d q:Bool) :
  ((if ((c&&d)==true)=true then some k else some default).bind λf =>
   (if ((((!g || !(h&&i)) || (!c&&!d)) || ((c&&d)&&f))==false)=true then some s else some default).bind λj =>
   (if (((((!g || !(h&&i)) || (!c&&!d)) || ((c&&d)&&f)) || !j)==false)=true then some o else some default).bind λp =>
   if (((((!g || !(h&&i)) || (!c&&!d)) || ((c&&d)&&f)) || !j) || !p)=true then some r else if (!q)=true then some r else some n) =
  if ((g&&(h&&i)&&(c || d)&&!((c==d)&&k)&&s&&o)&&q)=true then some n else some r:=by
 cases g <;> cases h <;> cases i <;> cases c <;> cases d <;> cases s <;> cases o <;> cases k <;> cases q <;> rfl
theorem may31_is (c:l.length<=16777216) (k:∀e ∈ l,CopyOk e):wU l=some (mayE l):=by
 unfold wU mayE;rw [wx (r:=false) (λi e=>okE e&&(decide (i=0) || xj (zM (l.getD (i - 1) default)) (zM e))) (λi x j=>?_)]
 ·split <;> simp_all
 ·have hi:=(uc.1 j).1;have h:=k x (uB j);obtain ⟨p,n⟩:=ahead_part c hi;rw [ref04MayPath_is,side31_is h.was,side31_is h.is,nothing_is,zn p];have o:l.getD (i - 1) default ∈ l:=by
   rw [uu,ug (by omega:i - 1 < l.length)];exact sg _
  have g:(l.getD (i - 1) default).path.length<=16777216:=(k _ o).path;have s:∃v,(if ((decide ((i:Int) > (0:Int)))==true)=true then yT (l.getD (IntKind.wrap .i64 ((i:Int) - (1:Int))).toNat default) x else some default)=some v/\((decide ((i:Int) > 0))&&(!v))=!(decide (i=0) || xj (zM (l.getD (i - 1) default)) (zM x)):=by
   by_cases h0:0 < i
   ·rw [n h0,uR (by omega:(i:Int) > 0),less_is _ _ g];exact ⟨_,rfl,by simp [show i ≠ 0 by omega]⟩
   ·rw [uN (by omega:¬ (i:Int) > 0)];exact ⟨default,rfl,by simp [show i=0 by omega]⟩
  obtain ⟨v,d,f⟩:=s;rw [d];simp only [ua,f,okE];exact may31_bool (by rw [<- decide_not];exact tT.2 (by omega)) (by rw [<- decide_not];exact tT.2 (by omega)) _ _ _ _ _ _ _
theorem mayX_is (d:l.length<=16777216) (s:∀e ∈ l,CopyOk e):wP l=some (mayE l):=by
 unfold wP mayE;rw [wx (r:=false) (λi e=>okE e&&(decide (i=0) || xj (zM (l.getD (i - 1) default)) (zM e))) (λi x k=>?_)]
 ·split <;> simp_all
 ·have hi:=(uc.1 k).1;have j:=s x (uB k);obtain ⟨o,n⟩:=ahead_part d hi;rw [opMayPath_is,sideX_is j.was,sideX_is j.is,xG,zn o];have p:∃v,(if ((decide ((i:Int) > (0:Int)))==true)=true then wz (l.getD (IntKind.wrap .i64 ((i:Int) - (1:Int))).toNat default) x else some default)=some v/\((decide ((i:Int) > 0))&&(decide (v >= 0)))=!(decide (i=0) || xj (zM (l.getD (i - 1) default)) (zM x)):=by
   by_cases h0:0 < i
   ·rw [n h0,uR (by omega:(i:Int) > 0),order_is];refine ⟨_,rfl,?_⟩;have:=ordI_lt (a:=l.getD (i - 1) default) (b:=x);by_cases c:xj (zM (l.getD (i - 1) default)) (zM x)=true
    ·rw [c];have:=this.2 c;rw [uN (by omega)];simp
    ·have u:¬ ordI (l.getD (i - 1) default) x < 0:=λh=>c (this.1 h);have c:xj (zM (l.getD (i - 1) default)) (zM x)=false:=by simpa only [pk] using c
     rw [uR (by omega),c];simp [show i ≠ 0 by omega]
   ·rw [uN (by omega:¬ (i:Int) > 0)];exact ⟨default,rfl,by simp [show i=0 by omega]⟩
  obtain ⟨v,f,g⟩:=p;rw [f];simp only [ua,g,okE,wQ,ge_iff_le];exact mayX_bool _ _ _ _ _ _ _ _ _
theorem okE_iff (h:CopyOk e):okE e=true->EOk e/\wQ e=true:=λg=>by
 simp only [okE,ud,uj,uY] at g;obtain ⟨⟨⟨⟨⟨k,j⟩,n⟩,i⟩,f⟩,d⟩:=g;refine ⟨⟨k,j,n,λa b c=>?_,λa=>?_,λa=>?_,λa=>?_,λa=>?_⟩,i⟩
 ·simp [wQ,a,b,c] at i
 ·simp only [sideB,a,uq,ud,uj] at f;exact ⟨f.2,h.was,f.1⟩
 ·simpa [sideB,a] using f
 ·simp only [sideB,a,uq,ud,uj] at d;exact ⟨d.2,h.is,d.1⟩
 ·simpa [sideB,a] using d
theorem mayE_iff (n:∀e ∈ l,CopyOk e) (h:mayE l=true):(∀e ∈ l,EOk e/\wQ e=true)/\l.Pairwise qp:=by
 unfold mayE at h;rw [allI_iff] at h;have f:∀i x,l[i]?=some x->okE x=true/\(i ≠ 0->xj (zM (l.getD (i - 1) default)) (zM x)=true):=λi x o=>by
  have:=h i x o;simp only [ud,uY,uj] at this;exact ⟨this.1,λh0=>this.2.resolve_left h0⟩
 refine ⟨λe g=>?_,?_⟩
 ·obtain ⟨i,hi⟩:=tb.1 g;exact okE_iff (n e g) (f i e hi).1
 ·rw [tp];have key:∀d i (hi:i < l.length) (c:i+d+1 < l.length),qp l[i] l[i+d+1]:=by
   intro d
   induction d with
   | zero =>
    intro i hi c;have:=(f (i+1) l[i+1] (ug _)).2 (by omega);rw [show i+1 - 1=i by omega,uu,ug hi] at this;exact this
   | succ d ih =>
    intro i hi c;have a:=ih i hi (by omega);have:=(f (i+d+1+1) l[i+d+1+1] (ug _)).2 (by omega);rw [show i+d+1+1 - 1=i+d+1 by omega,uu,ug (by omega)] at this;exact klt_trans a this
  intro i j hi c k;have:=key (j - i - 1) i hi (by omega);have e:i+(j - i - 1)+1=j:=by omega
  simpa only [e] using this
end
section
def layE (l:List GC) (e:GC):List GC:=l.filter (λx=>xj (zM x) (zM e))++e::l.filter (λx=>xj (zM e) (zM x))
theorem split_key (e:GC):∀{l:List GC},l.Pairwise qp->(∃A B,l=A++B/\(∀y ∈ A,qp y e)/\∀y ∈ B,qp e y) \/ ∃A x B,l=A++x::B/\zM x=zM e/\(∀y ∈ A,qp y e)/\∀y ∈ B,qp e y
 | [],_=>.inl ⟨[],[],rfl,by simp,by simp⟩
 | z::l,h=>by
  obtain ⟨j,k⟩:=uC.1 h;rcases klt_tot (zM z) (zM e) with d | d | d
  ·exact .inr ⟨[],z,l,rfl,d,by simp,λy c=>by have:=j y c;unfold qp at this ⊢;rwa [d] at this⟩
  ·rcases split_key e k with ⟨A,B,f,i,g⟩ | ⟨A,x,B,f,i,g,n⟩
   ·exact .inl ⟨z::A,B,by rw [f];rfl,λy c=>(ut.1 c).elim (λh=>h ▸ d) (i y),g⟩
   ·exact .inr ⟨z::A,x,B,by rw [f];rfl,i,λy c=>(ut.1 c).elim (λh=>h ▸ d) (g y),n⟩
  ·exact .inl ⟨[],z::l,rfl,by simp,λy c=>by
    rcases ut.1 c with rfl | c
    ·exact d
    ·exact klt_trans d (j y c)⟩
theorem filt (c:∀y ∈ A,q y=true) (f:∀y ∈ B,q y=false):(A++B).filter q=A:=by
 rw [tn,tm.2 c,tz.2 (λy d=>by rw [f y d];simp),tu]
theorem filt2 (c:∀y ∈ A,q y=false) (f:∀y ∈ B,q y=true):(A++B).filter q=B:=by
 rw [tn,tm.2 f,tz.2 (λy d=>by rw [c y d];simp),uU]
theorem layE_none (d:∀y ∈ A,qp y e) (f:∀y ∈ B,qp e y):layE (A++B) e=A++e::B:=by
 unfold layE;rw [filt d λy c=>klt_asym (f y c),filt2 (λy c=>klt_asym (d y c)) f]
theorem layE_some (g:zM x=zM e) (d:∀y ∈ A,qp y e) (f:∀y ∈ B,qp e y):layE (A++x::B) e=A++e::B:=by
 unfold layE;rw [filt d λy c=>?_,show A++x::B=(A++[x])++B by simp,filt2 (λy c=>?_) f]
 ·rcases uv.1 c with c | c
  ·exact klt_asym (d y c)
  ·obtain rfl:=up.1 c;rw [g];exact y8 _
 ·rcases ut.1 c with rfl | c
  ·rw [g];exact y8 _
  ·exact klt_asym (f y c)
noncomputable def l31F (l0:List GC) (e1:GC):Int->Option (Out (List GC) Int):=(λ(s1:Int)=>((yw (((decide (s1 < ((l0).length:Int)))==true)=true->0<=s1/\s1 < ((l0).length:Int)) (((if ((decide (s1 < ((l0).length:Int)))==true)=true then yT ((l0).getD s1.toNat default) e1 else some default).bind λv30=>(if ((decide (s1 < ((l0).length:Int)))&&v30)=true then some (.nxt (IntKind.wrap .i64 (s1+(1:Int)))) else some (.brk s1))))):Option (Out _ Int)))
noncomputable def l31R (l0:List GC) (e1:GC) (s1:Int):Option (List GC):=((slc l0 (0:Int) s1).bind λm32=>(yw ((([]:List GC)).length+(m32).length<=yN) ((yw (((([]:List GC)++m32)).length+(([e1]:List GC)).length<=yN) ((yw (((decide (s1 < ((l0).length:Int)))==true)=true->0<=s1/\s1 < ((l0).length:Int)) (((if ((decide (s1 < ((l0).length:Int)))==true)=true then yT e1 ((l0).getD s1.toNat default) else some default).bind λv37=>(if ((decide (s1 < ((l0).length:Int)))&&(!v37))=true then ((slc l0 (IntKind.wrap .i64 (s1+(1:Int))) ((l0).length:Int)).bind λm39=>(yw ((((([]:List GC)++m32)++([e1]:List GC))).length+(m39).length<=yN) (some (((([]:List GC)++m32)++([e1]:List GC))++m39)))) else ((slc l0 s1 ((l0).length:Int)).bind λm41=>(yw ((((([]:List GC)++m32)++([e1]:List GC))).length+(m41).length<=yN) (some (((([]:List GC)++m32)++([e1]:List GC))++m41)))))))))))))
theorem lay31_eq (c:List GC) (d:GC):wI c d=lp (yX (l31F c d) (0:Int)) λf=>l31R c d f:=rfl
theorem l31_loop {e:GC} {A B:List GC} (n:(A++B).length<=16777215) (d:∀y ∈ A++B,y.path.length<=16777216) (g:∀y ∈ A,qp y e) (j:∀y r,B=y::r->¬ qp y e) :
  ∀(m i:Nat),A.length - i=m->i<=A.length->yX (l31F (A++B) e) (i:Int)=some (.inr (A.length:Int))
 | 0,i,h1,h2=>by
  have hi:i=A.length:=by omega
  subst hi;rw [xi];unfold l31F;rw [zn (λh=>by simp only [tX,uj] at h;omega)];cases B with
  | nil =>
   have hd:decide (((A.length:Nat):Int) < ((A++([]:List GC)).length:Int))=false:=uN (by simp);simp only [hd];rfl
  | cons y r =>
   have f:(A++y::r).getD ((A.length:Nat):Int).toNat default=y:=by simp
   have hd:decide (((A.length:Nat):Int) < ((A++y::r).length:Int))=true:=uR (by simp;omega);simp only [hd];rw [f,less_is _ _ (d y (by simp))];have:xj (zM y) (zM e)=false:=by
    have:=j y r rfl;unfold qp at this;simpa using this
   rw [this];rfl
 | m+1,i,h1,h2=>by
  have hi:i < A.length:=by omega
  rw [xi];have f:(A++B).getD ((i:Nat):Int).toNat default=A[i]:=by
   rw [uM,uu,uo hi,ug hi];rfl
  have c:(i:Int) < ((A++B).length:Int):=by simp;omega
  have k:xj (zM A[i]) (zM e)=true:=g _ (sg _);have o:IntKind.wrap .i64 ((i:Int)+1)=((i+1:Nat):Int):=by rw [qn (by omega)];omega
  have:l31F (A++B) e (i:Int)=some (.nxt ((i+1:Nat):Int)):=by
   unfold l31F;rw [zn (λ_=>⟨by omega,c⟩),uR c,f,less_is _ _ (d _ (by simp)),k,o];rfl
  rw [this];exact l31_loop n d g j m (i+1) (by omega) (by omega)
theorem lay31_is (g:l.length<=16777215) (u:∀y ∈ l,y.path.length<=16777216) (w:e.path.length<=16777216) (hs:l.Pairwise qp):wI l e=some (layE l e):=by
 rw [lay31_eq];rcases split_key e hs with ⟨A,B,rfl,f,d⟩ | ⟨A,x,B,rfl,o,f,d⟩
 ·have c:=l31_loop g u f (λy r h hh=>by
   have s:=d y (by simp [h]);unfold qp at hh s;rw [klt_asym s] at hh;cases hh) A.length 0 (by omega) (by omega)
  have c:yX (l31F (A++B) e) (0:Int)=_:=c;rw [c,yp,layE_none f d];unfold l31R;have p:((A++B).take ((A.length:Nat):Int).toNat).drop (0:Int).toNat=A:=by simp
  have n:((A++B).take (((A++B).length:Nat):Int).toNat).drop ((A.length:Nat):Int).toNat=B:=by rw [x7];simp
  rw [vC ⟨by omega,by omega,by simp;omega⟩,ua,p];simp only [um] at g;rw [zn (yn (by simp;omega)),zn (yn (by simp;omega)),zn (λh=>by simp only [tX,uj] at h;exact ⟨by omega,h⟩)];have ev:∃v,(if ((decide (((A.length:Nat):Int) < ((A++B).length:Int)))==true)=true then yT e ((A++B).getD ((A.length:Nat):Int).toNat default) else some default)=some v/\((decide (((A.length:Nat):Int) < ((A++B).length:Int)))&&(!v))=false:=by
   cases B with
   | nil =>
    have hd:decide (((A.length:Nat):Int) < ((A++([]:List GC)).length:Int))=false:=uN (by simp);simp only [hd];exact ⟨default,rfl,rfl⟩
   | cons y r =>
    have i:(A++y::r).getD ((A.length:Nat):Int).toNat default=y:=by simp
    rw [uR (by simp;omega:((A.length:Nat):Int) < ((A++y::r).length:Int)),i,less_is _ _ w];have:xj (zM e) (zM y)=true:=d y (by simp);exact ⟨_,rfl,by rw [this];rfl⟩
  obtain ⟨v,j,k⟩:=ev;rw [j,ua,k];simp only [ul,uK];rw [vC ⟨by omega,by simp;omega,sd _⟩,ua,n,zn (yn (by simp;omega))];simp
 ·have c:=l31_loop (A:=A) (B:=x::B) g u f (λy r h hh=>by
   obtain ⟨rfl,_⟩:=List.cons.inj h;unfold qp at hh;rw [o,y8] at hh;cases hh) A.length 0 (by omega) (by omega)
  have c:yX (l31F (A++x::B) e) (0:Int)=_:=c;rw [c,yp,layE_some o f d];unfold l31R;have p:((A++x::B).take ((A.length:Nat):Int).toNat).drop (0:Int).toNat=A:=by simp
  have n:((A++x::B).take (((A++x::B).length:Nat):Int).toNat).drop ((A.length+1:Nat):Int).toNat=B:=by
   rw [x7,show A++x::B=(A++[x])++B by simp];exact rq (by simp)
  rw [vC ⟨by omega,by omega,by simp;omega⟩,ua,p];simp only [um,ui] at g;have i:(A++x::B).getD ((A.length:Nat):Int).toNat default=x:=by simp
  have C:IntKind.wrap .i64 (((A.length:Nat):Int)+1)=((A.length+1:Nat):Int):=by rw [qn (by omega)];omega
  have z:xj (zM e) (zM x)=false:=by rw [o];exact y8 _
  rw [zn (yn (by simp;omega)),zn (yn (by simp;omega)),zn (λh=>by simp only [tX,uj] at h;exact ⟨by omega,h⟩),
   uR (by simp;omega:((A.length:Nat):Int) < ((A++x::B).length:Int)),i,less_is _ _ w,z,C]
  simp only [tE,uq,ua,tF,te];rw [vC ⟨by omega,by simp;omega,sd _⟩,ua,n,zn (yn (by simp;omega))];simp
theorem layE_sorted (h:l.Pairwise qp):(layE l e).Pairwise qp:=by
 rcases split_key e h with ⟨A,B,rfl,f,g⟩ | ⟨A,x,B,rfl,i,f,g⟩
 ·rw [layE_none f g];rw [uZ] at h ⊢;exact ⟨h.1,uC.2 ⟨g,h.2.1⟩,λa d b c=>by
   rcases ut.1 c with rfl | c
   ·exact f a d
   ·exact h.2.2 a d b c⟩
 ·rw [layE_some i f g];rw [uZ] at h ⊢;exact ⟨h.1,uC.2 ⟨g,(uC.1 h.2.1).2⟩,λa d b c=>by
   rcases ut.1 c with rfl | c
   ·exact f a d
   ·exact h.2.2 a d b (by simp [c])⟩
theorem layE_mem:x ∈ layE l e ↔ (x ∈ l/\zM x ≠ zM e) \/ x=e:=by
 unfold layE;simp only [uv,ut,uV];constructor
 ·rintro (⟨d,c⟩ | rfl | ⟨d,c⟩)
  ·exact .inl ⟨d,λh=>by rw [h,y8] at c;cases c⟩
  ·exact .inr rfl
  ·exact .inl ⟨d,λh=>by rw [h,y8] at c;cases c⟩
 ·rintro (⟨d,c⟩ | rfl)
  ·rcases klt_tot (zM x) (zM e) with h | h | h
   ·exact absurd h c
   ·exact .inl ⟨d,h⟩
   ·exact .inr (.inr ⟨d,h⟩)
  ·exact .inr (.inl rfl)
theorem layE_len (l:List GC) (e:GC) (h:l.Pairwise qp):(layE l e).length<=l.length+1:=by
 rcases split_key e h with ⟨A,B,rfl,c,d⟩ | ⟨A,x,B,rfl,f,c,d⟩
 ·rw [layE_none c d];simp;omega
 ·rw [layE_some f c d];simp
theorem some_loop31:∀(l:List GC) (n:Nat) (s:List GC),s.length+l.length<=16777216->zg (λ(g:Nat) (d:GC) (f:(List GC))=>(((x8 d).bind λc=>(if (!c)=true then (yw ((f).length+(([d]:List GC)).length<=yN) (some (.nxt (f++([d]:List GC))))) else some (.nxt f))):Option (Out (List GC) (List GC)))) l n s=some (.inr (s++l.filter wQ))
 | [],_,_,_=>by simp [zg]
 | x::l,n,s,h=>by
  simp only [ui] at h;rw [zg,nothing_is,ua];cases hc:wQ x with
  | true =>
   simp only [tx,tF,uq];rw [zn (yn (by simp;omega))];simp only [];rw [some_loop31 l (n+1) (s++[x]) (by simp;omega)];simp [hc]
  | false =>
   simp only [tF,tx,ul,uK];rw [some_loop31 l (n+1) s (by omega)];simp [hc]
theorem some31_is (h:l.length<=16777216):wT l=some (l.filter wQ):=by
 unfold wT;rw [some_loop31 l 0 [] (by simpa using h)];simp
theorem eLt_ext {a b:List GC} (c:a.Pairwise qp) (d:b.Pairwise qp) (h:∀x,x ∈ a ↔ x ∈ b):a=b :=
 sorted_ext (lt:=qp) (λx h=>by unfold qp at h;rw [y8] at h;cases h) (λ_ _ _=>klt_trans) c d h
end
section
theorem leaf7_side (h:treeB 0 t=true) (f:(zj [] t).length<=16777215) {p:List zd} (g:p ≠ []) {k:Int} (i:1<=k/\k<=4) :
  (∃l,wj t p k=some (l,true)/\Side (zj [] t) p k true l) \/ ((∃l,wj t p k=some (l,false))/\Side (zj [] t) p k false w6):=by
 rcases leaf7_is h f g i with ⟨l,d,c,j⟩ | ⟨d,c⟩
 ·exact .inl ⟨l,j,λ_=>⟨d,c⟩,λh=>(by cases h)⟩
 ·exact .inr ⟨⟨_,c⟩,λh=>(by cases h),λ_=>⟨rfl,d⟩⟩
theorem at_is (j:treeB 0 a=true) (n:treeB 0 b=true) (o:(zj [] a).length<=16777215) (i:(zj [] b).length<=16777215) {p:List zd} (c:p ≠ []) {k:Int} (d:1<=k/\k<=4) :
  ∃e,ref31Xat a b p k=some e/\e.path=p/\e.typ=k/\Side (zj [] a) p k e.had e.was/\Side (zj [] b) p k e.has e.is:=by
 unfold ref31Xat
 rcases leaf7_side j o c d with ⟨l,g,h⟩ | ⟨⟨l,g⟩,h⟩ <;> rcases leaf7_side n i c d with ⟨m,f,s2⟩ | ⟨⟨m,f⟩,s2⟩ <;> rw [g,f] <;> exact ⟨_,rfl,rfl,rfl,h,s2⟩
structure DInv (ra rb done:List GH) (s:List GC):Prop where
 sorted:s.Pairwise qp
 len:s.length<=done.length
 ed:∀e ∈ s,Side ra e.path e.typ e.had e.was/\Side rb e.path e.typ e.has e.is/\∃r ∈ done,rkey r=zM e
 all:∀r ∈ done,∃e ∈ s,zM e=rkey r
theorem DInv.step {done:List GH} {s:List GC} (h:DInv ra rb done s) {r:GH} {e:GC} (n:e.path=r.path) (j:e.typ=r.leaf.typ) (p:Side ra e.path e.typ e.had e.was) (sb:Side rb e.path e.typ e.has e.is):DInv ra rb (done++[r]) (layE s e):=by
 have g:zM e=rkey r:=by unfold zM rkey;rw [n,j]
 refine ⟨layE_sorted h.sorted,?_,λx f=>?_,λq d=>?_⟩
 ·have:=layE_len s e h.sorted;have:=h.len;simp;omega
 ·rcases layE_mem.1 f with ⟨f,_⟩ | rfl
  ·obtain ⟨i,o,q,k,u⟩:=h.ed x f;exact ⟨i,o,q,by simp [k],u⟩
  ·exact ⟨p,sb,r,by simp,g.symm⟩
 ·rcases uv.1 d with d | d
  ·obtain ⟨x,f,c⟩:=h.all q d;by_cases he:zM x=zM e
   ·exact ⟨e,layE_mem.2 (.inr rfl),he.symm.trans c⟩
   ·exact ⟨x,layE_mem.2 (.inl ⟨f,he⟩),c⟩
  ·obtain rfl:=up.1 d;exact ⟨e,layE_mem.2 (.inr rfl),g⟩
theorem diff31_loop {a b:List GA} (u:treeB 0 a=true) (v:treeB 0 b=true) (D:(zj [] a).length<=16777215) (p:(zj [] b).length<=16777215):∀(c done:List GH) (n:Nat) (s:List GC),(∀r ∈ c,RKey r)->(done++c).length<=16777215->DInv (zj [] a) (zj [] b) done s->(∀e ∈ s,e.path.length<=16777216) ->
  ∃g,zg (λ(M:Nat) (C:GH) (H:(List GC))=>(((ref31Xat a b C.path C.leaf.typ).bind λj=>((wI H j).bind λk=>some (.nxt k))):Option (Out ((List GC)×Int) (List GC)))) c n s=some (.inr g)/\DInv (zj [] a) (zj [] b) (done++c) g
 | [],done,n,s,_,_,h,_=>⟨s,rfl,by simpa using h⟩
 | r::c,done,n,s,hr,hl,h,hp=>by
  obtain ⟨E,I⟩:=hr r (by simp);obtain ⟨G,L,_⟩:=xb E;obtain ⟨e,J,i,y,z,o⟩:=at_is u v D p G I;have d:s.length<=16777215:=by have:=h.len;simp at hl;omega
  have w:e.path.length<=16777216:=by rw [i];omega
  rw [zg,J,ua,lay31_is d hp w h.sorted,ua];rw [<- i,<- y] at z o;obtain ⟨g,F,K⟩:=diff31_loop u v D p c (done++[r]) (n+1) (layE s e) (λx f=>hr x (by simp [f])) (by simpa using hl) (h.step i y z o) (λx f=>by
   rcases layE_mem.1 f with ⟨f,_⟩ | rfl
   ·exact hp x f
   ·exact w)
  exact ⟨g,F,by simpa using K⟩
theorem dinv_ed (u:ra.Pairwise λr q=>xj (rkey r) (rkey q)=true) (sb:rb.Pairwise λr q=>xj (rkey r) (rkey q)=true) {s:List GC} (h:DInv ra rb (ra++rb) s) (e:GC):e ∈ s ↔ EdOf ra rb e:=by
 have g:∀e ∈ s,EdOf ra rb e:=λe f=>by
  obtain ⟨c,d,r,i,n⟩:=h.ed e f;refine ⟨?_,c,d⟩;rcases uv.1 i with i | i
  ·left;cases hh:e.had with
   | true=>rfl
   | false=>exact absurd n ((c.off hh).2 r i)
  ·right;cases hh:e.has with
   | true=>rfl
   | false=>exact absurd n ((d.off hh).2 r i)
 refine ⟨g e,λf=>?_⟩;have:∃r ∈ ra++rb,rkey r=zM e:=by
  rcases f.any with hh | hh
  ·obtain ⟨c,d⟩:=f.a.on hh;exact ⟨_,List.mem_append_left _ c,by unfold rkey zM;rw [d]⟩
  ·obtain ⟨c,d⟩:=f.b.on hh;exact ⟨_,List.mem_append_right _ c,by unfold rkey zM;rw [d]⟩
 obtain ⟨r,p,o⟩:=this;obtain ⟨x,k,j⟩:=h.all r p;have:=EdOf.one u sb (g x k) f (j.trans o);rw [<- this];exact k
theorem diff31_no (c:Small a) (d:Small b) (h:(treeB 0 a&&treeB 0 b)=false):vP a b=some ([],2):=by
 unfold vP;rw [wr c,ua];cases e:treeB 0 a with
 | false=>simp
 | true =>
  rw [e] at h;simp only [u2] at h;rw [wr d,h];simp
theorem diffs_are (f:Small a) (d:Small b) (G:GA.bks a+GA.bks b<=16777215) :
  ∃R c,wE a b=some (R,c)/\vP a b=some (R,c)/\∀e ∈ R,e.path ≠ []:=by
 cases hm:(treeB 0 a&&treeB 0 b) with
 | false=>exact ⟨[],2,diff_no f d hm,diff31_no f d hm,by simp⟩
 | true =>
  simp only [ud] at hm;obtain ⟨g,h⟩:=hm;obtain ⟨R,p,y,E,o⟩:=diff_is f d g h (by omega);have z:=yW g [];have sb:=yW h [];have H:=vD f;have F:=vD d;have j:∀r ∈ zj [] a++zj [] b,RKey r:=λr i=>by
   rcases uv.1 i with i | i
   ·exact rows_key f g r i
   ·exact rows_key d h r i
  obtain ⟨s,u,n⟩:=diff31_loop g h (by omega) (by omega) (zj [] a++zj [] b) [] 0 [] j (by simp;omega) ⟨List.Pairwise.nil,by simp,by simp,by simp⟩ (by simp);have D:R=s.filter wQ:=eLt_ext y (n.sorted.filter _) λe=>by
   rw [o,uV,dinv_ed z sb (by simpa using n)]
  have k:s.length<=16777216:=by have:=n.len;simp at this;omega
  refine ⟨R,0,p,?_,λe C=>?_⟩
  ·unfold vP;rw [wr f,ua,wr d,g,h];simp only [tx,tE,uq,ua,rL,ul,uK];rw [refRows_is f,refRows_is d,g,h];simp only [uq,ua];rw [zn (yn (by omega)),u,yp,some31_is k,ua,D]
  ·obtain ⟨v,w⟩:=(o e).1 C;exact (xb (v.eok f d g h w).path).1
end
section
theorem lay7_all {l:GE} {p:List zd} (h:leafB l=true) (s:LeafOk l) (k:xL p=true) (d:treeB 0 t=true) (w:(zj [] t).length<=8388606) :
  ∃t',ref07Lay t p l=some t'/\treeB 0 t'=true/\(zj [] t').length<=(zj [] t).length+1/\∀r,r ∈ zj [] t' ↔ (r ∈ zj [] t/\rkey r ≠ (p,l.typ)) \/ r=⟨p,l⟩:=by
 obtain ⟨o,C,g⟩:=xb k;have i:true=true->l.typ=l.typ/\leafB l=true/\LeafOk l:=λ_=>⟨rfl,h,s⟩
 obtain ⟨t',_,j,z,f⟩:=lay_all i k d (by omega);simp only [r7] at f;refine ⟨t',qU (p.length+1) λn D=>?_,j,z,f⟩;obtain ⟨u,v,y,_,c⟩:=lay_is i p t 0 n o g (by omega) d (by omega) (by omega);have c:=c [];simp only [uU,r7] at c;rw [lay7_lay h s p t 0 n o g (by omega) d w (by omega),v,rows_ext y j λr=>by rw [c,f]]
structure ROk (r:GH):Prop where
 path:xL r.path=true
 leaf:leafB r.leaf=true
 ok:LeafOk r.leaf
def keyNe (L:List GH):Prop:=L.Pairwise λr q=>rkey r ≠ rkey q
theorem made_loop:∀(d:List GH) (n:Nat) (s:List GA),(∀r ∈ d,ROk r)->keyNe d->treeB 0 s=true->(zj [] s).length+d.length<=8388606 ->
  ∃u,zg (λ(G:Nat) (o:GH) (k:(List GA))=>(((ref07Lay k o.path o.leaf).bind λi=>some (.nxt i)):Option (Out (List GA) (List GA)))) d n s=some (.inr u)/\treeB 0 u=true/\∀r,r ∈ zj [] u ↔ (r ∈ zj [] s/\∀q ∈ d,rkey r ≠ rkey q) \/ r ∈ d
 | [],n,s,_,_,hs,_=>⟨s,rfl,hs,λr=>by simp⟩
 | q::d,n,s,h,hk,hs,hw=>by
  obtain ⟨p,D⟩:=uC.1 hk;simp only [ui] at hw;have j:=h q (by simp);obtain ⟨k,E,F,a3,a4⟩:=lay7_all j.leaf j.ok j.path hs (by omega);obtain ⟨u,v,C,w⟩:=made_loop d (n+1) k (λr y=>h r (by simp [y])) D F (by omega);refine ⟨u,by rw [zg,E];exact v,C,λr=>?_⟩;rw [w,a4];have eq:(GH.mk q.path q.leaf)=q:=rfl;rw [eq,show (q.path,q.leaf.typ)=rkey q from rfl];constructor
  ·rintro (⟨⟨c,g⟩ | rfl,z⟩ | c)
   ·refine .inl ⟨c,λx f=>?_⟩;rcases ut.1 f with rfl | f
    ·exact g
    ·exact z x f
   ·exact .inr (by simp)
   ·exact .inr (by simp [c])
  ·rintro (⟨c,g⟩ | c)
   ·exact .inl ⟨.inl ⟨c,g q (by simp)⟩,λx f=>g x (by simp [f])⟩
   ·rcases ut.1 c with rfl | c
    ·exact .inl ⟨.inr rfl,p⟩
    ·exact .inr c
theorem made31_is {c:List GH} (h:∀r ∈ c,ROk r) (f:keyNe c) (d:c.length<=8388606):∃u,qB c=some u/\treeB 0 u=true/\∀r,r ∈ zj [] u ↔ r ∈ c:=by
 obtain ⟨u,i,g,j⟩:=made_loop c 0 [] h f (by rfl) (by simpa [zj] using d);refine ⟨u,?_,g,λr=>?_⟩
 ·unfold qB;rw [i];rfl
 ·rw [j];simp [zj]
noncomputable def p31I (x1:GC) (s1:List GH):Nat->GH->List GH->Option (Out (Out (List GA×Int) (List GH)) (List GH)):=(λ(n2:Nat) (x2:GH) (s2:(List GH))=>(((x9 x2.path x1.path).bind λv111=>(yw (((!v111)==false)=true->0<=(n2:Int)/\(n2:Int) < ((s1).length:Int)) ((if ((!v111) || (((s1).getD (n2:Int).toNat default).leaf.typ != x1.typ))=true then (yw ((s2).length+(([x2]:List GH)).length<=yN) (some (.nxt (s2++([x2]:List GH))))) else some (.nxt s2))))):Option (Out _ (List GH))))
noncomputable def p31F (t0:List GA):Nat->GC->List GH->Option (Out (List GA×Int) (List GH)):=(λ(n1:Nat) (x1:GC) (s1:(List GH))=>(((wj t0 x1.path x1.typ).bind λv65=>((if (((!(v65.2==x1.had))==false)&&(v65.2==true))=true then yM v65.1 x1.was else some default).bind λv66=>(if ((!(v65.2==x1.had)) || (v65.2&&(!v66)))=true then some (.ret (([]:List GA),(16:Int))) else (lp (zg (p31I x1 s1) s1 0 ([]:List GH)) λ(s2:(List GH))=>(if x1.has=true then (yw ((s2).length+(([(GH.mk x1.path x1.is)]:List GH)).length<=yN) (some (.nxt (s2++([(GH.mk x1.path x1.is)]:List GH))))) else some (.nxt s2)))))):Option (Out _ (List GH))))
theorem patch31_eq (t0:List GA) (d:List GC):qy t0 d=((vq t0).bind λf=>((if ((!f)==false)=true then wU d else some default).bind λg=>(if ((!f) || (!g))=true then some (([]:List GA),(2:Int)) else ((vQ t0).bind λv4=>(lp (zg (p31F t0) d 0 v4) λ(h:(List GH))=>((qB h).bind λc=>some (c,(0:Int)))))))):=rfl
def sameK (r:GH) (e:GC):Bool:=decide (r.path=e.path)&&decide (r.leaf.typ=e.typ)
theorem sameK_iff:sameK r e=true ↔ rkey r=zM e:=by
 unfold sameK rkey zM;simp only [ud,uj];exact ⟨λh=>by rw [h.1,h.2],λh=>⟨congrArg Prod.fst h,congrArg Prod.snd h⟩⟩
theorem sameK_not:(!sameK r e)=true ↔ rkey r ≠ zM e:=by
 rw [Ne,<- sameK_iff];simp
theorem p31_inner {x:GC} {s:List GH}:∀(rest done c:List GH),s=done++rest->c.length+rest.length<=16777216 ->
  zg (p31I x s) rest done.length c=some (.inr (c++rest.filter λr=>!sameK r x))
 | [],_,c,_,_=>by simp [zg]
 | q::rest,done,c,hs,hl=>by
  simp only [ui] at hl;have i:s.getD ((done.length:Nat):Int).toNat default=q:=by rw [hs];simp
  have d:((done.length:Nat):Int) < (s.length:Int):=by rw [hs];simp;omega
  have g:(!(decide (q.path=x.path)) || (q.leaf.typ != x.typ))=!sameK q x:=by
   unfold sameK;by_cases h1:q.path=x.path <;> by_cases h2:q.leaf.typ=x.typ <;> simp [h1,h2]
  have f:=λa h=>p31_inner (x:=x) (s:=s) rest (done++[q]) a (by rw [hs];simp) h;rw [um,se] at f;have:p31I x s done.length q c=some (.nxt (if (!sameK q x)=true then c++[q] else c)):=by
   unfold p31I;rw [samePath_is,ua,zn (λ_=>⟨by omega,d⟩),i,g];split
   ·rw [zn (yn (by simp;omega))]
   ·rfl
  rw [zg,this];simp only [];rw [f _ (by split <;> (try simp only [um,se]) <;> omega)];congr 2;cases h:sameK q x <;> simp [sB,h]
def putR (s:List GH) (e:GC):List GH:=(s.filter λr=>!sameK r e)++if e.has=true then [⟨e.path,e.is⟩] else []
theorem p31_step (k:treeB 0 t=true) (u:(zj [] t).length<=16777215) {e:GC} (g:EOk e) (n:Nat) (s:List GH) (hs:s.length<=16777215) :
  (EFits t e/\p31F t n e s=some (.nxt (putR s e))) \/ (¬ EFits t e/\p31F t n e s=some (.ret ([],16))):=by
 have v:=(xb g.path).1;have c:zg (p31I e s) s 0 ([]:List GH)=some (.inr (s.filter λr=>!sameK r e)):=by
  have:=p31_inner (x:=e) (s:=s) s [] [] rfl (by simp;omega);simpa using this
 have p:(lp (zg (p31I e s) s 0 ([]:List GH)) λ(s2:(List GH))=>(if e.has=true then (yw ((s2).length+(([(GH.mk e.path e.is)]:List GH)).length<=yN) (some (Out.nxt (s2++([(GH.mk e.path e.is)]:List GH))))) else some (Out.nxt s2):Option (Out (List GA×Int) (List GH))))=some (.nxt (putR s e)):=by
  rw [c,yp];unfold putR;have w:=tB (λr=>!sameK r e) s;cases e.has with
  | true=>simp only [uq];rw [zn (yn (by simp;omega))]
  | false=>simp
 unfold p31F;rcases leaf7_side k u v g.typ with ⟨l,j,f⟩ | ⟨⟨l,j⟩,f⟩
 ·obtain ⟨i,o⟩:=f.on rfl;rw [j,ua];simp only [same5b];cases hh:e.had with
  | false=>exact .inr ⟨λd=>d.new hh _ i (by unfold rkey zM;rw [o]),by simp⟩
  | true =>
   by_cases e0:l=e.was
   ·subst e0;refine .inl ⟨⟨λ_=>i,λh=>absurd (hh.symm.trans h) (by decide)⟩,?_⟩;simp only [tE,tx,te,uq,sS,ua,tx,pD,rL,ul,uK];exact p
   ·refine .inr ⟨λd=>e0 ?_,by simp [e0]⟩;have:=sorted_key (yW k []) i (d.had hh) (by unfold rkey;rw [o,(g.was1 hh).2.2]);injection this
 ·rw [j,ua];cases hh:e.had with
  | true =>
   refine .inr ⟨λd=>?_,by simp⟩;exact (f.off rfl).2 _ (d.had hh) (by unfold rkey;rw [(g.was1 hh).2.2])
  | false =>
   refine .inl ⟨⟨λh=>absurd (hh.symm.trans h) (by decide),λ_ r y=>(f.off rfl).2 r y⟩,?_⟩;simp only [tE,tx,pD,ul,uK,ua,s9,rL];exact p
theorem putR_ok {s:List GH} (g:EOk e) (h:∀r ∈ s,ROk r) (f:keyNe s):(∀r ∈ putR s e,ROk r)/\keyNe (putR s e):=by
 unfold putR;have d:∀r ∈ (s.filter λr=>!sameK r e),r ∈ s/\rkey r ≠ zM e:=λr c=>by
  rw [uV] at c;exact ⟨c.1,sameK_not.1 c.2⟩
 cases hh:e.has with
 | false =>
  simp only [ul,uK,tu];exact ⟨λr c=>h r (d r c).1,f.filter _⟩
 | true =>
  obtain ⟨n,i,k⟩:=g.is1 hh;simp only [uq];refine ⟨λr c=>?_,?_⟩
  ·rcases uv.1 c with c | c
   ·exact h r (d r c).1
   ·obtain rfl:=up.1 c;exact ⟨g.path,n,i⟩
  ·unfold keyNe;rw [uZ];refine ⟨f.filter _,by simp,λa o b j=>?_⟩;obtain rfl:=up.1 j;have:=(d a o).2;unfold zM at this;unfold rkey at this ⊢;rw [k];exact this
theorem putR_mem {s:List GH}:r ∈ putR s e ↔ (r ∈ s/\rkey r ≠ zM e) \/ (e.has=true/\r=⟨e.path,e.is⟩):=by
 unfold putR;rw [uv,uV,sameK_not];cases e.has <;> simp
theorem putR_len (s:List GH) (e:GC):(putR s e).length<=s.length+1:=by
 unfold putR;have:=tB (λr=>!sameK r e) s;rw [um];split <;> simp <;> omega
theorem p31_loop {t:List GA} (v:treeB 0 t=true) (w:(zj [] t).length<=16777215):∀(es:List GC) (n:Nat) (s:List GH),(∀e ∈ es,EOk e)->es.Pairwise qp->(∀r ∈ s,ROk r)->keyNe s->s.length+es.length<=8388606 ->
  ((∀e ∈ es,EFits t e)/\∃u,zg (p31F t) es n s=some (.inr u)/\(∀r ∈ u,ROk r)/\keyNe u/\u.length<=s.length+es.length/\∀r,r ∈ u ↔ (r ∈ s/\∀e ∈ es,rkey r ≠ zM e) \/ ∃e ∈ es,e.has=true/\r=⟨e.path,e.is⟩) \/
  ((¬ ∀e ∈ es,EFits t e)/\zg (p31F t) es n s=some (.inl ([],16)))
 | [],n,s,_,_,d,f,_=>.inl ⟨by simp,s,rfl,d,f,by simp,λr=>by simp⟩
 | e::es,n,s,h,hp,d,f,hl=>by
  simp only [ui] at hl;obtain ⟨G,z⟩:=uC.1 hp;have k:=h e (by simp);rcases p31_step v w k n s (by omega) with ⟨j,i⟩ | ⟨j,i⟩
  ·obtain ⟨F,D⟩:=putR_ok k d f;have C:=putR_len s e;rcases p31_loop v w es (n+1) (putR s e) (λx c=>h x (by simp [c])) z F D (by omega) with ⟨o,u,p,a3,a4,J,a5⟩ | ⟨o,p⟩
   ·refine .inl ⟨λx c=>?_,u,by rw [zg,i];exact p,a3,a4,by simp only [ui];omega,λr=>?_⟩
    ·rcases ut.1 c with rfl | c
     ·exact j
     ·exact o x c
    ·rw [a5,putR_mem];have g:e.has=true->∀x ∈ es,rkey ⟨e.path,e.is⟩ ≠ zM x:=λhh x c E=>by
      have:=G x c;unfold qp at this;rw [<- E] at this;have I:rkey ⟨e.path,e.is⟩=zM e:=by unfold rkey zM;rw [(k.is1 hh).2.2]
      rw [I,y8] at this;cases this
     constructor
     ·rintro (⟨d | d,f⟩ | ⟨x,c,d⟩)
      ·refine .inl ⟨d.1,λx c=>?_⟩;rcases ut.1 c with rfl | c
       ·exact d.2
       ·exact f x c
      ·exact .inr ⟨e,by simp,d⟩
      ·exact .inr ⟨x,by simp [c],d⟩
     ·rintro (⟨d,f⟩ | ⟨x,c,d⟩)
      ·exact .inl ⟨.inl ⟨d,f e (by simp)⟩,λx c=>f x (by simp [c])⟩
      ·rcases ut.1 c with rfl | c
       ·exact .inl ⟨.inr d,λy H=>by rw [d.2];exact g d.1 y H⟩
       ·exact .inr ⟨x,c,d⟩
   ·exact .inr ⟨λhh=>o λx c=>hh x (by simp [c]),by rw [zg,i];exact p⟩
  ·exact .inr ⟨λhh=>j (hh e (by simp)),by rw [zg,i]⟩
theorem patches_are (hs:Small t) {l:List GC} (k:∀e ∈ l,CopyOk e) (L:GA.bks t+l.length<=8388606):∃u c,vl t l=some (u,c)/\qy t l=some (u,c):=by
 have f:l.length<=16777216:=by omega
 cases ht:treeB 0 t with
 | false =>
  refine ⟨[],2,?_,?_⟩
  ·rw [patch_eq,x6 hs,ht];simp
  ·rw [patch31_eq,wr hs,ht];simp
 | true =>
  cases hm:mayE l with
  | false =>
   refine ⟨[],2,?_,?_⟩
   ·rw [patch_eq,x6 hs,ht,mayX_is f k,hm];simp
   ·rw [patch31_eq,wr hs,ht,may31_is f k,hm];simp
  | true =>
   obtain ⟨n,z⟩:=mayE_iff k hm;have d:=λr g=>(rows_ok t 0 [] hs ht rfl rfl r g)
   have K:=vD hs;have D:qy t l=lp (zg (p31F t) l 0 (zj [] t)) λ(p:(List GH))=>((qB p).bind λj=>some (j,(0:Int))):=by
    rw [patch31_eq,wr hs,ht,may31_is f k,hm,refRows_is hs,ht];simp
   have C:vl t l=lp (zg (patF t) l 0 t) λ(p:(List GA))=>some (p,(0:Int)):=by
    rw [patch_eq,x6 hs,ht,mayX_is f k,hm,select_all hs ht];simp
   rcases p31_loop ht (by omega) l 0 (zj [] t) (λe i=>(n e i).1) z (λr g=>⟨(d r g).path,(d r g).leaf,(d r g).ok⟩) ((yW ht []).imp λh e=>by rw [e,y8] at h;cases h) (by omega) with ⟨w,s,y,a3,a4,M,a5⟩ | ⟨w,y⟩
   ·obtain ⟨u,E,J,F⟩:=pat_loop ht (λr g=>(d r g).ok) l 0 t (λe i=>⟨(n e i).1,w e i⟩) z ht (by omega);obtain ⟨v,G,H,I⟩:=made31_is a3 a4 (by omega);have:v=u:=rows_ext H J λr=>by rw [I,a5,F]
    subst this;exact ⟨v,0,by rw [C,E];rfl,by rw [D,y,yp,G];rfl⟩
   ·rcases pat_any ht (λr g=>(d r g).ok) l 0 t (λe i=>(n e i).1) ht (by omega) with o | o
    ·exact absurd o w
    ·exact ⟨[],16,by rw [C,o];rfl,by rw [D,y];rfl⟩
end
section
def sameEK (x e:GC):Bool:=decide (x.path=e.path)&&decide (x.typ=e.typ)
theorem sameEK_iff:sameEK x e=true ↔ zM x=zM e:=by
 unfold sameEK zM;simp only [ud,uj];exact ⟨λh=>by rw [h.1,h.2],λh=>⟨congrArg Prod.fst h,congrArg Prod.snd h⟩⟩
def chE (f e:GC):GC:=GC.mk e.path e.typ f.had e.has f.was e.is
def nx (l:List GC) (e:GC):GC:=match l.find? (λx=>sameEK x e) with | some f=>chE f e | none=>e
def goodB (l:List GC) (e:GC):Bool:=match l.find? (λx=>sameEK x e) with | some f=>decide (f.has=e.had)&&decide (f.is=e.was) | none=>true
theorem nx_key (l:List GC) (e:GC):zM (nx l e)=zM e:=by
 unfold nx;split <;> rfl
noncomputable def c31I (l0:List GC) (x1:GC):Nat->GC->(Bool×Int×Int×Int×Int×Int×Int×zd×(List GI)×(List GF))->Option (Out (Out (List GC×Int) (List GC)) (Bool×Int×Int×Int×Int×Int×Int×zd×(List GI)×(List GF))):=(λ(n2:Nat) (x2:GC) (s2:Bool×Int×Int×Int×Int×Int×Int×zd×(List GI)×(List GF))=>(((yT x2 (GC.mk x1.path x1.typ s2.1 x1.has (GE.mk s2.2.1 s2.2.2.1 s2.2.2.2.1 (GF.mk (GJ.mk s2.2.2.2.2.1 s2.2.2.2.2.2.1) s2.2.2.2.2.2.2.1) s2.2.2.2.2.2.2.2.1 s2.2.2.2.2.2.2.2.2.1 s2.2.2.2.2.2.2.2.2.2) x1.is)).bind λv96=>(yw ((v96==false)=true->0<=(n2:Int)/\(n2:Int) < ((l0).length:Int)) (((if (v96==false)=true then yT (GC.mk x1.path x1.typ s2.1 x1.has (GE.mk s2.2.1 s2.2.2.1 s2.2.2.2.1 (GF.mk (GJ.mk s2.2.2.2.2.1 s2.2.2.2.2.2.1) s2.2.2.2.2.2.2.1) s2.2.2.2.2.2.2.2.1 s2.2.2.2.2.2.2.2.2.1 s2.2.2.2.2.2.2.2.2.2) x1.is) ((l0).getD (n2:Int).toNat default) else some default).bind λv98=>(if (v96 || v98)=true then some (.nxt (s2.1,s2.2.1,s2.2.2.1,s2.2.2.2.1,s2.2.2.2.2.1,s2.2.2.2.2.2.1,s2.2.2.2.2.2.2.1,s2.2.2.2.2.2.2.2.1,s2.2.2.2.2.2.2.2.2.1,s2.2.2.2.2.2.2.2.2.2)) else (yw (((!(x2.has==s2.1))==false)=true->0<=(n2:Int)/\(n2:Int) < ((l0).length:Int)) (((if ((!(x2.has==s2.1))==false)=true then yM (((l0).getD (n2:Int).toNat default).is) (GE.mk s2.2.1 s2.2.2.1 s2.2.2.2.1 (GF.mk (GJ.mk s2.2.2.2.2.1 s2.2.2.2.2.2.1) s2.2.2.2.2.2.2.1) s2.2.2.2.2.2.2.2.1 s2.2.2.2.2.2.2.2.2.1 s2.2.2.2.2.2.2.2.2.2) else some default).bind λv101=>(if ((!(x2.has==s2.1)) || (!v101))=true then some (.ret (.ret (([]:List GC),(16:Int)))) else some (.nxt (x2.had,x2.was.typ,x2.was.n,x2.was.time,x2.was.dot.actor.rep,x2.was.dot.actor.inc,x2.was.dot.seq,x2.was.text,x2.was.items,x2.was.tombs))))))))))):Option (Out _ (Bool×Int×Int×Int×Int×Int×Int×zd×(List GI)×(List GF)))))
noncomputable def c31F (l0:List GC):Nat->GC->List GC->Option (Out (List GC×Int) (List GC)):=(λ(n1:Nat) (x1:GC) (s1:(List GC))=>((lp (zg (c31I l0 x1) l0 0 (x1.had,x1.was.typ,x1.was.n,x1.was.time,x1.was.dot.actor.rep,x1.was.dot.actor.inc,x1.was.dot.seq,x1.was.text,x1.was.items,x1.was.tombs)) λ(s2:Bool×Int×Int×Int×Int×Int×Int×zd×(List GI)×(List GF))=>((wI s1 (GC.mk x1.path x1.typ s2.1 x1.has (GE.mk s2.2.1 s2.2.2.1 s2.2.2.2.1 (GF.mk (GJ.mk s2.2.2.2.2.1 s2.2.2.2.2.2.1) s2.2.2.2.2.2.2.1) s2.2.2.2.2.2.2.2.1 s2.2.2.2.2.2.2.2.2.1 s2.2.2.2.2.2.2.2.2.2) x1.is)).bind λv103=>some (.nxt v103))):Option (Out _ (List GC))))
theorem chain31_eq (d f:List GC):qA d f=((wU d).bind λg=>((if ((!g)==false)=true then wU f else some default).bind λh=>(if ((!g) || (!h))=true then some (([]:List GC),(2:Int)) else (lp (zg (c31F d) f 0 d) λ(i:(List GC))=>((wT i).bind λc=>some (c,(0:Int))))))):=rfl
def wJ (had:Bool) (w:GE):Bool×Int×Int×Int×Int×Int×Int×zd×(List GI)×(List GF):=(had,w.typ,w.n,w.time,w.dot.actor.rep,w.dot.actor.inc,w.dot.seq,w.text,w.items,w.tombs)
theorem c31_step {n:Nat} {had:Bool} {w:GE} (i:l[n]?=some x) (k:x.path.length<=16777216) (o:e.path.length<=16777216) :
  c31I l e n x (wJ had w)=if sameEK x e=true then (if x.has=had/\x.is=w then some (.nxt (wJ x.had x.was)) else some (.ret (.ret ([],16)))) else some (.nxt (wJ had w)):=by
 have v:=(uc.1 i).1;have s:l.getD ((n:Nat):Int).toNat default=x:=by rw [uM,uu,i];rfl
 have g:0<=(n:Int)/\(n:Int) < (l.length:Int):=⟨by omega,by omega⟩
 unfold c31I;have f:=less_is x (GC.mk e.path e.typ had e.has w e.is) k;have c:=less_is (GC.mk e.path e.typ had e.has w e.is) x o;have p:zM (GC.mk e.path e.typ had e.has w e.is)=zM e:=rfl;rw [p] at f c;have u:(GE.mk (wJ had w).2.1 (wJ had w).2.2.1 (wJ had w).2.2.2.1 (GF.mk (GJ.mk (wJ had w).2.2.2.2.1 (wJ had w).2.2.2.2.2.1) (wJ had w).2.2.2.2.2.2.1) (wJ had w).2.2.2.2.2.2.2.1 (wJ had w).2.2.2.2.2.2.2.2.1 (wJ had w).2.2.2.2.2.2.2.2.2)=w:=rfl;have j:(wJ had w).1=had:=rfl;rw [u,j,f,ua,zn (λ_=>g),s];cases hs:sameEK x e with
 | true =>
  have d:=sameEK_iff.1 hs;rw [d] at c ⊢;rw [y8] at c ⊢;rw [c];simp only [tF,tE,uq,ua,rL,ul,uK];rw [zn (λ_=>g)];simp only [same5b];by_cases h1:x.has=had
  ·by_cases h2:x.is=w
   ·simp [h1,h2,wJ]
   ·simp [h1,h2]
  ·simp [h1]
 | false =>
  have d:zM x ≠ zM e:=λh=>by rw [sameEK_iff.2 h] at hs;cases hs
  rcases klt_tot (zM x) (zM e) with h | h | h
  ·exact absurd h d
  ·rw [h];simp;rfl
  ·rw [klt_asym h,c,h];simp;rfl
theorem c31_in {l:List GC} {e:GC} (g:∀y ∈ l,y.path.length<=16777216) (i:e.path.length<=16777216):∀(rest done:List GC) (had:Bool) (w:GE),l=done++rest->rest.Pairwise qp ->
  zg (c31I l e) rest done.length (wJ had w)=match rest.find? (λx=>sameEK x e) with
   | some f=>if f.has=had/\f.is=w then some (.inr (wJ f.had f.was)) else some (.inl (.ret ([],16)))
   | none=>some (.inr (wJ had w))
 | [],_,had,w,_,_=>rfl
 | x::rest,done,had,w,hl,hs=>by
  obtain ⟨k,j⟩:=uC.1 hs;have o:l[done.length]?=some x:=by rw [hl];simp
  have d:=λa b=>c31_in g i rest (done++[x]) a b (by rw [hl];simp) j;rw [um,se] at d;rw [zg,c31_step o (g x (by rw [hl];simp)) i];cases hk:sameEK x e with
  | true =>
   have p:rest.find? (λx=>sameEK x e)=none:=by
    rw [sC];intro y n h;have c:=k y n;unfold qp at c;rw [sameEK_iff.1 hk,sameEK_iff.1 h,y8] at c;cases c
   rw [List.find?_cons_of_pos (by exact hk)];simp only [uq];by_cases hg:x.has=had/\x.is=w
   ·rw [uF hg,uF hg];simp only [d,p]
   ·rw [th hg,th hg]
  | false =>
   rw [List.find?_cons_of_neg (by rw [hk];simp)];simp only [ul,uK,d]
theorem c31F_is (j:l.Pairwise qp) (i:∀y ∈ l,y.path.length<=16777216) (g:e.path.length<=16777216) {s:List GC} (hs:s.length<=16777215) (c:∀y ∈ s,y.path.length<=16777216) (d:s.Pairwise qp) (n:Nat) :
  c31F l n e s=if goodB l e=true then some (.nxt (layE s (nx l e))) else some (.ret ([],16)):=by
 unfold c31F;have h:=c31_in i g l [] e.had e.was rfl j;have h:zg (c31I l e) l 0 (e.had,e.was.typ,e.was.n,e.was.time,e.was.dot.actor.rep,e.was.dot.actor.inc,e.was.dot.seq,e.was.text,e.was.items,e.was.tombs)=_:=h;rw [h];unfold goodB nx;split
 ·rename_i f o;by_cases hg:f.has=e.had/\f.is=e.was
  ·rw [uF hg,yp];have:wI s (GC.mk e.path e.typ (wJ f.had f.was).1 e.has (GE.mk (wJ f.had f.was).2.1 (wJ f.had f.was).2.2.1 (wJ f.had f.was).2.2.2.1 (GF.mk (GJ.mk (wJ f.had f.was).2.2.2.2.1 (wJ f.had f.was).2.2.2.2.2.1) (wJ f.had f.was).2.2.2.2.2.2.1) (wJ f.had f.was).2.2.2.2.2.2.2.1 (wJ f.had f.was).2.2.2.2.2.2.2.2.1 (wJ f.had f.was).2.2.2.2.2.2.2.2.2) e.is)=some (layE s (chE f e)):=lay31_is hs c g d;rw [this];simp [hg.1,hg.2]
  ·rw [th hg];have:(decide (f.has=e.had)&&decide (f.is=e.was))=false:=by
    by_cases h1:f.has=e.had
    ·have k:f.is ≠ e.was:=λh=>hg ⟨h1,h⟩;simp [k]
    ·simp [h1]
   rw [this];rfl
 ·rw [yp];have:wI s (GC.mk e.path e.typ (wJ e.had e.was).1 e.has (GE.mk (wJ e.had e.was).2.1 (wJ e.had e.was).2.2.1 (wJ e.had e.was).2.2.2.1 (GF.mk (GJ.mk (wJ e.had e.was).2.2.2.2.1 (wJ e.had e.was).2.2.2.2.2.1) (wJ e.had e.was).2.2.2.2.2.2.1) (wJ e.had e.was).2.2.2.2.2.2.2.1 (wJ e.had e.was).2.2.2.2.2.2.2.2.1 (wJ e.had e.was).2.2.2.2.2.2.2.2.2) e.is)=some (layE s e):=lay31_is hs c g d;rw [this];rfl
def ChIn (l done:List GC) (P:GC->Prop):Prop:=∀x,P x ↔ (x ∈ l/\∀e ∈ done,zM x ≠ zM e) \/ ∃e ∈ done,x=nx l e
theorem ChIn.step {P Q:GC->Prop} (h:ChIn l done P) (g:∀d ∈ done,zM d ≠ zM e) (i:∀x,Q x ↔ (P x/\zM x ≠ zM e) \/ x=nx l e):ChIn l (done++[e]) Q:=λx=>by
 rw [i,h];constructor
 ·rintro (⟨⟨c,f⟩ | ⟨d,c,rfl⟩,j⟩ | rfl)
  ·refine .inl ⟨c,λd hd=>?_⟩;rcases uv.1 hd with hd | hd
   ·exact f d hd
   ·obtain rfl:=up.1 hd;exact j
  ·exact .inr ⟨d,by simp [c],rfl⟩
  ·exact .inr ⟨e,by simp,rfl⟩
 ·rintro (⟨c,f⟩ | ⟨d,c,rfl⟩)
  ·exact .inl ⟨.inl ⟨c,λd hd=>f d (by simp [hd])⟩,f e (by simp)⟩
  ·rcases uv.1 c with c | c
   ·exact .inl ⟨.inr ⟨d,c,rfl⟩,by rw [nx_key];exact g d c⟩
   ·obtain rfl:=up.1 c;exact .inr rfl
theorem c31_loop {l:List GC} (o:l.Pairwise qp) (k:∀y ∈ l,y.path.length<=16777216):∀(R done:List GC) (n:Nat) (s:List GC),(∀e ∈ R,e.path.length<=16777216)->(done++R).Pairwise qp->s.length+R.length<=16777215->(∀y ∈ s,y.path.length<=16777216)->s.Pairwise qp->ChIn l done (· ∈ s) ->
  (R.all (goodB l)=true/\∃u,zg (c31F l) R n s=some (.inr u)/\u.Pairwise qp/\u.length<=s.length+R.length/\ChIn l (done++R) (· ∈ u)) \/ (R.all (goodB l)=false/\zg (c31F l) R n s=some (.inl ([],16)))
 | [],done,n,s,_,_,_,_,h1,h2=>.inl ⟨rfl,s,rfl,h1,by simp,by simpa using h2⟩
 | e::R,done,n,s,hr,hd,hs,hsp,h1,h2=>by
  simp only [ui] at hs;have p:=hr e (by simp);have c:=c31F_is o k p (by omega) hsp h1 n;cases hg:goodB l e with
  | false =>
   refine .inr ⟨by simp [hg],?_⟩;rw [hg] at c;rw [zg,c];rfl
  | true =>
   rw [hg] at c;simp only [uq] at c;have v:=layE_len s (nx l e) h1;have f:∀d ∈ done,zM d ≠ zM e:=λd i h=>by
    have:=(uZ.1 hd).2.2 d i e (by simp);unfold qp at this;rw [h,y8] at this;cases this
   have j:(nx l e).path.length<=16777216:=by
    have:=congrArg Prod.fst (nx_key l e);have h:(nx l e).path=e.path:=this;rw [h];exact p
   rcases c31_loop o k R (done++[e]) (n+1) (layE s (nx l e)) (λx w=>hr x (by simp [w])) (by simpa using hd) (by omega) (λy g=>by
     rcases layE_mem.1 g with ⟨g,_⟩ | rfl
     ·exact hsp y g
     ·exact j) (layE_sorted h1) (h2.step f λx=>by rw [layE_mem,nx_key]) with ⟨a1,u,a2,a3,a4,a5⟩ | ⟨a1,a2⟩
   ·exact .inl ⟨by simp [hg,a1],u,by rw [zg,c];exact a2,a3,by simp only [ui];omega,by simpa using a5⟩
   ·exact .inr ⟨by simp [hg,a1],by rw [zg,c];exact a2⟩
theorem cB_step {M:List (zd×GC)} (w:mnd M) (p:∀x ∈ M,KOk x) (u:ChIn l done λx=>∃y ∈ M,y.2=x) {e:GC} (o:xL e.path=true) (k:1<=e.typ/\e.typ<=4) (s:∀d ∈ done,zM d ≠ zM e) (n:Nat) :
  cB n e M=if goodB l e=true then some (.nxt (yC sEq M (xu e.path e.typ) (nx l e))) else some (.ret ([],16)):=by
 unfold cB;rw [key_is o k,ua];have v:(λa b:zd=>a==b)=sEq:=rfl;rw [v];unfold goodB nx;cases hf:l.find? (λx=>sameEK x e) with
 | some f =>
  have j:f ∈ l:=sG hf;have i:zM f=zM e:=sameEK_iff.1 (by have:=List.find?_some hf;exact this);obtain ⟨y,g,rfl⟩:=(u f).2 (.inl ⟨j,λd hd h=>s d hd (h.symm.trans i)⟩);have c:y.1=xu e.path e.typ:=((p y g).iff o k).2 i;have hh:ww sEq M (xu e.path e.typ)=true:=mhas_iff.2 ⟨y,g,c⟩;have z:cG M (xu e.path e.typ)=y.2:=by
   unfold cG;rw [v,<- c];exact get_mem w g
  rw [uF hh,z];simp only [xG];by_cases g1:y.2.has=e.had
  ·by_cases g2:y.2.is=e.was
   ·simp [g1,g2,chE]
   ·simp [g1,g2]
  ·simp [g1]
 | none =>
  have C:∀y ∈ M,zM y.2 ≠ zM e:=λy g h=>by
   rcases (u y.2).1 ⟨y,g,rfl⟩ with ⟨a,_⟩ | ⟨d,hd,D⟩
   ·have:=sC.1 hf y.2 a;exact this (sameEK_iff.2 h)
   ·rw [D,nx_key] at h;exact s d hd h
  have hh:ww sEq M (xu e.path e.typ)=false:=by
   cases hb:ww sEq M (xu e.path e.typ)
   ·rfl
   ·obtain ⟨y,g,c⟩:=mhas_iff.1 hb;exact absurd (((p y g).iff o k).1 c) (C y g)
  rw [hh];rfl
theorem cB_all {l:List GC}:∀(R done:List GC) (n:Nat) (M:List (zd×GC)),(∀e ∈ R,xL e.path=true/\1<=e.typ/\e.typ<=4)->(done++R).Pairwise qp->mnd M->(∀x ∈ M,KOk x)->(ChIn l done λx=>∃y ∈ M,y.2=x) ->
  (R.all (goodB l)=true/\∃u,zg cB R n M=some (.inr u)/\mnd u/\(∀x ∈ u,KOk x)/\u.length<=M.length+R.length/\ChIn l (done++R) λx=>∃y ∈ u,y.2=x) \/ (R.all (goodB l)=false/\zg cB R n M=some (.inl ([],16)))
 | [],done,n,M,_,_,h1,h2,h3=>.inl ⟨rfl,M,rfl,h1,h2,by simp,by simpa using h3⟩
 | e::R,done,n,M,hr,hd,h1,h2,h3=>by
  obtain ⟨s,p⟩:=hr e (by simp);have i:∀d ∈ done,zM d ≠ zM e:=λd z h=>by
   have:=(uZ.1 hd).2.2 d z e (by simp);unfold qp at this;rw [h,y8] at this;cases this
  have g:=cB_step h1 h2 h3 s p i n;cases hg:goodB l e with
  | false =>
   refine .inr ⟨by simp [hg],?_⟩;rw [hg] at g;rw [zg,g];rfl
  | true =>
   rw [hg] at g;simp only [uq] at g;have j:=nx_key l e;have C:(nx l e).path=e.path:=congrArg Prod.fst j;have nt:(nx l e).typ=e.typ:=congrArg Prod.snd j;have w:=mem_put (k:=xu e.path e.typ) (v:=nx l e) h1;have D:=put_len (k:=xu e.path e.typ) (v:=nx l e) M;have E:∀x ∈ yC sEq M (xu e.path e.typ) (nx l e),KOk x:=λx o=>by
    rcases (w x).1 o with ⟨o,_⟩ | rfl
    ·exact h2 x o
    ·exact ⟨by simp only [C,nt],by simp only [C];exact s,by simp only [nt];exact p⟩
   rcases cB_all R (done++[e]) (n+1) (yC sEq M (xu e.path e.typ) (nx l e)) (λx o=>hr x (by simp [o])) (by simpa using hd) (mnd_put h1) E (h3.step i λx=>by
     constructor
     ·rintro ⟨y,f,rfl⟩
      rcases (w y).1 f with ⟨f,c⟩ | rfl
      ·exact .inl ⟨⟨y,f,rfl⟩,λh=>c (((h2 y f).iff s p).2 h)⟩
      ·exact .inr rfl
     ·rintro (⟨⟨y,f,rfl⟩,c⟩ | rfl)
      ·exact ⟨y,(w y).2 (.inl ⟨f,λh=>c (((h2 y f).iff s p).1 h)⟩),rfl⟩
      ·exact ⟨_,(w _).2 (.inr rfl),rfl⟩) with ⟨a1,u,a2,a3,a4,a6,a5⟩ | ⟨a1,a2⟩
   ·exact .inl ⟨by simp [hg,a1],u,by rw [zg,g];exact a2,a3,a4,by simp only [ui];omega,by simpa using a5⟩
   ·exact .inr ⟨by simp [hg,a1],by rw [zg,g];exact a2⟩
theorem nx_copy (g:∀x ∈ l,CopyOk x) {e:GC} (c:CopyOk e):CopyOk (nx l e):=by
 unfold nx;split
 ·rename_i f d;have:=g f (sG d);exact ⟨c.path,this.was,c.is⟩
 ·exact c
theorem chains_are (g:∀e ∈ l,CopyOk e) (hd:∀e ∈ m,CopyOk e) (hl:l.length+m.length<=16777215):∃u c,diffChain l m=some (u,c)/\qA l m=some (u,c):=by
 cases hm:mayE l&&mayE m with
 | false =>
  refine ⟨[],2,?_,?_⟩
  ·rw [chain_eq,mayX_is (by omega) g,mayX_is (by omega) hd];cases h1:mayE l <;> cases s:mayE m <;> simp_all
  ·rw [chain31_eq,may31_is (by omega) g,may31_is (by omega) hd];cases h1:mayE l <;> cases s:mayE m <;> simp_all
 | true =>
  simp only [ud] at hm;obtain ⟨H,C⟩:=hm;obtain ⟨T,p⟩:=mayE_iff g H;obtain ⟨L,K⟩:=mayE_iff hd C;have f:∀y ∈ l,y.path.length<=16777216:=λy o=>(g y o).path;have S:diffChain l m=lp (zg cA l 0 ([]:List (zd×GC))) λ(G:List (zd×GC))=>(lp (zg cB m 0 G) λ(s2:List (zd×GC))=>((xk s2).bind λv24=>some (v24,(0:Int)))):=by
   rw [chain_eq,mayX_is (by omega) g,mayX_is (by omega) hd,H,C];rfl
  have P:qA l m=lp (zg (c31F l) m 0 l) λ(G:(List GC))=>((wT G).bind λk=>some (k,(0:Int))):=by
   rw [chain31_eq,may31_is (by omega) g,may31_is (by omega) hd,H,C];rfl
  obtain ⟨M,U,a2,a3,a4,a5⟩:=cA_loop l 0 [] [] (λe d=>⟨(T e d).1.path,(T e d).1.typ⟩) (by simpa using p) List.Pairwise.nil (by simp) (by simp);simp only [uU,uH] at a3 a4 a5;have Y:ChIn l [] λx=>∃y ∈ M,y.2=x:=λx=>by
   constructor
   ·rintro ⟨y,o,rfl⟩;exact .inl ⟨(a3 y o).2,by simp⟩
   ·rintro (⟨j,_⟩ | ⟨e,d,_⟩)
    ·exact a4 x j
    ·simp at d
  have Q:ChIn l [] (· ∈ l):=λx=>by simp
  rcases cB_all m [] 0 M (λe d=>⟨(L e d).1.path,(L e d).1.typ⟩) (by simpa using K) a2 (λx j=>(a3 x j).1) Y with ⟨F,u,z,Z,O,b5,I⟩ | ⟨F,z⟩
  ·rcases c31_loop p f m [] 0 l (λe d=>(hd e d).path) (by simpa using K) (by omega) f p Q with ⟨i,v,n,N,d4,w⟩ | ⟨i,n⟩
   ·simp only [uU] at I w;have J:∀x ∈ u,CopyOk x.2:=λx j=>by
     rcases (I x.2).1 ⟨x,j,rfl⟩ with ⟨h,_⟩ | ⟨e,d,D⟩
     ·exact g _ h
     ·rw [D];exact nx_copy g (hd e d)
    have E:u.Pairwise λx y=>zM x.2 ≠ zM y.2:=by
     refine rp (λ{x y} j o h=>?_) Z;exact λs=>h (by
      rw [(O x j).key,(O y o).key];have X:x.2.path=y.2.path:=congrArg Prod.fst s;have q2:x.2.typ=y.2.typ:=congrArg Prod.snd s;rw [X,q2])
    obtain ⟨R,V,r2,_,W⟩:=sorted_is (m:=u) (by omega) J E;have hR:R=v.filter wQ:=eLt_ext r2 (N.filter _) λx=>by rw [W,uV,show (∃y ∈ u,y.2=x) ↔ _ from I x,show x ∈ v ↔ _ from w x]
    exact ⟨R,0,by rw [S,U,yp,z,yp,V];rfl,by rw [P,n,yp,some31_is (by omega),hR];rfl⟩
   ·rw [F] at i;cases i
  ·rcases c31_loop p f m [] 0 l (λe d=>(hd e d).path) (by simpa using K) (by omega) f p Q with ⟨i,v,n,N,d4,w⟩ | ⟨i,n⟩
   ·rw [F] at i;cases i
   ·exact ⟨[],16,by rw [S,U,yp,z];rfl,by rw [P,n];rfl⟩
end
section
theorem turn31_loop:∀(L:List GC) (n:Nat) (s:List GC),s.length+L.length<=16777216->zg (λ(f:Nat) (c:GC) (d:(List GC))=>((yw ((d).length+(([(GC.mk c.path c.typ c.has c.had c.is c.was)]:List GC)).length<=yN) (some (.nxt (d++([(GC.mk c.path c.typ c.has c.had c.is c.was)]:List GC))))):Option (Out (List GC) (List GC)))) L n s=some (.inr (s++L.map qV))
 | [],_,s,_=>by simp [zg]
 | x::L,n,s,h=>by
  simp only [ui] at h;rw [zg,zn (yn (by simp;omega))];simp only [];rw [turn31_loop L (n+1) _ (by simp;omega)];simp [qV]
theorem turn31_is {L:List GC} (h:L.length<=16777216):ref31Turn L=some (L.map qV):=by
 unfold ref31Turn;rw [turn31_loop L 0 [] (by simpa using h)];simp
theorem tot_loop {α:Type} {f:Nat->α->Unit->Option (Out Bool Unit)} (h:∀n x,(∃r,f n x ()=some (.ret r)) \/ f n x ()=some (.nxt ())):∀(L:List α) (n:Nat),(∃r,zg f L n ()=some (.inl r)) \/ zg f L n ()=some (.inr ())
 | [],_=>.inr rfl
 | x::L,n=>by
  rcases h n x with ⟨r,c⟩ | c
  ·exact .inl ⟨r,by rw [zg,c]⟩
  ·rcases tot_loop h L (n+1) with ⟨r,d⟩ | d
   ·exact .inl ⟨r,by rw [zg,c];exact d⟩
   ·exact .inr (by rw [zg,c];exact d)
theorem tot_loop2 {α:Type} {ρ:Type} {f:Nat->α->Unit->Option (Out (Out Bool ρ) Unit)} {q:Out Bool ρ} (h:∀n x,f n x ()=some (.ret q) \/ f n x ()=some (.nxt ())):∀(L:List α) (n:Nat),zg f L n ()=some (.inl q) \/ zg f L n ()=some (.inr ())
 | [],_=>.inr rfl
 | x::L,n=>by
  rcases h n x with c | c
  ·exact .inl (by rw [zg,c])
  ·rcases tot_loop2 h L (n+1) with d | d
   ·exact .inl (by rw [zg,c];exact d)
   ·exact .inr (by rw [zg,c];exact d)
theorem great31_tot (l:List GC):∃v,qz l=some v:=by
 unfold qz;rcases tot_loop (f:=(λ(i:Nat) (c:GC) (j:Unit)=>((if (((decide (((c.path).length:Int) > (5:Int))) || (decide ((IntKind.wrap .i64 (((c.was.items).length:Int)+((c.is.items).length:Int))) > (20:Int)))) || (decide ((IntKind.wrap .i64 (((c.was.tombs).length:Int)+((c.is.tombs).length:Int))) > (20:Int))))=true then some (.ret true) else (lp (zg (λ(g:Nat) (d:zd) (s2:Unit)=>((if (decide (((d).length:Int) > (20:Int)))=true then some (.ret (.ret true)) else some (.nxt ())):Option (Out _ Unit))) c.path 0 ()) λ(s2:Unit)=>some (.nxt ()))):Option (Out Bool Unit)))) (λn x=>by
   split
   ·exact .inl ⟨_,rfl⟩
   ·rcases tot_loop2 (ρ:=Unit) (f:=(λ(g:Nat) (d:zd) (s2:Unit)=>((if (decide (((d).length:Int) > (20:Int)))=true then some (.ret (.ret true)) else some (.nxt ())):Option (Out _ Unit)))) (q:=.ret true) (λn x=>by split <;> simp) x.path 0 with h | h
    ·rw [h];exact .inl ⟨_,rfl⟩
    ·rw [h];exact .inr rfl) l 0 with ⟨r,h⟩ | h
 ·rw [h];exact ⟨r,rfl⟩
 ·rw [h];exact ⟨_,rfl⟩
theorem great_any {c:List GA} (h:Small a) (n:Small b) (o:Small c) (l m:List GC):∃v,law31Xgreat a b c l m=some v:=by
 obtain ⟨k,f⟩:=ref07Great_tot h;obtain ⟨j,p⟩:=ref07Great_tot n;obtain ⟨v3,g⟩:=ref07Great_tot o;obtain ⟨v4,i⟩:=great31_tot l;obtain ⟨v5,d⟩:=great31_tot m;unfold law31Xgreat
 rw [f,p,g,i,d];cases k <;> cases j <;> cases v3 <;> cases v4 <;> exact ⟨_,rfl⟩
theorem leafOk_of {l:GE} (h:GE.wf l) (c:GE.bk l<=16777216):LeafOk l:=by
 have g:=sum_len (f:=GI.bk) (λx=>by unfold GI.bk;omega) l.items;have d:=sum_len (f:=GF.bk) (λx=>by unfold GF.bk;omega) l.tombs;unfold GE.bk at c;refine ⟨by omega,by omega,?_⟩;have:=h.2.2.1.1;exact this
theorem copyOk_of (h:GC.wf e) (d:GC.bk e<=16777216):CopyOk e:=by
 have g:=sum_len (f:=λs:zd=>s.length+1) (λx=>by omega) e.path;have c:=d;unfold GC.bk at c;exact ⟨by omega,leafOk_of h.2.2.2.2.1 (by omega),leafOk_of h.2.2.2.2.2 (by omega)⟩
theorem edits_ok (h:∀y ∈ l,GC.wf y) (d:(l.map GC.bk).sum<=1048576):(∀e ∈ l,CopyOk e)/\l.length<=(l.map GC.bk).sum :=
 ⟨λe c=>copyOk_of (h e c) (by have:=sum_mem (f:=GC.bk) c;omega),sum_len (f:=GC.bk) (λx=>by unfold GC.bk;omega) l⟩
theorem over_loop {R:List GC} (c:∀e ∈ R,e.path ≠ []) {f:Nat->Nat->Unit->Option (Out Bool Unit)} (d:∀n x,n < R.length->f n x ()=some (.nxt ())):∀(L:List Nat) (n:Nat),n+L.length<=R.length->zg f L n ()=some (.inr ())
 | [],_,_=>rfl
 | x::L,n,h=>by
  simp only [ui] at h;rw [zg,d n x (by omega)];exact over_loop c d L (n+1) (by omega)
theorem over_items {L0:List GI} {ρ:Type} {g:Nat->GI->Option (Out ρ Unit)} (c:∀n x,n < L0.length->g n x=some (.nxt ())):∀(L:List GI) (n:Nat),n+L.length<=L0.length->zg (λ(d:Nat) (f:GI) (_:Unit)=>g d f) L n ()=some (.inr ())
 | [],_,_=>rfl
 | x::L,n,h=>by
  simp only [ui] at h;rw [zg,c n x (by omega)];exact over_items c L (n+1) (by omega)
theorem law31DiffMakes_is (g:Small a) (h:Small b) (j:∀e ∈ l,CopyOk e) (hd:∀e ∈ m,CopyOk e) (hs:GA.bks a+GA.bks b<=1048576) (Z:GA.bks a+l.length+m.length<=8388606):w7 a b l m=some true:=by
 obtain ⟨v,W⟩:=great_any g h (c:=[]) ⟨by simp [GA.wfs],by simp [GA.bks]⟩ l m;obtain ⟨R,c,o,V,F⟩:=diffs_are g h (by omega);obtain ⟨u,d,P,I⟩:=patches_are g j (by omega);obtain ⟨w,e,M,Y⟩:=chains_are j hd (by omega);have Q:R.length<=9223372036854775807/\True:=by
  cases hm:(treeB 0 a&&treeB 0 b) with
  | false =>
   have:=(diff_no g h hm).symm.trans o;injection this with this;injection this with p H;subst p;exact ⟨by simp,trivial⟩
  | true =>
   simp only [ud] at hm;obtain ⟨R',G,_,s3,_⟩:=diff_is g h hm.1 hm.2 (by omega);have:=G.symm.trans o;injection this with this;injection this with p H;subst p;have:=vD g;have:=vD h;exact ⟨by omega,trivial⟩
 unfold w7;rw [W,ua];cases v with
 | true=>rw [uF rfl,known31];rfl
 | false =>
  simp only [ul,uK];rw [o,ua,V,ua];simp only [same31_is,diffSame_is,mayX_is (by omega:l.length<=16777216) j,may31_is (by omega:l.length<=16777216) j,sS,tx,sK,rL,tE,uq,ua,ul,uK];rw [P,ua,I,ua,M,ua,Y,ua];obtain ⟨z,L,K⟩:=same7_is u u;have N:=K.2 rfl;subst N;rw [L];simp only [same31_is,turn_is (by omega:l.length<=16777216) j,turn31_is (by omega:l.length<=16777216),sS,tx,sK,rL,tE,uq,ua,ul,uK];rw [zn (by omega)];have f:zg (λ(D:Nat) (x1:Nat) (G:Unit)=>(((xe R (D:Int)).bind λs=>((xe s.path (0:Int)).bind λT=>((xe R (D:Int)).bind λC=>(lp (zg (λ(X:Nat) (x2:GI) (s2:Unit)=>(((xe R (D:Int)).bind λE=>((xe E.was.items (X:Int)).bind λS=>some (.nxt ()))):Option (Out _ Unit))) C.was.items 0 ()) λ(s2:Unit)=>some (.nxt ()))))):Option (Out Bool Unit))) (List.range (((((R).length:Nat):Int)).toNat)) 0 ()=some (.inr ()):=by
   refine over_loop F (λn x U=>?_) _ 0 (by simp);have O:0 < (R[n]).path.length:=sP.2 (F _ (sg _));have h0:xe (R[n]).path (0:Int)=some (R[n]).path[0]:=xw (i:=0) O;simp only [xw U,ua,h0];rw [over_items (L0:=(R[n]).was.items) (λk y J=>by rw [xw J];rfl) _ 0 (by simp)];rfl
  rw [f,yp,known31];simp
theorem law31DiffMakes_top (a:List GA) (b:List GA) (l:List GC) (m:List GC) (f:a.length<=maxLen/\∀y ∈ a,GA.wf y) (c:b.length<=maxLen/\∀y ∈ b,GA.wf y) (h:l.length<=maxLen/\∀y ∈ l,GC.wf y) (d:m.length<=maxLen/\∀y ∈ m,GC.wf y) (o:((a.map GA.bk).sum+1)+((b.map GA.bk).sum+1)+((l.map GC.bk).sum+1)+((m.map GC.bk).sum+1)<=1048576):w7 a b l m=some true:=by
 obtain ⟨i,j⟩:=edits_ok h.2 (by omega);obtain ⟨g,k⟩:=edits_ok d.2 (by omega);have n:=GA.bks_eq a;have p:=GA.bks_eq b;exact law31DiffMakes_is (small_of f (by omega)) (small_of c (by omega)) i g (by omega) (by omega)
end
end Go.Vv
