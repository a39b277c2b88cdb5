/- Leaves merged: the program's way is the document's. -/
import Derived.Test.YtonoilllklmacaaGreatPlU0
set_option linter.all false
namespace Go.Vv
open Go
variable {T:List GE} {d n:Nat} {A B:List GF} {l:GC} {a b t:List GA} {ls:List GC} {k:Int} {x y z:GA}
section
def laysP (L ds:List GF):List GF:=ds.foldl layP L
theorem laysP_pw:∀(ds:List GF) {L:List GF},L.Pairwise (λa b=>yc a b=true)->(laysP L ds).Pairwise λa b=>yc a b=true
 | [],_,h=>h
 | d::ds,_,h=>laysP_pw ds (layP_pw d h)
theorem laysP_once:∀(ds:List GF) {L:List GF},onceB L=true->onceB (laysP L ds)=true
 | [],_,h=>h
 | d::ds,_,h=>laysP_once ds (layP_once d h)
theorem laysP_all {q:GF->Bool}:∀(ds:List GF) {L:List GF},L.all q=true->ds.all q=true->(laysP L ds).all q=true
 | [],_,h,_=>h
 | d::ds,L,h,k=>by
  simp only [tf,ud] at k;exact laysP_all ds (all_layP h k.1) k.2
theorem laysP_len:∀(ds L:List GF),(laysP L ds).length<=L.length+ds.length
 | [],L=>by simp [laysP]
 | d::ds,L=>by
  have c:=laysP_len ds (layP L d);have e:=layP_len L d;simp only [laysP,tU,ux] at c ⊢;omega
theorem laysP_perm:∀(ds L:List GF),(ds.map (·.dot)).Nodup->(laysP L ds).Perm (L++ds.filter λx=>decide (x.dot ∉ L.map (·.dot)))
 | [],L,_=>by simp [laysP]
 | d::ds,L,h=>by
  simp only [uw,rx] at h;obtain ⟨o,j⟩:=h;have i:=laysP_perm ds (layP L d) j;show (laysP (layP L d) ds).Perm _;refine i.trans ?_;by_cases hd:d.dot ∈ L.map (·.dot)
  ·have e:layP L d=L:=by
    unfold layP;rw [uz];obtain ⟨y,c,e⟩:=tz.1 hd;exact rn.2 ⟨y,c,by simpa using e⟩
   rw [e,tX,uM (by simp only [uk];exact λh=>h hd)]
  ·have e:layP L d=L.takeWhile (λy=>yc y d)++([d]++L.dropWhile λy=>yc y d):=by
    unfold layP;rw [uM];intro h;obtain ⟨y,c,e⟩:=rn.1 h;exact hd (tz.2 ⟨y,c,by simpa using e⟩)
   have f:(layP L d).Perm (d::L):=by
    have s:=u5 (p:=λy=>yc y d) (l:=L);rw [e]
    grind
   have g:(ds.filter λx=>decide (x.dot ∉ (layP L d).map (·.dot)))=ds.filter λx=>decide (x.dot ∉ L.map (·.dot)):=by
    refine su λx r=>?_;have q:x.dot ≠ d.dot:=λe=>o (by rw [<- e];exact sQ r);have m:x.dot ∈ (layP L d).map (·.dot) ↔ x.dot ∈ (d::L).map (·.dot):=(f.map _).mem_iff;simp only [m,uw,uP,q,false_or]
   rw [g,tX,uz (by simpa using hd)];exact (f.append_right _).trans List.perm_middle.symm
theorem firsts_filter (T:List GE):∀(A pre:List GF),(A.map (·.dot)).Nodup->qz T pre A=A.filter λx=>decide (x.dot ∉ pre.map (·.dot))&&decide (x.dot ∉ T)
 | [],_,_=>rfl
 | x::A,pre,h=>by
  simp only [uw,rx] at h;have c:(A.filter λy=>decide (y.dot ∉ (pre++[x]).map (·.dot))&&decide (y.dot ∉ T))=A.filter λy=>decide (y.dot ∉ pre.map (·.dot))&&decide (y.dot ∉ T):=by
   refine su λy f=>?_;have g:y.dot ≠ x.dot:=λe=>h.1 (by rw [<- e];exact sQ f);simp only [tN,uw,tr,uG,uE,g,or_false]
  simp only [qz];rw [firsts_filter T A _ h.2,c,tX];by_cases h1:x.dot ∈ pre.map (·.dot)
  ·rw [uz (.inl h1),uM (by simp only [ud,uk];exact λh=>h.1 h1)];rfl
  ·by_cases h2:x.dot ∈ T
   ·rw [uz (.inr h2),uM (by simp only [ud,uk];exact λh=>h.2 h2)];rfl
   ·rw [uM (by simp only [not_or];exact ⟨h1,h2⟩),uz (by simp only [ud,uk];exact ⟨h1,h2⟩)];rfl
def bothP (A B:List GF) (T:List GE):List GF:=(laysP A B).filter λx=>!(T.any λy=>decide (y=x.dot))
theorem noT {d:GE}:(!(T.any λy=>decide (y=d)))=decide (d ∉ T):=by
 by_cases h:d ∈ T
 ·have:(T.any λy=>decide (y=d))=true:=rn.2 ⟨d,h,by simp⟩;simp [this,h]
 ·have:(T.any λy=>decide (y=d))=false:=ra.2 λy c=>by
   simp only [uk]
   rintro rfl
   exact h c
  simp [this,h]
theorem both_perm (e:(A.map (·.dot)).Nodup) (c:(B.map (·.dot)).Nodup):(qz T [] (A++B)).Perm (bothP A B T):=by
 rw [firsts_app,firsts_filter T A [] e,firsts_filter T B ([]++A) c];unfold bothP;refine .trans (.of_eq ?_) ((laysP_perm B A c).filter _).symm;rw [tE,sW];congr 1
 ·exact su λx _=>by rw [noT];simp
 ·exact su λx _=>by rw [noT,Bool.and_comm];simp
theorem both_is (q:A.length+B.length<=16777216) (w:A.Pairwise λa b=>yc a b=true) (o:onceB A=true) (u:onceB B=true):qQ A B T=some (bothP A B T):=by
 have D:(A.map (·.dot)).Nodup:=by unfold onceB at o;simpa using o
 have E:(B.map (·.dot)).Nodup:=by unfold onceB at u;simpa using u
 have v:((laysP A B).map (·.dot)).Nodup:=by have:=laysP_once B o;unfold onceB at this;simpa using this
 rw [both_eq,concatItem_is q,ua,zu (by simp;omega)];obtain ⟨C,e⟩:=bothF_run (V:=A++B) (T:=T) (by simpa using q) (List.range ((((A++B).length:Nat):Int)).toNat) [] (A++B) [] [] rfl (by simp;omega) (λd=>rfl) (by simp);rw [uI] at e;have e:zD (bothF (A++B) T) (List.range ((((A++B).length:Nat):Int)).toNat) 0 ([],[])=some (.inr (C,qz T [] (A++B))):=e;rw [e,yO];dsimp only;have c:=both_perm (T:=T) D E;have r:∀{x:GF},x ∈ qz T [] (A++B)->x ∈ laysP A B:=λ{x} f=>(tO.1 (c.mem_iff.1 f)).1;have g:∀{x y:GF},x ∈ laysP A B->y ∈ laysP A B->x.dot=y.dot->x=y:=λ{x y} f m e=>by
  obtain ⟨i,hi,rfl⟩:=pd f;obtain ⟨j,s,rfl⟩:=pd m;have c:=tv.1 v;rcases Nat.lt_trichotomy i j with h | h | h
  ·exact absurd (by rw [rk,rk];exact e) (c i j (by simpa using hi) (by simpa using s) h)
  ·subst h;rfl
  ·exact absurd (by rw [rk,rk];exact e.symm) (c j i (by simpa using s) (by simpa using hi) h)
 have p:(qz T [] (A++B)).length<=16777216:=by
  rw [c.length_eq];have G:=laysP_len B A;have F:=s6 (λx:GF=>!(T.any λy=>decide (y=x.dot))) (laysP A B);unfold bothP;omega
 rw [sortO_lt (cf:=λx y=>if yc x y=true then -1 else 1) (lt:=λx y=>yc x y=true) (R:=bothP A B T) (λx _ y _=>leSwo) (λx y=>by split <;> simp_all) (λx h=>by rw [ilt_irr] at h;cases h) (λ_ _ _=>ilt_tr) (λx f y m=>?_) c.symm ((laysP_pw B w).filter _) (by simp only [lim];omega)]
 ·rfl
 ·by_cases e:x.dot=y.dot
  ·exact .inl (g (r f) (r m) e)
  ·exact .inr (ilt_tot e)
theorem burs_nil (h:T.Pairwise λa b=>ym a b=true):burs [] T=T:=by
 refine strict_ext (lt:=λa b=>ym a b=true) (λa h=>by rw [dlt_irr] at h;cases h) (λ_ _ _=>dlt_tr) _ _ (burs_pw T .nil) h λx=>?_;rw [burs_mem];simp
theorem refLay_fold:∀(ds L:List GF) (n:Nat),L.length+ds.length<=16777215->zD (λ(i:Nat) (f:GF) (e:(List GF))=>(((ref05Lay e f).bind λc=>some (.nxt c)):Option (Out (GC×Int) (List GF)))) ds n L=some (.inr (laysP L ds))
 | [],L,n,_=>rfl
 | d::ds,L,n,h=>by
  simp only [ux] at h;have g:=layP_len L d;simp only [zD];rw [refLay_is (by omega),ua];exact refLay_fold ds (layP L d) (n+1) (by omega)
def laterB (a b:GC):Bool:=if b.time ≠ a.time then decide (b.time < a.time) else ym b.dot a.dot
def fuP (l a b:GC):GC :=
 if l.typ=1 then GC.mk 1 (IntKind.wrap .i64 (a.n+IntKind.wrap .i64 (b.n - l.n))) 0 dot0 [] [] []
 else if l.typ=2 then (if a.time=0 \/ (b.time ≠ 0/\laterB a b=false) then b else a)
 else GC.mk l.typ 0 0 dot0 [] (bothP a.items b.items (burs a.tombs b.tombs)) (burs a.tombs b.tombs)
theorem wrap2 (a b l:Int):IntKind.wrap .i64 (IntKind.wrap .i64 (a - l)+b)=IntKind.wrap .i64 (a+IntKind.wrap .i64 (b - l)):=by
 simp only [IntKind.wrap_i64];omega
theorem leaf1 (h:leafB l=true) (c:l.typ=1):l=GC.mk 1 l.n 0 dot0 [] [] []:=by
 unfold leafB at h;rw [uz c] at h;simp only [ud,uk,zeroB] at h;cases l
 simp_all
theorem leaf2 (h:leafB l=true) (c:l.typ=2):l=GC.mk 2 0 l.time l.dot l.text [] []:=by
 unfold leafB at h;rw [uM (by omega),uz c] at h;simp only [ud,uk] at h;cases l
 simp_all
structure Lots (l:GC) (tm:Bool):Prop where
 n:l.n=0
 time:l.time=0
 dot:l.dot=dot0
 text:l.text=[]
 all:l.items.all (qO tm)=true
 pw:l.items.Pairwise λa b=>yc a b=true
 once:onceB l.items=true
 td:l.tombs.all vz=true
 tpw:l.tombs.Pairwise λa b=>ym a b=true
theorem leaf3 (h:leafB l=true) (o:l.typ=3):Lots l false:=by
 unfold leafB at h;rw [uM (by omega),uM (by omega),uz o] at h;simp only [ud,uk,zeroB,tombsB] at h;obtain ⟨⟨⟨j,⟨f,z3⟩,z4⟩,⟨c,m⟩,i⟩,⟨g,e⟩,t3⟩:=h;exact ⟨j,f,z3,z4,c,rise_pw m,i,g,rising_pw e⟩
theorem leaf4 (h:leafB l=true) (j:l.typ=4):Lots l true/\l.tombs=[]:=by
 unfold leafB at h;rw [uM (by omega),uM (by omega),uM (by omega),uz j] at h;simp only [ud,uk,zeroB] at h;obtain ⟨⟨⟨g,⟨e,z3⟩,z4⟩,z5⟩,⟨c,i⟩,f⟩:=h;exact ⟨⟨g,e,z3,z4,c,rise_pw i,f,by rw [z5];rfl,by rw [z5];exact .nil⟩,z5⟩
theorem vJ (h:leafB l=true):1<=l.typ/\l.typ<=4:=by
 unfold leafB at h
 grind
theorem burs_all {q:GE->Bool} {A B:List GE} (h:A.all q=true) (k:B.all q=true):(burs A B).all q=true:=ur.2 λx e=>by
 rcases (burs_mem B A x).1 e with c | c
 ·exact ur.1 k x c
 ·exact ur.1 h x c
theorem fuP_typ {a b:GC} (c:leafB l=true) (e:a.typ=l.typ) (f:b.typ=l.typ):(fuP l a b).typ=l.typ:=by
 unfold fuP
 grind
theorem fuP_may {a b:GC} (v:leafB l=true) (g:leafB a=true) (i:leafB b=true) (F:a.typ=l.typ) (C:b.typ=l.typ):leafB (fuP l a b)=true:=by
 have E:=vJ v;unfold fuP;split
 ·simp [leafB,zeroB]
 split
 ·split
  ·exact i
  ·exact g
 ·rename_i D w;have key:∀f,Lots a f->Lots b f->(bothP a.items b.items (burs a.tombs b.tombs)).all (qO f)=true/\riseB (bothP a.items b.items (burs a.tombs b.tombs))=true/\onceB (bothP a.items b.items (burs a.tombs b.tombs))=true:=λf p q=>by
   unfold bothP;refine ⟨?_,riseB_pw ((laysP_pw b.items p.pw).filter _),?_⟩
   ·have:=laysP_all b.items p.all q.all;rw [ur] at this ⊢;exact λx h=>this x (tO.1 h).1
   ·have:=laysP_once b.items p.once;unfold onceB at this ⊢;rw [uk] at this ⊢;exact this.sublist (List.filter_sublist.map _)
  by_cases h3:l.typ=3
  ·have p:=leaf3 g (by omega);have q:=leaf3 i (by omega);obtain ⟨c,k2,e⟩:=key false p q;have u:=burs_all p.td q.td;have j:=rising_of_pw (burs_pw b.tombs p.tpw);have t3:(burs a.tombs b.tombs).all (λd=>!(bothP a.items b.items (burs a.tombs b.tombs)).any λx=>decide (x.dot=d))=true:=ur.2 λd hd=>by
    rw [so,ra];intro x h;have:=(tO.1 h).2;rw [noT] at this;simp only [uk] at this ⊢
    rintro rfl
    exact this hd
   unfold leafB;simp only [h3];simp [zeroB,tombsB,c,k2,e,u,j,t3]
  ·have o:l.typ=4:=by omega
   obtain ⟨p,m⟩:=leaf4 g (by omega);obtain ⟨q,s⟩:=leaf4 i (by omega);obtain ⟨c,k2,e⟩:=key true p q;have r:burs a.tombs b.tombs=[]:=by rw [m,s];rfl
   rw [r] at c k2 e ⊢;unfold leafB;simp only [o];simp [zeroB,c,k2,e]
end
section
theorem fuP_lens {a b:GC} (f:leafB l=true) (e:leafB a=true) (j:leafB b=true) (g:a.typ=l.typ) (m:b.typ=l.typ):(fuP l a b).items.length<=a.items.length+b.items.length/\(fuP l a b).tombs.length<=a.tombs.length+b.tombs.length/\(0<=a.time->0<=b.time->0<=(fuP l a b).time):=by
 unfold fuP;split
 ·simp
 split
 ·split
  ·exact ⟨by omega,by omega,λ_ h=>h⟩
  ·exact ⟨by omega,by omega,λh _=>h⟩
 ·have i:=laysP_len b.items a.items;have c:=burs_len b.tombs a.tombs;have o:=s6 (λx:GF=>!((burs a.tombs b.tombs).any λy=>decide (y=x.dot))) (laysP a.items b.items);simp only [bothP];exact ⟨by omega,c,λ_ _=>tY _⟩
theorem fuP2 {a b:GC} (h:l.typ=2):fuP l a b=if a.time=0 \/ (b.time ≠ 0/\laterB a b=false) then b else a:=by
 unfold fuP;rw [uM (by omega),uz h]
theorem fuse_prog {a b:GC} (g:leafB l=true) (c:leafB a=true) (f:leafB b=true) (j:LeafOk l) (oa:LeafOk a) (ob:LeafOk b) (hi:a.items.length+b.items.length<=8388608) (G:a.tombs.length+b.tombs.length<=8388608) (i:a.typ=l.typ) (o:b.typ=l.typ):vZ l a b=some (fuP l a b,0):=by
 have r:vu l=some true:=by rw [leafMay_is (uA j.items (by decide)) (uA j.tombs (by decide)),g]
 have u:vu a=some true:=by rw [leafMay_is (uA oa.items (by decide)) (uA oa.tombs (by decide)),c]
 have s:vu b=some true:=by rw [leafMay_is (uA ob.items (by decide)) (uA ob.tombs (by decide)),f]
 have H:=vJ g;unfold vZ;simp only [r,u,s,ua,tR,uW,ut,pf,um,uJ,i,o,sr];have e:l.typ=1 \/ l.typ=2 \/ l.typ=3 \/ l.typ=4:=by omega
 rcases e with h | h | h | h
 ·rw [h,show yB ([0,1,2,3,4]:List Nat) (1:Int)=some 1 from rfl,ua];show ((w5 l a b).bind _)=_;have E:=leaf1 c (i.trans h);unfold w5 fuP;rw [uz h,E];rfl
 ·rw [h,show yB ([0,1,2,3,4]:List Nat) (2:Int)=some 2 from rfl,ua];show ((wH l a b).bind _)=_;rw [fuP2 h];unfold wH laterB;simp only [leafAhead_is];by_cases h1:a.time=0
  ·simp [h1]
  ·by_cases h2:b.time=0
   ·simp [h1,h2]
   ·have v:((a.time==(0:Int))==false)=true:=by simp [h1]
    have C:((b.time != (0:Int))==true)=true:=by simp [h2]
    have D:(a.time==(0:Int))=false:=by simp [h1]
    have F:(b.time != (0:Int))=true:=by simp [h2]
    rw [v,C,D,F];simp only [uT,ut,ua,tg,uS,h1,false_or,h2,ne_eq,rJ,pE];cases (if ¬b.time=a.time then decide (b.time < a.time) else ym b.dot a.dot) <;> simp
 ·rw [h,show yB ([0,1,2,3,4]:List Nat) (3:Int)=some 3 from rfl,ua];show ((fuseXset l a b).bind _)=_;have p:=leaf3 c (by omega);have q:=leaf3 f (by omega);unfold fuseXset fuP;rw [uM (by omega),uM (by omega),concatDot_is (by omega),ua,sortDots_is (by simp [lim];omega),ua,compact_is (by rw [(srt_perm _).length_eq];simp;omega),ua,burs_eq p.tpw,both_is (by omega) p.pw p.once q.once,ua,h];rfl
 ·rw [h,show yB ([0,1,2,3,4]:List Nat) (4:Int)=some 4 from rfl,ua];show ((fuseXlog l a b).bind _)=_;obtain ⟨p,m⟩:=leaf4 c (by omega);obtain ⟨q,w⟩:=leaf4 f (by omega);unfold fuseXlog fuP;rw [uM (by omega),uM (by omega),both_is (by omega) p.pw p.once q.once,ua,h,m,w];rfl
theorem fuse_doc {a b:GC} (w:leafB l=true) (j:leafB a=true) (D:leafB b=true) (u:LeafOk l) (oa:LeafOk a) (ob:LeafOk b) (hi:a.items.length+b.items.length<=8388608) (R:a.tombs.length+b.tombs.length<=8388608) (C:a.typ=l.typ) (v:b.typ=l.typ):qy l a b=some (fuP l a b,0):=by
 have G:wP l=some true:=by rw [ref05May_is (uA u.items (by decide)) (uA u.tombs (by decide)) u.time,w]
 have I:wP a=some true:=by rw [ref05May_is (uA oa.items (by decide)) (uA oa.tombs (by decide)) oa.time,j]
 have H:wP b=some true:=by rw [ref05May_is (uA ob.items (by decide)) (uA ob.tombs (by decide)) ob.time,D]
 have U:=vJ w;have tail:l.typ ≠ 1->l.typ ≠ 2->a.tombs.Pairwise (λa b=>ym a b=true) ->
   (lp (zD (λ(V:Nat) (Q:GE) (r:(List GE))=>(((vT r Q).bind λq=>some (.nxt q)):Option (Out (GC×Int) (List GE)))) a.tombs 0 ([]:List GE)) λ(r:(List GE))=>(lp (zD (λ(n2:Nat) (O:GE) (m:(List GE))=>(((vT m O).bind λi=>some (.nxt i)):Option (Out (GC×Int) (List GE)))) b.tombs 0 r) λ(m:(List GE))=>(yM ((([]:List GF)).length+(a.items).length<=lim) ((lp (zD (λ(S:Nat) (F:GF) (s:(List GF))=>(((ref05Lay s F).bind λf=>some (.nxt f)):Option (Out (GC×Int) (List GF)))) b.items 0 (([]:List GF)++a.items)) λ(s:(List GF))=>((ref05Left s m).bind λg=>some ((GC.mk l.typ (0:Int) (0:Int) (GE.mk (GI.mk (0:Int) (0:Int)) (0:Int)) ([]:zx) g m),(0:Int))))))))=some (fuP l a b,0):=λe c L=>by
  rw [refTombs_fold _ _ _ (by simp;omega),yO]
  try dsimp only
  rw [burs_nil L,refTombs_fold _ _ _ (by omega),yO]
  try dsimp only
  rw [zu (by simp [lim];omega),uI,refLay_fold _ _ _ (by omega),yO];have:=laysP_len b.items a.items;rw [refLeft_is _ _ (by omega),ua];unfold fuP;rw [uM e,uM c];rfl
 unfold qy;simp only [G,I,H,ua,tR,uW,ut,pf,um,uJ,C,v,sr];have p:l.typ=1 \/ l.typ=2 \/ l.typ=3 \/ l.typ=4:=by omega
 rcases p with h | h | h | h
 ·rw [uz (by simp [h])];unfold fuP;rw [uz h,h,wrap2];rfl
 ·rw [uM (by simp [h]),uz (by simp [h])];have P:=leaf2 j (C.trans h);have J:=leaf2 D (v.trans h);rw [fuP2 h];unfold laterB;simp only [ref05Ahead_is];have E:GC.mk l.typ 0 a.time a.dot a.text [] []=a:=by rw [h];exact P.symm
  have o:GC.mk l.typ 0 b.time b.dot b.text [] []=b:=by rw [h];exact J.symm
  by_cases e:a.time=0
  ·by_cases c:b.time=0
   ·rw [c] at o;simp [e,c,o]
   ·simp [e,c,o]
  ·by_cases c:b.time=0
   ·simp [e,c,E]
   ·have M:(a.time==(0:Int))=false:=by simp [e]
    have K:(b.time==(0:Int))=false:=by simp [c]
    have N:(a.time != (0:Int))=true:=by simp [e]
    rw [M,K,N];simp only [uT,uW,ut,ua,tg,uS,e,false_or,c,ne_eq,rJ,pE,E,o,um,uJ];cases (if ¬b.time=a.time then decide (b.time < a.time) else ym b.dot a.dot) <;> simp
 ·rw [uM (by simp [h]),uM (by simp [h])];exact tail (by omega) (by omega) (leaf3 j (by omega)).tpw
 ·rw [uM (by simp [h]),uM (by simp [h])];exact tail (by omega) (by omega) (leaf4 j (by omega)).1.tpw
end
section
structure M3 (d:Nat) (t:List GA):Prop where
 small:Small t
 bk:GA.bks t<=1048576
 tree:treeB d t=true
structure L3 (ls:List GC):Prop where
 up:ls.Pairwise λx y=>x.typ < y.typ
 may:∀l ∈ ls,leafB l=true
 ok:∀l ∈ ls,LeafOk l
 len:∀l ∈ ls,l.items.length<=1048576/\l.tombs.length<=1048576
theorem M3.nil (d:Nat):M3 d []:=⟨small_nil,by simp [GA.bks],qX d⟩
theorem L3.nil:L3 []:=⟨.nil,by simp,by simp,by simp⟩
def yh (t:List GA) (s:zx):GA:=(nodeOf t s).getD node0
theorem nodeD_mem {s:zx}:(yh t s ∈ t/\(yh t s).name=s/\nodeOf t s=some (yh t s)) \/ (yh t s=node0/\nodeOf t s=none):=by
 unfold yh;cases e:nodeOf t s with
 | none=>exact .inr ⟨rfl,rfl⟩
 | some x=>exact .inl ⟨sH e,by simpa using List.find?_some e,rfl⟩
theorem M3.leaves {d:Nat} {t:List GA} (h:M3 d t) (s:zx):L3 (yh t s).leaves:=by
 rcases nodeD_mem (t:=t) (s:=s) with ⟨c,_⟩ | ⟨e,_⟩
 ·generalize yh t s=x at c;have q:=(zV h.tree).2 x c;obtain ⟨_,_,p⟩:=xF q;obtain ⟨i,m⟩:=wB p;have u:=h.bk;have o:=bk_mem c;have j:=bk_node x;refine ⟨i,m,λl g=>h.small.leaf c g,λl g=>?_⟩;have r:=leaf_lens l;have:=sum_mem (f:=GC.bk) g;omega
 ·rw [e];exact L3.nil
theorem M3.subs {d:Nat} {t:List GA} (h:M3 d t) (s:zx):M3 (d+1) (yh t s).subs:=by
 rcases nodeD_mem (t:=t) (s:=s) with ⟨c,_⟩ | ⟨e,_⟩
 ·generalize yh t s=x at c;have j:=(zV h.tree).2 x c;obtain ⟨_,f,_⟩:=xF j;have m:=h.bk;have i:=bk_mem c;have g:=bk_node x;exact ⟨h.small.subs c,by omega,f⟩
 ·rw [e];exact M3.nil _
theorem M3.up (h:M3 d t):upB t=true:=(zV h.tree).1
theorem M3.len (h:M3 d t):t.length<=1048576:=uA (len_bks t) h.bk
def vm (l a b:List GA):List zx:=oncesQ [] (l.map (·.name)++a.map (·.name)++b.map (·.name))
theorem names3_is {l:List GA} (c:M3 d l) (e:M3 d a) (f:M3 d b):treeXnames [l,a,b]=some (vm l a b):=by
 have g:=c.len;have h:=e.len;have i:=f.len;unfold treeXnames;simp only [zD,names0 c.up (by omega),names0 e.up (by omega:a.length<=16777216),names0 f.up (by omega:b.length<=16777216),ua];rw [zu (by simp [lim];omega)];simp only [uI];rw [zu (by simp [lim];omega)];simp only [];rw [zu (by simp [lim];omega)];simp only [yO];rw [sortS_is (by simp [lim];omega),ua,compact_isQ (by rw [(srtQ_perm _).length_eq];simp;omega),ua,onces_eq];rfl
theorem names3_mem {l:List GA} {s:zx}:s ∈ vm l a b ↔ s ∈ l.map (·.name) \/ s ∈ a.map (·.name) \/ s ∈ b.map (·.name):=by
 unfold vm;rw [oncesQ_mem];simp only [uG,List.not_mem_nil,or_false,or_assoc]
theorem names3_pw (l a b:List GA):(vm l a b).Pairwise λx y=>Op.bytesLess x y=true:=oncesQ_pw _ .nil
def vI (ls:List GC) (k:Int):Option GC:=ls.find? λl=>l.typ==k
theorem lfk_some (h:vI ls k=some l):l ∈ ls/\l.typ=k:=⟨sH h,by simpa using List.find?_some h⟩
theorem lfk_iff (h:ls.Pairwise λx y=>x.typ < y.typ) {k:Int} {l:GC}:vI ls k=some l ↔ l ∈ ls/\l.typ=k:=by
 refine ⟨lfk_some,λ⟨f,c⟩=>?_⟩;cases e:vI ls k with
 | none =>
  have:=t7.1 e l f;simp [c] at this
 | some y =>
  obtain ⟨i,g⟩:=lfk_some e;rw [ups_inj h f i (c.trans g.symm)]
def cmb (k:Int) (x y z:Option GC):Option GC:=if x.isNone&&y.isNone&&z.isNone then none else some (fuP (x.getD (ve k)) (y.getD (ve k)) (z.getD (ve k)))
def qf (x y z:List GC):List GC:=[1,2,3,4].filterMap λk=>cmb k (vI x k) (vI y k) (vI z k)
theorem threeP_eq (x y z:List GC):qf x y z=(cmb 1 (vI x 1) (vI y 1) (vI z 1)).toList++(cmb 2 (vI x 2) (vI y 2) (vI z 2)).toList++(cmb 3 (vI x 3) (vI y 3) (vI z 3)).toList++(cmb 4 (vI x 4) (vI y 4) (vI z 4)).toList:=by
 have:∀f:Int->Option GC,[1,2,3,4].filterMap f=(f 1).toList++(f 2).toList++(f 3).toList++(f 4).toList:=λf=>by
  cases h1:f 1 <;> cases h2:f 2 <;> cases h3:f 3 <;> cases h4:f 4 <;> simp [h1,h2,h3,h4]
 exact this _
structure F3 (k:Int) (l:GC):Prop where
 may:leafB l=true
 typ:l.typ=k
 ok:LeafOk l
 len:l.items.length<=1048576/\l.tombs.length<=1048576
theorem L3.at (h:L3 ls) {k:Int} (f:1<=k/\k<=4):F3 k ((vI ls k).getD (ve k)):=by
 cases e:vI ls k with
 | none=>exact ⟨newLf_may f,rfl,newLf_ok k,by simp [ve]⟩
 | some l =>
  obtain ⟨c,g⟩:=lfk_some e;exact ⟨h.may l c,g,h.ok l c,h.len l c⟩
theorem F3.prog {a b:GC} (c:F3 k l) (e:F3 k a) (f:F3 k b):vZ l a b=some (fuP l a b,0):=by
 have h:=e.len;have g:=f.len;exact fuse_prog c.may e.may f.may c.ok e.ok f.ok (by omega) (by omega) (e.typ.trans c.typ.symm) (f.typ.trans c.typ.symm)
theorem F3.doc {a b:GC} (c:F3 k l) (e:F3 k a) (f:F3 k b):qy l a b=some (fuP l a b,0):=by
 have h:=e.len;have g:=f.len;exact fuse_doc c.may e.may f.may c.ok e.ok f.ok (by omega) (by omega) (e.typ.trans c.typ.symm) (f.typ.trans c.typ.symm)
theorem F3.fuP {k:Int} {l a b:GC} (c:F3 k l) (e:F3 k a) (f:F3 k b):leafB (fuP l a b)=true/\(fuP l a b).typ=k/\LeafOk (fuP l a b):=by
 have p:=e.len;have m:=f.len;have g:=e.typ.trans c.typ.symm;have h:=f.typ.trans c.typ.symm;obtain ⟨j,o,i⟩:=fuP_lens c.may e.may f.may g h;exact ⟨fuP_may c.may e.may f.may g h,(fuP_typ c.may g h).trans c.typ,by omega,by omega,i e.ok.time f.ok.time⟩
theorem cmb_typ (c:1<=k/\k<=4) {x y z:List GC} (f:L3 x) (e:L3 y) (g:L3 z) {l:GC} (h:cmb k (vI x k) (vI y k) (vI z k)=some l):leafB l=true/\l.typ=k/\LeafOk l:=by
 unfold cmb at h;split at h
 ·cases h
 ·injection h with h;subst h;exact (f.at c).fuP (e.at c) (g.at c)
theorem three_stp (g:L3 x.leaves) (f:L3 y.leaves) (h:L3 z.leaves) {k k':Int} (c:1<=k/\k<=4) (j:k+1=k') {acc:List GC} (q:acc.length<=10) :
  threeF x y z (acc,k)=some (.nxt (acc++(cmb k (vI x.leaves k) (vI y.leaves k) (vI z.leaves k)).toList,k')):=by
 have i:IntKind.wrap .u8 (k+1)=k':=by
  rw [IntKind.wrap_u8];omega
 have e:=(g.at c).prog (f.at c) (h.at c);unfold threeF;simp only [leaf_at g.ok c,leaf_at f.ok c,leaf_at h.ok c,i];rw [uz (by simp;omega)];unfold cmb;have m:x.leaves.find? (λl=>l.typ==k)=vI x.leaves k:=rfl;have p:y.leaves.find? (λl=>l.typ==k)=vI y.leaves k:=rfl;have o:z.leaves.find? (λl=>l.typ==k)=vI z.leaves k:=rfl;rw [m,p,o];generalize vI x.leaves k=u at *;generalize vI y.leaves k=v at *;generalize vI z.leaves k=w at *;cases u <;> cases v <;> cases w <;> simp only [Option.getD_none,ri] at e <;> simp [e] <;> exact zu (by simp [lim];omega)
theorem three_prog (e:L3 x.leaves) (c:L3 y.leaves) (f:L3 z.leaves):qt x y z=some (qf x.leaves y.leaves z.leaves):=by
 have j:∀A:List GC,A.length<=10->_:=λA h=>three_stp e c f (k:=1) (k':=2) (by decide) rfl (acc:=A) h;have i:∀A:List GC,A.length<=10->_:=λA h=>three_stp e c f (k:=2) (k':=3) (by decide) rfl (acc:=A) h;have g:∀A:List GC,A.length<=10->_:=λA h=>three_stp e c f (k:=3) (k':=4) (by decide) rfl (acc:=A) h;have s4:∀A:List GC,A.length<=10->_:=λA h=>three_stp e c f (k:=4) (k':=5) (by decide) rfl (acc:=A) h;have m:∀A,threeF x y z (A,5)=some (.brk (A,5)):=λA=>rfl;have lt:∀o:Option GC,o.toList.length<=1:=λo=>by cases o <;> simp
 rw [three_eq,threeP_eq];generalize cmb 1 (vI x.leaves 1) (vI y.leaves 1) (vI z.leaves 1)=c1 at *;generalize cmb 2 (vI x.leaves 2) (vI y.leaves 2) (vI z.leaves 2)=c2 at *;generalize cmb 3 (vI x.leaves 3) (vI y.leaves 3) (vI z.leaves 3)=c3 at *;generalize cmb 4 (vI x.leaves 4) (vI y.leaves 4) (vI z.leaves 4)=c4 at *;have p:=lt c1;have q:=lt c2;have r:=lt c3;rw [yS,j [] (by simp)];simp only [];rw [yS,i _ (by simp;omega)];simp only [];rw [yS,g _ (by simp;omega)];simp only [];rw [yS,s4 _ (by simp;omega)];simp only [];rw [yS,m];simp only [yO,uI]
end
section
def xY:Nat->List GA->List GA->List GA->List GA
 | 0,_,_,_=>[]
 | n+1,l,a,b=>(vm l a b).map λs=>GA.mk s (qf (yh l s).leaves (yh a s).leaves (yh b s).leaves) (xY n (yh l s).subs (yh a s).subs (yh b s).subs)
theorem node_in {s:zx} (h:s ∈ t.map (·.name)):yh t s ∈ t/\(yh t s).name=s:=by
 rcases nodeD_mem (t:=t) (s:=s) with ⟨f,c,_⟩ | ⟨_,c⟩
 ·exact ⟨f,c⟩
 ·obtain ⟨x,g,e⟩:=tz.1 h;have:=t7.1 c x g;simp at this;exact absurd e this
theorem deps_sub (s:zx) (h:GA.deps t < n+1) (f:0 < n):GA.deps (yh t s).subs < n:=by
 rcases nodeD_mem (t:=t) (s:=s) with ⟨c,_⟩ | ⟨e,_⟩
 ·have i:=vw c;have g:=xU (yh t s);omega
 ·rw [e];exact f
theorem deps_pos {s:zx} (h:GA.deps t < n+1) (hs:s ∈ t.map (·.name)):0 < n:=by
 have e:=vw (node_in hs).1;have c:=xU (yh t s);omega
theorem n_pos {l:List GA} {s:zx} (c:GA.deps l < n+1) (e:GA.deps a < n+1) (f:GA.deps b < n+1) (hs:s ∈ vm l a b):0 < n:=by
 rcases names3_mem.1 hs with h | h | h
 ·exact deps_pos c h
 ·exact deps_pos e h
 ·exact deps_pos f h
theorem lin_nodeD (t:List GA) (s:zx):∃q,xn t s=some (yh t s,q):=by
 rw [linear_is];unfold yh;cases nodeOf t s with
 | none=>exact ⟨_,rfl⟩
 | some x=>exact ⟨_,rfl⟩
theorem names_loop {ρ:Type} {f:Nat->zx->List GA->Option (Out ρ (List GA))} {m:zx->GA}:∀(t:List zx) (i:Nat) (s:List GA),s.length+t.length<=lim->(∀x ∈ t,∀(i:Nat) (s:List GA),s.length+1<=lim->f i x s=some (.nxt (s++[m x])))->zD f t i s=some (.inr (s++t.map m))
 | [],i,s,_,_=>by simp [zD]
 | x::t,i,s,hl,h=>by
  simp only [ux] at hl;simp only [uw,zD,h x (by simp) i s (by omega)];rw [names_loop t (i+1) (s++[m x]) (by simp;omega) λy c=>h y (by simp [c])];simp
theorem oncesQ_len (ds L:List zx):(oncesQ L ds).length<=L.length+ds.length:=by
 induction ds generalizing L with
 | nil=>simp [oncesQ]
 | cons d ds ih =>
  have c:=ih (onceQ L d);have f:(onceQ L d).length<=L.length+1:=by
   unfold onceQ;split
   ·omega
   ·have e:=congrArg List.length (u5 (p:=λy=>Op.bytesLess y d) (l:=L))
    grind
  simp only [oncesQ,tU,ux] at c ⊢;omega
theorem names3_len {l:List GA} (c:M3 d l) (e:M3 d a) (f:M3 d b):(vm l a b).length<=3145728:=by
 have h:=c.len;have g:=e.len;have i:=f.len;have:=oncesQ_len (l.map (·.name)++a.map (·.name)++b.map (·.name)) [];simp only [uq,ul,u6] at this;unfold vm;omega
theorem mergedN_is:∀(n d:Nat) (l a b:List GA),GA.deps l < n->GA.deps a < n->GA.deps b < n->M3 d l->M3 d a->M3 d b->xP n l a b=some (xY n l a b)
 | 0,_,_,_,_,h,_,_,_,_,_=>by omega
 | n+1,d,l,a,b,h1,h2,h3,hl,ha,hb=>by
  have f:=names3_len hl ha hb;unfold xP;rw [names3_is hl ha hb,ua,names_loop (m:=λs=>GA.mk s (qf (yh l s).leaves (yh a s).leaves (yh b s).leaves) (xY n (yh l s).subs (yh a s).subs (yh b s).subs)) _ _ _ (by simp [lim];omega)]
  ·rfl
  ·intro s hs i acc c;have e:=n_pos h1 h2 h3 hs;obtain ⟨p,g⟩:=lin_nodeD l s;obtain ⟨r,o⟩:=lin_nodeD a s;obtain ⟨q,j⟩:=lin_nodeD b s;rw [g,ua,o,ua,j,ua];simp only [three_prog (hl.leaves s) (ha.leaves s) (hb.leaves s),ua,mergedN_is n (d+1) _ _ _ (deps_sub s h1 e) (deps_sub s h2 e) (deps_sub s h3 e) (hl.subs s) (ha.subs s) (hb.subs s)];rw [zu (by simpa using c)]
theorem cmb_none {x y z:Option GC}:cmb k x y z=none ↔ x=none/\y=none/\z=none:=by
 unfold cmb;cases x <;> cases y <;> cases z <;> simp
theorem threeP_mem {x y z:List GC}:l ∈ qf x y z ↔ ∃k,(1<=k/\k<=4)/\cmb k (vI x k) (vI y k) (vI z k)=some l:=by
 unfold qf;rw [List.mem_filterMap];constructor
 ·rintro ⟨k,c,e⟩
  refine ⟨k,?_,e⟩;simp at c;omega
 ·rintro ⟨k,c,e⟩
  refine ⟨k,?_,e⟩;simp;omega
theorem threeP_ok {x y z:List GC} (w:L3 x) (s:L3 y) (q:L3 z):(qf x y z).Pairwise (λx y=>x.typ < y.typ)/\(∀l ∈ qf x y z,leafB l=true/\LeafOk l)/\∀k,1<=k/\k<=4->vI (qf x y z) k=cmb k (vI x k) (vI y k) (vI z k):=by
 have c:=λk f l=>cmb_typ (k:=k) f w s q (l:=l);have i:(qf x y z).Pairwise (λx y=>x.typ < y.typ):=by
  rw [threeP_eq];have p:=λl=>c 1 (by decide) l;have o:=λl=>c 2 (by decide) l;have u:=λl=>c 3 (by decide) l;have h:=λl=>c 4 (by decide) l;generalize cmb 1 (vI x 1) (vI y 1) (vI z 1)=c1 at *;generalize cmb 2 (vI x 2) (vI y 2) (vI z 2)=c2 at *;generalize cmb 3 (vI x 3) (vI y 3) (vI z 3)=c3 at *;generalize cmb 4 (vI x 4) (vI y 4) (vI z 4)=c4 at *;cases c1 <;> cases c2 <;> cases c3 <;> cases c4 <;> simp at p o u h ⊢ <;> grind
 refine ⟨i,λl r=>?_,λk f=>?_⟩
 ·obtain ⟨k,f,e⟩:=threeP_mem.1 r;have:=c k f l e;exact ⟨this.1,this.2.2⟩
 ·cases e:cmb k (vI x k) (vI y k) (vI z k) with
  | some l=>exact (lfk_iff i).2 ⟨threeP_mem.2 ⟨k,f,e⟩,(c k f l e).2.1⟩
  | none =>
   cases e2:vI (qf x y z) k with
   | none=>rfl
   | some l =>
    obtain ⟨v,m⟩:=lfk_some e2;obtain ⟨k',g,j⟩:=threeP_mem.1 v;have h:=(c k' g l j).2.1;have:k'=k:=h.symm.trans m;subst this;rw [j] at e;cases e
theorem mergedP_tree:∀(n d:Nat) (l a b:List GA),GA.deps l < n->GA.deps a < n->GA.deps b < n->M3 d l->M3 d a->M3 d b->treeB d (xY n l a b)=true
 | 0,_,_,_,_,h,_,_,_,_,_=>by omega
 | n+1,d,l,a,b,h1,h2,h3,o,ha,hb=>by
  by_cases h0:vm l a b=[]
  ·unfold xY;rw [h0];exact qX d
  have w:∀s ∈ vm l a b,∃x:GA,nodeB d x=true/\x.name=s/\(x=yh l s \/ x=yh a s \/ x=yh b s):=λs hs=>by
   rcases names3_mem.1 hs with h | h | h
   ·exact ⟨_,(zV o.tree).2 _ (node_in h).1,(node_in h).2,.inl rfl⟩
   ·exact ⟨_,(zV ha.tree).2 _ (node_in h).1,(node_in h).2,.inr (.inl rfl)⟩
   ·exact ⟨_,(zV hb.tree).2 _ (node_in h).1,(node_in h).2,.inr (.inr rfl)⟩
  have r:d < 3:=by
   obtain ⟨s,hs⟩:=rq _ h0;have:∀t,M3 d t->s ∈ t.map (·.name)->d < 3:=λt G h=>by
    have j:=G.tree;unfold treeB at j;simp only [ud,tC,uk] at j;rcases j.1.1 with g | g
    ·have:t=[]:=by simpa using g
     subst this;simp at h
    ·exact g
   rcases names3_mem.1 hs with h | h | h
   ·exact this l o h
   ·exact this a ha h
   ·exact this b hb h
  refine treeB_of r ?_ λx D=>?_
  ·rw [qr];unfold xY;rw [sJ];exact names3_pw l a b
  ·unfold xY at D;obtain ⟨s,hs,rfl⟩:=tz.1 D;have v:=n_pos h1 h2 h3 hs;obtain ⟨x,E,k2,C⟩:=w s hs;obtain ⟨L,F,t3⟩:=threeP_ok (o.leaves s) (ha.leaves s) (hb.leaves s);have N:=mergedP_tree n (d+1) _ _ _ (deps_sub s h1 v) (deps_sub s h2 v) (deps_sub s h3 v) (o.subs s) (ha.subs s) (hb.subs s);have f:=E;rw [vH] at f ⊢;simp only [ud] at f;obtain ⟨⟨⟨O,n2⟩,_⟩,H⟩:=f;simp only [N,k2 ▸ O,leaves_of L λl o=>(F l o).1,uS,sA];have c:x.leaves ≠ [] \/ x.subs ≠ []:=by
    by_cases e1:x.leaves=[]
    ·right;intro J;rw [e1,J] at n2;simp at n2
    ·exact .inl e1
   rcases c with c | c
   ·have:qf (yh l s).leaves (yh a s).leaves (yh b s).leaves ≠ []:=by
     obtain ⟨q,p⟩:=rq _ c;obtain ⟨K,I⟩:=wB H;have M:=vJ (I q p);have i:vI x.leaves q.typ=some q:=(lfk_iff K).2 ⟨p,rfl⟩;intro e;have j:=t3 q.typ M;rw [e] at j;have g:=cmb_none.1 j.symm;rcases C with rfl | rfl | rfl
     ·rw [g.1] at i;cases i
     ·rw [g.2.1] at i;cases i
     ·rw [g.2.2] at i;cases i
    simp [this]
   ·have:xY n (yh l s).subs (yh a s).subs (yh b s).subs ≠ []:=by
     obtain ⟨m,rfl⟩:∃m,n=m+1:=⟨n - 1,by omega⟩
     obtain ⟨y,u⟩:=rq _ c;have:y.name ∈ vm (yh l s).subs (yh a s).subs (yh b s).subs:=by
      rw [names3_mem];rcases C with rfl | rfl | rfl
      ·exact .inl (sQ u)
      ·exact .inr (.inl (sQ u))
      ·exact .inr (.inr (sQ u))
     unfold xY;intro e;rw [pc] at e;rw [e] at this;cases this
    simp [this]
end
section
def lkN (t:List GA) (p:List zx) (k:Int):Option GC:=(x6 t p).bind λx=>vI x.leaves k
theorem lkN_one (t:List GA) (s:zx) (k:Int):lkN t [s] k=vI (yh t s).leaves k:=by
 unfold lkN yh;simp only [x6];cases nodeOf t s with
 | none=>rfl
 | some x=>rfl
theorem nodeAt_nil (p:List zx):x6 [] p=none:=by
 match p with
 | []=>rfl
 | [s]=>rfl
 | s::c::q=>rfl
theorem lkN_cons (t:List GA) (s c:zx) (q:List zx) (k:Int):lkN t (s::c::q) k=lkN (yh t s).subs (c::q) k:=by
 unfold lkN yh;simp only [x6];cases nodeOf t s with
 | none=>simp [node0,nodeAt_nil]
 | some x=>rfl
theorem nodeOf_map {m:zx->GA} (f:∀s,(m s).name=s):∀(L:List zx) (s:zx),nodeOf (L.map m) s=if s ∈ L then some (m s) else none
 | [],s=>by simp [nodeOf]
 | x::L,s=>by
  have c:=nodeOf_map f L s;unfold nodeOf at c ⊢;simp only [uw,rz,f,uP];by_cases e:x=s
  ·subst e;simp
  ·have:(x==s)=false:=by simp [e]
   rw [this,c];simp [Ne.symm e]
theorem not_name {l:List GA} {s:zx} (h:s ∉ vm l a b):yh l s=node0/\yh a s=node0/\yh b s=node0:=by
 have key:∀t:List GA,s ∉ t.map (·.name)->yh t s=node0:=λt f=>by
  rcases nodeD_mem (t:=t) (s:=s) with ⟨c,e,_⟩ | ⟨c,_⟩
  ·exact absurd (tz.2 ⟨_,c,e⟩) f
  ·exact c
 rw [names3_mem] at h;simp only [not_or] at h;exact ⟨key l h.1,key a h.2.1,key b h.2.2⟩
theorem mergedP_at (n:Nat) (l a b:List GA) (s:zx):yh (xY (n+1) l a b) s=if s ∈ vm l a b then GA.mk s (qf (yh l s).leaves (yh a s).leaves (yh b s).leaves) (xY n (yh l s).subs (yh a s).subs (yh b s).subs) else node0:=by
 have h:=nodeOf_map (m:=λs=>GA.mk s (qf (yh l s).leaves (yh a s).leaves (yh b s).leaves) (xY n (yh l s).subs (yh a s).subs (yh b s).subs)) (λ_=>rfl) (vm l a b) s;have e:xY (n+1) l a b=(vm l a b).map λs=>GA.mk s (qf (yh l s).leaves (yh a s).leaves (yh b s).leaves) (xY n (yh l s).subs (yh a s).subs (yh b s).subs):=rfl;rw [e];generalize hN:(vm l a b).map (λs=>GA.mk s (qf (yh l s).leaves (yh a s).leaves (yh b s).leaves) (xY n (yh l s).subs (yh a s).subs (yh b s).subs))=N at h;unfold yh;rw [h];split <;> rfl
theorem lkN_nil (p:List zx) (k:Int):lkN [] p k=none:=by unfold lkN;rw [nodeAt_nil];rfl
theorem mergedP_lk {k:Int} (j:1<=k/\k<=4):∀(p:List zx) (n d:Nat) (l a b:List GA),p ≠ []->GA.deps l < n->GA.deps a < n->GA.deps b < n->M3 d l->M3 d a->M3 d b->lkN (xY n l a b) p k=cmb k (lkN l p k) (lkN a p k) (lkN b p k)
 | [],_,_,_,_,_,h,_,_,_,_,_,_=>absurd rfl h
 | _::_,0,_,_,_,_,_,h,_,_,_,_,_=>by omega
 | [s],n+1,d,l,a,b,_,h1,h2,h3,hl,ha,hb=>by
  rw [lkN_one,lkN_one,lkN_one,lkN_one,mergedP_at];by_cases hs:s ∈ vm l a b
  ·rw [uz hs];exact (threeP_ok (hl.leaves s) (ha.leaves s) (hb.leaves s)).2.2 k j
  ·obtain ⟨e,g,f⟩:=not_name hs;rw [uM hs,e,g,f];rfl
 | s::c::q,n+1,d,l,a,b,_,h1,h2,h3,hl,ha,hb=>by
  rw [lkN_cons,lkN_cons,lkN_cons,lkN_cons,mergedP_at];by_cases hs:s ∈ vm l a b
  ·have i:=n_pos h1 h2 h3 hs;rw [uz hs];exact mergedP_lk j (c::q) n (d+1) _ _ _ (by simp) (deps_sub s h1 i) (deps_sub s h2 i) (deps_sub s h3 i) (hl.subs s) (ha.subs s) (hb.subs s)
  ·obtain ⟨e,g,f⟩:=not_name hs;rw [uM hs,e,g,f];simp only [node0,lkN_nil];rfl
theorem row_lk (h:treeB 0 t=true) {p:List zx} (j:p ≠ []) {k:Int} {l:GC}:lkN t p k=some l ↔ GK.mk p l ∈ zC [] t/\l.typ=k:=by
 have g:=λl=>row_at p t 0 [] l j h;simp only [uI] at g;constructor
 ·intro e;unfold lkN at e;cases c:x6 t p with
  | none=>rw [c] at e;cases e
  | some x =>
   rw [c,ua] at e;obtain ⟨i,f⟩:=lfk_some e;exact ⟨(g l).2 ⟨x,c,i⟩,f⟩
 ·rintro ⟨i,f⟩
  obtain ⟨x,c,r⟩:=(g l).1 i;unfold lkN;rw [c,ua];cases e:vI x.leaves k with
  | none =>
   have:=t7.1 e l r;simp [f] at this
  | some y =>
   obtain ⟨o,q⟩:=lfk_some e;have m:=(g y).2 ⟨x,c,o⟩;have:=sorted_key (key:=wo) (rows_sorted h []) i m (by simp only [wo];rw [f,q]);simp only [GK.mk.injEq] at this;rw [this.2]
def toR (r:GK):GJ:=GJ.mk r.path r.leaf
theorem rows7N:∀(n:Nat) (t:List GA) (a:List zx),GA.deps t < n->a.length+GA.deps t<=1000->(zC [] t).length<=8388608->vE n t a=some ((zC a t).map toR)
 | 0,_,_,h,_,_=>by omega
 | n+1,t,a,h,ha,hl=>by
  unfold vE;simp only [uI];have loop:∀(u:List GA) (i:Nat) (acc:List GJ),(∀x ∈ u,x ∈ t)->acc.length+(zC [] u).length<=8388608->zD (λ(w:Nat) (c:GA) (m:(List GJ))=>((yM ((([]:List zx)).length+(a).length<=lim) ((yM ((a).length+(([c.name]:List zx)).length<=lim) ((lp (zD (λ(n2:Nat) (g:GC) (e:(List GJ))=>((yM ((e).length+(([(GJ.mk (a++([c.name]:List zx)) g)]:List GJ)).length<=lim) (some (.nxt (e++([(GJ.mk (a++([c.name]:List zx)) g)]:List GJ))))):Option (Out _ (List GJ)))) c.leaves 0 m) λ(e:(List GJ))=>((vE n c.subs (a++([c.name]:List zx))).bind λv44=>(yM ((e).length+(v44).length<=lim) (some (.nxt (e++v44)))))))))):Option (Out (List GJ) (List GJ)))) u i acc=some (.inr (acc++(zC a u).map toR)):=by
   intro u
   induction u with
   | nil=>intro i acc _ _;simp [zD,zC]
   | cons x u ih =>
    intro i acc o s;have p:=o x (by simp);have hd:=vw p;have q:=xU x;have v:=vV p;have j:(zC [] (x::u)).length=x.leaves.length+(zC [] x.subs).length+(zC [] u).length:=by
     rw [show x::u=[x]++u from rfl,wn,wO,rowsN_eq];simp only [uq,ul];rw [len_rows x.subs ([]++[x.name]) []]
    have f:=rows7N n x.subs (a++[x.name]) (by omega) (by simp;omega) (by omega);simp only [zD];rw [zu (by simp [lim];omega),zu (by simp [lim];omega),app_loop (λg:GC=>GJ.mk (a++[x.name]) g) x.leaves 0 acc (by omega),yO];simp only [f,ua];rw [zu (yJ (by simp only [uq,ul];rw [len_rows x.subs (a++[x.name]) []];omega))];simp only [];rw [ih (i+1) _ (λy r=>o y (by simp [r])) (by simp only [uq,ul];rw [len_rows x.subs (a++[x.name]) []];omega)];rw [show x::u=[x]++u from rfl,wn,wO,rowsN_eq];simp [toR]
  have:=loop t 0 [] (λ_ h=>h) (by simpa using hl);rw [uI] at this;exact (congrArg (λz=>lp z λ(m:(List GJ))=>some m) this).trans rfl
theorem rows7_is (h:M3 0 t):ref07Rows t []=some ((zC [] t).map toR):=by
 have e:=rows4 t;have c:=h.bk;have f:=deps_le t 0 (by omega) (by have:=h.tree;unfold treeB at this;simp only [ud] at this;exact this.2);exact qb (GA.deps t+1) λn g=>rows7N n t [] (by omega) (by simp;omega) (by omega)
end
section
theorem lay7_ex (i:leafB l=true) (e:LeafOk l) {p:List zx} {t:List GA} (c:pathB p=true) (h:treeB 0 t=true) (j:(zC [] t).length<=8388606) :
  ∃u,ref07Lay t p l=some u/\treeB 0 u=true/\(zC [] u).length<=(zC [] t).length+1/\∀r,r ∈ zC [] u ↔ (r ∈ zC [] t/\wo r ≠ (p,l.typ)) \/ r=⟨p,l⟩:=by
 obtain ⟨u,_,f,m,g⟩:=lay_all (k:=l.typ) (l:=l) (there:=true) (λ_=>⟨rfl,i,e⟩) c h (by omega);exact ⟨u,(put_all i e c h j f g).2,f,m,λr=>by rw [g r];simp⟩
theorem M3.rows (h:M3 d t):(zC [] t).length<=262144:=by
 have c:=rows4 t;have e:=h.bk;omega
theorem M3.row (h:M3 0 t) {r:GK} (c:r ∈ zC [] t):RowOk' r:=rows_ok t 0 [] h.small h.tree rfl rfl r c
theorem M3.f3 {k:Int} (e:1<=k/\k<=4):∀(p:List zx) (d:Nat) (t:List GA),M3 d t->F3 k ((lkN t p k).getD (ve k))
 | [],_,t,_=>by
  have:lkN t [] k=none:=by unfold lkN;cases t <;> rfl
  rw [this];exact L3.nil.at e
 | [s],d,t,h=>by rw [lkN_one];exact (h.leaves s).at e
 | s::c::q,d,t,h=>by rw [lkN_cons];exact M3.f3 e (c::q) (d+1) _ (h.subs s)
theorem leaf7_lk (h:M3 0 t) {p:List zx} (c:p ≠ []) {k:Int} (j:1<=k/\k<=4):∃b,wz t p k=some ((lkN t p k).getD (ve k),b):=by
 have o:=h.rows;rcases leaf7_is h.tree (by omega) c j with ⟨l,g,f,i⟩ | ⟨g,f⟩
 ·rw [(row_lk h.tree c).2 ⟨g,f⟩];exact ⟨true,i⟩
 ·cases e:lkN t p k with
  | none=>exact ⟨false,f⟩
  | some l =>
   obtain ⟨i,m⟩:=(row_lk h.tree c).1 e;exact absurd (by simp only [wo];rw [m]) (g _ i)
def fuK (l a b:List GA) (p:List zx) (k:Int):GC:=fuP ((lkN l p k).getD (ve k)) ((lkN a p k).getD (ve k)) ((lkN b p k).getD (ve k))
theorem doc_loop {l a b:List GA} (D:M3 0 l) (E:M3 0 a) (p:M3 0 b):∀(R pre:List GK) (i:Nat) (W:List GA),(∀r ∈ R,RowOk' r)->treeB 0 W=true->(zC [] W).length<=pre.length->pre.length+R.length<=8388606 ->
  (∀r,r ∈ zC [] W ↔ (∃q ∈ pre,wo q=wo r)/\r.leaf=fuK l a b r.path r.leaf.typ) ->
  ∃W',zD (λ(n1:Nat) (e:GJ) (S:(List GA))=>(((wz l e.path e.l.typ).bind λv23=>((wz a e.path e.l.typ).bind λv24=>((wz b e.path e.l.typ).bind λv25=>((qy v23.1 v24.1 v25.1).bind λv26=>((ref07Lay S e.path v26.1).bind λv=>some (.nxt v)))))):Option (Out (List GA×Int) (List GA)))) (R.map toR) i W=some (.inr W')/\treeB 0 W'=true/\∀r,r ∈ zC [] W' ↔ (∃q ∈ pre++R,wo q=wo r)/\r.leaf=fuK l a b r.path r.leaf.typ
 | [],pre,i,W,_,hW,_,_,h=>⟨W,rfl,hW,by simpa using h⟩
 | q::R,pre,i,W,hR,hW,hlen,hb2,h=>by
  have s:=hR q (by simp);have f:=vJ s.leaf;have C:=(qH s.path).1;obtain ⟨b1,V⟩:=leaf7_lk D C f;obtain ⟨b2,N⟩:=leaf7_lk E C f;obtain ⟨b3,X⟩:=leaf7_lk p C f;have F:=D.f3 f q.path;have I:=E.f3 f q.path;have f3:=p.f3 f q.path;obtain ⟨Q,j,Z⟩:=F.fuP I f3;simp only [ux] at hb2;obtain ⟨U,H,M,u3,G⟩:=lay7_ex Q Z s.path hW (by omega);have O:fuP ((lkN l q.path q.leaf.typ).getD (ve q.leaf.typ)) ((lkN a q.path q.leaf.typ).getD (ve q.leaf.typ)) ((lkN b q.path q.leaf.typ).getD (ve q.leaf.typ))=fuK l a b q.path q.leaf.typ:=rfl;have hd:=F.doc I f3;rw [O] at hd H G j;have g:∀r,r ∈ zC [] U ↔ (∃z ∈ pre++[q],wo z=wo r)/\r.leaf=fuK l a b r.path r.leaf.typ:=λr=>by
   rw [G r,h r,j];constructor
   ·rintro (⟨⟨⟨z,w,m⟩,c⟩,_⟩ | rfl)
    ·exact ⟨⟨z,by simp [w],m⟩,c⟩
    ·refine ⟨⟨q,by simp,?_⟩,?_⟩
     ·simp only [wo];rw [j]
     ·show fuK l a b q.path q.leaf.typ=fuK l a b q.path (fuK l a b q.path q.leaf.typ).typ;rw [j]
   ·rintro ⟨⟨z,w,m⟩,c⟩
    by_cases hkey:wo r=(q.path,q.leaf.typ)
    ·right;have o:r.path=q.path:=congrArg Prod.fst hkey;have k2:r.leaf.typ=q.leaf.typ:=congrArg Prod.snd hkey;cases r;simp only at o k2 c;rw [o,k2] at c;rw [o,c]
    ·left;refine ⟨⟨⟨z,?_,m⟩,c⟩,hkey⟩;rcases uG.1 w with u | u
     ·exact u
     ·have:z=q:=by simpa using u
      subst this;exact absurd m.symm hkey
  obtain ⟨W',K,Y,L⟩:=doc_loop D E p R (pre++[q]) (i+1) U (λr c=>hR r (by simp [c])) M (by simp;omega) (by simp;omega) g;refine ⟨W',?_,Y,by simpa using L⟩;have P:(toR q).path=q.path:=rfl;have J:(toR q).l=q.leaf:=rfl;simp only [uw,zD,P,J,V,N,X,ua,hd,H];exact K
end
section
theorem rows_may:∀(t:List GA) (d:Nat) (a:List zx),wT d t=true->∀r ∈ zC a t,leafB r.leaf=true:=by
 refine w9 (λ_ _ _ r h=>by simp [zC] at h) ?_;intro x r m i d a f q c;simp only [wT,ud] at f;rw [show x::r=[x]++r from rfl,wn,wO,uG,rowsN_mem] at c;obtain ⟨_,e,j⟩:=xF f.1;rcases c with (⟨l,g,rfl⟩ | c) | c
 ·exact (wB j).2 l g
 ·refine m (d+1) _ ?_ q c;unfold treeB at e;simp only [ud] at e;exact e.2
 ·exact i d a f.2 q c
theorem tree_nodes (h:treeB d t=true):wT d t=true:=by
 unfold treeB at h;simp only [ud] at h;exact h.2
theorem has_row (h:M3 0 t) {p:List zx} (c:p ≠ []) {k:Int} {x:GC} (e:lkN t p k=some x):∃q ∈ zC [] t,wo q=(p,k):=by
 obtain ⟨g,f⟩:=(row_lk h.tree c).1 e;exact ⟨_,g,by simp only [wo];rw [f]⟩
theorem row_has (h:M3 0 t) {q:GK} (c:q ∈ zC [] t):lkN t q.path q.leaf.typ=some q.leaf :=
 (row_lk h.tree (qH (h.row c).path).1).2 ⟨c,rfl⟩
theorem mergedP_rows {l:List GA} (j:M3 0 l) (u:M3 0 a) (f:M3 0 b) (G:GA.deps l < n) (E:GA.deps a < n) (H:GA.deps b < n) (r:GK) :
  r ∈ zC [] (xY n l a b) ↔ (∃q ∈ zC [] l++zC [] a++zC [] b,wo q=wo r)/\r.leaf=fuK l a b r.path r.leaf.typ:=by
 have D:=mergedP_tree n 0 l a b G E H j u f;have key:∀{p:List zx} {k:Int},p ≠ []->1<=k/\k<=4->lkN (xY n l a b) p k=cmb k (lkN l p k) (lkN a p k) (lkN b p k):=λ{p k} c g=>mergedP_lk g p n 0 l a b c G E H j u f;constructor
 ·intro m;have c:r.path ≠ []:=λe=>by
   have:=(rows_path _ _ _ m).1;rw [e] at this;simp at this
  have g:=vJ (rows_may _ 0 [] (tree_nodes D) r m);have e:=(row_lk D c (k:=r.leaf.typ) (l:=r.leaf)).2 ⟨m,rfl⟩;rw [key c g] at e;unfold cmb at e;split at e
  ·cases e
  ·rename_i I;injection e with e;refine ⟨?_,e.symm⟩;have:(∃x,lkN l r.path r.leaf.typ=some x) \/ (∃x,lkN a r.path r.leaf.typ=some x) \/ (∃x,lkN b r.path r.leaf.typ=some x):=by
    cases c1:lkN l r.path r.leaf.typ with
    | some x=>exact .inl ⟨x,rfl⟩
    | none =>
     cases c2:lkN a r.path r.leaf.typ with
     | some x=>exact .inr (.inl ⟨x,rfl⟩)
     | none =>
      cases c3:lkN b r.path r.leaf.typ with
      | some x=>exact .inr (.inr ⟨x,rfl⟩)
      | none=>rw [c1,c2,c3] at I;simp at I
   rcases this with ⟨x,o⟩ | ⟨x,o⟩ | ⟨x,o⟩
   ·obtain ⟨q,i,v⟩:=has_row j c o;exact ⟨q,by simp [i],v⟩
   ·obtain ⟨q,i,v⟩:=has_row u c o;exact ⟨q,by simp [i],v⟩
   ·obtain ⟨q,i,v⟩:=has_row f c o;exact ⟨q,by simp [i],v⟩
 ·rintro ⟨⟨q,C,F⟩,m⟩
  have w:q.path=r.path:=congrArg Prod.fst F;have k2:q.leaf.typ=r.leaf.typ:=congrArg Prod.snd F;simp only [uG,or_assoc] at C;have s:RowOk' q:=by
   rcases C with h | h | h
   ·exact j.row h
   ·exact u.row h
   ·exact f.row h
  have c:r.path ≠ []:=by rw [<- w];exact (qH s.path).1
  have g:1<=r.leaf.typ/\r.leaf.typ<=4:=by rw [<- k2];exact vJ s.leaf
  have e:lkN (xY n l a b) r.path r.leaf.typ=some r.leaf:=by
   rw [key c g];unfold cmb;rw [uM]
   ·exact congrArg some m.symm
   ·rcases C with h | h | h
    ·have:=row_has j h;rw [w,k2] at this;rw [this];simp
    ·have:=row_has u h;rw [w,k2] at this;rw [this];simp
    ·have:=row_has f h;rw [w,k2] at this;rw [this];simp
  exact ((row_lk D c).1 e).1
theorem merge_prog {l:List GA} (c:M3 0 l) (e:M3 0 a) (f:M3 0 b):∃U,treeXmerged l a b=some U/\treeB 0 U=true/\∀r,r ∈ zC [] U ↔ (∃q ∈ zC [] l++zC [] a++zC [] b,wo q=wo r)/\r.leaf=fuK l a b r.path r.leaf.typ:=by
 let N:=GA.deps l+GA.deps a+GA.deps b+1
 refine ⟨xY N l a b,qb N λn g=>?_,mergedP_tree N 0 l a b (by omega) (by omega) (by omega) c e f,mergedP_rows c e f (by omega) (by omega) (by omega)⟩;rw [mergedN_is n 0 l a b (by omega) (by omega) (by omega) c e f];congr 1;refine rows_ext (mergedP_tree n 0 l a b (by omega) (by omega) (by omega) c e f) (mergedP_tree N 0 l a b (by omega) (by omega) (by omega) c e f) λr=>?_;rw [mergedP_rows c e f (by omega) (by omega) (by omega),mergedP_rows c e f (by omega) (by omega) (by omega)]
theorem merge_both {l:List GA} (j:Small l) (m:Small a) (i:Small b) (v:GA.bks l<=1048576) (C:GA.bks a<=1048576) (s:GA.bks b<=1048576):∃u e,vj l a b=some (u,e)/\ref07Merge l a b=some (u,e):=by
 unfold vj ref07Merge;simp only [vA j,vA m,vA i,ref07May_is j,ref07May_is m,ref07May_is i,ua];cases tl:treeB 0 l with
 | false=>exact ⟨[],2,by simp,by simp⟩
 | true =>
  cases ta:treeB 0 a with
  | false=>exact ⟨[],2,by simp,by simp⟩
  | true =>
   cases tb:treeB 0 b with
   | false=>exact ⟨[],2,by simp,by simp⟩
   | true =>
    have c:M3 0 l:=⟨j,v,tl⟩;have g:M3 0 a:=⟨m,C,ta⟩;have f:M3 0 b:=⟨i,s,tb⟩
    obtain ⟨U,D,w,E⟩:=merge_prog c g f;have H:=c.rows;have I:=g.rows;have G:=f.rows;obtain ⟨W,p,F,q⟩:=doc_loop c g f (zC [] l++zC [] a++zC [] b) [] 0 [] (λr o=>by
     simp only [uG] at o;rcases o with (h | h) | h
     ·exact c.row h
     ·exact g.row h
     ·exact f.row h) (qX 0) (by simp [zC]) (by simp;omega) (λr=>by simp [zC])
    have e:U=W:=rows_ext w F λr=>by rw [E,q,uI]
    subst e;refine ⟨U,0,?_,?_⟩
    ·simp [D]
    ·simp only [tR,uW,ut,pf,um,uJ,ua,rows7_is c,rows7_is g,rows7_is f];rw [zu (yJ (by simp;omega)),zu (yJ (by simp;omega))];rw [<- tN,<- tN,p,yO]
end
section
def purl (l:GC):GC:=GC.mk l.typ l.n l.time l.dot l.text l.items []
mutual
def purN:GA->GA
 | ⟨nm,ls,sb⟩=>⟨nm,ls.map purl,purL sb⟩
def purL:List GA->List GA
 | []=>[]
 | x::r=>purN x::purL r
end
theorem purL_map:∀t,purL t=t.map purN
 | []=>rfl
 | x::r=>by simp only [purL,purL_map r,uw]
theorem purN_eq (x:GA):purN x=⟨x.name,x.leaves.map purl,purL x.subs⟩:=by cases x;rfl
theorem purl_may (h:leafB l=true):leafB (purl l)=true:=by
 unfold leafB at h ⊢;simp only [purl];split at h
 ·rw [uz (by assumption)];simp_all [zeroB]
 rw [uM (by assumption)];split at h
 ·rw [uz (by assumption)];simp only [ud] at h ⊢;exact ⟨⟨h.1.1,by simp⟩,h.2⟩
 rw [uM (by assumption)];split at h
 ·rw [uz (by assumption)];simp only [ud,zeroB] at h ⊢;refine ⟨⟨⟨h.1.1.1,h.1.1.2⟩,h.1.2⟩,?_⟩;simp [tombsB,xR]
 rw [uM (by assumption)];split at h
 ·rw [uz (by assumption)];simp_all [zeroB]
 ·cases h
theorem purl_ok (h:LeafOk l):LeafOk (purl l):=⟨h.items,by simp [purl],h.time⟩
theorem purC_is (c:leafB l=true) (h:LeafOk l):wX l=some (purl l):=by
 unfold wX fusePurge;rw [leafMay_is (uA h.items (by decide)) (uA h.tombs (by decide)),c,ua,uM (by simp),qa (yJ (by have:=h.items;omega))];rfl
theorem purD_is (c:leafB l=true) (h:LeafOk l):ref06Purge l=some (purl l,0):=by
 unfold ref06Purge;rw [ref05May_is (uA h.items (by decide)) (uA h.tombs (by decide)) h.time,c,ua,uM (by simp),zu (yJ (by have:=h.items;simp;omega))];rfl
theorem changed_pur:∀(n d:Nat) (t:List GA),GA.deps t < n->Small t->(∀x ∈ t,nodeB d x=true)->y4 n t (λm=>wX m)=some (purL t)
 | 0,_,_,h,_,_=>by omega
 | n+1,d,t,h,hs,hb=>by
  unfold y4;have v:=hs.len;rw [qJ (λ_=>true) purN t 0 [] (yJ (by simp;omega))]
  ·have c:(t.filter λ_=>true)=t:=by simp
   simp only [yO,uI,c,purL_map]
  ·intro i x s f hsl;have g:=vw f;have p:=xU x;have o:=hs.leaves f;obtain ⟨_,k2,q⟩:=xF (hb x f);rw [changed_pur n (d+1) x.subs (by omega) (hs.subs f) (zV k2).2,ua];rw [qJ (λ_=>true) purl x.leaves 0 [] (yJ (by simp;omega))]
   ·have c:(x.leaves.filter λ_=>true)=x.leaves:=by simp
    simp only [yO,uI,c,ut];rw [zu (by omega),purN_eq]
   ·intro j l u e r;show ((wX l).bind _)=_;rw [purC_is ((wB q).2 l e) (hs.leaf f e),ua,zu (by omega)];simp
theorem pur_rows:∀(t:List GA) (a:List zx),zC a (purL t)=(zC a t).map λr=>GK.mk r.path (purl r.leaf):=by
 refine w9 (λa=>rfl) ?_;intro x r e c a;rw [show purL (x::r)=[purN x]++purL r from rfl,show x::r=[x]++r from rfl,wn,wn,wO,wO,rowsN_eq,rowsN_eq,c,purN_eq];simp only [e,tN,rF];rfl
theorem pur_tree:∀(t:List GA) (d:Nat),treeB d t=true->treeB d (purL t)=true:=by
 have key:∀(t:List GA) (d:Nat),wT d t=true->wT d (purL t)=true:=by
  refine w9 (λd _=>rfl) ?_;intro x r u q d h;simp only [purL,wT,ud] at h ⊢;refine ⟨?_,q d h.2⟩;have c:=h.1;rw [vH] at c ⊢;rw [purN_eq];simp only [ud,treeB] at c ⊢;obtain ⟨⟨⟨f,k2⟩,⟨g,e⟩,j⟩,s⟩:=c;obtain ⟨m,i⟩:=wB s;refine ⟨⟨⟨f,?_⟩,⟨?_,?_⟩,u (d+1) j⟩,leaves_of ?_ ?_⟩
  ·simpa [purL_map] using k2
  ·simpa [purL_map] using g
  ·rw [qr] at e ⊢;rw [purL_map,sJ];exact e.imp λ{y z} h=>by rw [purN_eq,purN_eq];exact h
  ·rw [sJ];exact m
  ·intro l o;obtain ⟨y,p,rfl⟩:=tz.1 o;exact purl_may (i y p)
 intro t d h;unfold treeB at h ⊢;simp only [ud] at h ⊢;refine ⟨⟨by simpa [purL_map] using h.1.1,?_⟩,key t d h.2⟩;have:=h.1.2;rw [qr] at this ⊢;rw [purL_map,sJ];exact this.imp λ{y z} h=>by rw [purN_eq,purN_eq];exact h
theorem pur_loop:∀(R pre:List GK) (i:Nat) (W:List GA),(∀r ∈ R,RowOk' r)->(pre++R).Pairwise (λr q=>kltB (wo r) (wo q)=true)->treeB 0 W=true->(zC [] W).length<=pre.length->pre.length+R.length<=8388606 ->
  (∀r,r ∈ zC [] W ↔ ∃q ∈ pre,r=⟨q.path,purl q.leaf⟩) ->
  ∃W',zD (λ(K:Nat) (p:GJ) (H:(List GA))=>(((ref06Purge p.l).bind λo=>((ref07Lay H p.path o.1).bind λj=>some (.nxt j))):Option (Out (List GA×Int) (List GA)))) (R.map toR) i W=some (.inr W')/\treeB 0 W'=true/\∀r,r ∈ zC [] W' ↔ ∃q ∈ pre++R,r=⟨q.path,purl q.leaf⟩
 | [],pre,i,W,_,_,hW,_,_,h=>⟨W,rfl,hW,by simpa using h⟩
 | q::R,pre,i,W,hR,hs,hW,hlen,hb2,h=>by
  have c:=hR q (by simp);simp only [ux] at hb2;obtain ⟨U,E,w,J,C⟩:=lay7_ex (purl_may c.leaf) (purl_ok c.ok) c.path hW (by omega);have f:∀r,r ∈ zC [] U ↔ ∃z ∈ pre++[q],r=⟨z.path,purl z.leaf⟩:=λr=>by
   rw [C r,h r];constructor
   ·rintro (⟨⟨z,m,rfl⟩,_⟩ | rfl)
    ·exact ⟨z,by simp [m],rfl⟩
    ·exact ⟨q,by simp,rfl⟩
   ·rintro ⟨z,m,rfl⟩
    rcases uG.1 m with g | g
    ·left;refine ⟨⟨z,g,rfl⟩,λe=>?_⟩;have:=(tp.1 hs).2.2 z g q (by simp);have D:wo z=wo q:=e;rw [D,klt_irr] at this;cases this
    ·have:z=q:=by simpa using g
     subst this;exact .inr rfl
  obtain ⟨W',u,I,v⟩:=pur_loop R (pre++[q]) (i+1) U (λr G=>hR r (by simp [G])) (by simpa using hs) w (by simp;omega) (by simp;omega) f;refine ⟨W',?_,I,by simpa using v⟩;have F:(toR q).path=q.path:=rfl;have s:(toR q).l=q.leaf:=rfl;simp only [uw,zD,F,s,purD_is c.leaf c.ok,ua,E];exact u
theorem purge_both (h:Small t) (p:GA.bks t<=1048576):∃u e,treePurge t=some (u,e)/\ref07Purge t=some (u,e):=by
 unfold treePurge ref07Purge;rw [vA h,ref07May_is h,ua,ua];cases ht:treeB 0 t with
 | false=>exact ⟨[],2,by simp,by simp⟩
 | true =>
  have m:M3 0 t:=⟨h,p,ht⟩
  have c:=m.rows;have g:vQ t (λf=>wX f)=some (purL t):=qb (GA.deps t+1) λn s=>changed_pur n 0 t (by omega) h (zV ht).2;obtain ⟨W,i,o,j⟩:=pur_loop (zC [] t) [] 0 [] (λr c=>m.row c) (by simpa using rows_sorted ht []) (qX 0) (by simp [zC]) (by simp;omega) (λr=>by simp [zC]);have e:purL t=W:=rows_ext (pur_tree t 0 ht) o λr=>by
   rw [j,pur_rows,uI,tz];exact exists_congr λq=>and_congr_right λ_=>eq_comm
  refine ⟨W,0,?_,?_⟩
  ·rw [uM (by simp),g,ua,e]
  ·rw [uM (by simp),rows7_is m,ua,i,yO]
theorem unit_loop {α ρ:Type} {f:Nat->α->Unit->Option (Out ρ Unit)}:∀(L:List α) (i:Nat),(∀x ∈ L,∀i,f i x ()=some (.nxt ()))->zD f L i ()=some (.inr ())
 | [],i,_=>rfl
 | x::r,i,h=>by
  simp only [zD,h x (by simp)];exact unit_loop r (i+1) λy c=>h y (by simp [c])
theorem spoilN:∀(n:Nat) (t:List GA),GA.deps t < n->w4 n t=some ()
 | 0,_,h=>by omega
 | n+1,t,h=>by
  unfold w4;rw [unit_loop]
  ·rfl
  ·intro x c i;have g:=vw c;have f:=xU x;rw [unit_loop,yO,spoilN n x.subs (by omega),ua];intro l e j;rw [unit_loop _ _ (λ_ _ _=>rfl),yO,unit_loop _ _ (λ_ _ _=>rfl),yO]
theorem spoil_is (t:List GA):law07Xspoil t=some ():=qb (GA.deps t+1) λn c=>spoilN n t (by omega)
end
section
def pK:List zx:=[[97],[98]]
def clK (n:Int):GC:=GC.mk 1 n 0 dot0 [] [] []
def tK (n:Int):List GA:=[GA.mk [97] [] [GA.mk [98] [clK n] []]]
def evK (s n:Int):GH:=GH.mk (GE.mk (GI.mk 0 1) s) s (GL.mk 1 pK n [] [])
theorem clK_may (n:Int):leafB (clK n)=true:=by simp [leafB,clK,zeroB]
theorem clK_ok (n:Int):LeafOk (clK n):=⟨by simp [clK],by simp [clK],tY _⟩
theorem qY (n:Int):zC [] (tK n)=[⟨pK,clK n⟩]:=by simp [tK,zC,rowsN,pK]
theorem tK_tree (n:Int):treeB 0 (tK n)=true:=by
 have h:=leaves_of (ls:=[clK n]) (by simp) (by simp [clK_may]);have e:nodeB 1 (GA.mk [98] [clK n] [])=true:=by
  rw [vH];simp only [h,sA];rfl
 have hs:treeB 1 [GA.mk [98] [clK n] []]=true:=treeB_of (by decide) rfl (by simpa using e);have c:nodeB 0 (GA.mk [97] [] [GA.mk [98] [clK n] []])=true:=by
  rw [vH];simp only [hs,sA];rfl
 exact treeB_of (by decide) rfl (by simpa [tK] using c)
theorem tK_small {n:Int} (h:0<=n/\n<=100):Small (tK n)/\GA.bks (tK n)<=1048576:=by
 have c:GA.bks (tK n)<=1048576:=by simp [tK,GA.bks,GA.bk,GC.bk,clK,GE.bk,GI.bk,dot0]
 refine ⟨⟨?_,by omega⟩,c⟩;simp [tK,GA.wfs,GA.wf,GC.wf,clK,GE.wf,GI.wf,dot0,InK,maxLen];have e:IntKind.i64.min=-9223372036854775808:=by decide
 exact ⟨by decide,⟨by omega,by omega⟩,by decide,⟨by decide,by decide⟩,by decide⟩
theorem add_is {b:Bool} {s n m:Int} (hs:Small t) (c:treeB 0 t=true) (D:(zC [] t).length<=8) (u:wq t pK 1=some (l,b)) (v:leafB l=true) (j:l.typ=1) (hi:l.items=[]) (hd:l.tombs=[]) (e:eventB (evK s n)=true) (C:applyP l (evK s n)=clK m) (h0:0<=m/\m<=100) (g:∀r ∈ zC [] t,wo r=(pK,1)) :
  vk t (evK s n)=some (tK m,0):=by
 have i:applyW l (evK s n)=(clK m,0):=by
  unfold applyW;rw [v,e,uM (by simp),uM (by rw [j];exact λh=>h rfl),C]
 have q:treeXput t pK (clK m)=some (tK m):=(put_all (clK_may m) (clK_ok m) (p:=pK) (by decide) c (by omega) (tK_tree m) λr=>by
  rw [qY];constructor
  ·intro h;right;simpa using h
  ·rintro (⟨h,f⟩ | h)
   ·exact absurd (g r h) f
   ·simpa using h).1
 unfold vk;rw [vA hs,opMayEvent_is,c,e];simp only [ua,tR,uW,ut,pf,um,uJ];have w:(evK s n).op.kind=1:=rfl;have o:(evK s n).op.path=pK:=rfl;rw [opType_is,ua,w,o,show typeB 1=1 from rfl,u,ua,leafApply_is _ (by simp [hi]) (by simp [hd]),i,ua];simp only [sr,um,uJ];rw [q,ua,own7_is (tK_small h0).1,ua]
theorem tK_row {n:Int} {r:GK} (c:r ∈ zC [] (tK n)):r=⟨pK,clK n⟩:=by
 rw [qY] at c;simpa using c
theorem tK_ok (n:Int):∀r ∈ zC [] (tK n),LeafOk r.leaf:=λr c=>by
 rw [tK_row c];exact clK_ok n
theorem leafK (n:Int):wq (tK n) pK 1=some (clK n,true):=by
 rcases treeLeaf_is (tK_tree n) (tK_ok n) (p:=pK) (by decide) (k:=1) (by decide) with ⟨l,c,_,e⟩ | ⟨c,_⟩
 ·have:=tK_row c;simp only [GK.mk.injEq,pE] at this;rw [e,this]
 ·exact absurd rfl (c ⟨pK,clK n⟩ (by rw [qY];simp))
theorem leaf0:wq [] pK 1=some (ve 1,false):=by
 rcases treeLeaf_is (qX 0) (λr e=>by simp [zC] at e) (p:=pK) (by decide) (k:=1) (by decide) with ⟨l,f,_⟩ | ⟨_,v,c⟩
 ·simp [zC] at f
 ·rw [c,treeLeaf_false (by decide) (by decide) c]
theorem lkK (n:Int):lkN (tK n) pK 1=some (clK n):=(row_lk (tK_tree n) (by decide)).2 ⟨by rw [qY];simp,rfl⟩
theorem m3K {n:Int} (h:0<=n/\n<=100):M3 0 (tK n):=⟨(tK_small h).1,(tK_small h).2,tK_tree n⟩
theorem mergeK:vj (tK 5) (tK 8) (tK 9)=some (tK 12,0):=by
 obtain ⟨U,s,p,o⟩:=merge_prog (m3K (n:=5) (by decide)) (m3K (n:=8) (by decide)) (m3K (n:=9) (by decide));have g:fuK (tK 5) (tK 8) (tK 9) pK 1=clK 12:=by
  unfold fuK;rw [lkK,lkK,lkK];rfl
 have e:U=tK 12:=rows_ext p (tK_tree 12) λr=>by
  rw [o,qY,qY,qY,qY];constructor
  ·rintro ⟨⟨q,j,m⟩,f⟩
   have i:wo r=(pK,1):=by
    rw [<- m];simp at j;rcases j with rfl | rfl | rfl <;> rfl
   have c:r.path=pK:=congrArg Prod.fst i;have k2:r.leaf.typ=1:=congrArg Prod.snd i;rw [c,k2,g] at f;cases r;simp only at c f;simp [c,f]
  ·intro h;have:r=⟨pK,clK 12⟩:=by simpa using h
   subst this;exact ⟨⟨⟨pK,clK 5⟩,by simp,rfl⟩,g.symm⟩
 unfold vj;rw [vA (tK_small (n:=5) (by decide)).1,vA (tK_small (n:=8) (by decide)).1,vA (tK_small (n:=9) (by decide)).1,tK_tree,tK_tree,tK_tree];simp [s,e]
theorem known07:qM=some true:=by
 have g:vk [] (evK 1 5)=some (tK 5,0):=add_is small_nil (qX 0) (by simp [zC]) leaf0 (newLf_may (by decide)) rfl rfl rfl (by decide) rfl (by decide) (by simp [zC]);have key:∀r ∈ zC [] (tK 5),wo r=(pK,1):=λr c=>by
  rw [qY] at c;have:r=⟨pK,clK 5⟩:=by simpa using c
  subst this;rfl
 have e:=tK_small (n:=5) (by decide);have h:vk (tK 5) (evK 2 3)=some (tK 8,0):=add_is e.1 (tK_tree 5) (by rw [qY];simp) (leafK 5) (clK_may 5) rfl rfl rfl (by decide) rfl (by decide) key;have a3:vk (tK 5) (evK 3 4)=some (tK 9,0):=add_is e.1 (tK_tree 5) (by rw [qY];simp) (leafK 5) (clK_may 5) rfl rfl rfl (by decide) rfl (by decide) key;have f:qN 1 5=some (evK 1 5):=rfl;have j:qN 2 3=some (evK 2 3):=rfl;have i:qN 3 4=some (evK 3 4):=rfl;unfold qM;rw [f,j,i];simp only [ua,g,h,a3,mergeK];show ((wq (tK 12) pK 1).bind _)=_;rw [leafK,ua];rfl
theorem law07TreeMerges_is {l:List GA} (h:Small l) (c:Small a) (f:Small b) (r:GA.bks l<=1048576) (i:GA.bks a<=1048576) (q:GA.bks b<=1048576):vf l a b=some true:=by
 obtain ⟨w,D⟩:=ref07Great_tot h;obtain ⟨s,u⟩:=ref07Great_tot c;obtain ⟨F,E⟩:=ref07Great_tot f;obtain ⟨m,e,C,j⟩:=merge_both h c f r i q;obtain ⟨p,g,v,o⟩:=purge_both c i;unfold vf;rw [D,ua];cases w with
 | true=>simp [known07]
 | false =>
  rw [u];simp only [uW,ut,ua,tg];cases s with
  | true=>simp [known07]
  | false =>
   rw [E];simp only [uW,ut,ua,tg];cases F with
   | true=>simp [known07]
   | false =>
    simp only [um,uJ,own7_same h,own7_same c,own7_same f,ua,C,j,v,o,sr,pf,uW,ut,ref07Same_refl,tR,spoil_is,uT,known07]
theorem law07TreeMerges_top (l a b:List GA) (e:l.length<=maxLen/\∀y ∈ l,GA.wf y) (c:a.length<=maxLen/\∀y ∈ a,GA.wf y) (f:b.length<=maxLen/\∀y ∈ b,GA.wf y) (g:((l.map GA.bk).sum+1)+((a.map GA.bk).sum+1)+((b.map GA.bk).sum+1)<=1048576):vf l a b=some true:=by
 refine law07TreeMerges_is (small_of e (by omega)) (small_of c (by omega)) (small_of f (by omega)) ?_ ?_ ?_ <;> rw [GA.bks_eq] <;> omega
end
end Go.Vv
