/- Maps of maps in pools: what they hold. -/
import Derived.Test.YthnmdghfecoafaaGreatPlI0
set_option linter.all false
namespace Go.Vv
open Go
variable {x:Option GC} {p:GC} {l:GE} {typ:Int} {t u:List GA}
section
section
variable {W:Type}
theorem qp {k:zi} {v:W}:∀m:List (Option (zi×W)),zG (x7 sEq m k v)=xS sEq (zG m) k v
 | []=>rfl
 | none::r=>by simp only [x7,xg];exact qp r
 | some e::r=>by
  simp only [x7,yT,xS];by_cases h:sEq k e.1=true
  ·simp only [h,ur,yT]
  ·simp only [h,uJ,um,yT,qp r]
def mdel:List (zi×W)->zi->List (zi×W)
 | [],_=>[]
 | e::r,k=>if sEq k e.1 then r else e::mdel r k
theorem live_tdel {k:zi}:∀m:List (Option (zi×W)),zG (qP sEq m k)=mdel (zG m) k
 | []=>rfl
 | none::r=>by simp only [qP,xg];exact live_tdel r
 | some e::r=>by
  simp only [qP,yT,mdel];by_cases h:sEq k e.1=true
  ·simp only [h,ur,xg]
  ·simp only [h,uJ,um,yT,live_tdel r]
theorem mem_del {k:zi}:∀{m:List (zi×W)},mnd m->∀y,y ∈ mdel m k ↔ y ∈ m/\y.1 ≠ k
 | [],_,y=>by simp [mdel]
 | e::r,h,y=>by
  obtain ⟨c,b⟩:=uL.1 h;simp only [mdel];by_cases hk:k=e.1
  ·subst hk;rw [uG (sEq_iff.2 rfl)];simp only [ux];constructor
   ·exact λh=>⟨.inr h,λd=>c y h d.symm⟩
   ·rintro ⟨h | h,a⟩
    ·exact (a (by rw [h])).elim
    ·exact h
  ·rw [te (λe=>hk (sEq_iff.1 e)),ux,mem_del b y,ux];constructor
   ·rintro (h | h)
    ·exact ⟨.inl h,by rw [h];exact λe=>hk e.symm⟩
    ·exact ⟨.inr h.1,h.2⟩
   ·rintro ⟨h | h,a⟩
    ·exact .inl h
    ·exact .inr ⟨h,a⟩
theorem mnd_del {k:zi}:∀{m:List (zi×W)},mnd m->mnd (mdel m k)
 | [],_=>by simp [mdel,mnd]
 | e::r,h=>by
  obtain ⟨c,a⟩:=uL.1 h;simp only [mdel];by_cases hk:k=e.1
  ·subst hk;rw [uG (sEq_iff.2 rfl)];exact a
  ·rw [te (λe=>hk (sEq_iff.1 e))];exact uL.2 ⟨λy b=>c y ((mem_del a y).1 b).1,mnd_del a⟩
theorem mdel_not {k:zi}:∀{m:List (zi×W)},(∀x ∈ m,x.1 ≠ k)->mdel m k=m
 | [],_=>rfl
 | e::r,h=>by
  simp only [mdel];rw [te (λa=>h e (by simp) (sEq_iff.1 a).symm),mdel_not λx b=>h x (by simp [b])]
end
section
abbrev OM:=List (Option (zi×Option Nat))
abbrev PM (W:Type):=List (List (Option (zi×W)))
def kget (o:OM) (s:zi):Option Nat:=zz sEq none (zG o) s
structure Rep (o:OM) (ms:PM GC) (C:zi->zi->Option GC):Prop where
 key:mnd (zG o)
 val:∀x ∈ zG o,∃q m,x.2=some q/\ms[q]?=some m/\mnd (zG m)/\zG m ≠ []/\∀k v,(k,v) ∈ zG m ↔ C x.1 k=some v
 one:∀x ∈ zG o,∀y ∈ zG o,x.2=y.2->x.1=y.1
 out:∀s,(∀x ∈ zG o,x.1 ≠ s)->∀k,C s k=none
theorem Rep.nil:Rep ([]:OM) ([]:PM GC) (λ_ _=>none):=⟨by simp [zG,mnd],by simp [zG],by simp [zG],λ_ _ _=>rfl⟩
def upd2 (C:zi->zi->Option GC) (s k:zi) (x:Option GC):zi->zi->Option GC:=λs' k'=>if s'=s/\k'=k then x else C s' k'
theorem upd2_eq {C:zi->zi->Option GC} {s k:zi}:upd2 C s k x s k=x:=by simp [upd2]
theorem upd2_ne {C:zi->zi->Option GC} {s k a k':zi} (h:a ≠ s \/ k' ≠ k):upd2 C s k x a k'=C a k':=by
 unfold upd2;rw [te]
 rintro ⟨c,b⟩
 exact h.elim (λh=>h c) (λh=>h b)
theorem kget_in {o:OM} (h:mnd (zG o)) {x:zi×Option Nat} (a:x ∈ zG o):kget o x.1=x.2:=get_mem h a
theorem kget_out {o:OM} {s:zi} (h:∀x ∈ zG o,x.1 ≠ s):kget o s=none:=get_not h
theorem key_cases (o:OM) (s:zi):(∃x ∈ zG o,x.1=s) \/ ∀x ∈ zG o,x.1 ≠ s:=by
 by_cases h:∃x ∈ zG o,x.1=s
 ·exact .inl h
 ·exact .inr λx a e=>h ⟨x,a,e⟩
noncomputable def putB (s k:zi) (v:GC) (a:OM×PM GC):Option (OM×PM GC) :=
 if (kget a.1 s).isNone=true then (oput sEq (a.2++[[]]) (kget (x7 sEq a.1 s (some a.2.length)) s) k v).bind λm1=>some (x7 sEq a.1 s (some a.2.length),m1)
 else (oput sEq a.2 (kget a.1 s) k v).bind λm1=>some (a.1,m1)
noncomputable def delB (s k:zi) (a:OM×PM GC):Option (OM×PM GC) :=
 (odel sEq a.2 (kget a.1 s) k).bind λm1=>(olen m1 (kget a.1 s)).bind λn=>if ((n:Int)==(0:Int))=true then some (qP sEq a.1 s,m1) else some (a.1,m1)
theorem Rep.turn {o:OM} {ms:PM GC} {C C':zi->zi->Option GC} (h:Rep o ms C) {s:zi} {q:Nat} {m':List (Option (zi×GC))} (d:(s,some q) ∈ zG o) (w:q < ms.length)
  (B:mnd (zG m')) (A:zG m' ≠ []) (n:∀k v,(k,v) ∈ zG m' ↔ C' s k=some v) (i:∀b k,b ≠ s->C' b k=C b k):Rep o (ms.set q m') C':=by
 refine ⟨h.key,λx a=>?_,h.one,λb hs k=>?_⟩
 ·by_cases hs:x.1=s
  ·have e:x.2=some q:=by
    have g:=kget_in h.key a;have r:=kget_in h.key d;rw [hs] at g;exact g.symm.trans r
   exact ⟨q,m',e,by rw [uz w],B,A,λk v=>by rw [hs];exact n k v⟩
  ·obtain ⟨f,z,j,y,D,E,m⟩:=h.val x a;have c:q ≠ f:=by
    rintro rfl
    exact hs (h.one x a _ d j)
   exact ⟨f,z,j,by rw [uR c];exact y,D,E,λk v=>by rw [m,i _ _ hs]⟩
 ·have:b ≠ s:=λe=>hs _ d e.symm;rw [i _ _ this];exact h.out b hs k
theorem put_rep {o:OM} {ms:PM GC} {C:zi->zi->Option GC} (h:Rep o ms C) (s k:zi) (v:GC):∃a,putB s k v (o,ms)=some a/\Rep a.1 a.2 (upd2 C s k (some v)):=by
 rcases key_cases o s with ⟨x,b,rfl⟩ | hs
 ·obtain ⟨q,m,g,i,w,L,E⟩:=h.val x b;have F:=kget_in h.key b;have I:=(ua.1 i).1;refine ⟨(o,ms.set q (x7 sEq m k v)),?_,?_⟩
  ·simp only [putB,F,g,Option.isNone_some,um,uJ,oput,i,uB,uc]
  ·have B:(x.1,some q) ∈ zG o:=by rw [<- g];exact b
   refine h.turn B I (by rw [qp];exact mnd_put w) (λe=>?_) (λk' J=>?_) λD k' hs=>upd2_ne (.inl hs)
   ·have:=(mem_put (k:=k) (v:=v) w (k,v)).2 (.inr rfl);rw [<- qp,e] at this;cases this
   ·rw [qp,mem_put w];by_cases hk:k'=k
    ·subst hk;rw [upd2_eq];simp [eq_comm]
    ·rw [upd2_ne (.inr hk),E];simp [hk]
 ·have F:=kget_out hs;have d:mnd (zG (x7 sEq o s (some ms.length))):=by rw [qp];exact mnd_put h.key
  have r:(s,some ms.length) ∈ zG (x7 sEq o s (some ms.length)):=by rw [qp,mem_put h.key];exact .inr rfl
  have H:=kget_in d r;have f:∀x ∈ zG o,∀q,x.2=some q->q < ms.length:=λx b q z=>by
   obtain ⟨N,m,g,i,_⟩:=h.val x b;rw [g] at z;injection z with z;rw [<- z];exact (ua.1 i).1
  refine ⟨(x7 sEq o s (some ms.length),(ms++[[]]).set ms.length [some (k,v)]),?_,?_⟩
  ·have G:(ms++[([]:List (Option (zi×GC)))])[ms.length]?=some []:=by simp
   simp only [putB,F,Option.isNone_none,ur,H,oput,G,uB,uc,x7]
  ·have c:∀y,y ∈ zG (x7 sEq o s (some ms.length)) ↔ (y ∈ zG o/\y.1 ≠ s) \/ y=(s,some ms.length):=λy=>by rw [qp];exact mem_put h.key y
   refine ⟨d,λx b=>?_,λx b y A e=>?_,λD n k'=>?_⟩
   ·rcases (c x).1 b with ⟨b,j⟩ | rfl
    ·obtain ⟨q,m,g,i,w,L,E⟩:=h.val x b;have I:=f x b q g;refine ⟨q,m,g,?_,w,L,λk' J=>by rw [E,upd2_ne (.inl j)]⟩;show ((ms++[[]]).set ms.length [some (k,v)])[q]?=some m;rw [uR (by omega),uo I];exact i
    ·refine ⟨ms.length,[some (k,v)],rfl,?_,?_,?_,λk' J=>?_⟩
     ·show ((ms++[[]]).set ms.length [some (k,v)])[ms.length]?=_;rw [uz (by simp)]
     ·simp [zG,mnd]
     ·simp [zG]
     ·simp only [zG,rU,id,r7,up,tD];by_cases hk:k'=k
      ·subst hk;rw [upd2_eq];simp [eq_comm]
      ·rw [upd2_ne (.inr hk),h.out s hs];simp [hk]
   ·rcases (c x).1 b with ⟨b,j⟩ | rfl <;> rcases (c y).1 A with ⟨A,M⟩ | rfl
    ·exact h.one x b y A e
    ·have:=f x b ms.length e;omega
    ·have:=f y A ms.length e.symm;omega
    ·rfl
   ·have K:D ≠ s:=λe=>n _ r e.symm;rw [upd2_ne (.inl K)];refine h.out D (λx b e=>?_) k';exact n x ((c x).2 (.inl ⟨b,by rw [e];exact K⟩)) e
theorem del_rep {o:OM} {ms:PM GC} {C:zi->zi->Option GC} (h:Rep o ms C) (s k:zi):∃a,delB s k (o,ms)=some a/\Rep a.1 a.2 (upd2 C s k none):=by
 rcases key_cases o s with ⟨x,n,rfl⟩ | hs
 ·obtain ⟨q,m,r,B,G,Q,H⟩:=h.val x n;have j:=kget_in h.key n;have D:=(ua.1 B).1;have w:(x.1,some q) ∈ zG o:=by rw [<- r];exact n
  have g:∀k' f,(k',f) ∈ zG (qP sEq m k) ↔ upd2 C x.1 k none x.1 k'=some f:=λk' f=>by
   rw [live_tdel,mem_del G];by_cases hk:k'=k
   ·subst hk;rw [upd2_eq];simp
   ·rw [upd2_ne (.inr hk),H];simp [hk]
  by_cases h0:zG (qP sEq m k)=[]
  ·refine ⟨(qP sEq o x.1,ms.set q (qP sEq m k)),?_,?_⟩
   ·simp only [delB,j,r,odel,B,uB,uc,olen,omap,uz D,h0,uE,Int.ofNat_zero,tJ,ur]
   ·have b:∀y,y ∈ zG (qP sEq o x.1) ↔ y ∈ zG o/\y.1 ≠ x.1:=λy=>by rw [live_tdel];exact mem_del h.key y
    refine ⟨by rw [live_tdel];exact mnd_del h.key,λy d=>?_,λy d z K e=>h.one y ((b y).1 d).1 z ((b z).1 K).1 e,λi A k'=>?_⟩
    ·obtain ⟨d,c⟩:=(b y).1 d;obtain ⟨F,M,E,N,O,P,L⟩:=h.val y d;have J:q ≠ F:=by
      rintro rfl
      exact c (h.one y d x n (E.trans r.symm))
     exact ⟨F,M,E,by rw [uR J];exact N,O,P,λk' f=>by rw [L,upd2_ne (.inl c)]⟩
    ·by_cases hsx:i=x.1
     ·subst hsx;rcases hc:upd2 C x.1 k none x.1 k' with _ | f
      ·rfl
      ·have:=(g k' f).2 hc;rw [h0] at this;cases this
     ·rw [upd2_ne (.inl hsx)];exact h.out i (λy d e=>A y ((b y).2 ⟨d,by rw [e];exact hsx⟩) e) k'
  ·refine ⟨(o,ms.set q (qP sEq m k)),?_,h.turn w D (by rw [live_tdel];exact mnd_del G) h0 g λi k' hs=>upd2_ne (.inl hs)⟩;have c:((((zG (qP sEq m k)).length:Nat):Int)==(0:Int))=false:=by
    rw [rX];intro e;have:(zG (qP sEq m k)).length=0:=by omega
    exact h0 (uD this)
   simp only [delB,j,r,odel,B,uB,uc,olen,omap,uz D,c,um,uJ]
 ·have j:=kget_out hs;refine ⟨(qP sEq o s,ms),?_,?_⟩
  ·simp only [delB,j,odel,uc,olen,omap,uB,zG,r7,uE,Int.ofNat_zero,tJ,ur]
  ·have v:zG (qP sEq o s)=zG o:=by rw [live_tdel,mdel_not hs]
   have I:upd2 C s k none=C:=by
    funext i k';unfold upd2;split
    ·rename_i hh;rw [hh.1];exact (h.out s hs k').symm
    ·rfl
   rw [I];exact ⟨by rw [v];exact h.key,by rw [v];exact h.val,by rw [v];exact h.one,by rw [v];exact h.out⟩
end
end
section
section
variable {o:OM} {ms:PM GC} {C:zi->zi->Option GC}
theorem Rep.keys (h:Rep o ms C) (s:zi):(∃x ∈ zG o,x.1=s) ↔ ∃k v,C s k=some v:=by
 constructor
 ·rintro ⟨x,a,rfl⟩
  obtain ⟨q,m,_,_,_,d,c⟩:=h.val x a;rcases hm:zG m with _ | ⟨⟨k,v⟩,r⟩
  ·exact absurd hm d
  ·exact ⟨k,v,(c k v).1 (by rw [hm];simp)⟩
 ·rintro ⟨k,v,b⟩
  rcases key_cases o s with a | hs
  ·exact a
  ·rw [h.out s hs k] at b;cases b
theorem Rep.get (h:Rep o ms C) (s:zi):∃m,omap ms (kget o s)=some m/\mnd (zG m)/\∀k v,(k,v) ∈ zG m ↔ C s k=some v:=by
 rcases key_cases o s with ⟨x,a,rfl⟩ | hs
 ·obtain ⟨q,m,c,e,d,f,b⟩:=h.val x a;exact ⟨m,by rw [kget_in h.key a,c];exact e,d,b⟩
 ·refine ⟨[],by rw [kget_out hs];rfl,by simp [zG,mnd],λk v=>?_⟩;rw [h.out s hs k];simp [zG]
theorem mnd_nodup {W:Type} {m:List (zi×W)} (h:mnd m):m.Nodup:=List.Pairwise.imp (λh e=>h (congrArg Prod.fst e)) h
theorem nd_perm {α:Type} {L M:List α} (b:L.Nodup) (a:M.Nodup) (h:∀x,x ∈ L ↔ x ∈ M):L.Perm M:=(List.perm_ext_iff_of_nodup b a).2 h
theorem keys_nd (h:Rep o ms C):((zG o).map (·.1)).Nodup:=sW.2 (List.Pairwise.imp (λh=>h) h.key)
theorem keys_perm {b:OM} {a:PM GC} (h:Rep o ms C) (h':Rep b a C):((zG o).map (·.1)).Perm ((zG b).map (·.1)) :=
 nd_perm (keys_nd h) (keys_nd h') λs=>by
  have e:∀l:List (zi×Option Nat),s ∈ l.map (·.1) ↔ ∃x ∈ l,x.1=s:=λl=>by simp
  rw [e,e,h.keys,h'.keys]
def placesN (o:OM) (ms:PM GC) (s:zi):Nat:=match omap ms (kget o s) with
 | some m=>(zG m).length
 | none=>0
theorem placesN_eq {b:OM} {a:PM GC} (h:Rep o ms C) (h':Rep b a C) (s:zi):placesN o ms s=placesN b a s:=by
 obtain ⟨m,d,i,e⟩:=h.get s;obtain ⟨m',f,c,g⟩:=h'.get s;unfold placesN;rw [d,f];exact (nd_perm (mnd_nodup i) (mnd_nodup c) λ⟨k,v⟩=>by rw [e,g]).length_eq
noncomputable def cntF (ms:PM GC):Nat->(zi×Option Nat)->Int->Option (Out (Int×Int) Int):=λ_ x1 s1=>(olen ms x1.2).bind λn=>some (.nxt (IntKind.wrap .i64 (s1+(n:Int))))
noncomputable def countR (o:OM) (ms:PM GC):Option (Int×Int):=allP (zG o) λp1=>lp (zx (cntF ms) p1 0 (0:Int)) λs1=>some (((zG o).length:Int),s1)
theorem cnt_loop (N:zi->Nat):∀(p:List (zi×Option Nat)) (i:Nat) (a:Int),(∀x ∈ p,olen ms x.2=some (N x.1))->zx (cntF ms) p i (IntKind.wrap .i64 a)=some (.inr (IntKind.wrap .i64 (a+(((p.map (·.1)).map N).sum:Nat))))
 | [],_,a,_=>by simp [zx]
 | x::r,i,a,h=>by
  have e:IntKind.wrap .i64 (IntKind.wrap .i64 a+(N x.1:Int))=IntKind.wrap .i64 (a+(N x.1:Int)):=by
   simp only [IntKind.wrap_i64];omega
  simp only [zx,cntF,h x (by simp),uc,e];have b:=cnt_loop N r (i+1) (a+(N x.1:Int)) λy c=>h y (by simp [c]);have d:a+(N x.1:Int)+(((r.map (·.1)).map N).sum:Nat)=a+((((x::r).map (·.1)).map N).sum:Nat):=by
   simp only [uw,sD];omega
  rw [b,d]
theorem count_is (h:Rep o ms C):countR o ms=some (((zG o).length:Int),IntKind.wrap .i64 ((((zG o).map (·.1)).map (placesN o ms)).sum:Nat)):=by
 refine allP_of λp b=>?_;have h0:(0:Int)=IntKind.wrap .i64 0:=by decide
 have key:=cnt_loop (ms:=ms) (placesN o ms) p 0 0 λx a=>by
  have a:=b.subset a;obtain ⟨q,m,c,d,_⟩:=h.val x a;unfold placesN;rw [kget_in h.key a,c];simp only [olen,omap,d,uB]
 rw [h0,key];simp only [lp,Int.zero_add];rw [((b.map (·.1)).map (placesN o ms)).sum_nat]
theorem count_eq {b:OM} {a:PM GC} (h:Rep o ms C) (h':Rep b a C):countR o ms=countR b a:=by
 rw [count_is h,count_is h'];have c:=keys_perm h h';have d:(zG o).length=(zG b).length:=by simpa using c.length_eq
 have e:(((zG o).map (·.1)).map (placesN o ms)).sum=(((zG b).map (·.1)).map (placesN b a)).sum:=by
  rw [(c.map (placesN o ms)).sum_nat,sj λs _=>placesN_eq h h' s]
 rw [d,e]
theorem srt_pw (L:List zi):(L.mergeSort λx y:zi=>decide (x<=y)).Pairwise λa b=>¬ Op.bytesLess b a=true:=by
 have e:(λx y:zi=>decide (x<=y))=λa b=>!Op.bytesLess b a:=by
  funext x y;rw [uA];simp only [uk,tP,Go.Proofs.bytesLess_eq,pw];exact (List.not_lt).symm
 rw [e];have:=List.pairwise_mergeSort (le:=λa b:zi=>!Op.bytesLess b a) (λa b c g d=>by
  simp only [tP] at *;cases h:Op.bytesLess c a with
  | false=>rfl
  | true =>
   rcases less_tot a b with rfl | f | f
   ·rw [d] at h;cases h
   ·rw [vq h f] at d;cases d
   ·rw [g] at f;cases f) (λa b=>by
  cases h:Op.bytesLess b a with
  | false=>rfl
  | true =>
   cases d:Op.bytesLess a b with
   | false=>rfl
   | true=>have:=vq h d;rw [less_irr] at this;cases this) L
 refine this.imp λ{a b} h=>?_;simpa using h
theorem sortS_eq {L M:List zi} (h:L.Perm M):sortS L=sortS M:=by
 unfold sortS;rw [h.length_eq];split
 ·congr 1;refine rn (le:=λa b=>¬ Op.bytesLess b a=true) (λa b _ _ d c=>?_) (srt_pw L) (srt_pw M) (((ri L _).trans h).trans (ri M _).symm);rcases less_tot a b with e | e | e
  ·exact e
  ·exact (c e).elim
  ·exact (d e).elim
 ·rfl
def preB (s pre:zi):Bool:=decide ((s.length:Int) >= (pre.length:Int))&&((s.take ((pre.length:Int)).toNat).drop (0:Int).toNat)==pre
theorem hasPrefix_is (s pre:zi):y6 s pre=some (preB s pre):=by
 unfold y6 yW;unfold x6;rw [uG (λh=>by simp only [uk,sM] at h;omega)];rfl
noncomputable def begF (pre:zi):Nat->(zi×Option Nat)->List zi->Option (Out (List zi) (List zi)):=λ_ x1 sL1=>(y6 x1.1 pre).bind λv=>if v=true then x6 (sL1.length+([x1.1]:List zi).length<=xe) (some (.nxt (sL1++([x1.1]:List zi)))) else some (.nxt sL1)
noncomputable def begG (most:Int) (sL1:List zi):Option (List zi):=(sortS sL1).bind λv=>(slc v (0:Int) (if ((sL1.length:Nat):Int) < most then ((sL1.length:Nat):Int) else most)).bind λm=>(xn m).bind λw=>some w
noncomputable def begR (o:OM) (pre:zi) (most:Int):Option (List zi):=allP (zG o) λp1=>lp (zx (begF pre) p1 0 ([]:List zi)) (begG most)
theorem beg_loop (pre:zi):∀(p:List (zi×Option Nat)) (i:Nat) (a:List zi),a.length+p.length<=xe->zx (begF pre) p i a=some (.inr (a++(p.map (·.1)).filter λs=>preB s pre))
 | [],_,a,_=>by simp [zx]
 | x::r,i,a,h=>by
  simp only [ul] at h;simp only [zx,begF,hasPrefix_is,uc];by_cases hb:preB x.1 pre=true
  ·rw [uG hb,x6,uG (by simp;omega)];simp only;have b:=beg_loop pre r (i+1) (a++[x.1]) (by simp;omega);rw [b];simp [hb]
  ·rw [te hb];simp only;have b:=beg_loop pre r (i+1) a (by omega);rw [b];simp [hb]
theorem beg_is {pre:zi} {most:Int} (f:(zG o).length<=xe) (r:1<=most):∃R,begR o pre most=some R/\∀s ∈ R,s ∈ (zG o).map (·.1):=by
 have b:(((zG o).map (·.1)).filter λs=>preB s pre).length<=xe:=uN (tM _ _) (by simpa using f);obtain ⟨S,d⟩:∃S,sortS (((zG o).map (·.1)).filter λs=>preB s pre)=some S:=⟨_,by unfold sortS;rw [uG b]⟩
 obtain ⟨R,q,c⟩:∃R,begG most (((zG o).map (·.1)).filter λs=>preB s pre)=some R/\∀s ∈ R,s ∈ S:=by
  unfold begG;rw [d,uc];have g:=sortS_len d;obtain ⟨n,m,j⟩:∃n:Nat,(if (((((zG o).map (·.1)).filter λs=>preB s pre).length:Nat):Int) < most then (((((zG o).map (·.1)).filter λs=>preB s pre).length:Nat):Int) else most)=(n:Int)/\n<=S.length:=by
   split
   ·exact ⟨_,rfl,by omega⟩
   ·exact ⟨most.toNat,by omega,by omega⟩
  rw [m,slc,uG ⟨by omega,by omega,by omega⟩,uc];unfold xn;rw [slc,uG ⟨by omega,by omega,by simp⟩,uc,uc];refine ⟨_,rfl,λs hs=>?_⟩;have i:=List.mem_of_mem_drop hs;have h:=rL i;have k:=List.mem_of_mem_drop h;exact rL k
 refine ⟨R,allP_of λp e=>?_,λs hs=>?_⟩
 ·rw [beg_loop pre p 0 [] (by simp;rw [e.length_eq];exact f)];simp only [lp,uV];have a:=(e.map (·.1)).filter λs=>preB s pre;rw [<- q];unfold begG;rw [sortS_eq a,a.length_eq]
 ·have:=(sortS_perm d).subset (c s hs);exact (u7.1 this).1
theorem beg_eq {c:OM} {i:PM GC} (h:Rep o ms C) (h':Rep c i C) {pre:zi} {most:Int} (d:(zG o).length<=xe):begR o pre most=begR c pre most:=by
 have b:=keys_perm h h';have f:(zG c).length<=xe:=by
  have:=b.length_eq;simp only [ut] at this;omega
 have key:∀(o:OM),(zG o).length<=xe->∀p:List (zi×Option Nat),p.Perm (zG o)->lp (zx (begF pre) p 0 ([]:List zi)) (begG most)=begG most (((zG o).map (·.1)).filter λs=>preB s pre):=λo d p b=>by
  rw [beg_loop pre p 0 [] (by simp;rw [b.length_eq];exact d)];simp only [lp,uV];have a:=(b.map (·.1)).filter λs=>preB s pre;unfold begG;rw [sortS_eq a,a.length_eq]
 have e:begG most (((zG o).map (·.1)).filter λs=>preB s pre)=begG most (((zG c).map (·.1)).filter λs=>preB s pre):=by
  have a:=b.filter λs=>preB s pre;unfold begG;rw [sortS_eq a,a.length_eq]
 unfold begR allP;by_cases hex:∃r,begG most (((zG o).map (·.1)).filter λs=>preB s pre)=some r
 ·obtain ⟨r,g⟩:=hex;have m:allP (zG o) (λj=>lp (zx (begF pre) j 0 ([]:List zi)) (begG most))=some r:=allP_of λp b=>(key o d p b).trans g;have n:allP (zG c) (λj=>lp (zx (begF pre) j 0 ([]:List zi)) (begG most))=some r:=allP_of λp b=>(key c f p b).trans (e.symm.trans g);unfold allP at m n;rw [m,n]
 ·have k:∀(o:OM),(zG o).length<=xe->(¬ ∃r,begG most (((zG o).map (·.1)).filter λs=>preB s pre)=some r)->¬ ∃r,∀p:List (zi×Option Nat),p.Perm (zG o)->lp (zx (begF pre) p 0 ([]:List zi)) (begG most)=some r:=λo d q ⟨r,g⟩=>q ⟨r,by rw [<- key o d _ (s5 _)];exact g _ (s5 _)⟩;rw [dif_neg (k o d hex),dif_neg (k c f (by rw [<- e];exact hex))]
end
end
section
def pkey (p:GC):Key:=(p.path,p.typ)
def plLt (a b:GC):Prop:=vZ (pkey a) (pkey b)=true
def ordP (a b:GC):Int:=if vZ (pkey a) (pkey b)=true then -1 else if vZ (pkey b) (pkey a)=true then 1 else 0
theorem cmpPl_is (a b:GC):yU a b=some (ordP a b):=by
 unfold yU ordP vZ pkey;rcases plt_tot a.path b.path with h | h | h
 ·simp only [h,cmpP_self,cmpU8is,uc,vM,plt_irr,tv,rA,uX,uk,or2,cmpI];simp
 ·have c:a.path ≠ b.path:=λe=>by rw [e,plt_irr] at h;cases h
  simp only [cmpP_lt (plt_path h),cmpU8is,uc,vM,h,or2];simp
 ·have c:a.path ≠ b.path:=λe=>by rw [e,plt_irr] at h;cases h
  simp only [cmpP_gt (plt_path h),cmpU8is,uc,vM,h,plt_asym h,or2];simp [c]
theorem ordP_lt (a b:GC):ordP a b < 0 ↔ plLt a b:=by
 unfold ordP plLt;split
 ·rename_i h;simp [h]
 ·rename_i h;split
  ·simp [h]
  ·simp [h]
theorem pl_tot (a b:GC):a=b \/ plLt a b \/ plLt b a:=by
 rcases klt_tot (pkey a) (pkey b) with h | h | h
 ·left;cases a;cases b;have d:=congrArg Prod.fst h;have c:=congrArg Prod.snd h;simp only [pkey] at d c;rw [d,c]
 ·exact .inr (.inl h)
 ·exact .inr (.inr h)
theorem pl_irr (a:GC):¬ plLt a a:=by unfold plLt;rw [klt_irr];simp
theorem pl_trans (a b c:GC) (e:plLt a b) (d:plLt b c):plLt a c:=klt_trans e d
theorem rise_one {α:Type} {lt:α->α->Prop} (c:∀x,¬ lt x x) (g:∀x y z,lt x y->lt y z->lt x z) {L M:List α} (f:L.Pairwise lt) (d:M.Pairwise lt) (h:∀x,x ∈ L ↔ x ∈ M):L=M:=by
 have nd:∀{L:List α},L.Pairwise lt->L.Nodup:=λh=>List.Pairwise.imp (λh e=>by subst e;exact c _ h) h;exact rn (le:=lt) (λa b _ _ j i=>(c a (g _ _ _ j i)).elim) f d (nd_perm (nd f) (nd d) h)
structure PlOk (C:zi->zi->Option GC):Prop where
 inj:∀s k k' v,C s k=some v->C s k'=some v->k=k'
 few:∃A:List GC,A.length<=16777216/\∀s k v,C s k=some v->v ∈ A/\v.path.length<=xe
 txt:∃T:List zi,T.length<=16777216/\∀s k v,C s k=some v->s ∈ T
noncomputable def finF:Nat->(zi×GC)->List GC->Option (Out (List GC) (List GC)):=λ_ x2 s2=>(zV x2.2.path).bind λv=>x6 (s2.length+([GC.mk v x2.2.typ]:List GC).length<=xe) (some (.nxt (s2++([GC.mk v x2.2.typ]:List GC))))
noncomputable def finG (s2:List GC):Option (List GC):=(qv (λx0 x1=>yU x0 x1) s2).bind λv=>some v
noncomputable def findR (o:OM) (ms:PM GC) (s:zi):Option (List GC):=(omap ms (kget o s)).bind λm=>allP (zG m) λp2=>lp (zx finF p2 0 ([]:List GC)) finG
theorem fin_loop:∀(p:List (zi×GC)) (i:Nat) (a:List GC),a.length+p.length<=xe->(∀x ∈ p,x.2.path.length<=xe)->zx finF p i a=some (.inr (a++p.map (·.2)))
 | [],_,a,_,_=>by simp [zx]
 | x::r,i,a,h,hp=>by
  simp only [ul] at h;simp only [zx,finF,wF (hp x (by simp)),uc];rw [x6,uG (by simp;omega)];simp only;have b:=fin_loop r (i+1) (a++[x.2]) (by simp;omega) λy c=>hp y (by simp [c]);rw [show GC.mk x.2.path x.2.typ=x.2 from rfl,b];simp
theorem find_is {o:OM} {ms:PM GC} {C:zi->zi->Option GC} (h:Rep o ms C) (ok:PlOk C) (s:zi):∃R,findR o ms s=some R/\R.Pairwise plLt/\∀v,v ∈ R ↔ ∃k,C s k=some v:=by
 obtain ⟨m,E,D,i⟩:=h.get s;obtain ⟨A,H,g⟩:=ok.few;have d:∀v,v ∈ (zG m).map (·.2) ↔ ∃k,C s k=some v:=λv=>by
  rw [u6];constructor
  ·rintro ⟨⟨k,w⟩,r,rfl⟩
   exact ⟨k,(i k w).1 r⟩
  ·rintro ⟨k,q⟩
   exact ⟨(k,v),(i k v).2 q,rfl⟩
 have f:((zG m).map (·.2)).Pairwise (λx y=>x ≠ y):=by
  refine sW.2 ?_;refine rm (λ{a b} F B n e=>?_) D;refine n (ok.inj s a.1 b.1 a.2 ((i _ _).1 F) ?_);rw [e];exact (i _ _).1 B
 have c:(zG m).length<=xe:=by
  have:=sub_len (lt:=λx y:GC=>x ≠ y) (λx h=>h rfl) _ A f λv G=>by
   obtain ⟨k,q⟩:=(d v).1 G;exact (g s k v q).1
  simp only [ut] at this;simp only [xe];omega
 obtain ⟨R,z,hs⟩:=exists_sorted (lt:=plLt) pl_trans ((zG m).map (·.2)) (f.imp λ{a b} h=>(pl_tot a b).elim (λe=>absurd e h) λh=>h);refine ⟨R,?_,hs,λv=>by rw [z.mem_iff,d]⟩;unfold findR;rw [E,uc];refine allP_of λp j=>?_;rw [fin_loop p 0 [] (by simp;rw [j.length_eq];exact c) λx r=>(g s x.1 x.2 ((i x.1 x.2).1 (j.subset r))).2];simp only [lp,uV];unfold finG;rw [sortO_lt (cf:=ordP) (lt:=plLt) (λx _ y _=>cmpPl_is x y) ordP_lt pl_irr pl_trans (λx _ y _=>pl_tot x y) (z.trans (j.map (·.2)).symm) hs (by rw [ut,j.length_eq];exact c)];rfl
theorem find_eq {o b:OM} {ms a:PM GC} {C:zi->zi->Option GC} (h:Rep o ms C) (h':Rep b a C) (ok:PlOk C) (s:zi):findR o ms s=findR b a s:=by
 obtain ⟨R,d,e,a3⟩:=find_is h ok s;obtain ⟨M,c,f,g⟩:=find_is h' ok s;rw [d,c,rise_one pl_irr pl_trans e f λv=>by rw [a3,g]]
theorem keys_few {o:OM} {ms:PM GC} {C:zi->zi->Option GC} (h:Rep o ms C) (ok:PlOk C):(zG o).length<=xe:=by
 obtain ⟨T,d,a⟩:=ok.txt;have:=sub_len (lt:=λx y:zi=>x ≠ y) (λx h=>h rfl) _ T (keys_nd h) λs hs=>by
  obtain ⟨x,c,rfl⟩:=u6.1 hs;obtain ⟨k,v,b⟩:=(h.keys x.1).1 ⟨x,c,rfl⟩;exact a _ _ _ b
 simp only [ut] at this;simp only [xe];omega
theorem equalS_self (L:List zi):yV L L=some true:=by
 unfold yV;rw [te (by simp),lp_all (r:=false) (g:=λ_ _=>true)]
 ·simp [allI]
 ·intro i x a;have hi:=(ua.1 a).1;rw [idx_at hi,uc,(ua.1 a).2];simp
theorem samePath_self (L:List zi):vV L L=some true:=by
 unfold vV;rw [te (by simp),lp_all (r:=false) (g:=λ_ _=>true)]
 ·simp [allI]
 ·intro i x a;have hi:=(ua.1 a).1;rw [idx_at hi,uc,(ua.1 a).2];simp
theorem same41_self (L:List GC):ql L L=some true:=by
 unfold ql;rw [te (by simp),lp_all (r:=false) (g:=λ_ _=>true)]
 ·simp [allI]
 ·intro i x c;obtain ⟨hi,a⟩:=ua.1 c;rw [idx_at hi,uc,a];have b:0<=(i:Int)/\(i:Int) < (L.length:Int):=by omega
  simp only [x6,b,rM,implies_true,ur];simp [samePath_self]
end
section
abbrev PMp:=PM GC
noncomputable def putF (p:GC):Nat->zi->OM×PMp->Option (Out (OM×PMp) (OM×PMp)):=λ(_:Nat) (x2:zi) (s2:OM×PMp)=>((if ((zz (λa b=>a==b) none (zG s2.1) x2)).isNone=true then ((yY p).bind λv359=>((oput (λa b=>a==b) (s2.2++[[]]) (zz (λa b=>a==b) none (zG (x7 (λa b=>a==b) s2.1 x2 (some ((s2.2).length)))) x2) v359 p).bind λms360=>some (.nxt ((x7 (λa b=>a==b) s2.1 x2 (some ((s2.2).length))),ms360)))) else ((yY p).bind λv361=>((oput (λa b=>a==b) s2.2 (zz (λa b=>a==b) none (zG s2.1) x2) v361 p).bind λms362=>some (.nxt (s2.1,ms362))))))
noncomputable def putR (path:List zi) (typ:Int) (l:GE) (s:OM×PMp):Option (OM×PMp):=(zV path).bind λv323=>(xB l).bind λv324=>lp (zx (putF (GC.mk v323 typ)) v324 0 (s.1,s.2)) λs2=>some (s2.1,s2.2)
noncomputable def newF:Nat->GJ->OM×PMp->Option (Out (OM×PMp×List GA) (OM×PMp)):=λ_ x1 s1=>(putR x1.path x1.leaf.typ x1.leaf s1).bind λv281=>some (.nxt (v281.1,v281.2))
noncomputable def newR (t0:List GA):Option (OM×PMp×List GA):=(ww t0).bind λv187=>(if (!v187)=true then none else ((xz t0 ([([42,42]:zi)]:List zi)).bind λv189=>((wc t0).bind λv190=>(lp (zx newF v190 0 (([]:OM),([]:PMp))) λs1=>some (s1.1,s1.2,v189.1)))))
noncomputable def takF (p:GC):Nat->zi->OM×PMp->Option (Out (OM×PMp) (OM×PMp)):=λ(_:Nat) (x2:zi) (s2:OM×PMp)=>(((yY p).bind λv1582=>((odel (λa b=>a==b) s2.2 (zz (λa b=>a==b) none (zG s2.1) x2) v1582).bind λms1583=>((olen ms1583 (zz (λa b=>a==b) none (zG s2.1) x2)).bind λn1585=>(if ((n1585:Int)==(0:Int))=true then some (.nxt ((qP (λa b=>a==b) s2.1 x2),ms1583)) else some (.nxt (s2.1,ms1583)))))))
noncomputable def takR (path:List zi) (typ:Int) (l:GE) (s:OM×PMp):Option (OM×PMp):=(xB l).bind λv1531=>lp (zx (takF (GC.mk path typ)) v1531 0 (s.1,s.2)) λs2=>some (s2.1,s2.2)
noncomputable def appF:Nat->GH->OM×PMp->Option (Out (Int×OM×PMp×List GA) (OM×PMp)):=λ_ x1 s1=>(takR x1.path x1.typ x1.was s1).bind λv1473=>(putR x1.path x1.typ x1.is v1473).bind λv1587=>some (.nxt (v1587.1,v1587.2))
noncomputable def appR (v8:OM×PMp×List GA) (es:List GH):Option (Int×OM×PMp×List GA):=(diffPatch v8.2.2 es).bind λv1229=>(if (v1229.2 != (0:Int))=true then some (v1229.2,v8.1,v8.2.1,v8.2.2) else (lp (zx appF es 0 (v8.1,v8.2.1)) λs1=>some ((0:Int),s1.1,s1.2,v1229.1)))
noncomputable def alongF (x y:OM×PMp):Nat->zi->Unit->Option (Out Bool Unit):=λ_ x1 _=>(((some ():Option Unit).bind λ_=>findR x.1 x.2 x1).bind λv1962=>((((some ():Option Unit).bind λ_=>findR y.1 y.2 x1)).bind λv1994=>((ql v1962 v1994).bind λv2026=>((if ((!v2026)==false)=true then ((some ():Option Unit).bind λ_=>findR x.1 x.2 x1) else some default).bind λv2027=>(if ((!v2026) || (((v2027).length:Int)==(0:Int)))=true then some (.ret false) else some (.nxt ()))))))
noncomputable def beg1000 (o:OM) (pre:zi):Option (List zi):=(some ():Option Unit).bind λ_=>(if (decide ((1000:Int) < (1:Int)))=true then some ([]:List zi) else begR o pre 1000)
theorem along_eq (t0 k:List GA) (a:zi):wY t0 k a=((wJ t0).bind λm=>((if (m==false)=true then wJ k else some default).bind λq=>((if ((m || q)==false)=true then vW t0 else some default).bind λv3=>((if (((m || q) || (!v3))==false)=true then vW k else some default).bind λv4=>(if ((((m || q) || (!v3)) || (!v4)) || (decide (((a).length:Int) > (100:Int))))=true then ((wH).bind λr=>some r) else
 ((newR t0).bind λn=>((newR k).bind λe=>((diffDiff t0 k).bind λg=>((if (((((0:Int) != (0:Int)) || ((0:Int) != (0:Int))) || (g.2 != (0:Int)))==false)=true then ((some ():Option Unit).bind λ_=>appR n g.1) else some (default,n.1,n.2.1,n.2.2)).bind λd =>
  (if (((((0:Int) != (0:Int)) || ((0:Int) != (0:Int))) || (g.2 != (0:Int))) || (d.1 != (0:Int)))=true then some false else
  (((some ():Option Unit).bind λ_=>countR d.2.1 d.2.2.1).bind λc=>(((some ():Option Unit).bind λ_=>countR e.1 e.2.1).bind λb=>((beg1000 e.1 a).bind λf =>
   ((if (((c.1 != b.1) || (c.2 != b.2))==false)=true then beg1000 d.2.1 a else some default).bind λh=>((if (((c.1 != b.1) || (c.2 != b.2))==false)=true then yV h f else some default).bind λi =>
    (if (((c.1 != b.1) || (c.2 != b.2)) || (!i))=true then some false else (lp (zx (alongF (d.2.1,d.2.2.1) (e.1,e.2.1)) f 0 ()) λ_=>((wH).bind λj=>some j)))))))))))))))))):=rfl
end
section
def keyP (p:List zi) (k:Int):zi:=p.flatMap (λs=>s++[47])++[UInt8.ofNat k.toNat]
theorem inter47:∀(p:List zi),p ≠ []->([47]:List UInt8).intercalate p++[47]=p.flatMap (λs=>s++[47])
 | [],h=>absurd rfl h
 | [s],_=>by simp [List.intercalate]
 | s::c::q,_=>by
  have a:=inter47 (c::q) (by simp);simp only [List.intercalate,List.intersperse] at a ⊢;rw [tn,<- a];simp [uy]
theorem name47 {s:zi} (h:nameB s=true):s.length<=12/\∀b ∈ s,b ≠ 47:=by
 simp only [nameB,ud,uk,uv] at h;refine ⟨h.1.2,λb a e=>?_⟩;have:=h.2 b a;rw [e] at this;revert this;decide
theorem flat47_len:∀(p:List zi),p.all nameB=true->(p.flatMap (λs=>s++[47])).length<=13 * p.length
 | [],_=>by simp
 | s::p,h=>by
  simp only [uZ,ud] at h;have:=flat47_len p h.2;have:=(name47 h.1).1;simp only [tn,uq,ul,uE];omega
def Good (p:GC):Prop:=qn p.path=true/\1<=p.typ/\p.typ<=4
theorem keyP_is (h:Good p):yY p=some (keyP p.path p.typ):=by
 obtain ⟨c,f,b⟩:=xA h.1;have a:=inter47 p.path c;have e:=flat47_len p.path b;have g:(([47]:List UInt8).intercalate p.path).length<=40:=by
  have:=congrArg List.length a;simp only [uq,ul,uE] at this;omega
 have d:=h.2;unfold yY stringsJoin strJoin Lib.join;rw [uG ⟨by omega,by omega⟩,uc,ye (by simp [maxLen];omega),ye (by omega),ye (by simp [maxLen]),ye (by simp [maxLen];omega),a];rfl
theorem flat47_inj:∀(p q:List zi),p.all nameB=true->q.all nameB=true->p.flatMap (λs=>s++[(47:UInt8)])=q.flatMap (λs=>s++[47])->p=q
 | [],[],_,_,_=>rfl
 | [],s::q,_,_,h=>by simp at h
 | s::p,[],_,_,h=>by simp at h
 | s::p,c::q,h1,h2,h=>by
  simp only [uZ,ud] at h1 h2;simp only [tn,uy,sR] at h;have d:=(name47 h1.1).2;have f:=(name47 h2.1).2;have a:∀(s:zi) (r:List UInt8),(∀b ∈ s,b ≠ 47)->(s++47::r).takeWhile (λb=>decide (b ≠ 47))=s:=λs r hs=>by
   rw [rR (λb g=>by simp [hs b g])];simp
  have e:s=c:=by rw [<- a s _ d,<- a c _ f,h]
  subst e;have h:=sL h;injection h with _ h;rw [flat47_inj p q h1.2 h2.2 h]
theorem keyP_inj {q:GC} (b:Good p) (c:Good q) (h:keyP p.path p.typ=keyP q.path q.typ):p=q:=by
 unfold keyP at h;have f:=List.append_inj_left' h rfl;have a:=pG h rfl;have d:=flat47_inj p.path q.path (xA b.1).2.2 (xA c.1).2.2 f;have e:p.typ=q.typ:=by
  injection a with a _;have a:=congrArg UInt8.toNat a;have:=b.2;have:=c.2;simp at a;omega
 cases p;cases q;simp only at d e;rw [d,e]
def wm (l:GE):List zi:=if ((l.typ==(2:Int))&&(decide (l.time > (0:Int))))=true then [l.text] else l.items.map (·.text)
theorem texts_loop:∀(L:List GI) (i:Nat) (a:List zi),a.length+L.length<=xe->zx (λ(_:Nat) (c:GI) (b:List zi)=>(x6 (b.length+([c.text]:List zi).length<=xe) (some (.nxt (b++([c.text]:List zi)))):Option (Out (List zi) (List zi)))) L i a=some (.inr (a++L.map (·.text)))
 | [],_,a,_=>by simp [zx]
 | x::r,i,a,h=>by
  simp only [ul] at h;simp only [zx];rw [x6,uG (by simp;omega)];simp only;rw [texts_loop r (i+1) (a++[x.text]) (by simp;omega)];simp
theorem texts_is (h:l.items.length<=xe):xB l=some (wm l):=by
 unfold xB wm;split
 ·rfl
 ·rw [texts_loop _ 0 [] (by simp;omega)];simp [lp]
theorem putF_is {k s:zi} (b:yY p=some k) (n:Nat) (a:OM×PMp):putF p n s a=(putB s k p a).map Out.nxt:=by
 unfold putF putB kget;rw [b];simp only [uc];change (if (zz sEq none (zG a.1) s).isNone=true then _ else _)=_;split
 ·rw [rS];rfl
 ·rw [rS];rfl
theorem takF_is {k s:zi} (d:yY p=some k) (n:Nat) (a:OM×PMp):takF p n s a=(delB s k a).map Out.nxt:=by
 unfold takF delB kget;rw [d];simp only [uc];rw [rS];change ((odel sEq a.2 (zz sEq none (zG a.1) s) k).bind λb=>_)=_;congr 1;funext m;simp only [Function.comp];rw [rS];change ((olen m (zz sEq none (zG a.1) s)).bind λc=>_)=_;congr 1;funext n;simp only [Function.comp];split <;> rfl
def Idx (a:OM×PMp) (P:zi->GC->Prop):Prop:=∃C,Rep a.1 a.2 C/\(∀s k p,C s k=some p ↔ P s p/\k=keyP p.path p.typ)/\∀s p,P s p->Good p
theorem Idx.congr {a:OM×PMp} {P Q:zi->GC->Prop} (h:Idx a P) (e:∀s p,P s p ↔ Q s p):Idx a Q:=by
 obtain ⟨C,d,c,f⟩:=h;exact ⟨C,d,λs k p=>by rw [c,e],λs p b=>f s p ((e s p).2 b)⟩
theorem Idx.nil:Idx ([],[]) (λ_ _=>False):=⟨_,Rep.nil,by simp,by simp⟩
theorem Idx.put {a:OM×PMp} {P:zi->GC->Prop} (h:Idx a P) {p:GC} (g:Good p) (s:zi):∃a',putB s (keyP p.path p.typ) p a=some a'/\Idx a' (λc f=>(f=p/\c=s) \/ P c f):=by
 obtain ⟨C,m,j,i⟩:=h;obtain ⟨a',e,n⟩:=put_rep m s (keyP p.path p.typ) p;refine ⟨a',e,_,n,λc k' f=>?_,λc f hh=>hh.elim (λhh=>by rw [hh.1];exact g) (i c f)⟩;unfold upd2;split
 ·rename_i hh;obtain ⟨rfl,rfl⟩:=hh;simp only [uf];constructor
  ·rintro rfl;simp
  ·rintro ⟨k | d,b⟩
   ·exact k.1.symm
   ·exact keyP_inj g (i _ _ d) b
 ·rename_i hh;rw [j];constructor
  ·rintro ⟨d,b⟩;exact ⟨.inr d,b⟩
  ·rintro ⟨⟨rfl,rfl⟩ | d,b⟩
   ·exact (hh ⟨rfl,b⟩).elim
   ·exact ⟨d,b⟩
theorem Idx.del {a:OM×PMp} {P:zi->GC->Prop} (h:Idx a P) {p:GC} (k:Good p) (s:zi):∃a',delB s (keyP p.path p.typ) a=some a'/\Idx a' (λc f=>P c f/\¬ (f=p/\c=s)):=by
 obtain ⟨C,j,i,g⟩:=h;obtain ⟨a',e,m⟩:=del_rep j s (keyP p.path p.typ);refine ⟨a',e,_,m,λc k' f=>?_,λc f hh=>g c f hh.1⟩;unfold upd2;split
 ·rename_i hh;obtain ⟨rfl,rfl⟩:=hh;constructor
  ·intro q;cases q
  ·rintro ⟨⟨d,n⟩,b⟩
   exact (n ⟨(keyP_inj k (g _ _ d) b).symm,rfl⟩).elim
 ·rename_i hh;rw [i];constructor
  ·rintro ⟨d,b⟩
   refine ⟨⟨d,?_⟩,b⟩
   rintro ⟨rfl,rfl⟩
   exact hh ⟨rfl,b⟩
  ·rintro ⟨⟨d,_⟩,b⟩;exact ⟨d,b⟩
theorem put_loop {p:GC} (d:Good p):∀(L:List zi) (i:Nat) (a:OM×PMp) (P:zi->GC->Prop),Idx a P->∃a',zx (putF p) L i a=some (.inr a')/\Idx a' (λe f=>(f=p/\e ∈ L) \/ P e f)
 | [],i,a,P,h=>⟨a,rfl,h.congr λs p=>by simp⟩
 | s::L,i,a,P,h=>by
  obtain ⟨j,g,m⟩:=h.put d s;obtain ⟨k,q,n⟩:=put_loop d L (i+1) j _ m;refine ⟨k,?_,n.congr λe f=>?_⟩
  ·simp only [zx,putF_is (keyP_is d),g,uB];exact q
  ·simp only [ux];constructor
   ·rintro (⟨b,c⟩ | ⟨b,c⟩ | b)
    ·exact .inl ⟨b,.inr c⟩
    ·exact .inl ⟨b,.inl c⟩
    ·exact .inr b
   ·rintro (⟨b,c | c⟩ | b)
    ·exact .inr (.inl ⟨b,c⟩)
    ·exact .inl ⟨b,c⟩
    ·exact .inr (.inr b)
theorem tak_loop {p:GC} (f:Good p):∀(L:List zi) (i:Nat) (a:OM×PMp) (P:zi->GC->Prop),Idx a P->∃a',zx (takF p) L i a=some (.inr a')/\Idx a' (λe j=>P e j/\¬ (j=p/\e ∈ L))
 | [],i,a,P,h=>⟨a,rfl,h.congr λs p=>by simp⟩
 | s::L,i,a,P,h=>by
  obtain ⟨v,r,m⟩:=h.del f s;obtain ⟨w,q,k⟩:=tak_loop f L (i+1) v _ m;refine ⟨w,?_,k.congr λe j=>?_⟩
  ·simp only [zx,takF_is (keyP_is f),r,uB];exact q
  ·simp only [ux];constructor
   ·rintro ⟨⟨g,d⟩,n⟩
    exact ⟨g,λ⟨c,b⟩=>b.elim (λb=>d ⟨c,b⟩) λb=>n ⟨c,b⟩⟩
   ·rintro ⟨g,d⟩
    exact ⟨⟨g,λ⟨c,b⟩=>d ⟨c,.inl b⟩⟩,λ⟨c,b⟩=>d ⟨c,.inr b⟩⟩
theorem putR_is {path:List zi} {a:OM×PMp} {P:zi->GC->Prop} (h:Idx a P) (b:Good ⟨path,typ⟩) (f:l.items.length<=xe) :
  ∃a',putR path typ l a=some a'/\Idx a' (λc d=>(d=⟨path,typ⟩/\c ∈ wm l) \/ P c d):=by
 obtain ⟨a',e,h'⟩:=put_loop b (wm l) 0 a P h;refine ⟨a',?_,h'⟩;unfold putR;have g:path.length<=3:=(xA b.1).2.1;rw [wF (by simp only [xe];omega),uc,texts_is f,uc,e];rfl
theorem takR_is {path:List zi} {a:OM×PMp} {P:zi->GC->Prop} (h:Idx a P) (d:Good ⟨path,typ⟩) (f:l.items.length<=xe) :
  ∃a',takR path typ l a=some a'/\Idx a' (λb c=>P b c/\¬ (c=⟨path,typ⟩/\b ∈ wm l)):=by
 obtain ⟨a',e,h'⟩:=tak_loop d (wm l) 0 a P h;refine ⟨a',?_,h'⟩;unfold takR;rw [texts_is f,uc,e];rfl
end
section
def Prow (rs:List GJ) (s:zi) (p:GC):Prop:=∃r ∈ rs,s ∈ wm r.leaf/\p=⟨r.path,r.leaf.typ⟩
theorem new_loop:∀(c:List GJ) (i:Nat) (a:OM×PMp) (P:zi->GC->Prop),(∀r ∈ c,RKey r/\r.leaf.items.length<=xe)->Idx a P->∃a',zx newF c i a=some (.inr a')/\Idx a' (λs p=>Prow c s p \/ P s p)
 | [],i,a,P,_,h=>⟨a,rfl,h.congr λs p=>by simp [Prow]⟩
 | r::c,i,a,P,hr,h=>by
  obtain ⟨d,e⟩:=hr r (by simp);obtain ⟨v,n,m⟩:=putR_is h (path:=r.path) (typ:=r.leaf.typ) (l:=r.leaf) ⟨d.1,d.2⟩ e;obtain ⟨w,k,f⟩:=new_loop c (i+1) v _ (λq g=>hr q (by simp [g])) m;refine ⟨w,?_,f.congr λs p=>?_⟩
  ·simp only [zx,newF,n,uc];exact k
  ·unfold Prow;simp only [ux,exists_eq_or_imp];constructor
   ·rintro (b | ⟨b,j⟩ | b)
    ·exact .inl (.inr b)
    ·exact .inl (.inl ⟨j,b⟩)
    ·exact .inr b
   ·rintro ((b | b) | b)
    ·exact .inr (.inl ⟨b.2,b.1⟩)
    ·exact .inl b
    ·exact .inr (.inr b)
theorem rows_items (hs:Small t) (b:treeB 0 t=true):∀r ∈ zF [] t,RKey r/\r.leaf.items.length<=xe:=λr a=>by
 have:=(rows_ok t 0 [] hs b rfl rfl r a).ok.items;exact ⟨rows_key hs b r a,by simp only [xe];omega⟩
theorem newR_is (hs:Small t) (b:treeB 0 t=true):∃a:OM×PMp,newR t=some (a.1,a.2,t)/\Idx a (Prow (zF [] t)):=by
 obtain ⟨a,e,h⟩:=new_loop (zF [] t) 0 ([],[]) _ (rows_items hs b) Idx.nil;refine ⟨a,?_,h.congr λs p=>by simp⟩;unfold newR;rw [qW hs,b,uc,te (by simp),select_all hs b,uc,pathsRows_is hs,b,uG rfl,uc,e];rfl
def Pdone (ra:List GJ) (D:List GH) (s:zi) (p:GC):Prop:=(∃r ∈ ra,s ∈ wm r.leaf/\p=⟨r.path,r.leaf.typ⟩/\∀e ∈ D,wj e ≠ rkey r) \/ ∃e ∈ D,p=⟨e.path,e.typ⟩/\s ∈ wm e.is
theorem texts0:wm qF=[]:=by simp [wm,qF]
theorem app_loop {j rb:List GJ} (I:j.Pairwise λr q=>vZ (rkey r) (rkey q)=true):∀(es D:List GH) (i:Nat) (a:OM×PMp),(∀e ∈ es,Good ⟨e.path,e.typ⟩/\e.was.items.length<=xe/\e.is.items.length<=xe/\Side j e.path e.typ e.had e.was)->(∀e ∈ es,∀d ∈ D,wj d ≠ wj e)->es.Pairwise eLt->Idx a (Pdone j D) ->
  ∃a',zx appF es i a=some (.inr a')/\Idx a' (Pdone j (D++es))
 | [],D,i,a,_,_,_,h=>⟨a,rfl,by rw [tC];exact h⟩
 | e::es,D,i,a,he,hd,hp,h=>by
  obtain ⟨G,L,T,F⟩:=he e (by simp);obtain ⟨N,J⟩:=uL.1 hp;obtain ⟨U,Q,P⟩:=takR_is h (path:=e.path) (typ:=e.typ) (l:=e.was) G L;obtain ⟨R,M,K⟩:=putR_is P (path:=e.path) (typ:=e.typ) (l:=e.is) G T;have y:∀f ∈ es,wj e ≠ wj f:=λf m n=>by
   have:=N f m;unfold eLt at this;rw [n,klt_irr] at this;cases this
  have key:∀s p,((p=⟨e.path,e.typ⟩/\s ∈ wm e.is) \/ (Pdone j D s p/\¬ (p=⟨e.path,e.typ⟩/\s ∈ wm e.was))) ↔ Pdone j (D++[e]) s p:=λs p=>by
   unfold Pdone;constructor
   ·rintro (⟨g,c⟩ | ⟨⟨r,v,g,c,w⟩ | ⟨d,b,g,c⟩,k⟩)
    ·exact .inr ⟨e,by simp,g,c⟩
    ·refine .inl ⟨r,v,g,c,λd b=>?_⟩;rcases uK.1 b with b | b
     ·exact w d b
     ·rw [up.1 b];intro n;have E:e.path=r.path:=congrArg Prod.fst n;have H:e.typ=r.leaf.typ:=congrArg Prod.snd n;cases hh:e.had with
      | false=>exact (F.off hh).2 r v (by rw [<- n];rfl)
      | true =>
       have A:Side j e.path e.typ true r.leaf:=⟨λ_=>⟨by rw [E];exact v,H.symm⟩,λh=>by cases h⟩
       have:=(Side.one I F A).2;exact k ⟨by rw [c,E,H],by rw [this];exact g⟩
    ·exact .inr ⟨d,by simp [b],g,c⟩
   ·rintro (⟨r,v,g,c,w⟩ | ⟨d,b,g,c⟩)
    ·refine .inr ⟨.inl ⟨r,v,g,c,λd b=>w d (by simp [b])⟩,?_⟩
     rintro ⟨k,_⟩
     refine w e (by simp) ?_;rw [c] at k;injection k with z B;unfold wj rkey;rw [z,B]
    ·rcases uK.1 b with b | b
     ·refine .inr ⟨.inr ⟨d,b,g,c⟩,?_⟩
      rintro ⟨k,_⟩
      refine hd e (by simp) d b ?_;rw [g] at k;injection k with z B;unfold wj;rw [z,B]
     ·rw [up.1 b] at g c;exact .inl ⟨g,c⟩
  obtain ⟨a3,S,O⟩:=app_loop (rb:=rb) I es (D++[e]) (i+1) R (λf m=>he f (by simp [m])) (λf m d b=>by
   rcases uK.1 b with b | b
   ·exact hd f (by simp [m]) d b
   ·rw [up.1 b];exact y f m) J (K.congr key)
  refine ⟨a3,?_,by rw [show D++e::es=(D++[e])++es by simp];exact O⟩;simp only [zx,appF,Q,M,uc];exact S
theorem appR_is (v:Small t) (A:Small u) (tt:treeB 0 t=true) (q:treeB 0 u=true) (K:GA.bks t+GA.bks u<=16777216) {a:OM×PMp} (h:Idx a (Prow (zF [] t))) :
  ∃es,diffDiff t u=some (es,0)/\∃(a':OM×PMp) (w:List GA),appR (a.1,a.2,t) es=some (0,a'.1,a'.2,w)/\Idx a' (Prow (zF [] u)):=by
 obtain ⟨R,N,E,D,B⟩:=diff_is v A tt q K;have M:=wg tt [];have J:=rows4 t;have G:=rows4 u;have i:∀e ∈ R,EOk e/\EFits t e:=λe c=>by
  obtain ⟨n,F⟩:=(B e).1 c;exact ⟨n.eok v A tt q F,n.fits⟩
 obtain ⟨w,I,_,_⟩:=patch_is v tt (es:=R) (by omega) i E;obtain ⟨a',O,hi⟩:=app_loop (rb:=zF [] u) M R [] 0 a (λe c=>by
  obtain ⟨n,F⟩:=(B e).1 c;have k:=(i e c).1;have L:=side_ok v tt n.a;have s2:=side_ok A q n.b;exact ⟨⟨k.path,k.typ⟩,by have:=L.items;simp only [xe];omega,by have:=s2.items;simp only [xe];omega,n.a⟩) (λ_ _ d hd=>by cases hd) E (h.congr λs p=>by
   unfold Prow Pdone;constructor
   ·rintro ⟨r,g,f,j⟩;exact .inl ⟨r,g,f,j,λ_ hd=>by cases hd⟩
   ·rintro (⟨r,g,f,j,_⟩ | ⟨d,hd,_⟩)
    ·exact ⟨r,g,f,j⟩
    ·cases hd)
 refine ⟨R,N,a',w,?_,hi.congr λs p=>?_⟩
 ·unfold appR;simp only [I,uc];rw [te (by decide),O];rfl
 ·have m:=patched_row tt q B;unfold Prow Pdone;rw [uV];constructor
  ·rintro (⟨r,g,f,j,z⟩ | ⟨e,c,g,f⟩)
   ·exact ⟨r,(m r).1 (.inl ⟨g,λe c y=>z e c y.symm⟩),f,j⟩
   ·have k:=(i e c).1;cases hh:e.has with
    | false =>
     rw [k.is0 hh,texts0] at f;cases f
    | true =>
     refine ⟨⟨e.path,e.is⟩,(m _).1 (.inr ⟨e,c,hh,rfl⟩),f,?_⟩;rw [g];simp only;rw [(k.is1 hh).2.2]
  ·rintro ⟨r,g,f,j⟩
   rcases (m r).2 g with ⟨z,H⟩ | ⟨e,c,hh,rfl⟩
   ·exact .inl ⟨r,z,f,j,λe c y=>H e c y.symm⟩
   ·have k:=(i e c).1;refine .inr ⟨e,c,?_,f⟩;rw [j];simp only;rw [(k.is1 hh).2.2]
end
section
def txN (rs:List GJ):Nat:=(rs.map λr=>r.leaf.items.length+1).sum
theorem leafI_bk (l:GE):l.items.length+1<=GE.bk l:=by
 have:l.items.length<=(l.items.map GI.bk).sum:=sum_len (λx=>by unfold GI.bk;omega) l.items;unfold GE.bk;omega
theorem leavesI_bk (mk:GE->GJ) (a:∀l,(mk l).leaf=l):∀ls:List GE,txN (ls.map mk)<=(ls.map GE.bk).sum
 | []=>by simp [txN]
 | l::ls=>by
  have b:=leavesI_bk mk a ls;have c:=leafI_bk l;unfold txN at b ⊢;simp only [uw,sD,a];omega
theorem txN_app (a b:List GJ):txN (a++b)=txN a+txN b:=by simp [txN]
theorem rowsI:∀(t:List GA) (a:List zi),txN (zF a t)<=GA.bks t:=by
 refine vk (by simp [zF,txN]) ?_;intro x r c b a;have f:=leavesI_bk (λl=>⟨a++[x.name],l⟩) (λ_=>rfl) x.leaves;have d:=bk_node x;rw [show x::r=[x]++r from rfl,vG,qz,xk,txN_app,txN_app];have g:=c (a++[x.name]);have e:=b a;show _<=x.bk+GA.bks r;omega
theorem texts_len (l:GE):(wm l).length<=l.items.length+1:=by
 unfold wm;split <;> simp
theorem plOk_of (hs:Small t) (e:treeB 0 t=true) {C:zi->zi->Option GC} (d:∀s k p,C s k=some p ↔ Prow (zF [] t) s p/\k=keyP p.path p.typ):PlOk C:=by
 refine ⟨λs k k' v a b=>((d s k v).1 a).2.trans ((d s k' v).1 b).2.symm,⟨(zF [] t).map λr=>⟨r.path,r.leaf.typ⟩,?_,λs k v h=>?_⟩,⟨(zF [] t).flatMap λr=>wm r.leaf,?_,λs k v h=>?_⟩⟩
 ·rw [ut];exact uN (rows_small hs) hs.2
 ·obtain ⟨⟨r,a,b,rfl⟩,_⟩:=(d s k v).1 h;refine ⟨u6.2 ⟨r,a,rfl⟩,?_⟩;have f:r.path.length<=3:=(xA (rows_key hs e r a).1).2.1;show r.path.length<=xe;simp only [xe];omega
 ·have a:=rowsI t [];have key:∀c:List GJ,(c.flatMap λr=>wm r.leaf).length<=txN c:=by
   intro c
   induction c with
   | nil=>simp [txN]
   | cons r c ih =>
    have b:=texts_len r.leaf;simp only [tn,uq,txN,uw,sD];unfold txN at ih;omega
  have b:=key (zF [] t);have f:=hs.2;omega
 ·obtain ⟨⟨r,a,b,rfl⟩,_⟩:=(d s k v).1 h;exact List.mem_flatMap.2 ⟨r,a,b⟩
def dotT (n:Int):GF:=GF.mk (GK.mk (0:Int) (1:Int)) n
def leafTa:GE:=GE.mk (2:Int) (0:Int) (1:Int) (dotT 1) ([117]:zi) ([]:List GI) ([]:List GF)
def leafTb:GE:=GE.mk (3:Int) (0:Int) (0:Int) (GF.mk (GK.mk (0:Int) (0:Int)) (0:Int)) ([]:zi) ([GI.mk (0:Int) (dotT 2) ([117]:zi),GI.mk (0:Int) (dotT 3) ([118]:zi)]:List GI) ([]:List GF)
def treeT:List GA:=[GA.mk ([97]:zi) [leafTa] ([]:List GA),GA.mk ([98]:zi) [leafTb] ([]:List GA)]
theorem smallT:Small treeT:=⟨by simp [treeT,leafTa,leafTb,dotT,GA.wfs,GA.wf,GE.wf,GI.wf,GF.wf,GK.wf,maxLen,InK];decide,by simp [treeT,leafTa,leafTb,dotT,GA.bks,GA.bk,GE.bk,GI.bk,GF.bk,GK.bk]⟩
theorem mayT:treeB 0 treeT=true:=by
 simp [treeB,treeT,x9,nodeB,upB,leavesB,allI,leafTa,leafTb,dotT];decide
theorem rowsT:zF [] treeT=[⟨[[97]],leafTa⟩,⟨[[98]],leafTb⟩]:=by simp [treeT,zF,rowsN]
theorem sortS_of {L R:List zi} (c:R.Perm L) (hs:R.Pairwise λa b=>¬ Op.bytesLess b a=true) (d:L.length<=xe):sortS L=some R:=by
 unfold sortS;rw [uG d];congr 1;refine rn (le:=λa b=>¬ Op.bytesLess b a=true) (λa b _ _ g f=>?_) (srt_pw L) hs ((ri L _).trans c.symm);rcases less_tot a b with e | e | e
 ·exact e
 ·exact (f e).elim
 ·exact (g e).elim
noncomputable def beg5 (o:OM):Option (List zi):=(some ():Option Unit).bind λ_=>(if (decide ((5:Int) < (1:Int)))=true then some ([]:List zi) else begR o [] 5)
theorem known_eq:wH=((newR treeT).bind λe=>(if ((0:Int) != (0:Int))=true then some false else ((((some ():Option Unit).bind λ_=>findR e.1 e.2.1 ([117]:zi))).bind λb=>((ql b ([(GC.mk ([([97]:zi)]:List zi) (2:Int)),(GC.mk ([([98]:zi)]:List zi) (3:Int))]:List GC)).bind λa=>((if (a==true)=true then beg5 e.1 else some default).bind λc=>((if (a==true)=true then yV c ([([117]:zi),([118]:zi)]:List zi) else some default).bind λd=>some (a&&d))))))):=rfl
theorem texts_a:wm leafTa=[[117]]:=by simp [wm,leafTa]
theorem texts_b:wm leafTb=[[117],[118]]:=by simp [wm,leafTb]
theorem known41:wH=some true:=by
 obtain ⟨a,w,C,d,c,A⟩:=newR_is smallT mayT;have ok:=plOk_of smallT mayT c;have i:∀s p,Prow (zF [] treeT) s p ↔ (s=[117]/\p=⟨[[97]],2⟩) \/ ((s=[117] \/ s=[118])/\p=⟨[[98]],3⟩):=λs p=>by
  unfold Prow;rw [rowsT];simp only [ux,pB,or_false,exists_eq_or_imp,exists_eq_left,texts_a,texts_b];exact Iff.rfl
 obtain ⟨R,m,r,y⟩:=find_is d ok [117];have z:R=[⟨[[97]],2⟩,⟨[[98]],3⟩]:=rise_one pl_irr pl_trans r (by simp [plLt,pkey];decide) λv=>by
  rw [y];simp only [c,i,ux,pB,or_false];constructor
  ·rintro ⟨k,h,_⟩
   rcases h with h | h
   ·exact .inl h.2
   ·exact .inr h.2
  ·intro h;refine ⟨_,?_,rfl⟩;rcases h with h | h
   ·exact .inl ⟨trivial,h⟩
   ·exact .inr ⟨.inl trivial,h⟩
 subst z;have f:((zG a.1).map (·.1)).Perm [[117],[118]]:=nd_perm (keys_nd d) (by decide) λs=>by
  have e:s ∈ (zG a.1).map (·.1) ↔ ∃x ∈ zG a.1,x.1=s:=by simp
  rw [e,d.keys];simp only [c,i,ux,pB,or_false];constructor
  ·rintro ⟨k,v,h | h,_⟩
   ·exact .inl h.1
   ·exact h.1
  ·intro h;exact ⟨_,⟨[[98]],3⟩,.inr ⟨h,rfl⟩,rfl⟩
 have j:begR a.1 [] 5=some [[117],[118]]:=allP_of λp g=>by
  have q:(zG a.1).length=2:=by simpa using f.length_eq
  rw [beg_loop [] p 0 [] (by rw [g.length_eq,q];simp [xe])];have n:((p.map (·.1)).filter λs=>preB s [])=p.map (·.1):=tZ.2 λs _=>by simp [preB]
  simp only [lp,uV,n];have b:=(g.map (·.1)).trans f;unfold begG;rw [sortS_of b.symm (by decide) (by rw [b.length_eq];simp [xe]),b.length_eq];rfl
 rw [known_eq,w,uc,te (by decide),uc,m,uc,same41_self];simp only [uc,tJ,ur,beg5];rw [te (by decide),j,uc,equalS_self];rfl
theorem along_is {pre:zi} (g:Small t) (d:Small u) (hl:GA.bks t+GA.bks u<=16777216):wY t u pre=some true:=by
 obtain ⟨b,Y⟩:=ref07Great_tot g;obtain ⟨v2,T⟩:=ref07Great_tot d;rw [along_eq,Y,uc];obtain ⟨m,e2⟩:∃w,(if (b==false)=true then wJ u else some default)=some w:=by
  split
  ·exact ⟨_,T⟩
  ·exact ⟨_,rfl⟩
 rw [e2,uc];obtain ⟨K,e3,P⟩:∃w,(if ((b || m)==false)=true then vW t else some default)=some w/\((b || m)=false->w=treeB 0 t):=by
  split
  ·exact ⟨_,ref07May_is g,λ_=>rfl⟩
  ·rename_i h;exact ⟨_,rfl,λe=>(h (by rw [e];rfl)).elim⟩
 rw [e3,uc];obtain ⟨w4,e4,Q⟩:∃w,(if (((b || m) || (!K))==false)=true then vW u else some default)=some w/\(((b || m) || (!K))=false->w=treeB 0 u):=by
  split
  ·exact ⟨_,ref07May_is d,λ_=>rfl⟩
  ·rename_i h;exact ⟨_,rfl,λe=>(h (by rw [e];rfl)).elim⟩
 rw [e4,uc];split
 ·rw [known41];rfl
 rename_i n;simp only [tc,not_or,pr,Bool.not_eq_false'] at n;obtain ⟨⟨⟨⟨L,M⟩,O⟩,c4⟩,c5⟩:=n;have tt:treeB 0 t=true:=by rw [<- P (by rw [L,M];rfl)];exact O
 have E:treeB 0 u=true:=by rw [<- Q (by rw [L,M,O];rfl)];exact c4
 obtain ⟨x,n1,i1⟩:=newR_is g tt;obtain ⟨y,X,C,a,q,_⟩:=newR_is d E;obtain ⟨es,Z,G,w,a1,Cx,j,f,_⟩:=appR_is g d tt E hl i1;have F:Cx=C:=by
  funext s k;rcases hx:Cx s k with _ | p
  ·rcases hy:C s k with _ | p
   ·rfl
   ·rw [(f s k p).2 ((q s k p).1 hy)] at hx;cases hx
  ·rw [(q s k p).2 ((f s k p).1 hx)]
 subst F;have ok:=plOk_of d E q;rw [n1,uc,X,uc,Z,uc];simp only [sB,pW,tJ,ur,uc,a1,um,uJ];have D:=count_eq j a;obtain ⟨N,hN⟩:∃N,countR y.1 y.2=some N:=⟨_,count_is a⟩
 rw [D,hN];simp only [uc,sB,pW,tJ,ur,tv];obtain ⟨B,I,b2⟩:=beg_is (o:=y.1) (pre:=pre) (most:=1000) (keys_few a ok) (by decide);have U:begR G.1 pre 1000=some B:=(beg_eq j a (keys_few j ok)).trans I;simp only [beg1000,uc];rw [te (by decide),te (by decide),I,U];simp only [uc,equalS_self,sd,um,uJ];rw [lp_all0 (λ_=>true) (r:=false)]
 ·simp [known41]
 ·intro i s hs;obtain ⟨R,J,r2,S⟩:=find_is a ok s;have V:findR G.1 G.2 s=some R:=(find_eq j a ok s).trans J;have A:R ≠ []:=by
   have H:=b2 s (uF hs);obtain ⟨z,hz,rfl⟩:=u6.1 H;obtain ⟨k,v,n⟩:=(a.keys z.1).1 ⟨z,hz,rfl⟩;intro e;have:=(S v).2 ⟨k,n⟩;rw [e] at this;cases this
  have c:(((R.length:Nat):Int)==(0:Int))=false:=by
   rw [rX];intro e;exact A (uD (by omega))
  simp only [alongF,uc,J,V,same41_self,sd,tJ,ur,c,pW,um,uJ]
theorem law41IndexAlong_top (t0 b:List GA) (a:zi) (e:t0.length<=maxLen/\∀y ∈ t0,GA.wf y) (c:b.length<=maxLen/\∀y ∈ b,GA.wf y) (d:a.length<=maxLen) (f:(((t0.map GA.bk).sum+1)+((b.map GA.bk).sum+1))+(a.length+1)<=1048576):wY t0 b a=some true :=
 along_is (small_of e (by omega)) (small_of c (by omega)) (by rw [GA.bks_eq,GA.bks_eq];omega)
end
end Go.Vv
