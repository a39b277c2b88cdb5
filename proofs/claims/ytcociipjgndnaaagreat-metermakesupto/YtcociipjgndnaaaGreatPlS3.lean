/- The program's put, and the document's Lay, are layer 31's lay. -/
import Derived.Test.YtcociipjgndnaaaGreatPlX0
namespace Go.Vv
open Go
theorem bsf_loop {a:GC->Int->Option Int} {x:List GC} {s:Int} {c:Nat} (q:x.length<=16777216) (p:∀i n,x[i]?=some n->∃v,a n s=some v/\(i < c->v < 0)/\(c<=i->0<=v)) :
  ∀(k lo hi:Nat),hi - lo<=k->lo<=c->c<=hi->hi<=x.length->ye (ρ:=Int×Bool) (λ(s1:Int×Int)=>((if (decide (s1.1 < s1.2))=true then ((yu x (IntKind.wrap .i64 ((Int.fdiv (IntKind.wrap .u64 ((IntKind.wrap .i64 (s1.1+s1.2)))) (2 ^ (min (1:Int).toNat (IntKind.bits .u64))))))).bind λj=>((a j s).bind λb=>(if (decide (b < (0:Int)))=true then some (.nxt ((IntKind.wrap .i64 ((IntKind.wrap .i64 ((Int.fdiv (IntKind.wrap .u64 ((IntKind.wrap .i64 (s1.1+s1.2)))) (2 ^ (min (1:Int).toNat (IntKind.bits .u64))))))+(1:Int))),s1.2)) else some (.nxt (s1.1,(IntKind.wrap .i64 ((Int.fdiv (IntKind.wrap .u64 ((IntKind.wrap .i64 (s1.1+s1.2)))) (2 ^ (min (1:Int).toNat (IntKind.bits .u64))))))))))) else some (.brk (s1.1,s1.2))):Option (Out _ (Int×Int)))) ((lo:Int),(hi:Int))=some (.inr ((c:Int),(c:Int))):=by
 intro k
 induction k with
 | zero =>
  intro lo hi o f g hh;obtain rfl:lo=hi:=by omega
  obtain rfl:lo=c:=by omega
  rw [xr];simp
 | succ k ih =>
  intro lo hi o f g hh;rw [xr];by_cases hlt:lo < hi
  ·have hd:decide ((lo:Int) < (hi:Int))=true:=uE (by omega);simp only [hd,ut,half_mid hlt (by omega)];have d:(lo+hi) / 2 < x.length:=by omega
   rw [wM d,ua];obtain ⟨v,h,l,m⟩:=p ((lo+hi) / 2) _ (ug d);rw [h,ua];by_cases hcm:(lo+hi) / 2 < c
   ·rw [uE (l hcm),up rfl];simp only;have e:IntKind.wrap .i64 ((((lo+hi) / 2:Nat):Int)+1)=(((lo+hi) / 2+1:Nat):Int):=by rw [yU (by omega)];omega
    rw [e];exact ih _ _ (by omega) (by omega) g hh
   ·rw [uS (by have:=m (by omega);omega)];simp only [ul,uG];exact ih _ _ (by omega) f (by omega) (by omega)
  ·obtain rfl:lo=hi:=by omega
   obtain rfl:lo=c:=by omega
   simp
theorem bsf_is {a:GC->Int->Option Int} {x:List GC} {s:Int} {c:Nat} (b:x.length<=16777216) (d:c<=x.length) (e:∀i n,x[i]?=some n->∃v,a n s=some v/\(i < c->v < 0)/\(c<=i->0<=v)) :
  zL x s a=(if c < x.length then a (x.getD c default) s else some 1).bind λv=>some ((c:Int),(decide (c < x.length)&&(v==0))):=by
 unfold zL;have:=bsf_loop b e x.length 0 x.length (by omega) (tK _) d (uh _);simp only [pt] at this;rw [show ((0:Int),(x.length:Int))=(((0:Nat):Int),(x.length:Int)) from rfl] at *;rw [this];simp only [lp];by_cases h:c < x.length
 ·have hd:decide ((c:Int) < (x.length:Int))=true:=uE (by omega);simp only [hd,h,ut,uB,u2,sZ,uX];rw [zj (by intro _;omega)]
 ·have hd:decide ((c:Int) < (x.length:Int))=false:=uS (by omega);simp only [hd,h,uG,sK,rx,ua];rw [zj (by intro hh;cases hh)];simp

theorem putC_is (x:GC) (k:Int):w8 x k=some (cmpI x.typ k):=by unfold w8;rw [cmpU8is];rfl
theorem cmpI_neg {a b:Int}:cmpI a b < 0 ↔ a < b:=by unfold cmpI;split <;> (try split) <;> omega
theorem cmpI_zero {a b:Int}:cmpI a b=0 ↔ a=b:=by unfold cmpI;split <;> (try split) <;> omega
theorem split_typ {ls:List GC} (k:Int) (h:ls.Pairwise λx y=>x.typ < y.typ):(∃A B,ls=A++B/\(∀y ∈ A,y.typ < k)/\∀y ∈ B,k < y.typ) \/ ∃A x B,ls=A++x::B/\x.typ=k/\(∀y ∈ A,y.typ < k)/\∀y ∈ B,k < y.typ:=by
 induction ls with
 | nil=>exact .inl ⟨[],[],rfl,λ_ h=>by simp at h,λ_ h=>by simp at h⟩
 | cons x t ih =>
  obtain ⟨f,g⟩:=uW.1 h;rcases Int.lt_trichotomy x.typ k with e | e | e
  ·rcases ih g with ⟨A,B,rfl,b,d⟩ | ⟨A,z,B,rfl,i,b,d⟩
   ·refine .inl ⟨x::A,B,rfl,λy a=>?_,d⟩;rcases uD.1 a with rfl | a
    ·exact e
    ·exact b y a
   ·refine .inr ⟨x::A,z,B,rfl,i,λy a=>?_,d⟩;rcases uD.1 a with rfl | a
    ·exact e
    ·exact b y a
  ·exact .inr ⟨[],x,t,rfl,e,λ_ h=>by simp at h,λy a=>by rw [<- e];exact f y a⟩
  ·refine .inl ⟨[],x::t,rfl,λ_ h=>by simp at h,λy a=>?_⟩;rcases uD.1 a with rfl | a
   ·exact e
   ·exact Int.lt_trans e (f y a)
theorem layLs_none {l:GC} {A B:List GC} (b:∀y ∈ A,y.typ < l.typ) (d:∀y ∈ B,l.typ < y.typ):qM l.typ l true (A++B)=A++l::B:=by
 unfold qM;rw [up rfl,tp,tp];rw [tP.2 (λy a=>uE (b y a)),tH.2 (λy a=>by have:=d y a;simp;omega),
  tH.2 (λy a=>by have:=b y a;simp;omega),tP.2 (λy a=>uE (d y a))]
 simp
theorem layLs_some {l x:GC} {A B:List GC} (e:x.typ=l.typ) (b:∀y ∈ A,y.typ < l.typ) (d:∀y ∈ B,l.typ < y.typ):qM l.typ l true (A++x::B)=A++l::B:=by
 unfold qM;rw [up rfl,tp,tp,tL,tL];rw [uu (by simp;omega),uu (by simp;omega)];rw [tP.2 (λy a=>uE (b y a)),tH.2 (λy a=>by have:=d y a;simp;omega),
  tH.2 (λy a=>by have:=b y a;simp;omega),tP.2 (λy a=>uE (d y a))]
 simp
theorem bsf_none {A B:List GC} {k:Int} (d:(A++B).length<=16777216) (g:∀y ∈ A,y.typ < k) (b:∀y ∈ B,k < y.typ):zL (A++B) k (λl f=>w8 l f)=some ((A.length:Int),false):=by
 rw [bsf_is (c:=A.length) d (by simp) λi m hi=>⟨_,putC_is m k,λa=>by
   rw [uj a] at hi;exact cmpI_neg.2 (g m (uN hi)),λa=>by
   rw [ui a] at hi;have:=b m (uN hi);have n:¬ cmpI m.typ k < 0:=λh=>by rw [cmpI_neg] at h;omega
   omega⟩]
 cases B with
 | nil=>simp
 | cons y B =>
  have e:(A++y::B).getD A.length default=y:=by simp
  have:=b y (by simp);rw [up (by simp),e,putC_is];have j:(cmpI y.typ k==0)=false:=by
   rw [rV,Ne,cmpI_zero];omega
  simp [j]
theorem bsf_some {A B:List GC} {x:GC} {k:Int} (g:(A++x::B).length<=16777216) (hs:x.typ=k) (j:∀y ∈ A,y.typ < k) (b:∀y ∈ B,k < y.typ):zL (A++x::B) k (λl f=>w8 l f)=some ((A.length:Int),true):=by
 rw [bsf_is (c:=A.length) g (by simp) λi m hi=>⟨_,putC_is m k,λa=>by
   rw [uj a] at hi;exact cmpI_neg.2 (j m (uN hi)),λa=>by
   rw [ui a] at hi;have o:¬ m.typ < k:=by
    rcases uD.1 (uN hi) with rfl | d
    ·omega
    ·have:=b m d;omega
   have n:¬ cmpI m.typ k < 0:=λh=>by rw [cmpI_neg] at h;omega
   omega⟩]
 have e:(A++x::B).getD A.length default=x:=by simp
 rw [up (by simp),e,putC_is,cmpI_zero.2 hs];simp
theorem insO_at {α:Type} {A B:List α} (x:α) (h:(A++B).length<=16777216):insO (A++B) (A.length:Int) [x]=some (A++x::B):=by
 unfold insO;rw [up ⟨⟨by omega,by simp;omega⟩,by simp,yY (by simp at h ⊢;omega)⟩];simp
noncomputable def putX (n:Nat) (p:List zy) (l2:GC) (y7:GA) (v6:List GA) (i:Int):Option (List GA) :=
 (if (decide (((p).length:Int) > (1:Int)))=true then ((slc p (1:Int) ((p).length:Int)).bind λm10=>((wi n y7.subs m10 l2).bind λv11=>((yu v6 i).bind λy12=>some (v6.set i.toNat (GA.mk y7.name y7.leaves v11))))) else ((xE y7.leaves).bind λv13=>((zL v13 l2.typ (λx0 x1=>w8 x0 x1)).bind λv14=>(if (!v14.2)=true then ((insO v13 v14.1 ([l2]:List GC)).bind λv16=>((yu v16 v14.1).bind λy17=>((yu v6 i).bind λy18=>some (v6.set i.toNat (GA.mk y7.name (v16.set v14.1.toNat l2) y7.subs))))) else ((yu v13 v14.1).bind λy19=>((yu v6 i).bind λy20=>some (v6.set i.toNat (GA.mk y7.name (v13.set v14.1.toNat l2) y7.subs))))))))
theorem putN_eq (n:Nat) (t0:List GA) (a:List zy) (d:GC):wi (n+1) t0 a d=((xd t0).bind λb=>((yu a (0:Int)).bind λh=>((treeXfind b h).bind λv3=>(if (!v3.2)=true then ((yu a (0:Int)).bind λg=>((insO b v3.1 ([(GA.mk g ([]:List GC) ([]:List GA))]:List GA)).bind λf=>((yu f v3.1).bind λi=>putX n a d i f v3.1))) else ((yu b v3.1).bind λe=>putX n a d e b v3.1))))):=rfl
theorem putX_leaf {n:Nat} {s:zy} {l:GC} {A B:List GA} {x:GA} (g:x.leaves.length<=16777215) (h:x.leaves.Pairwise λx y=>x.typ < y.typ):putX n [s] l x (A++x::B) (A.length:Int)=some (A++⟨x.name,qM l.typ l true x.leaves,x.subs⟩::B):=by
 unfold putX;have f:decide (((([s]:List zy).length:Int)) > 1)=false:=rfl;have b:yu (A++x::B) (A.length:Int)=some x:=zC (by simp);simp only [f,ul,uG];rw [cloneLeaf_is (yY (by omega)),ua];rcases split_typ l.typ h with ⟨C,D,e,a,hd⟩ | ⟨C,z,D,e,d,a,hd⟩
 ·rw [e,bsf_none (by rw [<- e];omega) a hd,ua];simp only [sR,ut];rw [insO_at _ (by rw [<- e];omega),ua,zC (x:=l) (by simp),ua,b,ua,layLs_none a hd];simp
 ·rw [e,bsf_some (by rw [<- e];omega) d a hd,ua];simp only [tg,ul,uG];rw [zC (x:=z) (by simp),ua,b,ua,layLs_some d a hd];simp
theorem putX_sub {n:Nat} {s a:zy} {r:List zy} {l:GC} {A B:List GA} {x:GA} {b:List GA} (g:(s::a::r).length<=16777216) (h:wi n x.subs (a::r) l=some b):putX n (s::a::r) l x (A++x::B) (A.length:Int)=some (A++⟨x.name,x.leaves,b⟩::B):=by
 unfold putX;have d:decide ((((s::a::r).length:Int)) > 1)=true:=uE (by simp only [uk];omega);have f:yu (A++x::B) (A.length:Int)=some x:=zC (by simp);simp only [d,ut];rw [vw ⟨by omega,by simp only [uk];omega,uT _⟩,ua];have e:((s::a::r).take (((s::a::r).length:Int)).toNat).drop (1:Int).toNat=a::r:=by rw [uB,sf];rfl
 rw [e,h,ua,f,ua];simp
theorem find_eq (t:List GA) (s:zy):treeXfind t s=(zp t s (λd b=>xM d b)).bind λa=>some (a.1,a.2):=rfl
end Go.Vv
namespace Go.Vv
open Go
theorem layLs_len {k:Int} {l:GC} {there:Bool} {ls:List GC}:(qM k l there ls).length<=ls.length+1:=by
 unfold qM;split
 ·have b:=pd (λx:GC=>decide (x.typ < k)) ls;have a:=b.length_eq;have d:(ls.filter λx=>decide (k < x.typ)).length<=(ls.filter λx=>!decide (x.typ < k)).length:=by
   have:(ls.filter λx=>decide (k < x.typ))=(ls.filter λx=>!decide (x.typ < k)).filter (λx=>decide (k < x.typ)):=by
    rw [r7];refine pm λx _=>?_;rw [uJ];simp;omega
   rw [this];exact sr _ _
  simp only [uo,uk,uV] at a ⊢;omega
 ·exact rm (sr _ _)
theorem lay_leaf {n:Nat} {s:zy} {l:GC} {A m B:List GA} {ls:List GC} {sb:List GA} {f:Bool} (o:LeafOk l) (h:m.length=if f=true then 1 else 0) (e:zp (A++m++B) s (λj i=>xM j i)=some ((A.length:Int),f))
  (b:((if f=true then ((yu (A++m++B) (A.length:Int)).bind λa=>some (.inr (a.name,a.leaves,a.subs))) else some (.inr (s,([]:List GC),([]:List GA)))):Option (List GA ⊕ (zy×(List GC)×(List GA))))=some (.inr (s,ls,sb)))
  (p:(A++m++B).length<=16777216) (r:ls.length<=16777215) (q:sb.length<=16777217) (g:ls.Pairwise λx y=>x.typ < y.typ) :
  xZ (n+1) (A++m++B) [s] l.typ l true=some (A++fitN s (qM l.typ l true ls) sb++B):=by
 have d:yu [s] (0:Int)=some s:=rfl;have:=layLs_len (k:=l.typ) (l:=l) (there:=true) (ls:=ls);rw [layN_eq,d,ua,e,ua,ua];simp only [];rw [b,yp,layIn_leaf (λ_=>⟨rfl,o⟩) (by omega) g,yp,layRest_is h (by omega) (by omega) (by omega)]
theorem lay_sub {n:Nat} {s a:zy} {r:List zy} {k:Int} {l:GC} {there:Bool} {A m B:List GA} {ls:List GC} {sb b:List GA} {f:Bool} (j:m.length=if f=true then 1 else 0) (i:zp (A++m++B) s (λp o=>xM p o)=some ((A.length:Int),f))
  (e:((if f=true then ((yu (A++m++B) (A.length:Int)).bind λd=>some (.inr (d.name,d.leaves,d.subs))) else some (.inr (s,([]:List GC),([]:List GA)))):Option (List GA ⊕ (zy×(List GC)×(List GA))))=some (.inr (s,ls,sb)))
  (t:(A++m++B).length<=16777216) (v:ls.length<=16777215) (u:b.length<=16777217) (q:(s::a::r).length<=16777216) (h:xZ n sb (a::r) k l there=some b) :
  xZ (n+1) (A++m++B) (s::a::r) k l there=some (A++fitN s ls b++B):=by
 have g:yu (s::a::r) (0:Int)=some s:=rfl;rw [layN_eq,g,ua,i,ua,ua];simp only [];rw [e,yp,layIn_sub q h,yp,layRest_is j (by omega) (by omega) (by omega)]
theorem fit_one {a:zy} {ls:List GC} {sb:List GA} (h:ls ≠ [] \/ sb ≠ []):fitN a ls sb=[⟨a,ls,sb⟩]:=by
 unfold fitN;rw [uu];rcases h with h | h
 ·have:=rd.2 h;omega
 ·have:=rd.2 h;omega
theorem layLs_ne {l:GC} {ls:List GC}:qM l.typ l true ls ≠ []:=List.ne_nil_of_mem (layLs_mem.2 (.inr ⟨rfl,rfl⟩))
theorem put_lay {l:GC} (P:leafB l=true) (E:LeafOk l):∀(p:List zy) (t:List GA) (d n:Nat),p ≠ []->p.all nameB=true->d+p.length<=3->treeB d t=true->(zu [] t).length<=16777214->p.length < n ->
  wi n t p l=xZ n t p l.typ l true
 | [],_,_,_,h,_,_,_,_,_=>absurd rfl h
 | _::_,_,_,0,_,_,_,_,_,h=>by omega
 | s::q,t,d,n+1,_,hp,hd,ht,hw,hn=>by
  simp only [tc,ud,uk] at hp hd hn;obtain ⟨S,R⟩:=zN ht;have u:t.length<=16777214:=uU (vm _ d (by rw [xl];exact ux.2 R)) hw;have z:yu (s::q) (0:Int)=some s:=rfl
  -- what is below
  have below:∀(sb:List GA) (c:zy) (m:List zy),q=c::m->treeB (d+1) sb=true->(zu [] sb).length<=16777214->∃b,wi n sb q l=some b/\xZ n sb q l.typ l true=some b/\b ≠ []/\b.length<=16777215:=by
   intro sb c m g r N;subst g;obtain ⟨b,Q,W,Y,T⟩:=lay_is (k:=l.typ) (l:=l) (there:=true) (λ_=>⟨rfl,P,E⟩) (c::m) sb (d+1) n (by simp) hp.2 (by simp only [uk] at hd ⊢;omega) r (by omega) (by omega);have J:=vm sb (d+1) (by rw [xl];exact ux.2 (zN r).2);refine ⟨b,?_,Q,?_,by omega⟩
   ·rw [<- Q];exact put_lay P E (c::m) sb (d+1) n (by simp) hp.2 (by simp only [uk] at hd ⊢;omega) r N (by omega)
   ·intro e;have:=(T [] ⟨[]++(c::m),l⟩).2 (.inr ⟨rfl,rfl⟩);rw [e] at this;simp [zu] at this
  rcases split_up s S with ⟨A,B,e,I,o⟩ | ⟨A,x,B,e,D,I,o⟩
  ·have F:(A++B).length<=16777214:=by rw [<- e];exact u
   have i:=bs_none (by omega) I o;have a:zp (A++[]++B) s (λK G=>xM K G)=some ((A.length:Int),false):=by rw [tA];exact i
   have j:A++B=A++[]++B:=by simp
   have L:wi (n+1) t (s::q) l=putX n (s::q) l ⟨s,[],[]⟩ (A++⟨s,[],[]⟩::B) (A.length:Int):=by
    rw [putN_eq,cloneNode_is (yY (by omega)),ua,z,ua,find_eq,e,i,ua,ua];simp only [sR,ut,ua];rw [insO_at _ (by omega),ua,zC (x:=⟨s,[],[]⟩) (by simp),ua]
   rw [L];cases g:q with
   | nil =>
    rw [putX_leaf (x:=⟨s,[],[]⟩) (by simp) (by simp),e,j,lay_leaf (ls:=[]) (sb:=[]) E (by simp) a rfl (by rw [<- j];omega) (by simp) (by simp) (by simp),fit_one (.inl layLs_ne)];simp
   | cons c m =>
    obtain ⟨b,C,v,M,U⟩:=below [] c m g (tree_nil _) (by simp [zu]);rw [g] at C v;rw [putX_sub (x:=⟨s,[],[]⟩) (by rw [g] at hd;simp only [uk] at hd ⊢;omega) C,e,j,lay_sub (ls:=[]) (sb:=[]) (f:=false) (by simp) a rfl (by rw [<- j];omega) (by simp) (by omega) (by rw [g] at hd;simp only [uk] at hd ⊢;omega) v,fit_one (.inr M)];simp
  ·have F:(A++x::B).length<=16777214:=by rw [<- e];exact u
   have i:=bs_some (by omega) D I o;have a:zp (A++[x]++B) s (λK G=>xM K G)=some ((A.length:Int),true):=by rw [uy];exact i
   have j:A++x::B=A++[x]++B:=by simp
   have y:x ∈ t:=by rw [e];simp
   obtain ⟨X,n2,O⟩:=wE (R x y);have V:=q9 y;have J:=vm x.subs (d+1) (by rw [xl];exact ux.2 (zN n2).2);have w:((if true=true then ((yu (A++[x]++B) (A.length:Int)).bind λH=>some (.inr (H.name,H.leaves,H.subs))) else some (.inr (s,([]:List GC),([]:List GA)))):Option (List GA ⊕ (zy×(List GC)×(List GA))))=some (.inr (s,x.leaves,x.subs)):=by
    rw [up rfl,zC (x:=x) (by simp),ua,D]
   have L:wi (n+1) t (s::q) l=putX n (s::q) l x (A++x::B) (A.length:Int):=by
    rw [putN_eq,cloneNode_is (yY (by omega)),ua,z,ua,find_eq,e,i,ua,ua];simp only [tg,ul,uG];rw [zC (x:=x) (by simp),ua]
   rw [L];cases g:q with
   | nil =>
    rw [putX_leaf (x:=x) (by omega) (leaves_up O).1,e,j,lay_leaf (ls:=x.leaves) (sb:=x.subs) E (by simp) a w (by rw [<- j];omega) (by omega) (by omega) (leaves_up O).1,fit_one (.inl layLs_ne),D];simp
   | cons c m =>
    obtain ⟨b,C,v,M,U⟩:=below x.subs c m g n2 (by omega);rw [g] at C v;rw [putX_sub (x:=x) (by rw [g] at hd;simp only [uk] at hd ⊢;omega) C,e,j,lay_sub (ls:=x.leaves) (sb:=x.subs) (f:=true) (by simp) a w (by rw [<- j];omega) (by omega) (by omega) (by rw [g] at hd;simp only [uk] at hd ⊢;omega) v,fit_one (.inr M),D];simp
end Go.Vv
namespace Go.Vv
open Go
noncomputable def l7A (t0:List GA) (path1:List zy):(List GA)×Int->Option (Out (List GA) ((List GA)×Int)):=(λ(s1:(List GA)×Int)=>((yf (((decide (s1.2 < ((t0).length:Int)))==true)=true->0<=s1.2/\s1.2 < ((t0).length:Int)) ((yf (((decide (s1.2 < ((t0).length:Int)))==true)=true->0<=(0:Int)/\(0:Int) < ((path1).length:Int)) ((if ((decide (s1.2 < ((t0).length:Int)))&&(Op.bytesLess (((t0).getD s1.2.toNat default).name) ((path1).getD (0:Int).toNat default)))=true then ((yu t0 s1.2).bind λy22=>(yf ((s1.1).length+(([y22]:List GA)).length<=yK) (some (.nxt ((s1.1++([y22]:List GA)),(IntKind.wrap .i64 (s1.2+(1:Int)))))))) else some (.brk (s1.1,s1.2))))))):Option (Out _ ((List GA)×Int))))
noncomputable def l7B (ls:List GC) (l2:GC):(List GC)×Int->Option (Out (List GA) ((List GC)×Int)):=(λ(sd62:(List GC)×Int)=>((yf (((decide (sd62.2 < ((ls).length:Int)))==true)=true->0<=sd62.2/\sd62.2 < ((ls).length:Int)) ((if ((decide (sd62.2 < ((ls).length:Int)))&&(decide (((ls).getD sd62.2.toNat default).typ < l2.typ)))=true then ((yu ls sd62.2).bind λy66=>(yf ((sd62.1).length+(([y66]:List GC)).length<=yK) (some (.nxt ((sd62.1++([y66]:List GC)),(IntKind.wrap .i64 (sd62.2+(1:Int)))))))) else some (.brk (sd62.1,sd62.2))))):Option (Out _ ((List GC)×Int))))
theorem l7A_is {t:List GA} {s:zy} {q:List zy} (o:t.length<=16777216) (a b:List GA) (e:t=a++b) (l:∀y ∈ a,Op.bytesLess y.name s=true) (j:∀y r,b=y::r->Op.bytesLess y.name s=false) :
  ∀(k i:Nat),a.length - i<=k->i<=a.length->ye (l7A t (s::q)) (a.take i,(i:Int))=some (.inr (a,(a.length:Int))):=by
 have g:t.length=a.length+b.length:=by rw [e];simp
 intro k
 induction k with
 | zero =>
  intro i n hi;obtain rfl:i=a.length:=by omega
  rw [xr];have:l7A t (s::q) (a.take a.length,(a.length:Int))=some (.brk (a,(a.length:Int))):=by
   unfold l7A;simp only [sf];rw [zj (by intro h;simp at h;omega),zj (by intro h;simp)];cases hbb:b with
   | nil =>
    rw [hbb] at g;rw [uS (by simp at g;omega)];rfl
   | cons y r =>
    have d:t.getD a.length default=y:=by rw [e,hbb];simp
    have:=j y r hbb;simp only [uB,d];have f:(s::q).getD (0:Int).toNat default=s:=rfl;rw [f,this,om];rfl
  rw [this]
 | succ k ih =>
  intro i n hi;rcases tz i a.length with h | h
  ·rw [xr];have d:t[i]?=some a[i]:=by rw [e,uj h,ug h]
   have hd:t.getD i default=a[i]:=by rw [ur,d];rfl
   have:l7A t (s::q) (a.take i,(i:Int))=some (.nxt (a.take (i+1),((i+1:Nat):Int))):=by
    unfold l7A;simp only;rw [zj (by intro h;simp at h;omega),zj (by intro h;simp)];have f:(s::q).getD (0:Int).toNat default=s:=rfl;have m:IntKind.wrap .i64 ((i:Int)+1)=((i+1:Nat):Int):=by rw [yU (by omega)];omega
    rw [uB,hd,f,l _ (tU h),uE (by omega:(i:Int) < (t.length:Int)),u5,up rfl,zC d,ua,zj (yY (by simp;omega)),m];rw [pn h]
   rw [this];exact ih (i+1) (by omega) h
  ·exact ih i (by omega) hi

theorem l7B_at {ls:List GC} {l:GC} (o:ls.length<=16777216) (a b:List GC) (e:ls=a++b) (j:∀y ∈ a,y.typ < l.typ) (g:∀y r,b=y::r->¬ y.typ < l.typ) :
  ∀(k i:Nat),a.length - i<=k->i<=a.length->ye (l7B ls l) (a.take i,(i:Int))=some (.inr (a,(a.length:Int))):=by
 have d:ls.length=a.length+b.length:=by rw [e];simp
 intro k
 induction k with
 | zero =>
  intro i n hi;obtain rfl:i=a.length:=by omega
  rw [xr];have:l7B ls l (a.take a.length,(a.length:Int))=some (.brk (a,(a.length:Int))):=by
   unfold l7B;simp only [sf];rw [zj (by intro h;simp at h;omega)];cases hbb:b with
   | nil =>
    rw [hbb] at d;rw [uS (by simp at d;omega)];rfl
   | cons y r =>
    have f:ls.getD a.length default=y:=by rw [e,hbb];simp
    have:=g y r hbb;simp only [uB,f];rw [uS this,om];rfl
  rw [this]
 | succ k ih =>
  intro i n hi;rcases tz i a.length with h | h
  ·rw [xr];have f:ls[i]?=some a[i]:=by rw [e,uj h,ug h]
   have hd:ls.getD i default=a[i]:=by rw [ur,f];rfl
   have:l7B ls l (a.take i,(i:Int))=some (.nxt (a.take (i+1),((i+1:Nat):Int))):=by
    unfold l7B;simp only;have m:IntKind.wrap .i64 ((i:Int)+1)=((i+1:Nat):Int):=by rw [yU (by omega)];omega
    rw [zj (by intro h;simp at h;omega),uB,hd,uE (j _ (tU h)),uE (by omega:(i:Int) < (ls.length:Int)),u5,up rfl,zC f,ua,zj (yY (by simp;omega)),m];rw [pn h]
   rw [this];exact ih (i+1) (by omega) h
  ·exact ih i (by omega) hi
end Go.Vv
namespace Go.Vv
open Go
noncomputable def l7R (n:Nat) (t0:List GA) (path1:List zy) (l2:GC) (A:List GA) (sd30:Int×zy×(List GC)×(List GA)):Option (List GA):=(if (decide (((path1).length:Int) > (1:Int)))=true then ((slc path1 (1:Int) ((path1).length:Int)).bind λm38=>((wx n sd30.2.2.2 m38 l2).bind λv39=>(yf ((A).length+(([(GA.mk sd30.2.1 sd30.2.2.1 v39)]:List GA)).length<=yK) (((slc t0 sd30.1 ((t0).length:Int)).bind λm41=>(yf (((A++([(GA.mk sd30.2.1 sd30.2.2.1 v39)]:List GA))).length+(m41).length<=yK) (some ((A++([(GA.mk sd30.2.1 sd30.2.2.1 v39)]:List GA))++m41)))))))) else (lp (ye (l7B sd30.2.2.1 l2) (([]:List GC),(0:Int))) λ(sd62:(List GC)×Int)=>(yf (((decide (sd62.2 < ((sd30.2.2.1).length:Int)))==true)=true->0<=sd62.2/\sd62.2 < ((sd30.2.2.1).length:Int)) ((if ((decide (sd62.2 < ((sd30.2.2.1).length:Int)))&&(((sd30.2.2.1).getD sd62.2.toNat default).typ==l2.typ))=true then (yf ((sd62.1).length+(([l2]:List GC)).length<=yK) (((slc sd30.2.2.1 (IntKind.wrap .i64 (sd62.2+(1:Int))) ((sd30.2.2.1).length:Int)).bind λm72=>(yf (((sd62.1++([l2]:List GC))).length+(m72).length<=yK) ((yf ((A).length+(([(GA.mk sd30.2.1 ((sd62.1++([l2]:List GC))++m72) sd30.2.2.2)]:List GA)).length<=yK) (((slc t0 sd30.1 ((t0).length:Int)).bind λm75=>(yf (((A++([(GA.mk sd30.2.1 ((sd62.1++([l2]:List GC))++m72) sd30.2.2.2)]:List GA))).length+(m75).length<=yK) (some ((A++([(GA.mk sd30.2.1 ((sd62.1++([l2]:List GC))++m72) sd30.2.2.2)]:List GA))++m75))))))))))) else (yf ((sd62.1).length+(([l2]:List GC)).length<=yK) (((slc sd30.2.2.1 sd62.2 ((sd30.2.2.1).length:Int)).bind λm78=>(yf (((sd62.1++([l2]:List GC))).length+(m78).length<=yK) ((yf ((A).length+(([(GA.mk sd30.2.1 ((sd62.1++([l2]:List GC))++m78) sd30.2.2.2)]:List GA)).length<=yK) (((slc t0 sd30.1 ((t0).length:Int)).bind λm81=>(yf (((A++([(GA.mk sd30.2.1 ((sd62.1++([l2]:List GC))++m78) sd30.2.2.2)]:List GA))).length+(m81).length<=yK) (some ((A++([(GA.mk sd30.2.1 ((sd62.1++([l2]:List GC))++m78) sd30.2.2.2)]:List GA))++m81))))))))))))))))
theorem lay7_eq2 (n:Nat) (t0:List GA) (a:List zy) (f:GC):wx (n+1) t0 a f=(lp (ye (l7A t0 a) (([]:List GA),(0:Int))) λ(s1:(List GA)×Int)=>((yu a (0:Int)).bind λe=>(lp ((yf (((decide (s1.2 < ((t0).length:Int)))==true)=true->0<=s1.2/\s1.2 < ((t0).length:Int)) ((yf (((decide (s1.2 < ((t0).length:Int)))==true)=true->0<=(0:Int)/\(0:Int) < ((a).length:Int)) ((if ((decide (s1.2 < ((t0).length:Int)))&&(((t0).getD s1.2.toNat default).name==((a).getD (0:Int).toNat default)))=true then ((yu t0 s1.2).bind λb=>some (.inr ((IntKind.wrap .i64 (s1.2+(1:Int))),b.name,b.leaves,b.subs))) else some (.inr (s1.2,e,([]:List GC),([]:List GA)))))))):Option (_ ⊕ (Int×zy×(List GC)×(List GA)))) λd=>l7R n t0 a f s1.1 d))):=rfl

theorem qg {α:Type} (L:List α) (i:Nat):((L.take ((L.length:Int)).toNat).drop ((i:Int)).toNat)=L.drop i:=by simp
theorem l7R_sub {n:Nat} {t A:List GA} {s a:zy} {r:List zy} {l:GC} {i:Nat} {b:zy} {ls:List GC} {sb u:List GA} (hi:i<=t.length) (j:t.length<=16777215) (g:A.length<=8388608) (f:t.length<=8388607) (m:(s::a::r).length<=16777216) (h:wx n sb (a::r) l=some u) :
  l7R n t (s::a::r) l A ((i:Int),b,ls,sb)=some (A++[⟨b,ls,u⟩]++t.drop i):=by
 unfold l7R;have d:decide ((((s::a::r).length:Int)) > 1)=true:=uE (by simp only [uk];omega);simp only [d,ut];rw [vw ⟨by omega,by simp only [uk];omega,uT _⟩,ua];have e:((s::a::r).take (((s::a::r).length:Int)).toNat).drop (1:Int).toNat=a::r:=by rw [uB,sf];rfl
 rw [e,h,ua,zj (yY (by simp;omega)),vw ⟨by omega,by omega,uT _⟩,ua,qg,zj (yY (by simp;omega))]
theorem l7R_leaf {n:Nat} {t A:List GA} {s:zy} {l:GC} {i:Nat} {m:zy} {ls:List GC} {sb:List GA} (hi:i<=t.length) (w:A.length<=8388608) (p:t.length<=8388607) (d:ls.length<=8388607) (g:ls.Pairwise λx y=>x.typ < y.typ) :
  l7R n t [s] l A ((i:Int),m,ls,sb)=some (A++[⟨m,qM l.typ l true ls,sb⟩]++t.drop i):=by
 unfold l7R;have o:decide (((([s]:List zy).length:Int)) > 1)=false:=rfl;simp only [o,ul,uG];rcases split_typ l.typ g with ⟨C,D,e,b,hd⟩ | ⟨C,z,D,e,j,b,hd⟩
 ·have f:=l7B_at (ls:=ls) (l:=l) (by omega) C D e b (λy r h=>by have:=hd y (by rw [h];simp);omega) C.length 0 (by omega) (by omega);rw [show (([]:List GC),(0:Int))=(C.take 0,((0:Nat):Int)) from rfl,f,yp,e,layLs_none b hd];rw [e] at d;simp only [uo] at d;simp only [];rw [zj (by intro h;simp at h ⊢;omega)];have a:((decide (((C.length:Nat):Int) < ((C++D).length:Int)))&&(((C++D).getD ((C.length:Nat):Int).toNat default).typ==l.typ))=false:=by
   cases D with
   | nil=>simp
   | cons y D=>have:=hd y (by simp);simp;omega
  rw [a];simp only [ul,uG];rw [zj (yY (by simp;omega)),vw ⟨by omega,by simp <;> omega,uT _⟩,ua,qg,sO,zj (yY (by simp;omega)),zj (yY (by simp;omega)),vw ⟨by omega,by omega,uT _⟩,ua,qg,zj (yY (by simp;omega))];simp
 ·have f:=l7B_at (ls:=ls) (l:=l) (by omega) C (z::D) e b (λy r h=>by injection h with v _;rw [<- v];omega) C.length 0 (by omega) (by omega);rw [show (([]:List GC),(0:Int))=(C.take 0,((0:Nat):Int)) from rfl,f,yp,e,layLs_some j b hd];rw [e] at d;simp only [uo,uk] at d;simp only [];rw [zj (by intro h;simp at h ⊢;omega)];have a:((decide (((C.length:Nat):Int) < ((C++z::D).length:Int)))&&(((C++z::D).getD ((C.length:Nat):Int).toNat default).typ==l.typ))=true:=by
   simp [j];omega
  rw [a];simp only [ut];have q:IntKind.wrap .i64 ((C.length:Int)+1)=((C.length+1:Nat):Int):=by rw [yU (by omega)];omega
  have u:(C++z::D).drop (C.length+1)=D:=by
   rw [<- tB,sO];rfl
  rw [zj (yY (by simp;omega)),q,vw ⟨by omega,by simp <;> omega,uT _⟩,ua,qg,u,zj (yY (by simp;omega)),zj (yY (by simp;omega)),vw ⟨by omega,by omega,uT _⟩,ua,qg,zj (yY (by simp;omega))];simp
theorem lay7_none {n:Nat} {s:zy} {q:List zy} {l:GC} {A B:List GA} (h:(A++B).length<=16777215) (d:NLt s A) (b:NGt s B):wx (n+1) (A++B) (s::q) l=l7R n (A++B) (s::q) l A ((A.length:Int),s,[],[]):=by
 have f:=l7A_is (t:=A++B) (s:=s) (q:=q) (by omega) A B rfl d (λy r hh=>by
  have:=b y (by rw [hh];simp);rcases hx:Op.bytesLess y.name s with _ | _
  ·rfl
  ·have:=less_trans this hx;rw [less_irr] at this;cases this) A.length 0 (by omega) (by omega)
 rw [lay7_eq2,show (([]:List GA),(0:Int))=(A.take 0,((0:Nat):Int)) from rfl,f,yp];have i0:yu (s::q) (0:Int)=some s:=rfl;simp only [i0,ua];rw [zj (by intro h;simp at h ⊢;omega),zj (by intro h;simp)];have a:((decide (((A.length:Nat):Int) < ((A++B).length:Int)))&&(((A++B).getD ((A.length:Nat):Int).toNat default).name==((s::q).getD (0:Int).toNat default)))=false:=by
  cases B with
  | nil=>simp
  | cons y B =>
   have:=less_ne (b y (by simp));simp;intro _ e;exact this e.symm
 rw [a];simp only [ul,uG,yp]
theorem lay7_some {n:Nat} {s:zy} {q:List zy} {l:GC} {A B:List GA} {x:GA} (b:x.name=s) (h:(A++x::B).length<=16777215) (d:NLt s A) (i:NGt s B):wx (n+1) (A++x::B) (s::q) l=l7R n (A++x::B) (s::q) l A (((A.length+1:Nat):Int),s,x.leaves,x.subs):=by
 have f:=l7A_is (t:=A++x::B) (s:=s) (q:=q) (by omega) A (x::B) rfl d (λy r hh=>by
  injection hh with g _;rw [<- g,b,less_irr]) A.length 0 (by omega) (by omega)
 rw [lay7_eq2,show (([]:List GA),(0:Int))=(A.take 0,((0:Nat):Int)) from rfl,f,yp];have i0:yu (s::q) (0:Int)=some s:=rfl;simp only [i0,ua];rw [zj (by intro h;simp at h ⊢;omega),zj (by intro h;simp)];have a:((decide (((A.length:Nat):Int) < ((A++x::B).length:Int)))&&(((A++x::B).getD ((A.length:Nat):Int).toNat default).name==((s::q).getD (0:Int).toNat default)))=true:=by
  simp [b];omega
 rw [a];simp only [uo,uk] at h;have e:IntKind.wrap .i64 ((A.length:Int)+1)=((A.length+1:Nat):Int):=by rw [yU (by omega)];omega
 simp only [ut];rw [zC (x:=x) (by simp),ua,yp,e,b]
end Go.Vv
namespace Go.Vv
open Go
theorem lay7_lay {l:GC} (P:leafB l=true) (E:LeafOk l):∀(p:List zy) (t:List GA) (d n:Nat),p ≠ []->p.all nameB=true->d+p.length<=3->treeB d t=true->(zu [] t).length<=8388606->p.length < n ->
  wx n t p l=xZ n t p l.typ l true
 | [],_,_,_,h,_,_,_,_,_=>absurd rfl h
 | _::_,_,_,0,_,_,_,_,_,h=>by omega
 | s::q,t,d,n+1,_,hp,hd,ht,hw,hn=>by
  simp only [tc,ud,uk] at hp hd hn;obtain ⟨S,R⟩:=zN ht;have v:t.length<=8388606:=uU (vm _ d (by rw [xl];exact ux.2 R)) hw;have below:∀(sb:List GA) (c:zy) (m:List zy),q=c::m->treeB (d+1) sb=true->(zu [] sb).length<=8388606->∃b,wx n sb q l=some b/\xZ n sb q l.typ l true=some b/\b ≠ []/\b.length<=16777215:=by
   intro sb c m i u M;subst i;obtain ⟨b,Q,W,Y,T⟩:=lay_is (k:=l.typ) (l:=l) (there:=true) (λ_=>⟨rfl,P,E⟩) (c::m) sb (d+1) n (by simp) hp.2 (by simp only [uk] at hd ⊢;omega) u (by omega) (by omega);have J:=vm sb (d+1) (by rw [xl];exact ux.2 (zN u).2);refine ⟨b,?_,Q,?_,by omega⟩
   ·rw [<- Q];exact lay7_lay P E (c::m) sb (d+1) n (by simp) hp.2 (by simp only [uk] at hd ⊢;omega) u M (by omega)
   ·intro e;have:=(T [] ⟨[]++(c::m),l⟩).2 (.inr ⟨rfl,rfl⟩);rw [e] at this;simp [zu] at this
  rcases split_up s S with ⟨A,B,e,z,g⟩ | ⟨A,x,B,e,I,z,g⟩
  ·have o:(A++B).length<=8388606:=by rw [<- e];exact v
   have G:A.length<=8388606:=by simp only [uo] at o;omega
   have r:=bs_none (by omega) z g;have a:zp (A++[]++B) s (λK F=>xM K F)=some ((A.length:Int),false):=by rw [tA];exact r
   have j:A++B=A++[]++B:=by simp
   rw [e,lay7_none (by omega) z g];cases i:q with
   | nil =>
    rw [l7R_leaf (by simp) (by omega) (by omega) (by simp) (by simp),j,lay_leaf (ls:=[]) (sb:=[]) E (by simp) a rfl (by rw [<- j];omega) (by simp) (by simp) (by simp),fit_one (.inl layLs_ne)];simp
   | cons c m =>
    obtain ⟨b,D,w,L,U⟩:=below [] c m i (tree_nil _) (by simp [zu]);rw [i] at D w;rw [l7R_sub (by simp) (by omega) (by omega) (by omega) (by rw [i] at hd;simp only [uk] at hd ⊢;omega) D,j,lay_sub (ls:=[]) (sb:=[]) (f:=false) (by simp) a rfl (by rw [<- j];omega) (by simp) (by omega) (by rw [i] at hd;simp only [uk] at hd ⊢;omega) w,fit_one (.inr L)];simp
  ·have o:(A++x::B).length<=8388606:=by rw [<- e];exact v
   have G:A.length+1<=8388606:=by simp only [uo,uk] at o;omega
   have r:=bs_some (by omega) I z g;have a:zp (A++[x]++B) s (λK F=>xM K F)=some ((A.length:Int),true):=by rw [uy];exact r
   have j:A++x::B=A++[x]++B:=by simp
   have C:x ∈ t:=by rw [e];simp
   obtain ⟨X,n2,N⟩:=wE (R x C);have V:=q9 C;have J:=vm x.subs (d+1) (by rw [xl];exact ux.2 (zN n2).2);have y:((if true=true then ((yu (A++[x]++B) (A.length:Int)).bind λH=>some (.inr (H.name,H.leaves,H.subs))) else some (.inr (s,([]:List GC),([]:List GA)))):Option (List GA ⊕ (zy×(List GC)×(List GA))))=some (.inr (s,x.leaves,x.subs)):=by
    rw [up rfl,zC (x:=x) (by simp),ua,I]
   have O:(A++x::B).drop (A.length+1)=B:=by rw [<- tB,sO];rfl
   rw [e,lay7_some I (by omega) z g];cases i:q with
   | nil =>
    rw [l7R_leaf (by simp) (by omega) (by omega) (by omega) (leaves_up N).1,O,j,lay_leaf (ls:=x.leaves) (sb:=x.subs) E (by simp) a y (by rw [<- j];omega) (by omega) (by omega) (leaves_up N).1,fit_one (.inl layLs_ne)]
   | cons c m =>
    obtain ⟨b,D,w,L,U⟩:=below x.subs c m i n2 (by omega);rw [i] at D w;rw [l7R_sub (by simp) (by omega) (by omega) (by omega) (by rw [i] at hd;simp only [uk] at hd ⊢;omega) D,O,j,lay_sub (ls:=x.leaves) (sb:=x.subs) (f:=true) (by simp) a y (by rw [<- j];omega) (by omega) (by omega) (by rw [i] at hd;simp only [uk] at hd ⊢;omega) w,fit_one (.inr L)]
end Go.Vv
namespace Go.Vv
open Go
theorem ilt_tot {a b:GH} (h:a.dot ≠ b.dot):aheadI a b=true \/ aheadI b a=true:=by
 unfold aheadI;rcases dlt_tot a.dot b.dot with e | e | e
 ·exact absurd e h
 ·by_cases ht:a.time=b.time
  ·left;simp [ht,e]
  ·rcases pL ht with d | d
   ·left;simp [ht,d]
   ·right;rw [up (λe=>ht e.symm)];simp;omega
 ·by_cases ht:a.time=b.time
  ·right;simp [ht,e]
  ·rcases pL ht with d | d
   ·left;simp [ht,d]
   ·right;rw [up (λe=>ht e.symm)];simp;omega
theorem pw_next {α:Type} [Inhabited α] {lt:α->α->Prop} {L:List α} (h:L.Pairwise lt) {i:Nat} {x:α} (hi:L[i]?=some x) (h0:i ≠ 0):lt (L.getD (i - 1) default) x:=by
 obtain ⟨a,rfl⟩:=uc.1 hi;have e:L.getD (i - 1) default=L[i - 1]:=by rw [ur,ug (by omega)];rfl
 rw [e];exact tC.1 h _ _ _ _ (by omega)
theorem riseB_pw {L:List GH} (h:L.Pairwise λa b=>aheadI a b=true):riseB L=true:=by
 refine allI_iff.2 λi x hi=>?_;by_cases h0:i=0
 ·simp [h0]
 ·simp only [h0,sK,tr,prevI];exact pw_next (lt:=λa b=>aheadI a b=true) h hi h0
theorem rising_of_pw {L:List GF} (h:L.Pairwise λa b=>dotLt a b=true):rising L=true:=by
 rw [rising_allI];refine allI_iff.2 λi x hi=>?_;unfold xH;by_cases h0:i=0
 ·simp [h0]
 ·simp only [h0,sK,tr];exact pw_next (lt:=λa b=>dotLt a b=true) h hi h0
theorem layP_mem {L:List GH} {x y:GH} (h:y ∈ layP L x):y ∈ L \/ y=x:=by
 unfold layP at h;split at h
 ·exact .inl h
 ·rcases uR.1 h with h | h
  ·exact .inl ((List.takeWhile_sublist _).mem h)
  ·rcases uR.1 h with h | h
   ·exact .inr (uL.1 h)
   ·exact .inl ((og _).mem h)
theorem layP_pw {L:List GH} (x:GH) (h:L.Pairwise λa b=>aheadI a b=true):(layP L x).Pairwise λa b=>aheadI a b=true:=by
 unfold layP;split
 ·exact h
 ·rename_i d;simp only [rO,sm,um] at d;exact ins_pw (lt:=aheadI) (λ_ _ _=>ilt_tr) h λy e=>ilt_tot (a:=y) (b:=x) (d y e)
theorem layP_once {L:List GH} (x:GH) (h:onceB L=true):onceB (layP L x)=true:=by
 unfold layP;split
 ·exact h
 ·rename_i a;simp only [rO,sm,um] at a;unfold onceB at h ⊢;rw [um] at h ⊢;have b:(L.takeWhile (λy=>aheadI y x)++([x]++L.dropWhile λy=>aheadI y x)).Perm (x::L):=by
   have e:=tQ (p:=λy=>aheadI y x) (l:=L);have:(x::(L.takeWhile (λy=>aheadI y x)++L.dropWhile λy=>aheadI y x)).Perm (x::L):=by rw [e]
   exact List.perm_middle.trans this
  rw [(b.map (·.dot)).nodup_iff,uC,pz];refine ⟨λd=>?_,h⟩;obtain ⟨y,f,e⟩:=tF.1 d;exact a y f e
theorem layP_len (L:List GH) (x:GH):(layP L x).length<=L.length+1:=by
 unfold layP;split
 ·omega
 ·have e:=congrArg List.length (tQ (p:=λy=>aheadI y x) (l:=L));simp only [uo,uk,uV] at e ⊢;omega
theorem all_layP {q:GH->Bool} {L:List GH} {x:GH} (h:L.all q=true) (b:q x=true):(layP L x).all q=true :=
 ux.2 λy d=>by
  rcases layP_mem d with a | a
  ·exact ux.1 h y a
  ·rw [a];exact b
structure EvOk (e:GJ):Prop where
 dot:wG e.dot=true
 time:qT e.time=true
 kind:1<=e.op.kind/\e.op.kind<=5
 path:qZ e.op.path=true
 text:e.op.text.length<=40
 dots:e.op.kind=4->e.op.dots.all wG=true
 dlen:e.op.dots.length<=64
theorem evOk {e:GJ} (h:ww e=true):EvOk e:=by
 have i:=kind_of h;have hd:=dots_of h;simp only [ww,opB,ud,um] at h;obtain ⟨⟨⟨j,b⟩,f⟩,⟨⟨⟨⟨_,g⟩,d⟩,_⟩,a⟩⟩:=h;refine ⟨j,?_,i,g,d,λl=>?_,hd⟩
 ·simp [qT,b,f]
 ·rw [uu (by omega)] at a;simp only [ud] at a;exact a.2.1
theorem type_range {k:Int} (h:1<=k/\k<=5):1<=vi k/\vi k<=4:=by
 unfold vi;split
 ·omega
 split
 ·omega
 split
 ·omega
 split
 ·omega
 ·omega
theorem applyP_typ (l:GC) (e:GJ):(xA l e).typ=l.typ:=by
 unfold xA;generalize (decide (l.time=0) || (if l.time ≠ e.time then decide (l.time < e.time) else dotLt l.dot e.dot))=b;cases b <;> simp only [ul,uG,ut] <;> (repeat' split) <;> rfl
theorem applyP_may {l:GC} {e:GJ} (a:leafB l=true) (F:ww e=true) (m:vi e.op.kind=l.typ):leafB (xA l e)=true:=by
 have f:=riseB_of a;have t:=tombs_of a;have q:=apart_of_leaf a;obtain ⟨w,v,J,d4,s,G,I⟩:=evOk F;have D:=applyP_typ l e;by_cases k1:e.op.kind=1
 ·have C:l.typ=1:=by rw [<- m,k1];rfl
  unfold xA;rw [up k1];unfold leafB at a ⊢;rw [up C] at a;simp only [C,ut];exact a
 by_cases k2:e.op.kind=2
 ·have z:l.typ=2:=by rw [<- m,k2];rfl
  unfold xA;rw [uu k1,up k2];generalize (decide (l.time=0) || (if l.time ≠ e.time then decide (l.time < e.time) else dotLt l.dot e.dot))=b;cases b
  case false=>exact a
  case true =>
   simp only [ut];unfold leafB at a ⊢;rw [uu (by omega),up z] at a;simp only [z];rw [uu (by omega),up trivial];simp only [ud,um] at a ⊢;refine ⟨a.1,?_⟩;have:¬ e.time=0:=by
    simp only [qT,ud,um] at v;omega
   rw [uu this];simp [w,v,s]
 by_cases k3:e.op.kind=3
 ·have t3:l.typ=3:=by rw [<- m,k3];rfl
  unfold xA;rw [uu k1,uu k2,up k3];split
  ·exact a
  ·rename_i y;simp only [rO,sm,um] at y;unfold leafB at a ⊢;rw [uu (by omega),uu (by omega),up t3] at a;simp only [t3];rw [uu (by omega),uu (by omega),up trivial];simp only [ud,um] at a ⊢;obtain ⟨⟨⟨r,o⟩,⟨⟨p,B⟩,h⟩⟩,i⟩:=a;refine ⟨⟨⟨r,by simpa [zeroB] using o⟩,⟨⟨all_layP p ?_,riseB_pw (layP_pw _ f)⟩,layP_once _ h⟩⟩,?_⟩
   ·simp [vL,w,s]
   ·simp only [tombsB,ud] at i ⊢;refine ⟨i.1,ux.2 λd hd=>?_⟩;simp only [tv,sm,um];intro x n j;rcases layP_mem n with g | g
    ·exact q x g d hd j.symm
    ·rw [g] at j;exact y d hd j.symm
 by_cases k4:e.op.kind=4
 ·have t3:l.typ=3:=by rw [<- m,k4];rfl
  have hd:=G k4;unfold xA;rw [uu k1,uu k2,uu k3,up k4];unfold leafB at a ⊢;rw [uu (by omega),uu (by omega),up t3] at a;simp only [t3];rw [uu (by omega),uu (by omega),up trivial];simp only [ud,um] at a ⊢;obtain ⟨⟨⟨r,o⟩,⟨⟨p,B⟩,h⟩⟩,i⟩:=a;refine ⟨⟨⟨r,by simpa [zeroB] using o⟩,⟨⟨ux.2 λx n=>ux.1 p x (tf.1 n).1,riseB_pw (f.filter _)⟩,?_⟩⟩,?_⟩
  ·unfold onceB at h ⊢;rw [um] at h ⊢;exact h.sublist ((List.filter_sublist).map _)
  ·simp only [tombsB,ud] at i ⊢;refine ⟨⟨ux.2 λd u=>?_,rising_of_pw (burs_pw _ t)⟩,ux.2 λd u=>?_⟩
   ·rcases (burs_mem _ _ _).1 u with g | g
    ·exact ux.1 hd d g
    ·exact ux.1 i.1.1 d g
   ·simp only [tv,sm,um];intro x n j;obtain ⟨E,A⟩:=tf.1 n;simp only [tv,sm,um] at A;rcases (burs_mem _ _ _).1 u with g | g
    ·exact A d g j.symm
    ·exact q x E d g j.symm
 ·have H:e.op.kind=5:=by omega
  have t4:l.typ=4:=by rw [<- m,H];rfl
  unfold xA;rw [uu k1,uu k2,uu k3,uu k4];unfold leafB at a ⊢;rw [uu (by omega),uu (by omega),uu (by omega),up t4] at a;simp only [t4];rw [uu (by omega),uu (by omega),uu (by omega),up trivial];simp only [ud,um] at a ⊢;obtain ⟨⟨⟨r,o⟩,i⟩,⟨⟨p,B⟩,h⟩⟩:=a;refine ⟨⟨⟨r,by simpa [zeroB] using o⟩,i⟩,⟨⟨all_layP p ?_,riseB_pw (layP_pw _ f)⟩,layP_once _ h⟩⟩;simp [vL,w,v,s]
theorem applyP_ok {l:GC} {e:GJ} (a:LeafOk l) (g:ww e=true) (hi:l.items.length<=1048576) (j:l.tombs.length<=1048576):LeafOk (xA l e)/\(xA l e).items.length<=l.items.length+1/\(xA l e).tombs.length<=l.tombs.length+64:=by
 have d:=evOk g;have h:0<=e.time:=by have:=d.time;simp only [qT,ud,um] at this;omega
 have f:=λx=>layP_len l.items x;have i:=burs_len e.op.dots l.tombs;have m:=sr (λx:GH=>!(e.op.dots.any λy=>decide (y=x.dot))) l.items;have hd:=d.dlen;have key:(xA l e).items.length<=l.items.length+1/\(xA l e).tombs.length<=l.tombs.length+64/\0<=(xA l e).time:=by
  unfold xA;split
  ·exact ⟨by simp,by simp,a.time⟩
  split
  ·generalize (decide (l.time=0) || (if l.time ≠ e.time then decide (l.time < e.time) else dotLt l.dot e.dot))=b;cases b
   ·exact ⟨by simp,by simp,a.time⟩
   ·exact ⟨by simp,by simp,h⟩
  split
  ·split
   ·exact ⟨by simp,by simp,a.time⟩
   ·exact ⟨f _,by simp,a.time⟩
  split
  ·exact ⟨by simp only [];omega,by simp only [];omega,a.time⟩
  ·exact ⟨f _,by simp,a.time⟩
 exact ⟨⟨by omega,by omega,key.2.2⟩,key.1,key.2.1⟩
end Go.Vv
namespace Go.Vv
open Go
def newLf (k:Int):GC:=GC.mk k (0:Int) (0:Int) (GF.mk (GK.mk (0:Int) (0:Int)) (0:Int)) ([]:zy) ([]:List GH) ([]:List GF)
theorem leafNew_is {k:Int} (h:1<=k/\k<=4):qs k=some (newLf k):=by
 unfold qs;rw [uu (by simp;omega)];rfl
theorem refNew_is {k:Int} (h:1<=k/\k<=4):ref05New k=some (newLf k):=by
 unfold ref05New;rw [up (by simp;omega)];rfl
theorem newLf_may {k:Int} (h:1<=k/\k<=4):leafB (newLf k)=true:=by
 have:k=1 \/ k=2 \/ k=3 \/ k=4:=by omega
 rcases this with rfl | rfl | rfl | rfl <;> decide
theorem newLf_ok (k:Int):LeafOk (newLf k):=⟨by simp [newLf],by simp [newLf],uT _⟩
theorem node7_is (t:List GA) (s:zy):ref07Xnode t s=some (match nodeOf t s with | some x=>(x,true) | none=>(node0,false)):=by
 unfold ref07Xnode;have key:∀(L:List GA) (i:Nat),zq (ρ:=GA×Bool) (λ(b:Nat) (a:GA) (s1:Unit)=>((if (a.name==s)=true then some (.ret (a,true)) else some (.nxt ())):Option (Out _ Unit))) L i ()=some (match nodeOf L s with | some x=>.inl (x,true) | none=>.inr ()):=by
  intro L
  induction L with
  | nil=>intro i;rfl
  | cons y r ih =>
   intro i;rw [zq];unfold nodeOf;rw [pA];cases h:(y.name==s)
   ·simp only [ul,uG];exact ih (i+1)
   ·simp only [ut]
 rw [key];cases nodeOf t s <;> rfl
noncomputable def l7F (v1:GC):Nat->zy->(List GA)×zy×(List GC)×(List GA)->Option (Out (GC×Bool) ((List GA)×zy×(List GC)×(List GA))):=(λ(n1:Nat) (x1:zy) (s1:(List GA)×zy×(List GC)×(List GA))=>(((ref07Xnode s1.1 x1).bind λv32=>(if (!v32.2)=true then some (.ret (v1,false)) else some (.nxt (v32.1.subs,v32.1.name,v32.1.leaves,v32.1.subs))))))
noncomputable def l7S (ls:List GC) (kind2:Int):Int->Option (Out (GC×Bool) Int):=(λ(s2:Int)=>((if (((decide (s2 < ((ls).length:Int)))&&(decide (kind2 >= (1:Int))))&&(decide (kind2<=(4:Int))))=true then ((yu ls s2).bind λy63=>(if (y63.typ==kind2)=true then ((yu ls s2).bind λy65=>some (.ret (y65,true))) else some (.nxt (IntKind.wrap .i64 (s2+(1:Int)))))) else some (.brk s2))))
theorem leaf7_eq (t0:List GA) (b:List zy) (a:Int):ref07Leaf t0 b a=((ref05New a).bind λd=>(lp (zq (l7F d) b 0 (t0,([]:zy),([]:List GC),([]:List GA))) λ(s1:(List GA)×zy×(List GC)×(List GA))=>(lp (ye (l7S s1.2.2.1 a) (0:Int)) λ(s2:Int)=>some (d,false)))):=rfl
theorem l7_walk (v:GC):∀(p:List zy) (n:Nat) (t:List GA) (z:zy×(List GC)×(List GA)),p ≠ [] ->
  zq (l7F v) p n (t,z)=some (match vd t p with | some x=>.inr (x.subs,x.name,x.leaves,x.subs) | none=>.inl (v,false))
 | [],_,_,_,h=>absurd rfl h
 | [s],n,t,z,_=>by
  simp only [vd,zq,l7F,node7_is,ua];cases nodeOf t s with
  | none=>rfl
  | some x=>rfl
 | s::c::q,n,t,z,_=>by
  have b:=λu z=>l7_walk v (c::q) (n+1) u z (by simp);simp only [vd];cases e:nodeOf t s with
  | none=>rw [zq];simp only [l7F,node7_is,e,ua];rfl
  | some x =>
   have a:l7F v n s (t,z)=some (.nxt (x.subs,x.name,x.leaves,x.subs)):=by simp only [l7F,node7_is,e,ua];rfl
   rw [zq,a,ua];exact b x.subs (x.name,x.leaves,x.subs)
theorem l7_scan {ls:List GC} {k:Int} (f:1<=k/\k<=4) (d:ls.length<=16777216):∀(m i:Nat),ls.length - i=m->i<=ls.length->ye (l7S ls k) (i:Int)=some (match (ls.drop i).find? (λy=>y.typ==k) with | some y=>.inl (y,true) | none=>.inr (ls.length:Int)):=by
 intro m
 induction m with
 | zero =>
  intro i h hi;obtain rfl:i=ls.length:=by omega
  rw [xr];unfold l7S;simp
 | succ m ih =>
  intro i h hi;have a:i < ls.length:=by omega
  rw [xr];have hd:ls.drop i=ls[i]::ls.drop (i+1):=ri a;have b:((decide ((i:Int) < (ls.length:Int))&&decide (k >= 1))&&decide (k<=4))=true:=by simp;omega
  rw [hd,pA];cases e:(ls[i].typ==k)
  ·have:l7S ls k (i:Int)=some (.nxt ((i+1:Nat):Int)):=by
    unfold l7S;rw [up b,wM a,ua,e];simp only [ul,uG];rw [yU (by omega)];rfl
   rw [this];exact ih (i+1) (by omega) (by omega)
  ·have:l7S ls k (i:Int)=some (.ret (ls[i],true)):=by
    unfold l7S;rw [up b,wM a,ua,e];simp
   rw [this]
theorem leaves_len:∀{p:List zy} {t:List GA} {d:Nat} {x:GA},treeB d t=true->p ≠ []->vd t p=some x->x.leaves.length<=(zu [] t).length
 | [],_,_,_,_,h,_=>absurd rfl h
 | [s],t,d,x,h,_,e=>by
  have b:x ∈ t:=rR (show nodeOf t s=some x from e);have:=q9 b;omega
 | s::c::q,t,d,x,h,_,e=>by
  simp only [vd] at e;cases hn:nodeOf t s with
  | none=>rw [hn] at e;cases e
  | some y =>
   rw [hn,ua] at e;have a:y ∈ t:=rR (show nodeOf t s=some y from hn);have g:=leaves_len (wE ((zN h).2 y a)).2.1 (by simp) e;have f:=q9 a;omega
theorem leaf7_is {t:List GA} (h:treeB 0 t=true) (o:(zu [] t).length<=16777215) {p:List zy} (g:p ≠ []) {k:Int} (j:1<=k/\k<=4) :
  (∃l,GE.mk p l ∈ zu [] t/\l.typ=k/\ref07Leaf t p k=some (l,true)) \/ ((∀r ∈ zu [] t,qh r ≠ (p,k))/\ref07Leaf t p k=some (newLf k,false)):=by
 have a:=λl=>row_at p t 0 [] l g h;simp only [u6] at a;have d:(∀l,¬ (GE.mk p l ∈ zu [] t/\l.typ=k))->∀r ∈ zu [] t,qh r ≠ (p,k):=λm r q e=>by
  have:=row_mk e;simp only [u6] at this;exact m r.leaf ⟨by rw [<- this];exact q,congrArg Prod.snd e⟩
 rw [leaf7_eq,refNew_is j,ua,l7_walk _ p 0 t _ g];cases e:vd t p with
 | none =>
  right;refine ⟨d λl hh=>?_,rfl⟩;obtain ⟨x,b,_⟩:=(a l).1 hh.1;rw [e] at b;cases b
 | some x =>
  simp only [lp];have i:x.leaves.length<=16777215:=by
   exact uU (leaves_len h g e) o
  have hs:=l7_scan j (by omega:x.leaves.length<=16777216) x.leaves.length 0 (by omega) (tK _);simp only [sq,pt] at hs;have f:ye (l7S x.leaves k) (0:Int)=_:=hs;rw [f];cases hf:x.leaves.find? (λy=>y.typ==k) with
  | some y =>
   left;refine ⟨y,(a y).2 ⟨x,e,rR hf⟩,?_,rfl⟩;have:=List.find?_some hf;simpa using this
  | none =>
   right;refine ⟨d λl hh=>?_,rfl⟩;obtain ⟨s,b,n⟩:=(a l).1 hh.1;rw [e] at b;injection b with b;subst b;have:=rD.1 hf l n;simp [hh.2] at this
end Go.Vv
namespace Go.Vv
open Go
theorem name_len {s:zy} (h:nameB s=true):s.length<=12/\∀b ∈ s,b ≠ 0:=by
 simp only [nameB,ud,um,ux] at h;refine ⟨h.1.2,λb a e=>?_⟩;have:=h.2 b a;rw [e] at this;revert this;decide
theorem leaf_bk (l:GC):4<=GC.bk l:=by unfold GC.bk;omega
theorem leaves_bk:∀ls:List GC,4 * ls.length<=(ls.map GC.bk).sum
 | []=>by simp
 | l::ls=>by
  have:=leaves_bk ls;have:=leaf_bk l;simp only [uk,uC,tZ];omega
theorem rows4:∀(t:List GA),4 * (zu [] t).length<=GA.bks t:=by
 refine vj (by simp [zu]) ?_;intro x r a d;have e:=leaves_bk x.leaves;have b:=bk_node x;rw [show x::r=[x]++r from rfl,qF,qW,xq];simp only [uo,uz];rw [len_rows x.subs ([]++[x.name]) []];show _<=x.bk+GA.bks r;omega
def wS (n:Nat):List GE->Nat
 | []=>0
 | r::L=>r.leaf.bk+17 * (r.path.length - n)+wS n L
theorem wS_app (n:Nat):∀A B:List GE,wS n (A++B)=wS n A+wS n B
 | [],B=>by simp [wS]
 | r::A,B=>by simp only [tS,wS,wS_app n A B];omega
theorem wS_leaves (a:List zy) (s:zy):∀ls:List GC,wS a.length (ls.map λl=>GE.mk (a++[s]) l)=(ls.map GC.bk).sum+17 * ls.length
 | []=>rfl
 | l::ls=>by
  simp only [uC,wS,wS_leaves a s ls,tZ,uk,uo,uV];omega
theorem wS_up (n:Nat):∀L:List GE,(∀r ∈ L,n+1<=r.path.length)->wS n L=wS (n+1) L+17 * L.length
 | [],_=>rfl
 | r::L,h=>by
  have b:=h r (by simp);simp only [wS,wS_up n L (λq a=>h q (by simp [a])),uk];omega
theorem bk_is (x:GA):x.bk=(x.name.length+1)+(((x.leaves.map GC.bk).sum+1)+((GA.bks x.subs+1)+0))+1:=by cases x;simp only [GA.bk]
theorem bks_rows:∀(t:List GA) (d:Nat) (a:List zy),(∀x ∈ t,nodeB d x=true)->GA.bks t<=wS a.length (zu a t):=by
 refine vj (λ_ _ _=>by simp [GA.bks]) ?_;intro x r g l d a e;have p:=l d a λy m=>e y (by simp [m]);have f:=e x (by simp);obtain ⟨i,n2,_⟩:=wE f;have j:=g (d+1) (a++[x.name]) (zN n2).2;have o:=(name_len i).1;have b:=vm [x] d (by simp [vI,f]);rw [qW,xq] at b;simp only [uo,uz,uk,uV,uZ] at j b;rw [len_rows x.subs ([]++[x.name]) (a++[x.name])] at b;show x.bk+GA.bks r<=wS a.length (wN a x++zu a r);rw [wS_app,xq,wS_app,wS_leaves,wS_up a.length _ λq h=>by
  have:=(rows_path _ _ q h).1;simp at this;omega]
 have n:=bk_is x;omega
theorem wS_sub {lt:GE->GE->Prop} (a:∀x,¬ lt x x) (n:Nat):∀(L M:List GE),L.Pairwise lt->(∀x ∈ L,x ∈ M)->wS n L<=wS n M
 | [],_,_,_=>tK _
 | x::L,M,h,hs=>by
  obtain ⟨i,g⟩:=uW.1 h;obtain ⟨A,B,rfl⟩:=pK (hs x (by simp));have:=wS_sub a n L (A++B) g λy f=>by
   have b:=hs y (by simp [f]);have d:y ≠ x:=λe=>a x (by have:=i y f;rwa [e] at this);simp only [uR,uD] at b ⊢;rcases b with h | h | h
   ·exact .inl h
   ·exact (d h).elim
   ·exact .inr h
  rw [wS_app] at this;rw [wS_app];simp only [wS];omega
def lS:List GE->Nat
 | []=>0
 | r::L=>r.leaf.bk+lS L
theorem lS_app:∀A B:List GE,lS (A++B)=lS A+lS B
 | [],B=>by simp [lS]
 | r::A,B=>by simp only [tS,lS,lS_app A B];omega
theorem lS_leaves (p:List zy):∀ls:List GC,lS (ls.map λl=>GE.mk p l)=(ls.map GC.bk).sum
 | []=>rfl
 | l::ls=>by simp only [uC,lS,lS_leaves p ls,tZ]
theorem wS_le:∀L:List GE,(∀r ∈ L,r.path.length<=3)->wS 0 L<=lS L+51 * L.length
 | [],_=>uh _
 | r::L,h=>by
  have d:=h r (by simp);have b:=wS_le L λq a=>h q (by simp [a]);simp only [wS,lS,uk];omega
theorem lS_le:∀(t:List GA) (a:List zy),lS (zu a t)<=GA.bks t:=by
 refine vj (λ_=>tK _) ?_;intro x r b d a;have g:=d a;have e:=b (a++[x.name]);have f:=bk_is x;show lS (wN a x++zu a r)<=x.bk+GA.bks r;rw [lS_app,xq,lS_app,lS_leaves];omega
theorem rows_wf:∀(t:List GA) (a:List zy),GA.wfs t->∀r ∈ zu a t,GC.wf r.leaf:=by
 refine vj (λ_ _ _ h=>by simp [zu] at h) ?_;intro x r e g a h q b;simp only [GA.wfs] at h;have b:q ∈ wN a x++zu a r:=b;rcases uR.1 b with b | b
 ·have d:x.name.length<=maxLen/\(x.leaves.length<=maxLen/\∀y ∈ x.leaves,GC.wf y)/\GA.wfs x.subs:=by
   have:=h.1;cases x;simpa only [GA.wf] using this
  rcases rowsN_mem.1 b with ⟨l,f,rfl⟩ | b
  ·exact d.2.1.2 l f
  ·exact e _ d.2.2 q b
 ·exact g a h.2 q b
theorem wf_rows:∀(t:List GA) (d:Nat) (a:List zy),(∀x ∈ t,nodeB d x=true)->(zu a t).length<=maxLen->(∀r ∈ zu a t,GC.wf r.leaf)->GA.wfs t:=by
 refine vj (λ_ _ _ _ _=>by simp [GA.wfs]) ?_;intro x r n s d a m f e;have f:(wN a x++zu a r).length<=maxLen:=f;have e:∀q ∈ wN a x++zu a r,GC.wf q.leaf:=e;rw [xq] at f;simp only [uo,uz] at f;obtain ⟨o,n2,_⟩:=wE (m x (by simp));have u:=s d a (λy l=>m y (by simp [l])) (by omega) (λq j=>e q (by simp [j]));have h:=n (d+1) (a++[x.name]) (zN n2).2 (by omega) (λq j=>e q (uR.2 (.inl (rowsN_mem.2 (.inr j)))));have p:=(name_len o).1;have b:x.name.length<=maxLen:=uU p (by decide);have i:∀y ∈ x.leaves,GC.wf y:=λy l=>e ⟨a++[x.name],y⟩ (uR.2 (.inl (rowsN_mem.2 (.inl ⟨y,l,rfl⟩))));have g:x.leaves.length<=maxLen:=by omega
 simp only [GA.wfs];refine ⟨?_,u⟩;revert b i g h;cases x;intro h b i g;simp only [GA.wf];exact ⟨b,⟨g,i⟩,h⟩
end Go.Vv
namespace Go.Vv
open Go
theorem ownC_is {l:GC} (h:LeafOk l):qt l=some l:=by
 unfold qt;rw [cloneItem_is (yY (by have:=h.items;omega)),ua,cloneDot_is (yY (by have:=h.tombs;omega)),ua]
theorem changed_is:∀(n:Nat) (t:List GA),GA.deps t < n->Small t->wH n t (λm=>qt m)=some t
 | 0,_,h,_=>by omega
 | n+1,t,h,hs=>by
  unfold wH;have q:=hs.len;rw [vX (λ_=>true) (λx=>x) t 0 [] (yY (by simp;omega))]
  ·simp
  ·intro i x s a f;have o:=qa a;have p:=xT x;have g:=hs.leaves a;rw [changed_is n x.subs (by omega) (hs.subs a),ua];rw [vX (λ_=>true) (λl=>l) x.leaves 0 [] (yY (by simp;omega))]
   ·have b:(x.leaves.filter λ_=>true)=x.leaves:=by simp
    simp only [yp,u6,List.map_id_fun',id,b,ut];rw [zj (by simpa using f)];cases x;simp
   ·intro j l s2 d e;show ((qt l).bind _)=_;rw [ownC_is (hs.leaf a d),ua,zj (by simpa using e)];simp
theorem own7_is {t:List GA} (h:Small t):treeXown t=some t:=by
 unfold treeXown treeXchanged;rw [qc (GA.deps t+1) λn a=>changed_is n t (by omega) h,ua]
theorem wS_len:∀L:List GE,(∀r ∈ L,1<=r.path.length)->17 * L.length<=wS 0 L
 | [],_=>uh _
 | r::L,h=>by
  have d:=h r (by simp);have b:=wS_len L λq a=>h q (by simp [a]);simp only [wS,uk];omega
structure Fine (t:List GA):Prop where
 small:Small t
 tree:treeB 0 t=true
 ws:wS 0 (zu [] t)<=14680064
 leaf:∀r ∈ zu [] t,r.leaf.bk<=1048576
theorem lS_mem:∀{L:List GE} {r:GE},r ∈ L->r.leaf.bk<=lS L
 | q::L,r,h=>by
  rcases uD.1 h with rfl | h
  ·simp only [lS];omega
  ·have:=lS_mem h;simp only [lS];omega
theorem fine_of {t:List GA} (hs:Small t) (b:treeB 0 t=true) (e:GA.bks t<=1048576):Fine t:=by
 have d:=wS_le (zu [] t) λr a=>(qJ (rows_ok t 0 [] hs b rfl rfl r a).path).2.1;have f:=lS_le t [];have g:=rows4 t;exact ⟨hs,b,by omega,λr a=>uU (lS_mem a) (by omega)⟩
theorem Fine.row {t:List GA} (h:Fine t) {r:GE} (a:r ∈ zu [] t):RowOk' r:=rows_ok t 0 [] h.small h.tree rfl rfl r a
theorem Fine.len {t:List GA} (h:Fine t):(zu [] t).length<=863533:=by
 have b:=wS_len (zu [] t) λr a=>by
  have:=(qJ (h.row a).path).1;exact rd.2 this
 have:=h.ws;omega
theorem rows_small {u:List GA} {M:List GE} (e:treeB 0 u=true) (m:wS 0 M<=16777216) (f:M.length<=1048576) (d:∀r ∈ M,GC.wf r.leaf) (h:∀r ∈ zu [] u,r ∈ M):Small u/\wS 0 (zu [] u)<=wS 0 M:=by
 have a:∀x:GE,¬ kltB (qh x) (qh x)=true:=λx h=>by rw [klt_irr] at h;cases h
 have b:=rows_sorted e [];have l:=bks_rows u 0 [] (zN e).2;have g:=wS_sub a 0 _ _ b h;have i:=sub_len a _ _ b h;simp only [uV] at l;exact ⟨⟨wf_rows u 0 [] (zN e).2 (uU (uU i f) (by decide)) λr j=>d r (h r j),by omega⟩,g⟩
theorem small_put {t u:List GA} {p:List zy} {l:GC} (a:Fine t) (d:treeB 0 u=true) (g:l.bk<=1100000) (e:GC.wf l) (i:p.length<=3) (h:∀r ∈ zu [] u,r ∈ zu [] t \/ r=⟨p,l⟩):Small u:=by
 have j:=a.ws;have f:=a.len;refine (rows_small (M:=zu [] t++[⟨p,l⟩]) d (by rw [wS_app];simp only [wS];omega) (by simp;omega) (λr b=>?_) λr b=>?_).1
 ·rcases uR.1 b with h | h
  ·exact rows_wf t [] a.small.1 r h
  ·rw [uL.1 h];exact e
 ·rcases h r b with h | h
  ·simp [h]
  ·simp [h]
theorem dots_bk (L:List GF):(L.map GF.bk).sum=5 * L.length:=by
 induction L with
 | nil=>rfl
 | cons d r ih =>
  have:GF.bk d=5:=rfl;rw [uC,tZ,ih,this,uk];omega
theorem sum_filter_le {α:Type} (f:α->Nat) (q:α->Bool):∀L:List α,((L.filter q).map f).sum<=(L.map f).sum
 | []=>by simp
 | x::r=>by
  have:=sum_filter_le f q r;rw [tL];split <;> simp only [uC,tZ] <;> omega
theorem lay_bk (L:List GH) (x:GH):((layP L x).map GH.bk).sum<=(L.map GH.bk).sum+x.bk:=by
 unfold layP;split
 ·omega
 ·have e:=tQ (p:=λy=>aheadI y x) (l:=L);have a:(L.map GH.bk).sum=(((L.takeWhile (λy=>aheadI y x))++L.dropWhile λy=>aheadI y x).map GH.bk).sum:=by rw [e]
  rw [a];simp only [sJ,List.sum_append,uC,tE,tZ,List.sum_nil];omega
theorem applyP_bk {l:GC} {e:GJ} (a:ww e=true):(xA l e).bk<=l.bk+1000:=by
 have d:=evOk a;have n:=lay_bk l.items ⟨0,e.dot,e.op.text⟩;have f:=lay_bk l.items ⟨e.time,e.dot,e.op.text⟩;have i:=burs_len e.op.dots l.tombs;have j:=sum_filter_le GH.bk (λx:GH=>!(e.op.dots.any λy=>decide (y=x.dot))) l.items;have hd:=d.dlen;have g:=d.text;have b0:∀x:GF,GF.bk x=5:=λ_=>rfl;have h:GH.bk ⟨0,e.dot,e.op.text⟩<=60:=by simp only [GH.bk,b0];omega
 have m:GH.bk ⟨e.time,e.dot,e.op.text⟩<=60:=by simp only [GH.bk,b0];omega
 unfold xA;split
 ·simp only [GC.bk];omega
 split
 ·generalize (decide (l.time=0) || (if l.time ≠ e.time then decide (l.time < e.time) else dotLt l.dot e.dot))=b;cases b
  ·simp only [ul,uG];omega
  ·simp only [ut,GC.bk,b0];omega
 split
 ·split
  ·omega
  ·simp only [GC.bk];omega
 split
 ·simp only [GC.bk,dots_bk];omega
 ·simp only [GC.bk];omega
theorem inK_wrap64 (n:Int):InK .i64 (IntKind.wrap .i64 n):=by
 unfold InK;rw [IntKind.wrap_i64];constructor
 ·show (-9223372036854775808:Int)<=_;omega
 ·show _<=(9223372036854775807:Int);omega
theorem all_lay {q:GH->Prop} {L:List GH} {x:GH} (h:∀y ∈ L,q y) (b:q x):∀y ∈ layP L x,q y:=λy d=>by
 rcases layP_mem d with a | a
 ·exact h y a
 ·rw [a];exact b
theorem applyP_wf {l:GC} {e:GJ} (w:GC.wf l) (v:ww e=true) (B:GJ.wf e) (hi:l.items.length<=1048576) (C:l.tombs.length<=1048576):GC.wf (xA l e):=by
 have d:=evOk v;obtain ⟨a,j,m,i,o,f,g⟩:=w;obtain ⟨r,t,D⟩:=B;obtain ⟨E,H,G,q,A⟩:=D;have p:∀n,n<=1048700->n<=maxLen:=λn h=>uU h (by decide);have u:=λx=>layP_len l.items x;have I:=burs_len e.op.dots l.tombs;have F:=sr (λx:GH=>!(e.op.dots.any λy=>decide (y=x.dot))) l.items;have hd:=d.dlen;have z:InK .u64 0:=⟨uT _,by decide⟩
 unfold xA;split
 ·exact ⟨a,inK_wrap64 _,m,i,o,f,g⟩
 split
 ·generalize (decide (l.time=0) || (if l.time ≠ e.time then decide (l.time < e.time) else dotLt l.dot e.dot))=b;cases b
  ·exact ⟨a,j,m,i,o,f,g⟩
  ·exact ⟨a,j,t,r,q,f,g⟩
 split
 ·split
  ·exact ⟨a,j,m,i,o,f,g⟩
  ·exact ⟨a,j,m,i,o,⟨p _ (by have:=u ⟨0,e.dot,e.op.text⟩;simp only [];omega),all_lay f.2 ⟨z,r,q⟩⟩,g⟩
 split
 ·refine ⟨a,j,m,i,o,⟨p _ (by simp only [];omega),λy s=>f.2 y (tf.1 s).1⟩,⟨p _ (by simp only [];omega),λy s=>?_⟩⟩;rcases (burs_mem _ _ _).1 s with h | h
  ·exact A.2 y h
  ·exact g.2 y h
 ·exact ⟨a,j,m,i,o,⟨p _ (by have:=u ⟨e.time,e.dot,e.op.text⟩;simp only [];omega),all_lay f.2 ⟨t,r,q⟩⟩,g⟩
theorem newLf_wf {k:Int} (h:1<=k/\k<=4):GC.wf (newLf k):=by
 have z:InK .u64 0:=⟨uT _,by decide⟩
 have d:InK .u8 0:=⟨uT _,by decide⟩
 have a:InK .u32 0:=⟨uT _,by decide⟩
 have b:InK .i64 0:=⟨by decide,by decide⟩
 refine ⟨⟨by show (0:Int)<=k;omega,by show k<=255;omega⟩,b,z,⟨⟨d,a⟩,z⟩,by simp [newLf],⟨by simp [newLf],by simp [newLf]⟩,⟨by simp [newLf],by simp [newLf]⟩⟩
end Go.Vv
namespace Go.Vv
open Go
theorem tlR_false {k:Int} (e:1<=k/\k<=4) {s1:Bool×zy×(List GC)×(List GA)} {v:GC} (h:tlR k s1=some (v,false)):v=newLf k:=by
 unfold tlR at h;obtain ⟨d,_,h⟩:=tx.1 h;obtain ⟨v50,_,h⟩:=tx.1 h;split at h
 ·rw [leafNew_is e,ua] at h;injection h with h;injection h with h _;exact h.symm
 ·obtain ⟨y,_,h⟩:=tx.1 h;obtain ⟨a,_,h⟩:=tx.1 h;obtain ⟨b,_,h⟩:=tx.1 h;injection h with h;injection h with _ h;cases h
theorem treeLeaf_false {t:List GA} {p:List zy} (d:p ≠ []) {k:Int} (b:1<=k/\k<=4) {v:GC} (h:qS t p k=some (v,false)):v=newLf k:=by
 have a:=tl_walk p 0 t (decide ((p.length:Int) > 0),([]:zy),([]:List GC),([]:List GA)) d;rw [tl_eq] at h;cases e:vd t p with
 | none =>
  rw [e] at a;obtain ⟨u,a⟩:=a;rw [a] at h;simp only [yp] at h;exact tlR_false b h
 | some x =>
  rw [e] at a;simp only at a;rw [a] at h;simp only [yp] at h;exact tlR_false b h
theorem leaf_lens (l:GC):l.items.length<=l.bk/\l.tombs.length<=l.bk:=by
 have b:=sum_len (f:=GH.bk) (λx=>by simp only [GH.bk];omega) l.items;have a:=dots_bk l.tombs;simp only [GC.bk];omega
theorem leaf_both {t:List GA} (j:Fine t) {p:List zy} (o:p ≠ []) {k:Int} (h:1<=k/\k<=4) :
  ∃l b,qS t p k=some (l,b)/\ref07Leaf t p k=some (l,b)/\l.typ=k/\leafB l=true/\LeafOk l/\GC.wf l/\l.bk<=1048576/\((b=true/\GE.mk p l ∈ zu [] t) \/ (b=false/\l=newLf k/\∀r ∈ zu [] t,qh r ≠ (p,k))):=by
 have w:=j.len;have hs:=j.small;have i:=j.tree;have g:=λr f=>rows_ok t 0 [] hs i rfl rfl r f;rcases treeLeaf_is i (λr f=>(g r f).ok) o h with ⟨l,a,d,q⟩ | ⟨a,v,d⟩ <;> rcases leaf7_is i (by omega) o h with ⟨u,m,n,s⟩ | ⟨m,n⟩
 ·have e:=sorted_key (key:=qh) (rows_sorted i []) a m (by simp only [qh];rw [d,n]);injection e with _ e;subst e;have f:=g _ a;refine ⟨l,true,q,s,d,f.leaf,f.ok,rows_wf t [] hs.1 _ a,?_,.inl ⟨rfl,a⟩⟩;exact j.leaf _ a
 ·exact absurd (by simp only [qh];rw [d]) (m _ a)
 ·exact absurd (by simp only [qh];rw [n]) (a _ m)
 ·have e:=treeLeaf_false o h d;subst e;exact ⟨newLf k,false,d,n,rfl,newLf_may h,newLf_ok k,newLf_wf h,(by simp [newLf,GC.bk,GF.bk,GK.bk]),.inr ⟨rfl,rfl,a⟩⟩
theorem put_all {l:GC} (e:leafB l=true) (h:LeafOk l) {p:List zy} {t u:List GA} (m:qZ p=true) (d:treeB 0 t=true) (v:(zu [] t).length<=8388606) (o:treeB 0 u=true) (q:∀r,r ∈ zu [] u ↔ (r ∈ zu [] t/\qh r ≠ (p,l.typ)) \/ (true=true/\r=⟨p,l⟩)) :
  treeXput t p l=some u/\ref07Lay t p l=some u:=by
 obtain ⟨g,s,f⟩:=qJ m;have key:∀n,p.length+1<=n->xZ n t p l.typ l true=some u:=λn a=>by
  obtain ⟨w,i,j,_,b⟩:=lay_is (k:=l.typ) (l:=l) (there:=true) (λ_=>⟨rfl,e,h⟩) p t 0 n g f (by omega) d (by omega) (by omega);have b:=b [];simp only [u6] at b;rw [i,rows_ext j o λr=>by rw [b,q];simp]
 refine ⟨qc (p.length+1) λn a=>?_,qc (p.length+1) λn a=>?_⟩
 ·rw [put_lay e h p t 0 n g f (by omega) d (by omega) (by omega)];exact key n a
 ·rw [lay7_lay e h p t 0 n g f (by omega) d (by omega) (by omega)];exact key n a
theorem apply_is {t:List GA} {e:GJ} (f:Fine t) (a:ww e=true) (F:GJ.wf e) :
  ∃u l b,treeApply t e=some (u,0)/\ref07Apply t e=some (u,0)/\Small u/\treeB 0 u=true/\qS t e.op.path (vi e.op.kind)=some (l,b)/\l.typ=vi e.op.kind/\leafB (xA l e)=true/\LeafOk (xA l e) /\
   ∀r,r ∈ zu [] u ↔ (r ∈ zu [] t/\qh r ≠ (e.op.path,vi e.op.kind)) \/ r=⟨e.op.path,xA l e⟩:=by
 have d:=evOk a;have hs:=f.small;have j:=f.tree;have J:=type_range d.kind;obtain ⟨G,C,L⟩:=qJ d.path;obtain ⟨l,b,A,E,m,z,v,B,M,_⟩:=leaf_both f G J;have w:=leaf_lens l;have n:=applyP_may z a m.symm;have I:(xA l e).typ=vi e.op.kind:=by rw [applyP_typ,m]
 obtain ⟨o,_⟩:=applyP_ok v a (by omega) (by omega);have p:=f.len;obtain ⟨u,_,s,_,q⟩:=lay_all (k:=(xA l e).typ) (l:=xA l e) (there:=true) (λ_=>⟨rfl,n,o⟩) d.path j (by omega);obtain ⟨D,H⟩:=put_all n o d.path j (by omega) s q;have x:Small u:=small_put f s (uU (applyP_bk a) (by omega)) (applyP_wf B a F (by omega) (by omega)) C λr K=>by
  rcases (q r).1 K with h | h
  ·exact .inl h.1
  ·exact .inr h.2
 have i:l.items.length<=1048576:=by omega
 have g:l.tombs.length<=1048576:=by omega
 have y:applyW l e=(xA l e,0):=by
  unfold applyW;rw [uu (by rw [z,a];decide),uu (by rw [m];simp)]
 refine ⟨u,l,b,?_,?_,x,s,A,m,n,o,λr=>by rw [q,I];simp⟩
 ·unfold treeApply;rw [qu hs,opMayEvent_is,j,a];simp only [ua,tg,u2,ut,pC,ul,uG];rw [opType_is,ua,A,ua,leafApply_is e i g,y,ua];simp only [s7,ul,uG];rw [D,ua,own7_is x,ua]
 ·unfold ref07Apply;rw [qH hs,vU,j,a];simp only [ua,tg,u2,ut,pC,ul,uG];rw [ref04Type_is,ua,E,ua,refApply_is e i g v.time,y,ua];simp only [s7,ul,uG];rw [H,ua]
end Go.Vv
namespace Go.Vv
open Go
theorem u8_range (n:Int):0<=IntKind.wrap .u8 n/\IntKind.wrap .u8 n < 256:=by
 rw [IntKind.wrap_u8];omega
theorem u64_range (n:Int):0<=IntKind.wrap .u64 n/\IntKind.wrap .u64 n < 18446744073709551616:=by
 rw [IntKind.wrap_u64];omega
theorem num_tot {b:List UInt8} {n:Int} (h0:0<=n) (o:n < 18446744073709551616) (i:b.length<=2147483000):∃r,xg b n=some r/\b.length+1<=r.length/\r.length<=b.length+10:=by
 unfold xg;have key:=qK (ρ:=List UInt8) (f:=λ(s1:(List UInt8)×Int)=>((if (decide (s1.2 > (127:Int)))=true then (yf (0<=(IntKind.wrap .u8 (((BitVec.ofInt (IntKind.bits .u8) (IntKind.wrap .u8 (s1.2)) ||| BitVec.ofInt (IntKind.bits .u8) (128:Int)).toNat:Int)))/\(IntKind.wrap .u8 (((BitVec.ofInt (IntKind.bits .u8) (IntKind.wrap .u8 (s1.2)) ||| BitVec.ofInt (IntKind.bits .u8) (128:Int)).toNat:Int))) < 256) ((yf ((s1.1).length+(([(UInt8.ofNat (IntKind.wrap .u8 (((BitVec.ofInt (IntKind.bits .u8) (IntKind.wrap .u8 (s1.2)) ||| BitVec.ofInt (IntKind.bits .u8) (128:Int)).toNat:Int))).toNat)]:List UInt8)).length<=yK) (some (.nxt ((s1.1++([(UInt8.ofNat (IntKind.wrap .u8 (((BitVec.ofInt (IntKind.bits .u8) (IntKind.wrap .u8 (s1.2)) ||| BitVec.ofInt (IntKind.bits .u8) (128:Int)).toNat:Int))).toNat)]:List UInt8)),(Int.fdiv s1.2 (2 ^ (min (7:Int).toNat (IntKind.bits .u64)))))))))) else some (.brk (s1.1,s1.2))):Option (Out _ ((List UInt8)×Int))))
  (λs=>0<=s.2/\b.length<=s.1.length/\∃k:Nat,s.2 < 128 ^ (k+1)/\s.1.length+k<=b.length+9) (λs=>b.length<=s.1.length/\s.1.length<=b.length+9) (λs=>s.2.toNat) ?_ _ (b,n) rfl ⟨h0,uh _,9,by omega,uh _⟩
 ·obtain ⟨j,e,p,l⟩:=key;rw [e];simp only [yp];rw [zj (u8_range _),zj (by simp [yK];omega)];exact ⟨_,rfl,by simp;omega,by simp;omega⟩
 ·rintro ⟨s,m⟩ ⟨g,h,k,a,d⟩
  simp only at g h a d;by_cases hm:m > 127
  ·right;simp only [hm,sZ,ut];rw [zj (u8_range _),zj (by simp [yK];omega)];refine ⟨_,rfl,?_,?_⟩
   ·have e:(Int.fdiv m (2 ^ (min (7:Int).toNat (IntKind.bits .u64))))=m / 128:=by
     have:(2:Int) ^ (min (7:Int).toNat (IntKind.bits .u64))=128:=by decide
     rw [this,sy _ (by omega)]
    simp only [e];refine ⟨by omega,by simp;omega,?_⟩;cases k with
    | zero=>simp at a;omega
    | succ k =>
     refine ⟨k,?_,by simp;omega⟩;rw [Int.pow_succ] at a;exact Int.ediv_lt_of_lt_mul (by omega) a
   ·have e:(Int.fdiv m (2 ^ (min (7:Int).toNat (IntKind.bits .u64))))=m / 128:=by
     have:(2:Int) ^ (min (7:Int).toNat (IntKind.bits .u64))=128:=by decide
     rw [this,sy _ (by omega)]
    simp only [e];omega
  ·left;simp only [hm,sK,ul,uG];exact ⟨_,rfl,by simp;omega,by simp;omega⟩
theorem wb {b:List UInt8} {n:Int} (a:b.length<=2147483000):∃r,xg b (IntKind.wrap .u64 n)=some r/\b.length+1<=r.length/\r.length<=b.length+10:=num_tot (u64_range n).1 (u64_range n).2 a
theorem int_tot {b:List UInt8} {n:Int} (a:b.length<=2147483000):∃r,codeInt b n=some r/\b.length+1<=r.length/\r.length<=b.length+10:=by
 unfold codeInt;obtain ⟨r,e,h⟩:=wb (b:=b) (n:=(((BitVec.ofInt (IntKind.bits .u64) (IntKind.wrap .u64 ((IntKind.wrap .u64 (n)) * 2 ^ (min (1:Int).toNat (IntKind.bits .u64)))) ^^^ BitVec.ofInt (IntKind.bits .u64) (IntKind.wrap .u64 ((Int.fdiv n (2 ^ (min (63:Int).toNat (IntKind.bits .i64))))))).toNat:Int))) a;exact ⟨r,by rw [e,ua],h⟩
theorem text_tot {b:List UInt8} {s:zy} (d:b.length+s.length<=2147482000):∃r,wX b s=some r/\b.length<=r.length/\r.length<=b.length+(10+s.length):=by
 unfold wX;obtain ⟨r,e,f,a⟩:=wb (b:=b) (n:=(s.length:Int)) (by omega);rw [e,ua,zj (by simp only [yK];omega)];exact ⟨_,rfl,by simp;omega,by simp;omega⟩
theorem dot_tot {b:List UInt8} {d:GF} (f:GF.wf d) (m:b.length<=2147482000):∃r,xb b d=some r/\b.length<=r.length/\r.length<=b.length+30:=by
 unfold xb;obtain ⟨r,e,p,h⟩:=wb (b:=b) (n:=d.actor.rep) (by omega);obtain ⟨q,g,j,l⟩:=wb (b:=r) (n:=d.actor.inc) (by omega);have hs:0<=d.seq/\d.seq < 18446744073709551616:=by
  have:=f.2;unfold InK at this;simp [IntKind.min,IntKind.max,IntKind.signed,IntKind.bits] at this;omega
 obtain ⟨z,a,i,o⟩:=num_tot (b:=q) hs.1 hs.2 (by omega);simp only [e,g,a,ua];exact ⟨_,rfl,by omega,by omega⟩
theorem acc_tot {α ρ:Type} {f:Nat->α->List UInt8->Option (Out ρ (List UInt8))} {K:Nat} (c:α->Nat):∀(L:List α) (i:Nat) (b:List UInt8),(∀i x s,x ∈ L->s.length+c x<=K->∃r,f i x s=some (.nxt r)/\s.length<=r.length/\r.length<=s.length+c x) ->
  b.length+(L.map c).sum<=K->∃r,zq f L i b=some (.inr r)/\b.length<=r.length/\r.length<=b.length+(L.map c).sum
 | [],_,b,_,_=>⟨b,rfl,uh _,by simp⟩
 | x::t,i,b,h,hb=>by
  simp only [uC,tZ] at hb ⊢;obtain ⟨r,e,m,g⟩:=h i x b (by simp) (by omega);obtain ⟨q,a,j,l⟩:=acc_tot c t (i+1) r (λi y s d=>h i y s (by simp [d])) (by omega);exact ⟨q,by simp only [zq,e,a],by omega,by omega⟩
theorem sum_mul {α:Type} {c f:α->Nat} (h:∀x,c x<=10 * f x):∀L:List α,(L.map c).sum<=10 * (L.map f).sum
 | []=>by simp
 | x::r=>by have:=sum_mul h r;have:=h x;simp only [uC,tZ];omega
theorem u64_of {n:Int} (h:InK .u64 n):0<=n/\n < 18446744073709551616:=by
 unfold InK at h;simp [IntKind.min,IntKind.max,IntKind.signed,IntKind.bits] at h;omega
theorem leafS_tot {b:List UInt8} {l:GC} (O:GC.wf l) (U:b.length+10 * l.bk<=2147480000):∃r,wo b l=some r/\b.length<=r.length/\r.length<=b.length+10 * l.bk:=by
 obtain ⟨w1,Z,o,p,w5,E,S⟩:=O;have hk:l.bk=12+l.text.length+(l.items.map GH.bk).sum+(l.tombs.map GF.bk).sum:=by
  have:GF.bk l.dot=5:=rfl;simp only [GC.bk,this];omega
 have hI:(l.items.map λx:GH=>50+x.text.length).sum<=10 * (l.items.map GH.bk).sum:=sum_mul (λx=>by have:GF.bk x.dot=5:=rfl;simp only [GH.bk,this];omega) _;have hT:(l.tombs.map λ_:GF=>30).sum<=10 * (l.tombs.map GF.bk).sum:=sum_mul (λx=>by have:GF.bk x=5:=rfl;simp only [this];omega) _;unfold wo;obtain ⟨C,J,a1,b1⟩:=wb (b:=b) (n:=l.typ) (by omega);obtain ⟨I,v,X,V⟩:=int_tot (b:=C) (n:=l.n) (by omega);obtain ⟨M,R,a3,b3⟩:=num_tot (b:=I) (u64_of o).1 (u64_of o).2 (by omega);obtain ⟨G,H,a4,b4⟩:=dot_tot (b:=M) p (by omega);obtain ⟨P,Q,a5,b5⟩:=text_tot (b:=G) (s:=l.text) (by omega);obtain ⟨q,B,a6,T⟩:=wb (b:=P) (n:=((l.items).length:Int)) (by omega);obtain ⟨F,y,a7,b7⟩:=acc_tot (K:=2147480000) (ρ:=List UInt8) (f:=λ(n1:Nat) (a:GH) (s1:(List UInt8))=>(((xg s1 a.time).bind λv25=>((xb v25 a.dot).bind λj=>((wX j a.text).bind λm=>some (.nxt m)))):Option (Out _ (List UInt8))))
  (λx:GH=>50+x.text.length) l.items 0 q (λi x s d hs=>by
   obtain ⟨a,h,x3⟩:=E.2 x d;obtain ⟨A,u,c1,d1⟩:=num_tot (b:=s) (u64_of a).1 (u64_of a).2 (by omega);obtain ⟨g,e,c2,z⟩:=dot_tot (b:=A) h (by omega);obtain ⟨w,t,W,d3⟩:=text_tot (b:=g) (s:=x.text) (by omega);exact ⟨w,by simp only [u,e,t,ua],by omega,by omega⟩) (by omega)
 obtain ⟨N,L,a8,b8⟩:=wb (b:=F) (n:=((l.tombs).length:Int)) (by omega);obtain ⟨Y,D,a9,b9⟩:=acc_tot (K:=2147480000) (ρ:=List UInt8) (f:=λ(n2:Nat) (h:GF) (s2:(List UInt8))=>(((xb s2 h).bind λv45=>some (.nxt v45)):Option (Out _ (List UInt8))))
  (λ_:GF=>30) l.tombs 0 N (λi x s d hs=>by
   obtain ⟨g,e,c2,z⟩:=dot_tot (b:=s) (S.2 x d) (by omega);exact ⟨g,by simp only [e,ua],by omega,by omega⟩) (by omega)
 simp only [J,v,R,H,Q,B,ua];rw [y,yp,L,ua,D,yp];exact ⟨_,rfl,by omega,by omega⟩
theorem acc_totP {ι α ρ:Type} {p:ι->Prop} {F:ι->Nat->α->List UInt8->Option (Out ρ (List UInt8))} {K:Nat} (c:α->Nat):∀(L:List α) (i:Nat) (b:List UInt8),(∀i x s,x ∈ L->s.length+c x<=K->∃r,(∀n,p n->F n i x s=some (.nxt r))/\s.length<=r.length/\r.length<=s.length+c x) ->
  b.length+(L.map c).sum<=K->∃r,(∀n,p n->zq (F n) L i b=some (.inr r))/\b.length<=r.length/\r.length<=b.length+(L.map c).sum
 | [],_,b,_,_=>⟨b,λ_ _=>rfl,uh _,by simp⟩
 | x::t,i,b,h,hb=>by
  simp only [uC,tZ] at hb ⊢;obtain ⟨r,e,m,g⟩:=h i x b (by simp) (by omega);obtain ⟨q,d,l,j⟩:=acc_totP c t (i+1) r (λi y s f=>h i y s (by simp [f])) (by omega);exact ⟨q,λn a=>by simp only [zq,e n a,d n a],by omega,by omega⟩
theorem put_tot:∀(d:Nat) (t:List GA) (b:List UInt8),GA.deps t < d->Small t->b.length+10+10 * GA.bks t<=2147480000->∃r,(∀n,d<=n->wQ n b t=some r)/\b.length+1<=r.length/\r.length<=b.length+10+10 * GA.bks t
 | 0,_,_,h,_,_=>by omega
 | d+1,t,b,h,hs,hb=>by
  obtain ⟨T,D,a1,b1⟩:=wb (b:=b) (n:=((t).length:Int)) (by omega);have A:(t.map λx=>10 * GA.bk x).sum<=10 * GA.bks t:=by rw [GA.bks_eq];exact sum_mul (λ_=>uh _) t
  obtain ⟨C,M,a2,Y⟩:=acc_totP (K:=2147480000) (ρ:=List UInt8) (p:=λn=>d<=n) (F:=λn (n1:Nat) (g:GA) (s1:(List UInt8))=>(((wX s1 g.name).bind λv23=>((xg v23 (IntKind.wrap .u64 (((g.leaves).length:Int)))).bind λv25=>(lp (zq (λ(n2:Nat) (w:GC) (s2:(List UInt8))=>(((wo s2 w).bind λa=>some (.nxt a)):Option (Out _ (List UInt8)))) g.leaves 0 v25) λ(s2:(List UInt8))=>((wQ n s2 g.subs).bind λv=>some (.nxt v))))):Option (Out _ (List UInt8))))
   (λx=>10 * GA.bk x) t 0 T (λi x s u N=>by
    have S:=bk_node x;have J:=qa u;have R:=xT x;have e:=(GA.wfs_iff t).1 hs.1 x u;have y:∀l ∈ x.leaves,GC.wf l:=by
     cases x;simp only [GA.wf] at e;exact e.2.1.2
    have hL:(x.leaves.map λl=>10 * GC.bk l).sum<=10 * (x.leaves.map GC.bk).sum:=sum_mul (λ_=>uh _) _;obtain ⟨H,L,c1,d1⟩:=text_tot (b:=s) (s:=x.name) (by omega);obtain ⟨U,Q,c2,X⟩:=wb (b:=H) (n:=((x.leaves).length:Int)) (by omega);obtain ⟨O,G,Z,d3⟩:=acc_tot (K:=2147480000) (ρ:=Out (List UInt8) (List UInt8)) (f:=λ(n2:Nat) (w:GC) (s2:(List UInt8))=>(((wo s2 w).bind λa=>some (.nxt a)):Option (Out _ (List UInt8))))
     (λl=>10 * GC.bk l) x.leaves 0 U (λj l s E o=>by
      obtain ⟨q,I,V,W⟩:=leafS_tot (b:=s) (y l E) o;exact ⟨q,by rw [I,ua],V,W⟩) (by omega)
    obtain ⟨B,P,c4,d4⟩:=put_tot d x.subs O (by omega) (hs.subs u) (by omega);refine ⟨B,λn z=>?_,by omega,by omega⟩;simp only [L,Q,ua];rw [G,yp,P n z,ua]) (by omega)
  refine ⟨C,λn z=>?_,by omega,by omega⟩;obtain ⟨m,rfl⟩:∃m,n=m+1:=⟨n - 1,by omega⟩
  unfold wQ;rw [D,ua,M m (by omega),yp]
theorem statePut_tot {t:List GA} (hs:Small t):∃r,statePut [] t=some r/\1<=r.length/\r.length<=10+10 * GA.bks t:=by
 have d:=hs.2;obtain ⟨r,e,a,b⟩:=put_tot (GA.deps t+1) t [] (by omega) hs (by simp;omega);exact ⟨r,qc _ e,by simpa using a,by simpa using b⟩
end Go.Vv
namespace Go.Vv
open Go
def itS (L:List GE):Nat:=(L.map λr=>r.leaf.items.length).sum
def toS (L:List GE):Nat:=(L.map λr=>r.leaf.tombs.length).sum
theorem use_loop {ρ:Type}:∀(L:List GE) (i a b c:Nat),a+L.length<=4611686018427387904->b+itS L<=4611686018427387904->c+toS L<=4611686018427387904 ->
  zq (λ(l:Nat) (d:GE) (s1:Int×Int×Int)=>(some (.nxt ((IntKind.wrap .i64 (s1.1+(1:Int))),(IntKind.wrap .i64 (s1.2.1+((d.leaf.items).length:Int))),(IntKind.wrap .i64 (s1.2.2+((d.leaf.tombs).length:Int))))):Option (Out ρ (Int×Int×Int)))) L i ((a:Int),(b:Int),(c:Int))=some (.inr (((a+L.length:Nat):Int),((b+itS L:Nat):Int),((c+toS L:Nat):Int)))
 | [],_,a,b,c,_,_,_=>by simp [zq,itS,toS]
 | r::L,i,a,b,c,h1,h2,h3=>by
  have j:itS (r::L)=r.leaf.items.length+itS L:=by simp [itS]
  have f:toS (r::L)=r.leaf.tombs.length+toS L:=by simp [toS]
  rw [j] at h2 ⊢;rw [f] at h3 ⊢;simp only [uk] at h1 ⊢;simp only [zq];have e:IntKind.wrap .i64 ((a:Int)+1)=((a+1:Nat):Int):=by rw [yU (by omega)];omega
  have g:IntKind.wrap .i64 ((b:Int)+((r.leaf.items.length:Nat):Int))=((b+r.leaf.items.length:Nat):Int):=by rw [yU (by omega)];omega
  have h:IntKind.wrap .i64 ((c:Int)+((r.leaf.tombs.length:Nat):Int))=((c+r.leaf.tombs.length:Nat):Int):=by rw [yU (by omega)];omega
  rw [e,g,h];rw [use_loop L (i+1) (a+1) (b+r.leaf.items.length) (c+r.leaf.tombs.length) (by omega) (by omega) (by omega)];rw [show a+1+L.length=a+(L.length+1) by omega,tM b,tM c]
theorem rows_bk_le:∀(L:List GE),itS L+toS L<=(L.map λr=>r.leaf.bk).sum
 | []=>by simp [itS,toS]
 | r::L=>by
  have h:=rows_bk_le L;have b:=leaf_lens r.leaf;have a:r.leaf.items.length+r.leaf.tombs.length<=r.leaf.bk:=by
   have b:=sum_len (f:=GH.bk) (λx=>by simp only [GH.bk];omega) r.leaf.items;have a:=dots_bk r.leaf.tombs;simp only [GC.bk];omega
  simp only [itS,toS,uC,tZ] at *;omega
theorem rows_lbk:∀(n:Nat) (t:List GA) (a:List zy),GA.deps t<=n->((zu a t).map λr=>r.leaf.bk).sum<=GA.bks t:=by
 intro n
 induction n with
 | zero =>
  intro t a h;cases t with
  | nil=>simp [zu,GA.bks]
  | cons x r=>have:=qa (x:=x) (t:=x::r) (by simp);have:=xT x;omega
 | succ n ih =>
  intro t
  induction t with
  | nil=>intro a h;simp [zu,GA.bks]
  | cons x r ih2 =>
   intro a h;have i:=qa (x:=x) (t:=x::r) (by simp);have e:=xT x;have b:=ih2 a (by simp only [GA.deps] at h;omega);have g:=ih x.subs (a++[x.name]) (by omega);have f:=bk_node x;rw [yc] at b ⊢;simp only [tX,sJ,List.sum_append,xq,rN,GA.bks];have d:(x.leaves.map ((λr:GE=>r.leaf.bk) ∘ λl=>GE.mk (a++[x.name]) l)).sum=(x.leaves.map GC.bk).sum:=rfl;rw [d];omega
structure UseOf (name:zy) (t:List GA) (u:GI):Prop where
 eq:wl name t=some u
 name:u.name=name
 v:u.leaves=((zu [] t).length:Int)/\u.items=(itS (zu [] t):Int)/\u.tombs=(toS (zu [] t):Int)
 l:0<=u.leaves/\u.leaves<=1073741824
 i:0<=u.items/\u.items<=1073741824
 t:0<=u.tombs/\u.tombs<=1073741824
 b:1<=u.bytes/\u.bytes<=1073741824
theorem use_is (name:zy) {t:List GA} (hs:Small t) (a:treeB 0 t=true):∃u,UseOf name t u:=by
 have b:=hs.2;obtain ⟨r,e,g,h⟩:=statePut_tot hs;have d:=rows_bk_le (zu [] t);have i:=rows_lbk (GA.deps t) t [] (uh _);have f:=rows_len (GA.deps t) t [] (uh _);refine ⟨⟨name,((zu [] t).length:Int),(itS (zu [] t):Int),(toS (zu [] t):Int),(r.length:Int)⟩,?_,rfl,⟨rfl,rfl,rfl⟩,by constructor <;> simp only [] <;> omega,by constructor <;> simp only [] <;> omega,by constructor <;> simp only [] <;> omega,by constructor <;> simp only [] <;> omega⟩;unfold wl;rw [e,ua,pathsRows_is hs,ua,up a];have:=use_loop (ρ:=GI) (zu [] t) 0 0 0 0 (by omega) (by omega) (by omega);rw [uZ,uZ,uZ] at this;rw [show ((0:Int),(0:Int),(0:Int))=(((0:Nat):Int),((0:Nat):Int),((0:Nat):Int)) from rfl,this,yp]
theorem idxQ_is {f:GI->Option Bool} {q:GI->Bool} (g:∀x,f x=some (q x)):∀(L:List GI) (k:Nat),
  (zq (λ(d:Nat) (b:GI) (s1:Unit)=>(((f b).bind λe=>(if e=true then some (.ret (d:Int)) else some (.nxt ()))):Option (Out Int Unit))) L k ()=some (.inr ())/\L.any q=false) \/
  ∃j,∃h:j < L.length,q L[j]=true/\zq (λ(d:Nat) (b:GI) (s1:Unit)=>(((f b).bind λe=>(if e=true then some (.ret (d:Int)) else some (.nxt ()))):Option (Out Int Unit))) L k ()=some (.inl ((k+j:Nat):Int))/\L.any q=true
 | [],_=>.inl ⟨rfl,rfl⟩
 | x::t,k=>by
  simp only [zq,g x,ua];cases hq:q x with
  | true=>exact .inr ⟨0,by simp,by simpa using hq,by simp,by simp [hq]⟩
  | false =>
   simp only [ul,uG];rcases idxQ_is g t (k+1) with ⟨h,a⟩ | ⟨j,m,i,a,l⟩
   ·exact .inl ⟨h,by simp [hq,a]⟩
   ·exact .inr ⟨j+1,by simp;omega,by simpa using i,by rw [a];simp;omega,by simp [l]⟩
theorem indexQ_is {f:GI->Option Bool} {q:GI->Bool} (d:∀x,f x=some (q x)) (L:List GI):(zZ L f=some (-1)/\L.any q=false) \/ ∃j,∃h:j < L.length,q L[j]=true/\zZ L f=some (j:Int)/\L.any q=true:=by
 unfold zZ;rcases idxQ_is d L 0 with ⟨h,a⟩ | ⟨j,g,b,a,e⟩
 ·rw [h];exact .inl ⟨rfl,a⟩
 ·rw [a];exact .inr ⟨j,g,b,by simp,e⟩
theorem containsQ_is {f:GI->Option Bool} {q:GI->Bool} (b:∀x,f x=some (q x)) (L:List GI):xp L f=some (L.any q):=by
 unfold xp;rcases indexQ_is b L with ⟨h,a⟩ | ⟨j,g,e,a,d⟩
 ·rw [h,a];rfl
 ·rw [a,d,ua];simp
def leastQ (x:GI):Int:=(if x.bytes < (if x.tombs < (if x.items < x.leaves then x.items else x.leaves) then x.tombs else (if x.items < x.leaves then x.items else x.leaves)) then x.bytes else (if x.tombs < (if x.items < x.leaves then x.items else x.leaves) then x.tombs else (if x.items < x.leaves then x.items else x.leaves)))
def mayQ1 (L:List GI) (i:Nat) (x:GI):Bool:=!(((L.take i).any λy=>y.name==x.name) || (!(x.name==([]:zy))&&!nameB x.name) || decide (leastQ x < 0))
def mayQ (L:List GI):Bool:=allI (mayQ1 L) L
theorem meterMay_is (L:List GI):meterMay L=some (mayQ L):=by
 unfold meterMay;rw [qe (mayQ1 L) (r:=false)]
 ·unfold mayQ;split <;> simp_all
 ·intro i x b;have hi:i < L.length:=(uc.1 b).1;have e:slc L 0 (i:Int)=some (L.take i):=by rw [vw ⟨by omega,by omega,by omega⟩];simp
  rw [e,ua,containsQ_is (f:=λd=>meterMayC1 d x) (q:=λy=>y.name==x.name) (λy=>rfl),ua,opIsName_is];unfold mayQ1;show ((if _ then _ else _:Option Bool).bind λa=>if (_ || (_&&(!a)) || decide (leastQ x < 0))=true then _ else _)=_;generalize ((L.take i).any λy=>y.name==x.name)=A;generalize (x.name==([]:zy))=B;generalize nameB x.name=C;generalize decide (leastQ x < 0)=D;cases A <;> cases B <;> cases C <;> cases D <;> rfl
theorem mayQ_pos {L:List GI} (h:mayQ L=true) {x:GI} (d:x ∈ L):0<=x.leaves/\0<=x.items/\0<=x.tombs/\0<=x.bytes:=by
 obtain ⟨i,hi⟩:=tj.1 d;have b:=allI_iff.1 h i x hi;unfold mayQ1 at b;simp only [tv,sL,sg] at b;have a:=b.2;unfold leastQ at a;split at a <;> (try split at a) <;> (try split at a) <;> omega
theorem quota_is (L:List GI) (name:zy):∃q b,wg L name=some (q,b)/\(b=true->q ∈ L):=by
 unfold wg;rw [zj (by decide)];have e:List.range (((2:Int)).toNat)=[0,1]:=rfl;rw [e];have key:∀s:zy,(∃j,∃h:j < L.length,zZ L (λd=>xw d s)=some (j:Int)) \/ zZ L (λd=>xw d s)=some (-1):=λs=>by
  rcases indexQ_is (f:=λd=>xw d s) (q:=λx=>x.name==s) (λx=>rfl) L with ⟨h,_⟩ | ⟨j,a,_,g,_⟩
  ·exact .inr h
  ·exact .inl ⟨j,a,g⟩
 simp only [zq,ut];rcases key name with ⟨j,a,h⟩ | h
 ·rw [h,ua];simp only [show ((j:Int) >= 0) from by omega,sZ,ut];rw [wM a,ua];exact ⟨_,_,rfl,λ_=>tU a⟩
 ·rw [h,ua];simp only [show ¬ ((-1:Int) >= 0) from by omega,sK,ul,uG,uZ,ra];rcases key [] with ⟨j,a,h⟩ | h
  ·rw [h,ua];simp only [show ((j:Int) >= 0) from by omega,sZ,ut];rw [wM a,ua];exact ⟨_,_,rfl,λ_=>tU a⟩
  ·rw [h,ua];simp only [show ¬ ((-1:Int) >= 0) from by omega,sK,ul,uG];exact ⟨_,_,rfl,λh=>by cases h⟩
def ovr (u q:Int):Int:=if u - q > 0 then u - q else 0
theorem ovr_is {u q:Int} (f:0<=u) (a:u<=1073741824) (b:0<=q) (d:q<=9223372036854775807):(if (IntKind.wrap .i64 (u - q)) > (0:Int) then (IntKind.wrap .i64 (u - q)) else (0:Int))=ovr u q:=by
 have e:IntKind.wrap .i64 (u - q)=u - q:=by rw [IntKind.wrap_i64];omega
 rw [e];rfl
structure UseB (u:GI):Prop where
 l:0<=u.leaves/\u.leaves<=1073741824
 i:0<=u.items/\u.items<=1073741824
 t:0<=u.tombs/\u.tombs<=1073741824
 b:0<=u.bytes/\u.bytes<=1073741824
theorem UseOf.ub {name:zy} {t:List GA} {u:GI} (h:UseOf name t u):UseB u:=⟨h.l,h.i,h.t,by have:=h.b;omega,h.b.2⟩
theorem over_is {L:List GI} (j:mayQ L=true) (r:∀q ∈ L,GI.wf q) (name:zy):∃(q:GI) (b:Bool),(b=true->0<=q.leaves/\0<=q.items/\0<=q.tombs/\0<=q.bytes)/\∀u:GI,u.name=name->UseB u ->
  x7 L u=some (if b=true then (ovr u.leaves q.leaves,ovr u.items q.items,ovr u.tombs q.tombs,ovr u.bytes q.bytes) else (0,0,0,0)):=by
 obtain ⟨q,b,w,g⟩:=quota_is L name;refine ⟨q,b,λh=>mayQ_pos j (g h),λu v a=>?_⟩;unfold x7;rw [v,w,ua];cases b with
 | false=>rfl
 | true =>
  have f:=mayQ_pos j (g rfl);obtain ⟨w0,p,o,s,m⟩:=r q (g rfl);have d:∀n,InK .i64 n->n<=9223372036854775807:=λn h=>by unfold InK at h;simp [IntKind.min,IntKind.max,IntKind.signed,IntKind.bits] at h;omega
  simp only [tg,ul,uG,ut,xP,ua];rw [zj (by decide)];have e:List.range (((4:Int)).toNat)=[0,1,2,3]:=rfl;rw [e];simp only [zq,ut,uZ,ra,uG,Nat.reduceAdd,show (2:Nat) ≠ 0 from by omega,show (2:Nat) ≠ 1 from by omega,show (3:Nat) ≠ 0 from by omega,show (3:Nat) ≠ 1 from by omega,show (3:Nat) ≠ 2 from by omega,yp];rw [ovr_is a.l.1 a.l.2 f.1 (d _ p),ovr_is a.i.1 a.i.2 f.2.1 (d _ o),ovr_is a.t.1 a.t.2 f.2.2.1 (d _ s),ovr_is a.b.1 a.b.2 f.2.2.2 (d _ m)]
end Go.Vv
namespace Go.Vv
open Go
theorem sing_may {t:List GA} (b:treeB 0 t=true) {x:GA} (a:x ∈ t):treeB 0 [x]=true :=
 treeB_of (by omega) ((qR _).2 (by simp)) λy d=>by rw [uL.1 d];exact (zN b).2 x a
theorem sing_small {t:List GA} (hs:Small t) {x:GA} (a:x ∈ t):Small [x] :=
 ⟨(GA.wfs_iff _).2 λy b=>by rw [uL.1 b];exact (GA.wfs_iff t).1 hs.1 x a,by have:=bk_mem a;have:=hs.2;simp only [GA.bks];omega⟩
noncomputable def qQ (x:GA):GI:=(wl x.name [x]).getD default
theorem useU_is {t:List GA} (hs:Small t) (b:treeB 0 t=true) {x:GA} (a:x ∈ t):UseOf x.name [x] (qQ x):=by
 obtain ⟨u,h⟩:=use_is x.name (sing_small hs a) (sing_may b a);have:qQ x=u:=by unfold qQ;rw [h.eq];rfl
 rw [this];exact h
theorem slc_one {A L:List GA} {x:GA} (h:A.length+1<=maxLen):slc (A++x::L) (A.length:Int) (IntKind.wrap .i64 ((A.length:Int)+(1:Int)))=some [x]:=by
 rw [wrap_add1 h,vw ⟨by omega,by omega,by simp;omega⟩];simp only [uB,un];rw [sd,uM (by omega),show A.length+1 - A.length=1 by omega,sS,pH,sO]
theorem uses_loop {t:List GA} (hs:Small t) (d:treeB 0 t=true):∀(L A:List GA) (s:List GI),t=A++L->s.length+L.length<=33554432 ->
  zq (λ(f:Nat) (i:GA) (s1:(List GI))=>(((slc t (f:Int) (IntKind.wrap .i64 ((f:Int)+(1:Int)))).bind λb=>((wl i.name b).bind λa=>(yf ((s1).length+(([a]:List GI)).length<=yK) (some (.nxt (s1++([a]:List GI))))))):Option (Out (List GI×Int) (List GI)))) L A.length s=some (.inr (s++L.map qQ))
 | [],A,s,_,_=>by simp [zq]
 | x::r,A,s,h,hl=>by
  simp only [uk] at hl;have g:x ∈ t:=by rw [h];simp
  have j:A.length+1<=maxLen:=by
   have:=hs.len;rw [h] at this;simp only [uo,uk] at this;exact uU (uU (by omega) this) (by decide)
  simp only [zq];have e:slc t (A.length:Int) (IntKind.wrap .i64 ((A.length:Int)+(1:Int)))=some [x]:=by rw [h];exact slc_one j
  rw [e,ua,(useU_is hs d g).eq,ua,zj (by simp [yK];omega)];simp only [];have:=uses_loop hs d r (A++[x]) (s++[qQ x]) (by rw [h];simp) (by simp;omega);rw [uo,rF] at this;rw [this];simp
theorem uses_is {t:List GA} (hs:Small t) (a:treeB 0 t=true):wV t=some (t.map qQ,0):=by
 unfold wV;rw [qu hs,a,ua];simp only [tg,ul,uG];have:=uses_loop hs a t [] [] rfl (by have:=hs.len;simp;omega);simp only [uV,u6] at this;rw [this,yp]
theorem of_loop {t:List GA} (hs:Small t) (l:treeB 0 t=true) (name:zy):∀(L A:List GA),t=A++L ->
  (∃x ∈ L,x.name=name/\zq (λ(d:Nat) (g:GA) (s1:Unit)=>((if (g.name==name)=true then ((slc t (d:Int) (IntKind.wrap .i64 ((d:Int)+(1:Int)))).bind λa=>((wl name a).bind λb=>some (.ret b))) else some (.nxt ())):Option (Out GI Unit))) L A.length ()=some (.inl (qQ x))) \/
  ((∀x ∈ L,x.name ≠ name)/\zq (λ(d:Nat) (g:GA) (s1:Unit)=>((if (g.name==name)=true then ((slc t (d:Int) (IntKind.wrap .i64 ((d:Int)+(1:Int)))).bind λa=>((wl name a).bind λb=>some (.ret b))) else some (.nxt ())):Option (Out GI Unit))) L A.length ()=some (.inr ()))
 | [],A,_=>.inr ⟨by simp,rfl⟩
 | x::r,A,h=>by
  have o:x ∈ t:=by rw [h];simp
  have n:A.length+1<=maxLen:=by
   have:=hs.len;rw [h] at this;simp only [uo,uk] at this;exact uU (uU (by omega) this) (by decide)
  simp only [zq];by_cases hn:x.name=name
  ·left;refine ⟨x,by simp,hn,?_⟩;have e:slc t (A.length:Int) (IntKind.wrap .i64 ((A.length:Int)+(1:Int)))=some [x]:=by rw [h];exact slc_one n
   have m:=(useU_is hs l o).eq;rw [hn] at m;rw [hn,u2,up rfl,e,ua,m,ua]
  ·have e:(x.name==name)=false:=by simpa using hn
   rw [e];simp only [ul,uG];have:=of_loop hs l name r (A++[x]) (by rw [h];simp);rw [uo,rF] at this;rcases this with ⟨y,f,j,i⟩ | ⟨j,i⟩
   ·exact .inl ⟨y,by simp [f],j,i⟩
   ·refine .inr ⟨λy f=>?_,i⟩;rcases uD.1 f with rfl | f
    ·exact hn
    ·exact j y f
theorem of_is {t:List GA} (hs:Small t) (d:treeB 0 t=true) (name:zy):(∃x ∈ t,x.name=name/\vJ t name=some (qQ x)) \/ ((∀x ∈ t,x.name ≠ name)/\vJ t name=some (GI.mk name 0 0 0 0)):=by
 unfold vJ;have:=of_loop hs d name t [] rfl;simp only [uV] at this;rcases this with ⟨x,b,a,e⟩ | ⟨b,a⟩
 ·exact .inl ⟨x,b,a,by rw [e];rfl⟩
 ·exact .inr ⟨b,by rw [a];rfl⟩
noncomputable def overB (L:List GI) (u:GI):Bool:=x7 L u != some (0,0,0,0)
theorem meterOver_is {L:List GI} (j:mayQ L=true) (m:∀q ∈ L,GI.wf q) {t:List GA} (hs:Small t) (f:treeB 0 t=true):meterOver L t=some ((t.map qQ).filter (overB L),0):=by
 unfold meterOver;rw [uses_is hs f,ua,meterMay_is,j];simp only [s7,u2,ut,ua,tg,pC,ul,uG];rw [vX (overB L) (λu=>u) _ 0 [] (by have:=hs.len;simp [yK];omega)]
 ·simp
 ·intro i u s n g;obtain ⟨x,l,rfl⟩:=tF.1 n;obtain ⟨q,b,_,h⟩:=over_is j m x.name;have h:=h (qQ x) (useU_is hs f l).name (useU_is hs f l).ub;unfold overB;rw [h,ua];generalize (if b=true then (ovr (qQ x).leaves q.leaves,ovr (qQ x).items q.items,ovr (qQ x).tombs q.tombs,ovr (qQ x).bytes q.bytes) else ((0:Int),(0:Int),(0:Int),(0:Int)))=o;obtain ⟨a,b,c,d⟩:=o;have e:(some (a,b,c,d) != some ((0:Int),(0:Int),(0:Int),(0:Int)))=(!(a==(0:Int)&&(b==(0:Int)&&(c==(0:Int)&&(d==(0:Int)&&true))))):=by
   rw [uJ];simp only [oa,oA,un,tG,tv,sj,te,rV];by_cases h1:a=0 <;> by_cases h2:b=0 <;> by_cases h3:c=0 <;> by_cases h4:d=0 <;> simp [h1,h2,h3,h4]
  rw [e];simp only [];rw [zj (by simpa using g)]
theorem up_uniq {t:List GA} (h:upB t=true) {x y:GA} (f:x ∈ t) (g:y ∈ t) (e:x.name=y.name):x=y:=by
 have b:=(qR t).1 h;obtain ⟨i,hi,rfl⟩:=List.mem_iff_getElem.1 f;obtain ⟨j,d,rfl⟩:=List.mem_iff_getElem.1 g;rw [tC] at b;rcases Nat.lt_trichotomy i j with a | a | a
 ·have:=b i j hi d a;rw [e,less_irr] at this;cases this
 ·subst a;rfl
 ·have:=b j i d hi a;rw [e,less_irr] at this;cases this
theorem mem_rows {t:List GA} {r:GE}:r ∈ zu [] t ↔ ∃x ∈ t,r ∈ wN [] x:=by rw [yc,List.mem_flatMap]
end Go.Vv
namespace Go.Vv
open Go
def lfM:GC:=GC.mk (3:Int) (0:Int) (0:Int) (GF.mk (GK.mk (0:Int) (0:Int)) (0:Int)) ([]:zy) ([(GH.mk (0:Int) (GF.mk (GK.mk (0:Int) (1:Int)) (2:Int)) ([]:zy)),(GH.mk (0:Int) (GF.mk (GK.mk (0:Int) (1:Int)) (3:Int)) ([]:zy))]:List GH) ([(GF.mk (GK.mk (0:Int) (1:Int)) (1:Int))]:List GF)
def tabM:List GA:=[⟨[97],[],[⟨[98],[lfM],[]⟩]⟩]
theorem ikM {k:IntKind} {n:Int} (h:(decide (k.min<=n)&&decide (n<=k.max))=true):InK k n:=by
 simp only [ud,um] at h;exact h
theorem tabM_tree:treeB 0 tabM=true:=by
 have h:leafB lfM=true:=by decide
 simp [treeB,tabM,vI,nodeB,upB,leavesB,allI,h];decide
theorem lfM_wf:GC.wf lfM:=⟨ikM rfl,ikM rfl,ikM rfl,⟨⟨ikM rfl,ikM rfl⟩,ikM rfl⟩,tK _,⟨by decide,λy a=>by
 simp only [lfM,uD,List.not_mem_nil,or_false] at a;rcases a with rfl | rfl <;> exact ⟨ikM rfl,⟨⟨ikM rfl,ikM rfl⟩,ikM rfl⟩,tK _⟩⟩,⟨by decide,λy a=>by
 simp only [lfM,uD,List.not_mem_nil,or_false] at a;subst a;exact ⟨⟨ikM rfl,ikM rfl⟩,ikM rfl⟩⟩⟩
theorem tabM_small:Small tabM:=by
 have m1:1<=maxLen:=by decide
 have b:GA.bks tabM<=16777216:=by decide
 refine ⟨?_,b⟩;simp only [tabM,GA.wfs,GA.wf];refine ⟨⟨m1,⟨tK _,λy a=>by cases a⟩,⟨m1,⟨m1,λy a=>?_⟩,trivial⟩,trivial⟩,trivial⟩;rw [uL.1 a];exact lfM_wf
theorem known45:qN=some true:=by
 unfold qN;simp only [vu,ua];have j:=uses_is tabM_small tabM_tree;have m:=useU_is tabM_small tabM_tree (x:=⟨[97],[],[⟨[98],[lfM],[]⟩]⟩) (by simp [tabM]);have e:tabM.map qQ=[qQ ⟨[97],[],[⟨[98],[lfM],[]⟩]⟩]:=rfl;rw [e] at j;have g:=m.v;have p:zu [] [(⟨[97],[],[⟨[98],[lfM],[]⟩]⟩:GA)]=[⟨[[97],[98]],lfM⟩]:=by simp [zu,wN]
 rw [p] at g;have h:=m.name;have o:=m.b;generalize qQ ⟨[97],[],[⟨[98],[lfM],[]⟩]⟩=w at j g h o;have f:wV ([(GA.mk ([97]:zy) ([]:List GC) ([(GA.mk ([98]:zy) ([lfM]:List GC) ([]:List GA))]:List GA))]:List GA)=some ([w],0):=j;unfold lfM at f;rw [f,ua];obtain ⟨n,a,b,c,d⟩:=w;simp only [itS,toS,lfM,uC,tE,tZ,List.sum_nil,uk,uV] at g h o;obtain ⟨i,l,v3⟩:=g;subst h;have i:a=1:=by simpa using i
 have l:b=2:=by simpa using l
 have v3:c=1:=by simpa using v3
 subst i l v3;simp [yf];omega
theorem great45_tot {L:List GI} {t:List GA} (h:Small t) (o:GM):∃b,law45Xgreat L t o=some b:=by
 unfold law45Xgreat
 obtain ⟨b,a⟩:=ref07Great_tot h;rw [lp_all0 (λx=>!decide (((x.name).length:Int) > (40:Int))) (r:=true)]
 ·split
  ·rw [a];split <;> exact ⟨_,rfl⟩
  ·exact ⟨_,rfl⟩
 ·intro i x _;cases decide (((x.name).length:Int) > (40:Int)) <;> rfl
theorem fits_is {L:List GI} (f:mayQ L=true) {t u:List GA} (hs:Small t) (h:treeB 0 t=true) {e:GJ} (g:ww e=true) (j:treeApply t e=some (u,0)) {d:zy} {w:List zy} (l:e.op.path=d::w) {a b:GI} (p:vJ t d=some a) (i:vJ u d=some b)
  {o:Int×Int×Int×Int} (m:x7 L b=some o) :
  meterFits L t e=some (!((decide (o.1 > 0)&&decide (b.leaves > a.leaves)) || (decide (o.2.1 > 0)&&decide (b.items > a.items)) || (decide (o.2.2.1 > 0)&&decide (b.tombs > a.tombs)) || (decide (o.2.2.2 > 0)&&decide (b.bytes > a.bytes))),0):=by
 unfold meterFits;rw [meterMay_is,f,qu hs,h,opMayEvent_is,g];simp only [ua,tg,u2,ut,pC,ul,uG];rw [j,ua];have hi:yu e.op.path (0:Int)=some d:=by rw [l];rfl
 rw [hi,ua,p,ua];simp only [xP,ua];rw [i];simp only [ua];rw [m];simp only [ua];rw [zj (by decide)];have n:List.range (((4:Int)).toNat)=[0,1,2,3]:=rfl;rw [n];simp only [zq,ut,uZ,ra,uG,Nat.reduceAdd,show (2:Nat) ≠ 0 from by omega,show (2:Nat) ≠ 1 from by omega,show (3:Nat) ≠ 0 from by omega,show (3:Nat) ≠ 1 from by omega,show (3:Nat) ≠ 2 from by omega];generalize (decide (o.1 > 0)&&decide (b.leaves > a.leaves))=c1;generalize (decide (o.2.1 > 0)&&decide (b.items > a.items))=c2;generalize (decide (o.2.2.1 > 0)&&decide (b.tombs > a.tombs))=c3;generalize (decide (o.2.2.2 > 0)&&decide (b.bytes > a.bytes))=c4;cases c1 <;> cases c2 <;> cases c3 <;> cases c4 <;> rfl
end Go.Vv
namespace Go.Vv
open Go
set_option maxRecDepth 100000 in
theorem u8_low {n:Int}:IntKind.wrap .u8 (((BitVec.ofInt (IntKind.bits .u8) (IntKind.wrap .u8 n) ||| BitVec.ofInt (IntKind.bits .u8) (128:Int)).toNat:Int))=n % 128+128:=by
 have key:∀a:Fin 256,((BitVec.ofInt 8 (a.val:Int) ||| BitVec.ofInt 8 (128:Int)).toNat:Int)=(a.val:Int) % 128+128:=by decide
 have h:=u8_range n;have b:(IntKind.wrap .u8 n) % 128=n % 128:=by rw [IntKind.wrap_u8];omega
 have:=key ⟨(IntKind.wrap .u8 n).toNat,by omega⟩;simp only [Int.toNat_of_nonneg h.1] at this;rw [show IntKind.bits .u8=8 from rfl,this,b,IntKind.wrap_u8];omega
theorem num_eq:∀(d:Nat) (n:Int) (b r:List UInt8),0<=n->n < 18446744073709551616->n.toNat < d->xg b n=some r->∀rest,lp (ye (λ(s1:Int×(List UInt8))=>((if ((IntKind.wrap .u64 (Int.tdiv s1.1 (128:Int)))==(0:Int))=true then (yf (0<=(IntKind.wrap .u8 (Int.tmod s1.1 (128:Int)))/\(IntKind.wrap .u8 (Int.tmod s1.1 (128:Int))) < 256) ((yf ((s1.2).length+(([(UInt8.ofNat (IntKind.wrap .u8 (Int.tmod s1.1 (128:Int))).toNat)]:List UInt8)).length<=yK) (some (.ret (s1.2++([(UInt8.ofNat (IntKind.wrap .u8 (Int.tmod s1.1 (128:Int))).toNat)]:List UInt8))))))) else (yf (0<=(IntKind.wrap .u8 ((IntKind.wrap .u8 (Int.tmod s1.1 (128:Int)))+(128:Int)))/\(IntKind.wrap .u8 ((IntKind.wrap .u8 (Int.tmod s1.1 (128:Int)))+(128:Int))) < 256) ((yf ((s1.2).length+(([(UInt8.ofNat (IntKind.wrap .u8 ((IntKind.wrap .u8 (Int.tmod s1.1 (128:Int)))+(128:Int))).toNat)]:List UInt8)).length<=yK) (some (.nxt ((IntKind.wrap .u64 (Int.tdiv s1.1 (128:Int))),(s1.2++([(UInt8.ofNat (IntKind.wrap .u8 ((IntKind.wrap .u8 (Int.tmod s1.1 (128:Int)))+(128:Int))).toNat)]:List UInt8))))))))):Option (Out (List UInt8) (Int×(List UInt8))))) (n,b)) rest=some r:=by
 intro d
 induction d with
 | zero=>intro n b r h0 p e;omega
 | succ d ih =>
  intro n b r h0 p e h rest;unfold xg at h;rw [xr] at h ⊢;dsimp only at h ⊢;have g:Int.tdiv n 128=n / 128:=Int.tdiv_eq_ediv_of_nonneg h0;have j:Int.tmod n 128=n % 128:=Int.tmod_eq_emod_of_nonneg h0;have l:IntKind.wrap .u64 (n / 128)=n / 128:=by rw [IntKind.wrap_u64];omega
  have o:IntKind.wrap .u8 (n % 128)=n % 128:=by rw [IntKind.wrap_u8];omega
  have i:IntKind.wrap .u8 (n % 128+128)=n % 128+128:=by rw [IntKind.wrap_u8];omega
  have m:(Int.fdiv n (2 ^ (min (7:Int).toNat (IntKind.bits .u64))))=n / 128:=by
   have:(2:Int) ^ (min (7:Int).toNat (IntKind.bits .u64))=128:=by decide
   rw [this,sy _ (by omega)]
  rw [u8_low,m] at h;simp only [g,j,l,o,i];by_cases hn:n > 127
  ·rw [up (uE hn),zj (by omega)] at h;rw [uu (by simp;omega),zj (by omega)];by_cases a:b.length+([UInt8.ofNat (n % 128+128).toNat]:List UInt8).length<=yK
   ·rw [zj a] at h ⊢;exact ih (n / 128) _ r (by omega) (by omega) (by omega) (by unfold xg;exact h) rest
   ·unfold yf at h;rw [uu a] at h;cases h
  ·rw [uu (by simp [hn])] at h;rw [up (by simp;omega),zj (by omega)];have f:IntKind.wrap .u8 n=n % 128:=by rw [IntKind.wrap_u8];omega
   simp only [yp,f] at h;rw [zj (by omega)] at h;refine zV h (λa h=>?_);rw [zj a];cases h;rfl
theorem num2 {b r:List UInt8} {n:Int} (h0:0<=n) (a:n < 18446744073709551616) (h:xg b n=some r) (d:b.length<=2147483000):yR b n=some r:=by
 unfold yR;rw [zj (by simp [yK];omega),u6];exact num_eq _ n b r h0 a (sX _) h _
theorem numw2 {b r:List UInt8} {n:Int} (h:xg b (IntKind.wrap .u64 n)=some r) (a:b.length<=2147483000):yR b (IntKind.wrap .u64 n)=some r:=num2 (u64_range n).1 (u64_range n).2 h a
theorem zig {n:Int} (h0:-9223372036854775808<=n) (i:n<=9223372036854775807):IntKind.wrap .u64 (((BitVec.ofInt (IntKind.bits .u64) (IntKind.wrap .u64 ((IntKind.wrap .u64 (n)) * 2 ^ (min (1:Int).toNat (IntKind.bits .u64)))) ^^^ BitVec.ofInt (IntKind.bits .u64) (IntKind.wrap .u64 ((Int.fdiv n (2 ^ (min (63:Int).toNat (IntKind.bits .i64))))))).toNat:Int))=if 0<=n then 2 * n else -2 * n - 1:=by
 have e:(2:Int) ^ (min (1:Int).toNat (IntKind.bits .u64))=2:=by decide
 have f:(2:Int) ^ (min (63:Int).toNat (IntKind.bits .i64))=9223372036854775808:=by decide
 rw [e,f,sy _ (by omega),show IntKind.bits .u64=64 from rfl];by_cases h:0<=n
 ·rw [up h,show n / 9223372036854775808=0 by omega];have b:IntKind.wrap .u64 (0:Int)=0:=rfl;have d:IntKind.wrap .u64 n=n:=by rw [IntKind.wrap_u64];omega
  have a:IntKind.wrap .u64 (n * 2)=2 * n:=by rw [IntKind.wrap_u64];omega
  rw [b,d,a,show (BitVec.ofInt 64 0)=0#64 from rfl,BitVec.xor_zero,BitVec.toNat_ofInt];have g:(((2 * n) % (((2 ^ 64:Nat)):Int)).toNat:Int)=2 * n:=by omega
  rw [g,IntKind.wrap_u64];omega
 ·rw [uu h,show n / 9223372036854775808=-1 by omega];have b:IntKind.wrap .u64 (-1:Int)=18446744073709551615:=by rw [IntKind.wrap_u64];omega
  have d:IntKind.wrap .u64 n=n+18446744073709551616:=by rw [IntKind.wrap_u64];omega
  have a:IntKind.wrap .u64 ((n+18446744073709551616) * 2)=2 * n+18446744073709551616:=by rw [IntKind.wrap_u64];omega
  rw [b,d,a,show (BitVec.ofInt 64 18446744073709551615)=BitVec.allOnes 64 from rfl,BitVec.xor_allOnes,BitVec.toNat_not,BitVec.toNat_ofInt,IntKind.wrap_u64];omega
theorem int2 {b r:List UInt8} {n:Int} (f:InK .i64 n) (h:codeInt b n=some r) (g:b.length<=2147483000):ref02Int b n=some r:=by
 unfold InK at f;simp [IntKind.min,IntKind.max,IntKind.signed,IntKind.bits] at f;unfold codeInt at h;rw [zig (by omega) (by omega)] at h;obtain ⟨v,e,h⟩:=tx.1 h;cases h;unfold ref02Int;by_cases h0:n >= 0
 ·rw [up h0] at e;have d:IntKind.wrap .u64 n=n:=by rw [IntKind.wrap_u64];omega
  have a:IntKind.wrap .u64 (2 * n)=2 * n:=by rw [IntKind.wrap_u64];omega
  rw [up (uE h0),d,a,num2 (by omega) (by omega) e g];rfl
 ·rw [uu (by omega)] at e;have d:IntKind.wrap .i64 (n+1)=n+1:=yU (by omega);have a:IntKind.wrap .i64 (0 - (n+1))=-n - 1:=(yU (by omega)).trans (by omega);have l:IntKind.wrap .u64 (-n - 1)=-n - 1:=by rw [IntKind.wrap_u64];omega
  have i:IntKind.wrap .u64 (2 * (-n - 1))=-2 * n - 2:=by rw [IntKind.wrap_u64];omega
  have j:IntKind.wrap .u64 (-2 * n - 2+1)=-2 * n - 1:=by rw [IntKind.wrap_u64];omega
  rw [uu (by simp;omega),d,a,l,i,j,num2 (by omega) (by omega) e g];rfl
theorem text2 {b r:List UInt8} {s:zy} (h:wX b s=some r) (j:b.length<=2147483000):wT b s=some r:=by
 unfold wX at h;obtain ⟨v,e,h⟩:=tx.1 h;refine zV h (λf h=>?_);cases h;unfold wT;rw [numw2 e j,ua];have key:∀(L:zy) (i:Nat) (q:List UInt8),q.length+L.length<=yK->zq (ρ:=List UInt8) (λ(l:Nat) (d:UInt8) (a:(List UInt8))=>((yf ((a).length+(([d]:List UInt8)).length<=yK) (some (.nxt (a++([d]:List UInt8))))):Option (Out _ (List UInt8)))) L i q=some (.inr (q++L)):=by
  intro L
  induction L with
  | nil=>intro i q _;simp [zq]
  | cons x L ih =>
   intro i q g;simp only [uk] at g;simp only [zq];rw [zj (by simp;omega)];simp only [];rw [ih (i+1) (q++[x]) (by simp;omega)];simp
 rw [key s 0 v f,yp]
theorem dot2 {b r:List UInt8} {d:GF} (i:GF.wf d) (h:xb b d=some r) (l:b.length<=2147482000):xF b d=some r:=by
 have hs:0<=d.seq/\d.seq < 18446744073709551616:=u64_of i.2;unfold xb at h;obtain ⟨j,a,q,t⟩:=wb (b:=b) (n:=d.actor.rep) (by omega);obtain ⟨g,e,p,m⟩:=wb (b:=j) (n:=d.actor.inc) (by omega);obtain ⟨o,f,a3,s⟩:=num_tot (b:=g) hs.1 hs.2 (by omega);simp only [a,e,f,ua] at h;cases h;unfold xF;rw [numw2 a (by omega),ua,numw2 e (by omega),ua,num2 hs.1 hs.2 f (by omega)];rfl
theorem acc2P {ι α ρ τ:Type} {p:ι->Prop} {F:ι->Nat->α->List UInt8->Option (Out ρ (List UInt8))} {G:ι->Nat->α->List UInt8->Option (Out τ (List UInt8))} {K:Nat} (c:α->Nat):∀(L:List α) (i:Nat) (b:List UInt8),(∀i x s,x ∈ L->s.length+c x<=K->∃r,(∀n,p n->F n i x s=some (.nxt r)/\G n i x s=some (.nxt r))/\s.length<=r.length/\r.length<=s.length+c x) ->
  b.length+(L.map c).sum<=K->∃r,(∀n,p n->zq (F n) L i b=some (.inr r)/\zq (G n) L i b=some (.inr r))/\b.length<=r.length/\r.length<=b.length+(L.map c).sum
 | [],_,b,_,_=>⟨b,λ_ _=>⟨rfl,rfl⟩,uh _,by simp⟩
 | x::t,i,b,h,hb=>by
  simp only [uC,tZ] at hb ⊢;obtain ⟨r,e,m,g⟩:=h i x b (by simp) (by omega);obtain ⟨q,d,l,j⟩:=acc2P c t (i+1) r (λi y s f=>h i y s (by simp [f])) (by omega);exact ⟨q,λn a=>by simp only [zq,(e n a).1,(d n a).1,(e n a).2,(d n a).2,pk],by omega,by omega⟩
noncomputable def leafD {ρ:Type} (b:List UInt8) (l:GC) (rest:List UInt8->Option (Out ρ (List UInt8))):Option (Out ρ (List UInt8)) :=
 (yR b (IntKind.wrap .u64 (l.typ))).bind λv202=>(ref02Int v202 l.n).bind λv203=>(yR v203 l.time).bind λv204=>(xF v204 l.dot).bind λv205=>(wT v205 l.text).bind λv206=>(yR v206 (IntKind.wrap .u64 (((l.items).length:Int)))).bind λv208=>lp (zq (λ(n3:Nat) (x3:GH) (s3:(List UInt8))=>(((yR s3 x3.time).bind λv230=>((xF v230 x3.dot).bind λv231=>((wT v231 x3.text).bind λv232=>some (.nxt v232)))):Option (Out _ (List UInt8)))) l.items 0 v208) λ(s3:(List UInt8))=>(yR s3 (IntKind.wrap .u64 (((l.tombs).length:Int)))).bind λv234=>lp (zq (λ(n4:Nat) (x4:GF) (s4:(List UInt8))=>(((xF s4 x4).bind λv252=>some (.nxt v252)):Option (Out _ (List UInt8)))) l.tombs 0 v234) rest
theorem leafS2 {ρ:Type} {b:List UInt8} {l:GC} (hw:GC.wf l) (hb:b.length+10 * l.bk<=2147480000):∃r,wo b l=some r/\(∀rest:List UInt8->Option (Out ρ (List UInt8)),leafD b l rest=rest r)/\b.length<=r.length/\r.length<=b.length+10 * l.bk:=by
 obtain ⟨w1,P,o,w,w5,U,M⟩:=hw;have hk:l.bk=12+l.text.length+(l.items.map GH.bk).sum+(l.tombs.map GF.bk).sum:=by
  have:GF.bk l.dot=5:=rfl;simp only [GC.bk,this];omega
 have hI:(l.items.map λx:GH=>50+x.text.length).sum<=10 * (l.items.map GH.bk).sum:=sum_mul (λx=>by have:GF.bk x.dot=5:=rfl;simp only [GH.bk,this];omega) _;have hT:(l.tombs.map λ_:GF=>30).sum<=10 * (l.tombs.map GF.bk).sum:=sum_mul (λx=>by have:GF.bk x=5:=rfl;simp only [this];omega) _;unfold wo leafD;obtain ⟨T,H,a1,b1⟩:=wb (b:=b) (n:=l.typ) (by omega);obtain ⟨Z,A,a2,b2⟩:=int_tot (b:=T) (n:=l.n) (by omega);obtain ⟨r3,L,a3,b3⟩:=num_tot (b:=Z) (u64_of o).1 (u64_of o).2 (by omega);obtain ⟨X,E,a4,b4⟩:=dot_tot (b:=r3) w (by omega);obtain ⟨r5,J,a5,b5⟩:=text_tot (b:=X) (s:=l.text) (by omega);obtain ⟨O,C,a6,b6⟩:=wb (b:=r5) (n:=((l.items).length:Int)) (by omega);obtain ⟨V,B,a7,b7⟩:=acc2P (K:=2147480000) (ρ:=List UInt8) (τ:=Out ρ (List UInt8)) (p:=λ_:Unit=>True) (F:=λ_ (n1:Nat) (a:GH) (s1:(List UInt8))=>(((xg s1 a.time).bind λv25=>((xb v25 a.dot).bind λu=>((wX u a.text).bind λv=>some (.nxt v)))):Option (Out _ (List UInt8))))
  (G:=λ_ (n3:Nat) (q:GH) (W:(List UInt8))=>(((yR W q.time).bind λg=>((xF g q.dot).bind λd=>((wT d q.text).bind λf=>some (.nxt f)))):Option (Out _ (List UInt8))))
  (λx:GH=>50+x.text.length) l.items 0 O (λi x s j hs=>by
   obtain ⟨a,m,q⟩:=U.2 x j;obtain ⟨S,z,c1,d1⟩:=num_tot (b:=s) (u64_of a).1 (u64_of a).2 (by omega);obtain ⟨t,e,c2,R⟩:=dot_tot (b:=S) m (by omega);obtain ⟨Q,y,c3,d3⟩:=text_tot (b:=t) (s:=x.text) (by omega);exact ⟨Q,λ_ _=>⟨by simp only [z,e,y,ua],by rw [num2 (u64_of a).1 (u64_of a).2 z (by omega),ua,dot2 m e (by omega),ua,text2 y (by omega),ua]⟩,by omega,by omega⟩) (by omega)
 obtain ⟨r8,I,a8,b8⟩:=wb (b:=V) (n:=((l.tombs).length:Int)) (by omega);obtain ⟨r9,D,a9,b9⟩:=acc2P (K:=2147480000) (ρ:=List UInt8) (τ:=Out ρ (List UInt8)) (p:=λ_:Unit=>True) (F:=λ_ (n2:Nat) (m:GF) (s2:(List UInt8))=>(((xb s2 m).bind λv45=>some (.nxt v45)):Option (Out _ (List UInt8))))
  (G:=λ_ (n4:Nat) (N:GF) (Y:(List UInt8))=>(((xF Y N).bind λh=>some (.nxt h)):Option (Out _ (List UInt8))))
  (λ_:GF=>30) l.tombs 0 r8 (λi x s j hs=>by
   obtain ⟨t,e,c2,R⟩:=dot_tot (b:=s) (M.2 x j) (by omega);exact ⟨t,λ_ _=>⟨by simp only [e,ua],by rw [dot2 (M.2 x j) e (by omega),ua]⟩,by omega,by omega⟩) (by omega)
 simp only [H,A,L,E,J,C,ua];rw [(B () trivial).1,yp,I,ua,(D () trivial).1,yp];refine ⟨_,rfl,λrest=>?_,by omega,by omega⟩;rw [numw2 H (by omega),ua,int2 P A (by omega),ua,num2 (u64_of o).1 (u64_of o).2 L (by omega),ua,dot2 w E (by omega),ua,text2 J (by omega),ua,numw2 C (by omega),ua,(B () trivial).2,yp,numw2 I (by omega),ua,(D () trivial).2,yp]
theorem put2:∀(d:Nat) (t:List GA) (b:List UInt8),GA.deps t < d->Small t->b.length+10+10 * GA.bks t<=2147480000->∃r,(∀n,d<=n->wQ n b t=some r/\qG n b t=some r)/\b.length+1<=r.length/\r.length<=b.length+10+10 * GA.bks t
 | 0,_,_,h,_,_=>by omega
 | d+1,t,b,h,hs,hb=>by
  obtain ⟨X,D,a1,b1⟩:=wb (b:=b) (n:=((t).length:Int)) (by omega);have J:(t.map λx=>10 * GA.bk x).sum<=10 * GA.bks t:=by rw [GA.bks_eq];exact sum_mul (λ_=>uh _) t
  obtain ⟨O,I,a2,b2⟩:=acc2P (K:=2147480000) (ρ:=List UInt8) (τ:=List UInt8) (p:=λn=>d<=n) (F:=λn (n1:Nat) (a:GA) (s1:(List UInt8))=>(((wX s1 a.name).bind λv23=>((xg v23 (IntKind.wrap .u64 (((a.leaves).length:Int)))).bind λv25=>(lp (zq (λ(n2:Nat) (f:GC) (s2:(List UInt8))=>(((wo s2 f).bind λe=>some (.nxt e)):Option (Out _ (List UInt8)))) a.leaves 0 v25) λ(s2:(List UInt8))=>((wQ n s2 a.subs).bind λA=>some (.nxt A))))):Option (Out _ (List UInt8))))
   (G:=λn (n1:Nat) (a:GA) (s1:(List UInt8))=>(((wT s1 a.name).bind λv=>((yR v (IntKind.wrap .u64 (((a.leaves).length:Int)))).bind λu=>(lp (zq (λ(n2:Nat) (f:GC) (s2:(List UInt8))=>(leafD s2 f (λC=>some (.nxt C)):Option (Out _ (List UInt8)))) a.leaves 0 u) λ(s2:(List UInt8))=>((qG n s2 a.subs).bind λo=>some (.nxt o))))):Option (Out _ (List UInt8))))
   (λx=>10 * GA.bk x) t 0 X (λi x s z T=>by
    have W:=bk_node x;have S:=qa z;have V:=xT x;have g:=(GA.wfs_iff t).1 hs.1 x z;have B:∀l ∈ x.leaves,GC.wf l:=by
     cases x;simp only [GA.wf] at g;exact g.2.1.2
    have hL:(x.leaves.map λl=>10 * GC.bk l).sum<=10 * (x.leaves.map GC.bk).sum:=sum_mul (λ_=>uh _) _;obtain ⟨Q,H,c1,d1⟩:=text_tot (b:=s) (s:=x.name) (by omega);obtain ⟨Y,M,c2,d2⟩:=wb (b:=Q) (n:=((x.leaves).length:Int)) (by omega);obtain ⟨U,E,c3,d3⟩:=acc2P (K:=2147480000) (p:=λ_:Unit=>True) (ρ:=Out (List UInt8) (List UInt8)) (τ:=Out (List UInt8) (List UInt8)) (F:=λ_ (n2:Nat) (f:GC) (s2:(List UInt8))=>(((wo s2 f).bind λe=>some (.nxt e)):Option (Out _ (List UInt8))))
     (G:=λ_ (n2:Nat) (f:GC) (s2:(List UInt8))=>(leafD s2 f (λC=>some (.nxt C)):Option (Out _ (List UInt8))))
     (λl=>10 * GC.bk l) x.leaves 0 Y (λj l s P y=>by
      obtain ⟨q,R,g4,Z,g3⟩:=leafS2 (ρ:=Out (List UInt8) (List UInt8)) (b:=s) (B l P) y;exact ⟨q,λ_ _=>⟨by rw [R,ua],g4 _⟩,Z,g3⟩) (by omega)
    obtain ⟨N,L,c4,d4⟩:=put2 d x.subs U (by omega) (hs.subs z) (by omega);refine ⟨N,λn w=>⟨?_,?_⟩,by omega,by omega⟩
    ·simp only [H,M,ua];rw [(E () trivial).1,yp,(L n w).1,ua]
    ·rw [text2 H (by omega),ua,numw2 M (by omega),ua,(E () trivial).2,yp,(L n w).2,ua]) (by omega)
  refine ⟨O,λn w=>?_,by omega,by omega⟩;obtain ⟨m,rfl⟩:∃m,n=m+1:=⟨n - 1,by omega⟩
  unfold wQ qG;rw [D,ua,(I m (by omega)).1,yp,numw2 D (by omega),ua];refine ⟨rfl,?_⟩;have:=(I m (by omega)).2;unfold leafD at this;rw [this,yp]
theorem put_both {t:List GA} (hs:Small t):∃r,statePut [] t=some r/\ref09Put [] t=some r:=by
 have b:=hs.2;obtain ⟨r,e,d,f⟩:=put2 (GA.deps t+1) t [] (by omega) hs (by simp;omega);exact ⟨r,qc _ λn a=>(e n a).1,qc _ λn a=>(e n a).2⟩
end Go.Vv
namespace Go.Vv
open Go
variable {α:Type} [Inhabited α] {k:α->Int}
def At (L:List α) (i:Int):α:=L.getD i.toNat default
def Eqv (k:α->Int) (L R:List α):Prop:=∀q:Int,R.filter (λx=>k x==q)=L.filter (λx=>k x==q)
def Srt (k:α->Int) (L:List α) (a b:Int):Prop:=∀i j:Int,a<=i->i<=j->j < b->k (At L i)<=k (At L j)
structure Turn (k:α->Int) (L R:List α) (a b:Int):Prop where
 len:R.length=L.length
 eqv:Eqv k L R
 out:∀i:Int,0<=i->(i < a \/ b<=i)->At R i=At L i
 inn:∀i:Int,a<=i->i < b->∃j:Int,a<=j/\j < b/\At R i=At L j
theorem Turn.refl (L:List α) (a b:Int):Turn k L L a b:=⟨rfl,λ_=>rfl,λ_ _ _=>rfl,λi e d=>⟨i,e,d,rfl⟩⟩
theorem Turn.trans {L R S:List α} {a b:Int} (h:Turn k L R a b) (g:Turn k R S a b):Turn k L S a b :=
 ⟨g.len.trans h.len,λq=>(g.eqv q).trans (h.eqv q),λi h0 d=>(g.out i h0 d).trans (h.out i h0 d),λi d f=>by
  obtain ⟨j,n,o,e⟩:=g.inn i d f;obtain ⟨m,m1,m2,l⟩:=h.inn j n o;exact ⟨m,m1,m2,e.trans l⟩⟩
theorem Turn.wide {L R:List α} {a b a' d:Int} (h:Turn k L R a b) (h0:0<=a') (l:a'<=a) (o:b<=d):Turn k L R a' d :=
 ⟨h.len,h.eqv,λi h0 f=>h.out i h0 (by omega),λi f g=>by
  by_cases hi:a<=i/\i < b
  ·obtain ⟨j,m,n,e⟩:=h.inn i hi.1 hi.2;exact ⟨j,by omega,by omega,e⟩
  ·exact ⟨i,f,g,h.out i (by omega) (by omega)⟩⟩
theorem Srt.sub {L:List α} {a b a' d:Int} (h:Srt k L a b) (f:a<=a') (l:d<=b):Srt k L a' d:=λi j m e g=>h i j (by omega) e (by omega)
theorem Srt.same {L R:List α} {a b:Int} (h:Srt k L a b) (e:∀i,a<=i->i < b->At R i=At L i):Srt k R a b:=λi j f g d=>by
 rw [e i f (by omega),e j (by omega) d];exact h i j f g d
theorem At_set {L:List α} {i j:Int} {y:α} (h0:0<=i) (b:i < L.length) (a:0<=j):At (L.set i.toNat y) j=if j=i then y else At L j:=by
 unfold At;simp only [ur,rj];by_cases h:j=i
 ·subst h;rw [up rfl,up rfl,up (by omega)];rfl
 ·rw [uu (by omega),uu h]
theorem xY {L:List α} {i:Int} (h0:0<=i) (a:i < L.length):yu L i=some (At L i):=by
 unfold yu At;rw [up h0,ur,ug (by omega)];rfl
omit [Inhabited α] in
theorem eqv_swap:∀{E:List α} {i:Nat} {x y:α},E[i]?=some x->E[i+1]?=some y->k x ≠ k y->∀q:Int,((E.set i y).set (i+1) x).filter (λz=>k z==q)=E.filter (λz=>k z==q)
 | [],_,_,_,h,_,_,_=>by simp at h
 | [_],_,_,_,_,h,_,_=>by simp at h
 | u::v::r,0,x,y,h1,h2,hn,q=>by
  simp only [pc,un,uZ,s6] at h1 h2;subst h1 h2;simp only [uf,uZ,ue,tL,sx];by_cases e1:k u=q
  ·have a:¬ k v=q:=λe=>hn (e1.trans e.symm);simp only [up e1,uu a]
  ·simp only [uu e1]
 | u::v::r,i+1,x,y,h1,h2,hn,q=>by
  simp only [s6] at h1 h2;have:=eqv_swap (E:=v::r) h1 h2 hn q;simp only [ue];rw [tL,tL,this]
theorem swap_turn {E:List α} {i:Int} (h0:0<=i) (g:i+1 < E.length) (d:k (At E i) ≠ k (At E (i+1))):Turn k E ((E.set i.toNat (At E (i+1))).set (i+1).toNat (At E i)) i (i+2) /\
  At ((E.set i.toNat (At E (i+1))).set (i+1).toNat (At E i)) i=At E (i+1)/\At ((E.set i.toNat (At E (i+1))).set (i+1).toNat (At E i)) (i+1)=At E i:=by
 have hs:∀j:Int,0<=j->At ((E.set i.toNat (At E (i+1))).set (i+1).toNat (At E i)) j=if j=i+1 then At E i else if j=i then At E (i+1) else At E j:=λj a=>by
  rw [At_set (by omega) (by rw [uI];exact g) a,At_set h0 (by omega) a]
 have e:(i+1).toNat=i.toNat+1:=by omega
 refine ⟨⟨by simp,λq=>?_,λj b f=>?_,λj b f=>?_⟩,?_,?_⟩
 ·rw [e];refine eqv_swap ?_ ?_ d q
  ·unfold At;rw [ur,ug (by omega)];rfl
  ·unfold At;rw [e,ur,ug (by omega)];rfl
 ·rw [hs j b,uu (by omega),uu (by omega)]
 ·rw [hs j (by omega)];by_cases a:j=i+1
  ·exact ⟨i,by omega,by omega,by rw [up a]⟩
  ·exact ⟨i+1,by omega,by omega,by rw [uu a,up (by omega)]⟩
 ·rw [hs i h0,uu (by omega),up rfl]
 ·rw [hs (i+1) (by omega),up rfl]
omit [Inhabited α] in
theorem set_comm2 {E:List α} {i:Int} (h0:0<=i) (x y:α):(E.set (i+1).toNat x).set i.toNat y=(E.set i.toNat y).set (i+1).toNat x:=List.set_comm _ _ (by omega)
omit [Inhabited α] in
theorem Eqv.mem {L R:List α} (h:Eqv k L R) {x:α}:x ∈ R ↔ x ∈ L:=by
 have:=h (k x);have e:∀M:List α,x ∈ M ↔ x ∈ M.filter (λz=>k z==k x):=λM=>by simp [tf]
 rw [e R,e L,this]
omit [Inhabited α] in
theorem ord_uniq:∀(A B:List α),A.Pairwise (λx y=>k x<=k y)->B.Pairwise (λx y=>k x<=k y)->Eqv k A B->A=B
 | [],[],_,_,_=>rfl
 | [],y::B,_,_,h=>by have:=(h.mem (x:=y)).1 (by simp);cases this
 | x::A,[],_,_,h=>by have:=(h.mem (x:=x)).2 (by simp);cases this
 | x::A,y::B,hA,hB,h=>by
  obtain ⟨i,g⟩:=uW.1 hA;obtain ⟨d,f⟩:=uW.1 hB;have l:k y<=k x:=by
   rcases uD.1 ((h.mem (x:=x)).2 (by simp)) with e | e
   ·rw [e];exact uT _
   ·exact d x e
  have j:k x<=k y:=by
   rcases uD.1 ((h.mem (x:=y)).1 (by simp)) with e | e
   ·rw [e];exact uT _
   ·exact i y e
  have b:k x=k y:=by omega
  have a:=h (k x);simp only [tL,b,u2,ut,s9] at a;obtain ⟨rfl,a⟩:=a;refine congrArg _ (ord_uniq A B g f λq=>?_);by_cases hq:k y=q
  ·subst hq;exact a
  ·have:=h q;simp only [tL,sx,uu hq] at this;exact this
theorem Srt.pair {L:List α} (h:Srt k L 0 L.length):L.Pairwise (λx y=>k x<=k y):=by
 rw [tC];intro i j hi b a;have:=h (i:Int) (j:Int) (by omega) (by omega) (by omega);unfold At at this;simpa [ur,hi,b] using this
omit [Inhabited α] in
theorem eqv_parts {P A B S:List α} (h:∀x ∈ A,∀y ∈ B,k x ≠ k y):Eqv k (P++(A++(B++S))) (P++(B++(A++S))):=λq=>by
 simp only [tp];congr 1;rw [<- uy,<- uy];congr 1;by_cases hA:A.filter (λx=>k x==q)=[]
 ·rw [hA,tA,u6]
 ·have b:B.filter (λx=>k x==q)=[]:=by
   obtain ⟨x,a⟩:=List.exists_mem_of_ne_nil _ hA;obtain ⟨d,f⟩:=tf.1 a;refine tH.2 λy g e=>?_;exact h x d y g ((sx.1 f).trans (sx.1 e).symm)
  rw [b,tA,u6]
def rotF {β:Type} (f:Int->β) (a m b:Int) (x:Int):β:=if a<=x/\x < a+(b - m) then f (x - a+m) else if a+(b - m)<=x/\x < b then f (x - (b - m)) else f x
theorem rot_turn {L R:List α} {a m b:Int} (h0:0<=a) (F:a<=m) (E:m<=b) (K:b<=L.length) (t:R.length=L.length) (l:∀x,0<=x->At R x=rotF (At L) a m b x) (C:∀i j:Int,a<=i->i < m->m<=j->j < b->k (At L i) ≠ k (At L j)):Turn k L R a b:=by
 refine ⟨t,?_,λi q d=>?_,λi q d=>?_⟩
 ·have w:L=L.take a.toNat++((L.drop a.toNat).take (m - a).toNat++((L.drop m.toNat).take (b - m).toNat++L.drop b.toNat)):=by
   have s:L.drop m.toNat=(L.drop m.toNat).take (b - m).toNat++L.drop b.toNat:=by
    have:=(sG (b - m).toNat (L.drop m.toNat)).symm
    rwa [tB,show m.toNat+(b - m).toNat=b.toNat by omega] at this
   have h:L.drop a.toNat=(L.drop a.toNat).take (m - a).toNat++L.drop m.toNat:=by
    have:=(sG (m - a).toNat (L.drop a.toNat)).symm
    rwa [tB,show a.toNat+(m - a).toNat=m.toNat by omega] at this
   rw [<- s,<- h,sG]
  have r:R=L.take a.toNat++((L.drop m.toNat).take (b - m).toNat++((L.drop a.toNat).take (m - a).toNat++L.drop b.toNat)):=by
   refine List.ext_getElem (by simp;omega) λn z n2=>?_;have d:=l (n:Int) (by omega);have g:∀(M:List α) (i:Nat) (hi:i < M.length),At M (i:Int)=M[i]:=λM i hi=>by
    unfold At;rw [ur,uB,ug hi];rfl
   rw [g R n z] at d;rw [d];unfold rotF;by_cases c1:(n:Int) < a
   ·rw [uu (by omega),uu (by omega),rW (by simp;omega),po,g L n (by omega)]
   ·rw [rS (by simp;omega)];by_cases c2:(n:Int) < a+(b - m)
    ·rw [up (by omega),rW (by simp;omega),po,pp,show (n:Int) - a+m=((m.toNat+(n - (L.take a.toNat).length):Nat):Int) by simp;omega,g]
    ·rw [uu (by omega),rS (by simp;omega)];by_cases c3:(n:Int) < b
     ·rw [up (by omega),rW (by simp;omega),po,pp,<- g];congr 1;simp;omega
     ·rw [uu (by omega),rS (by simp;omega),pp,<- g];congr 1;simp;omega
  have o:∀(p:Int) (n:Nat) (x:α),0<=p->p+n<=L.length->x ∈ (L.drop p.toNat).take n->∃i:Int,p<=i/\i < p+n/\At L i=x:=λp n x J G f=>by
   obtain ⟨i,hi,e⟩:=List.getElem_of_mem f;simp only [se,sB] at hi;rw [po,pp] at e;refine ⟨((p.toNat+i:Nat):Int),by omega,by omega,?_⟩;unfold At;rw [ur,uB,ug (by omega)];exact e
  have:=eqv_parts (k:=k) (P:=L.take a.toNat) (A:=(L.drop a.toNat).take (m - a).toNat) (B:=(L.drop m.toNat).take (b - m).toNat) (S:=L.drop b.toNat) (λx f y D=>by
   obtain ⟨i,v,I,e⟩:=o a _ x h0 (by omega) f;obtain ⟨j,u,H,h⟩:=o m _ y (by omega) (by omega) D;rw [<- e,<- h];exact C i j v (by omega) u (by omega))
  rwa [<- w,<- r] at this
 ·rw [l i q];unfold rotF;rw [uu (by omega),uu (by omega)]
 ·rw [l i (by omega)];unfold rotF;by_cases c:i < a+(b - m)
  ·exact ⟨i - a+m,by omega,by omega,by rw [up (by omega)]⟩
  ·exact ⟨i - (b - m),by omega,by omega,by rw [uu (by omega),up (by omega)]⟩
def swpF {β:Type} (f:Int->β) (a b n:Int) (x:Int):β:=if a<=x/\x < a+n then f (x - a+b) else if b<=x/\x < b+n then f (x - b+a) else f x
theorem rot_left {a:Type} (f:Int->a) {m i j:Int} (hi:1<=i) (b:1<=j) (h:i > j) (x:Int):rotF (swpF f (m - i) m j) (m - (i - j)) m (m+j) x=rotF f (m - i) m (m+j) x:=by
 unfold rotF swpF
 repeat' split
 all_goals first
  | exact absurd ‹_› (by omega)
  | exact congrArg f (by omega)
theorem rot_right {a:Type} (f:Int->a) {m i j:Int} (hi:1<=i) (b:1<=j) (h:i < j) (x:Int):rotF (swpF f (m - i) (m+j - i) i) (m - i) m (m+(j - i)) x=rotF f (m - i) m (m+j) x:=by
 unfold rotF swpF
 repeat' split
 all_goals first
  | exact absurd ‹_› (by omega)
  | exact congrArg f (by omega)
theorem rot_same {a:Type} (f:Int->a) {m i:Int} (hi:1<=i) (x:Int):swpF f (m - i) m i x=rotF f (m - i) m (m+i) x:=by
 unfold rotF swpF
 repeat' split
 all_goals first
  | exact absurd ‹_› (by omega)
  | exact congrArg f (by omega)
end Go.Vv
namespace Go.Vv
open Go
variable {c:GE->GE->Option Int} {k:GE->Int}
theorem lpW {σ ρ:Type} {f:σ->Option (Out ρ σ)} {rest:σ->Option ρ} {i:σ} {P:ρ->Prop} (b a:σ->Prop) (g:σ->Nat) (hi:b i) (h:∀s,b s->(∃d,f s=some (.brk d)/\a d) \/ ∃d,f s=some (.nxt d)/\b d/\g d < g s) (l:∀s,a s->∃r,rest s=some r/\P r):∃r,lp (ye f i) rest=some r/\P r:=by
 obtain ⟨d,e,j⟩:=qK b a g h _ i rfl hi;rw [e];exact l d j
theorem lpN {σ τ ρ:Type} {f:σ->Option (Out (Out ρ τ) σ)} {rest:σ->Option (Out ρ τ)} {i:σ} {P:τ->Prop} (b a:σ->Prop) (g:σ->Nat) (hi:b i) (h:∀s,b s->(∃d,f s=some (.brk d)/\a d) \/ ∃d,f s=some (.nxt d)/\b d/\g d < g s) (l:∀s,a s->∃r,rest s=some (.nxt r)/\P r):∃r,lp (ye f i) rest=some (.nxt r)/\P r:=by
 obtain ⟨d,e,j⟩:=qK b a g h _ i rfl hi;rw [e];exact l d j
theorem half_is {x:Int} (h0:0<=x) (d:x<=4611686018427387904):IntKind.wrap .i64 (Int.fdiv (IntKind.wrap .u64 (IntKind.wrap .i64 x)) (2 ^ (min (1:Int).toNat (IntKind.bits .u64))))=x / 2:=by
 have e:((2:Int) ^ (min (1:Int).toNat (IntKind.bits .u64)))=2:=rfl;have a:IntKind.wrap .i64 x=x:=yU (by omega);have b:IntKind.wrap .u64 x=x:=by rw [IntKind.wrap_u64];omega
 rw [a,e,b,sy _ (by decide),yU (by omega)]
structure Into (k:GE->Int) (E:List GE) (a i j:Int):Prop where
 ord:∀p q:Int,a<=p->p<=q->q<=i->p ≠ j->q ≠ j->k (At E p)<=k (At E q)
 less:∀q:Int,j < q->q<=i->k (At E j) < k (At E q)
theorem Into.step {E F:List GE} {a i j:Int} (h:Into k E a i j) (s:0<=a) (t:a < j) (r:j<=i) (d:k (At E j) < k (At E (j - 1))) (o:At F (j - 1)=At E j) (e:At F j=At E (j - 1)) (b:∀x:Int,0<=x->x ≠ j->x ≠ j - 1->At F x=At E x):Into k F a i (j - 1):=by
 refine ⟨λp q g f l m n=>?_,λq g f=>?_⟩
 ·by_cases hp:p=j
  ·by_cases hq:q=j
   ·rw [hp,hq];exact uT _
   ·rw [hp,e,b q (by omega) hq n];exact h.ord (j - 1) q (by omega) (by omega) l (by omega) hq
  ·by_cases hq:q=j
   ·rw [hq,e,b p (by omega) hp m];exact h.ord p (j - 1) g (by omega) (by omega) hp (by omega)
   ·rw [b p (by omega) hp m,b q (by omega) hq n];exact h.ord p q g f l hp hq
 ·rw [o];by_cases hq:q=j
  ·rw [hq,e];exact d
  ·rw [b q (by omega) hq (by omega)];exact h.less q (by omega) f
theorem Into.done {E:List GE} {a i j:Int} (h:Into k E a i j) (h0:a<=j) (b:j=a \/ k (At E (j - 1))<=k (At E j)):Srt k E a (i+1):=by
 intro p q d e f;by_cases hp:p=j
 ·by_cases hq:q=j
  ·rw [hp,hq];exact uT _
  ·rw [hp];exact pB (h.less q (by omega) (by omega))
 ·by_cases hq:q=j
  ·rcases b with b | b
   ·omega
   ·rw [hq];refine Int.le_trans ?_ b;exact h.ord p (j - 1) d (by omega) (by omega) hp (by omega)
  ·exact h.ord p q d e (by omega) hp hq
theorem ins_is (J:∀x y,∃v,c x y=some v/\(v < 0 ↔ k x < k y)) {L:List GE} {a b:Int} (u:0<=a) (K:b<=L.length) (N:(L.length:Int)<=1099511627776) (A:a<=b):∃r,yo L a b c=some r/\Turn k L r a b/\Srt k r a b:=by
 unfold yo;refine lpW (λs=>a+1<=s.1/\Turn k L s.2 a b/\Srt k s.2 a s.1) (λs=>Turn k L s.2 a b/\Srt k s.2 a b) (λs=>(b - s.1).toNat) ⟨by dsimp only;rw [yU (by omega)];exact uT _,Turn.refl _ _ _,λi j z n f=>by
  have f:j < IntKind.wrap .i64 (a+1):=f;rw [yU (by omega)] at f;rw [show i=j by omega];exact uT _⟩ ?_ (λs hs=>⟨_,rfl,hs⟩)
 rintro ⟨i,D⟩ ⟨z,n,f⟩
 dsimp only at z n f ⊢;rw [zj n.len];by_cases hlt:i < b
 ·rw [up (uE hlt)];right;refine Exists.imp (λ_ h=>⟨h.1,h.2.1,h.2.2⟩) (lpN (P:=λl=>(a+1<=l.1/\Turn k L l.2 a b/\Srt k l.2 a l.1)/\(b - l.1).toNat < (b - i).toNat) (λs=>a<=s.1/\s.1<=i/\Turn k L s.2 a b/\Into k s.2 a i s.1) (λs=>Turn k L s.2 a b/\Srt k s.2 a (i+1)) (λs=>(s.1 - a).toNat) ⟨by dsimp only;omega,uT _,n,λp q d o g t B=>f p q d o (by dsimp only at B;omega),λq d o=>by dsimp only at d;omega⟩ ?_ ?_)
  ·rintro ⟨j,E⟩ ⟨d,o,g,t⟩
   dsimp only at d o g t ⊢;have F:=g.len;have C:IntKind.wrap .i64 (j - (1:Int))=j - 1:=yU (by omega);simp only [C];rw [zj F,zj (λ_=>by omega)];by_cases hj:j > a
   ·rw [zj (λ_=>by omega),up (by simp [hj])];obtain ⟨v,H,m⟩:=J (At E j) (At E (j - 1));rw [show c (E.getD j.toNat default) (E.getD (j - 1).toNat default)=some v from H,ua];by_cases hv0:v < 0
    ·right;rw [up (by simp [hj,hv0])];rw [xY (L:=E) (i:=j - 1) (by omega) (by omega),ua,xY (L:=E) (i:=j) (by omega) (by omega),ua,ua,xY (by omega) (by rw [uI];omega),ua];have G:=m.1 hv0;obtain ⟨s1,s2,w⟩:=swap_turn (k:=k) (E:=E) (i:=j - 1) (by omega) (by omega) (by rw [pa];omega);have sc:=set_comm2 (E:=E) (i:=j - 1) (by omega) (At E (j - 1)) (At E j);rw [pa] at s1 s2 w sc;rw [sc];refine ⟨_,rfl,⟨by dsimp only;omega,by dsimp only;omega,g.trans (s1.wide u (by omega) (by omega)),?_⟩,by dsimp only;omega⟩;exact t.step u hj o G s2 w λx I M O=>s1.out x I (by omega)
    ·left;rw [uu (by simp [hv0])];refine ⟨_,rfl,g,t.done d (.inr ?_)⟩;have:=mt m.2 hv0;omega
   ·left;rw [zj (λh=>by simp [hj] at h),uu (by simp [hj]),ua,uu (by simp [hj])];exact ⟨_,rfl,g,t.done d (.inl (by omega))⟩
  ·rintro ⟨j,E⟩ hs
   have e:IntKind.wrap .i64 (i+(1:Int))=i+1:=yU (by omega);simp only [e];exact ⟨_,rfl,⟨by dsimp only;omega,hs.1,hs.2⟩,by dsimp only;omega⟩
 ·left;rw [uu (by simp [hlt])];exact ⟨_,rfl,n,f.sub (uT _) (by omega)⟩
theorem lpLi {α σ ρ:Type} {f:Nat->α->σ->Option (Out ρ σ)} {rest:σ->Option ρ} {L:List α} {P:ρ->Prop} (a:Nat->σ->Prop) (h:∀i x s,i < L.length->a i s->∃b,f i x s=some (.nxt b)/\a (i+1) b) (n:∀s,a L.length s->∃r,rest s=some r/\P r) {d:σ} (hi:a 0 d):∃r,lp (zq f L 0 d) rest=some r/\P r:=by
 have key:∀(M:List α) (k:Nat) (s:σ),k+M.length=L.length->a k s->∃b,zq f M k s=some (.inr b)/\a L.length b:=by
  intro M
  induction M with
  | nil=>intro k s j hs;exact ⟨s,rfl,by rw [<- j];exact hs⟩
  | cons x r ih =>
   intro k s j hs;simp only [uk] at j;obtain ⟨b,e,g⟩:=h k x s (by omega) hs;obtain ⟨s2,m,l⟩:=ih (k+1) b (by omega) g;exact ⟨s2,by simp only [zq,e];exact m,l⟩
 obtain ⟨b,e,hs⟩:=key L 0 d (by omega) hi;rw [e];exact n b hs
theorem swap_is {L:List GE} {a b n:Int} (m:0<=a) (f:0<=n) (o:a+n<=b) (j:b+n<=L.length) (l:(L.length:Int)<=1099511627776):∃r,yr L a b n c=some r/\r.length=L.length/\∀x:Int,0<=x->At r x=swpF (At L) a b n x:=by
 unfold yr;rw [zj (by omega)];refine lpLi (λi s=>s.length=L.length/\∀x:Int,0<=x->At s x=swpF (At L) a b i x) ?_ (λ(s:List GE) hs=>⟨s,by rw [zj hs.1],hs.1,λx d=>?_⟩) ⟨rfl,λx d=>?_⟩
 ·intro i x s hi ⟨hs,e⟩;rw [pR] at hi;have g:IntKind.wrap .i64 (b+(i:Int))=b+i:=yU (by omega);have h:IntKind.wrap .i64 (a+(i:Int))=a+i:=yU (by omega);simp only [g,h];rw [zj hs,xY (L:=s) (i:=b+i) (by omega) (by omega),ua,xY (L:=s) (i:=a+i) (by omega) (by omega),ua,ua,xY (by omega) (by rw [uI];omega),ua];refine ⟨_,rfl,by simp only [uI];exact hs,λx d=>?_⟩;rw [At_set (by omega) (by rw [uI];omega) d,At_set (by omega) (by omega) d,e x d,e _ (by omega),e _ (by omega)];unfold swpF
  repeat' split
  all_goals first
   | exact absurd ‹_› (by omega)
   | exact congrArg _ (by omega)
 ·unfold swpF;rw [uu (by omega),uu (by omega)]
 ·rw [hs.2 x d,pR,Int.toNat_of_nonneg f]
theorem rotF_congr {e:Type} {f g:Int->e} (h:∀x:Int,0<=x->f x=g x) {a m b x:Int} (h0:0<=a) (j:a<=m) (i:m<=b) (d:0<=x):rotF f a m b x=rotF g a m b x:=by
 unfold rotF;rw [h x d];split
 ·exact h _ (by omega)
 ·split
  ·exact h _ (by omega)
  ·rfl
theorem rot_is {L:List GE} {a m b:Int} (F:0<=a) (E:a < m) (B:m < b) (A:b<=L.length) (C:(L.length:Int)<=1099511627776):∃r,yw L a m b c=some r/\r.length=L.length/\∀x:Int,0<=x->At r x=rotF (At L) a m b x:=by
 unfold yw;refine lpW (λs=>1<=s.1/\1<=s.2.1/\s.1<=m - a/\s.2.1<=b - m/\s.2.2.length=L.length/\∀x:Int,0<=x->rotF (At s.2.2) (m - s.1) m (m+s.2.1) x=rotF (At L) a m b x) (λs=>1<=s.1/\s.1<=m - a/\s.1<=b - m/\s.2.2.length=L.length/\∀x:Int,0<=x->rotF (At s.2.2) (m - s.1) m (m+s.1) x=rotF (At L) a m b x) (λs=>(s.1+s.2.1).toNat) ⟨by dsimp only;rw [yU (by omega)];omega,by dsimp only;rw [yU (by omega)];omega,by dsimp only;rw [yU (by omega)];omega,by dsimp only;rw [yU (by omega)];omega,rfl,λx d=>by dsimp only;rw [yU (by omega),yU (by omega),show m - (m - a)=a by omega,show m+(b - m)=b by omega]⟩ ?_ ?_
 ·rintro ⟨i,j,D⟩ ⟨g,q,p,t,f,h⟩
  dsimp only at g q p t f h ⊢;have u:IntKind.wrap .i64 (m - i)=m - i:=yU (by omega);have v:IntKind.wrap .i64 (m+j)=m+j:=yU (by omega);have y:IntKind.wrap .i64 (m+j - i)=m+j - i:=yU (by omega);have z:IntKind.wrap .i64 (i - j)=i - j:=yU (by omega);have w:IntKind.wrap .i64 (j - i)=j - i:=yU (by omega);simp only [u,v,y,z,w];rw [zj f];by_cases hij:i=j
  ·left;rw [uu (by simp [hij])];exact ⟨_,rfl,g,p,by dsimp only;omega,f,by subst hij;exact h⟩
  ·right;rw [up (by simp [hij])];by_cases hgt:i > j
   ·rw [up (by simp [hgt])];obtain ⟨r,e,o,l⟩:=swap_is (c:=c) (L:=D) (a:=m - i) (b:=m) (n:=j) (by omega) (by omega) (by omega) (by omega) (by omega);rw [e,ua];refine ⟨_,rfl,⟨by dsimp only;omega,q,by dsimp only;omega,t,o.trans f,λx d=>?_⟩,by dsimp only;omega⟩;dsimp only;rw [rotF_congr l (by omega) (by omega) (by omega) d,rot_left _ g q hgt,h x d]
   ·rw [uu (by simp [hgt])];obtain ⟨r,e,o,l⟩:=swap_is (c:=c) (L:=D) (a:=m - i) (b:=m+j - i) (n:=i) (by omega) (by omega) (by omega) (by omega) (by omega);rw [e,ua];refine ⟨_,rfl,⟨g,by dsimp only;omega,p,by dsimp only;omega,o.trans f,λx d=>?_⟩,by dsimp only;omega⟩;dsimp only;rw [rotF_congr l (by omega) (by omega) (by omega) d,rot_right _ g q (by omega),h x d]
 ·rintro ⟨i,j,D⟩ ⟨g,p,t,f,h⟩
  dsimp only at g p t f h ⊢;have u:IntKind.wrap .i64 (m - i)=m - i:=yU (by omega);rw [u];obtain ⟨r,e,o,l⟩:=swap_is (c:=c) (L:=D) (a:=m - i) (b:=m) (n:=i) (by omega) (by omega) (by omega) (by omega) (by omega);rw [e,ua];refine ⟨_,rfl,o.trans f,λx d=>?_⟩;rw [l x d,rot_same _ g,h x d]
end Go.Vv
namespace Go.Vv
open Go
variable {c:GE->GE->Option Int} {k:GE->Int}
theorem iteN {ρ:Type} {b:Bool} {A B:Nat->Option ρ} {d:Nat} {P:ρ->Prop} (g:b=true->∃q,(∀n,d<=n->A n=some q)/\P q) (f:b=false->∃q,(∀n,d<=n->B n=some q)/\P q):∃q,(∀n,d<=n->(if b=true then A n else B n)=some q)/\P q:=by
 cases b
 ·obtain ⟨q,e,h⟩:=f rfl;exact ⟨q,λn a=>by rw [uu (by decide)];exact e n a,h⟩
 ·obtain ⟨q,e,h⟩:=g rfl;exact ⟨q,λn a=>by rw [up rfl];exact e n a,h⟩
theorem cstN {ρ:Type} {A:Option ρ} {d:Nat} {P:ρ->Prop} (h:∃q,A=some q/\P q):∃q,(∀n,d<=n->A=some q)/\P q:=by
 obtain ⟨q,e,h⟩:=h;exact ⟨q,λ_ _=>e,h⟩
theorem optN {α:Type} {b:Bool} {f:Nat->Option α} {g:Nat->α->Option α} {L:α} {d:Nat} {P Q:α->Prop} (h:b=true->∃r,(∀n,d<=n->f n=some r)/\P r) (m:b=false->P L) (j:∀r,P r->∃q,(∀n,d<=n->g n r=some q)/\Q q):∃q,(∀n,d<=n->(if b=true then (f n).bind λv=>g n v else g n L)=some q)/\Q q:=by
 refine iteN (λa=>?_) (λa=>j L (m a));obtain ⟨r,e,p⟩:=h a;obtain ⟨q,l,o⟩:=j r p;exact ⟨q,λn i=>by rw [e n i];exact l n i,o⟩
theorem lpWN {σ ρ:Type} {f:σ->Option (Out ρ σ)} {rest:Nat->σ->Option ρ} {j:σ} {d:Nat} {P:ρ->Prop} (b a:σ->Prop) (i:σ->Nat) (hi:b j) (h:∀s,b s->(∃g,f s=some (.brk g)/\a g) \/ ∃g,f s=some (.nxt g)/\b g/\i g < i s) (m:∀s,a s->∃r,(∀n,d<=n->rest n s=some r)/\P r):∃r,(∀n,d<=n->lp (ye f j) (rest n)=some r)/\P r:=by
 obtain ⟨g,e,l⟩:=qK b a i h _ j rfl hi;rw [e];exact m g l
structure Hal (lo hi:Int) (A B:Int->Prop) (s:Int×Int):Prop where
 l:lo<=s.1
 m:s.1<=s.2
 h:s.2<=hi
 a:∀x:Int,lo<=x->x < s.1->A x
 b:∀x:Int,s.2<=x->x < hi->B x
structure Mrg (k:GE->Int) (L R:List GE) (a b:Int):Prop where
 t:Turn k L R a b
 s:Srt k R a b
def upF {β:Type} (f:Int->β) (a q x:Int):β:=if a<=x/\x < q then f (x+1) else if x=q then f a else f x
def dnF {β:Type} (f:Int->β) (m q x:Int):β:=if q < x/\x<=m then f (x - 1) else if x=q then f m else f x
theorem up_done {L R:List GE} {a i b:Int} (h0:a+1<=i) (hi:i<=b) (hs:Srt k L (a+1) b) (h:∀x:Int,a+1<=x->x < i->k (At L x) < k (At L a)) (f:∀x:Int,i<=x->x < b->k (At L a)<=k (At L x)) (l:0<=a) (e:∀x:Int,0<=x->At R x=upF (At L) a (i - 1) x):Srt k R a b:=by
 intro p q j g d;rw [e p (by omega),e q (by omega)];unfold upF;by_cases p1:p < i - 1
 ·rw [up ⟨j,p1⟩];by_cases q1:q < i - 1
  ·rw [up ⟨by omega,q1⟩];exact hs _ _ (by omega) (by omega) (by omega)
  ·rw [uu (by omega)];by_cases q2:q=i - 1
   ·rw [up q2];exact pB (h _ (by omega) (by omega))
   ·rw [uu q2];exact hs _ _ (by omega) (by omega) d
 ·rw [uu (by omega),uu (show ¬ (a<=q/\q < i - 1) by omega)];by_cases p2:p=i - 1
  ·rw [up p2];by_cases q2:q=i - 1
   ·rw [up q2];exact uT _
   ·rw [uu q2];exact f _ (by omega) d
  ·rw [uu p2,uu (by omega)];exact hs _ _ (by omega) g d
theorem dn_done {L R:List GE} {a i m:Int} (h0:a<=i) (hi:i<=m) (hs:Srt k L a m) (g:∀x:Int,a<=x->x < i->k (At L x)<=k (At L m)) (e:∀x:Int,i<=x->x < m->k (At L m) < k (At L x)) (h:0<=a) (d:∀x:Int,0<=x->At R x=dnF (At L) m i x):Srt k R a (m+1):=by
 intro p q b f j;rw [d p (by omega),d q (by omega)];unfold dnF;by_cases q1:i < q
 ·rw [up (show i < q/\q<=m by omega)];by_cases p1:i < p
  ·rw [up ⟨p1,by omega⟩];exact hs _ _ (by omega) (by omega) (by omega)
  ·rw [uu (by omega)];by_cases p2:p=i
   ·rw [up p2];exact pB (e _ (by omega) (by omega))
   ·rw [uu p2];exact hs _ _ b (by omega) (by omega)
 ·rw [uu (show ¬ (i < q/\q<=m) by omega),uu (show ¬ (i < p/\p<=m) by omega)];by_cases q2:q=i
  ·rw [up q2];by_cases p2:p=i
   ·rw [up p2];exact uT _
   ·rw [uu p2];exact g _ b (by omega)
  ·rw [uu q2,uu (by omega)];exact hs _ _ b f (by omega)
structure Mid (k:GE->Int) (L:List GE) (a m b mid i:Int):Prop where
 a0:0<=a
 am:a < m
 mb:m < b
 bl:b<=L.length
 m1:2 * mid<=a+b
 m2:a+b<=2 * mid+1
 i0:a<=i
 im:i<=m
 id:i<=mid
 ie:mid+m - i<=b
 s1:Srt k L a m
 s2:Srt k L m b
 c1:a < i->mid+m - i < b->k (At L (i - 1))<=k (At L (mid+m - i))
 c2:i < m->i < mid->k (At L (mid+m - 1 - i)) < k (At L i)
structure Rot (k:GE->Int) (L R:List GE) (m e i:Int):Prop where
 t:Turn k L R i e
 v:∀x:Int,0<=x->At R x=rotF (At L) i m e x
theorem Mid.rot {L R:List GE} {a m b mid i:Int} (h:Mid k L a m b mid i) (l:i < m) (p:m < mid+m - i) (f:R.length=L.length) (d:∀x:Int,0<=x->At R x=rotF (At L) i m (mid+m - i) x):Rot k L R m (mid+m - i) i:=by
 obtain ⟨a0,am,mb,bl,m1,m2,i0,im,id,ie,s1,s2,c1,c2⟩:=h;refine ⟨rot_turn (by omega) (by omega) (by omega) (by omega) f d λx y e g j o=>?_,d⟩;have r:=c2 l (by omega);have q:=s1 i x i0 e g;have n:=s2 y (mid+m - 1 - i) j (by omega) (by omega);omega
theorem Mid.norot {L:List GE} {a m b mid i:Int} (h:Mid k L a m b mid i) (d:¬ (i < m/\m < mid+m - i)):Rot k L L m (mid+m - i) i:=by
 obtain ⟨a0,am,mb,bl,m1,m2,i0,im,id,ie,s1,s2,c1,c2⟩:=h;refine ⟨Turn.refl _ _ _,λx e=>?_⟩;unfold rotF;split
 ·exact congrArg _ (by omega)
 ·split
  ·exact congrArg _ (by omega)
  ·rfl
theorem Rot.lo {L R:List GE} {a m b mid i:Int} (h:Mid k L a m b mid i) (r:Rot k L R m (mid+m - i) i):Srt k R a i/\Srt k R i mid/\Srt k R mid (mid+m - i)/\Srt k R (mid+m - i) b:=by
 obtain ⟨a0,am,mb,bl,m1,m2,i0,im,id,ie,s1,s2,c1,c2⟩:=h;refine ⟨λp q f d e=>?_,λp q f d e=>?_,λp q f d e=>?_,λp q f d e=>?_⟩
 all_goals rw [r.v p (by omega),r.v q (by omega)];unfold rotF
 ·rw [uu (by omega),uu (by omega),uu (by omega),uu (by omega)];exact s1 _ _ f d (by omega)
 ·rw [up (by omega),up (by omega)];exact s2 _ _ (by omega) (by omega) (by omega)
 ·rw [uu (by omega),up (by omega),uu (by omega),up (by omega)];exact s1 _ _ (by omega) (by omega) (by omega)
 ·rw [uu (by omega),uu (by omega),uu (by omega),uu (by omega)];exact s2 _ _ (by omega) d e
theorem Rot.mid {L R:List GE} {a m b mid i:Int} (h:Mid k L a m b mid i) (r:Rot k L R m (mid+m - i) i) {p q:Int} (e:a<=p) (l:p < mid) (n:mid<=q) (d:q < b):k (At R p)<=k (At R q):=by
 obtain ⟨a0,am,mb,bl,m1,m2,i0,im,id,ie,s1,s2,c1,c2⟩:=h;rw [r.v p (by omega),r.v q (by omega)];unfold rotF;rw [uu (show ¬ (i<=q/\q < i+(mid+m - i - m)) by omega)];by_cases hp:p < i
 ·rw [uu (by omega),uu (by omega)];by_cases hq:q < mid+m - i
  ·rw [up (by omega)];exact s1 _ _ e (by omega) (by omega)
  ·rw [uu (by omega)];have f:=c1 (by omega) (by omega);have g:=s1 p (i - 1) e (by omega) (by omega);have j:=s2 (mid+m - i) q (by omega) (by omega) d;omega
 ·rw [up (by omega)];by_cases hq:q < mid+m - i
  ·rw [up (by omega)];have f:=c2 (by omega) (by omega);have g:=s2 (p - i+m) (mid+m - 1 - i) (by omega) (by omega) (by omega);have j:=s1 i (q - (mid+m - i - m)) i0 (by omega) (by omega);omega
  ·rw [uu (by omega)];exact s2 _ _ (by omega) (by omega) d
theorem Mid.join {L R1 R2 R3:List GE} {a m b mid i:Int} (h:Mid k L a m b mid i) (r:Rot k L R1 m (mid+m - i) i) (e:Mrg k R1 R2 a mid) (d:Mrg k R2 R3 mid b):Mrg k L R3 a b:=by
 have l:=λp q=>r.mid h (p:=p) (q:=q);obtain ⟨a0,am,mb,bl,m1,m2,i0,im,id,ie,s1,s2,c1,c2⟩:=h;refine ⟨((r.t.wide a0 i0 ie).trans (e.t.wide a0 (uT _) (by omega))).trans (d.t.wide a0 (by omega) (uT _)),λp q j f g=>?_⟩;by_cases hp:p < mid
 ·by_cases hq:q < mid
  ·rw [d.t.out p (by omega) (by omega),d.t.out q (by omega) (by omega)];exact e.s p q j f hq
  ·rw [d.t.out p (by omega) (by omega)];obtain ⟨x,o,w,u⟩:=e.t.inn p j hp;obtain ⟨y,z,n,v⟩:=d.t.inn q (by omega) g;rw [u,v,e.t.out y (by omega) (by omega)];exact l x y o w z n
 ·exact d.s p q (by omega) f g
theorem sym_is (hc:∀x y,∃v,c x y=some v/\(v < 0 ↔ k x < k y)):∀(d:Nat) (L:List GE) (a m b:Int),0<=a->a < m->m < b->b<=L.length->(L.length:Int)<=1099511627776->b - a<=d->Srt k L a m->Srt k L m b->∃r,(∀n,d<=n->zo n L a m b c=some r)/\Mrg k L r a b:=by
 intro d
 induction d with
 | zero=>intro L a m b h0 h1 h2 h3 h4 h5;exact absurd h5 (by omega)
 | succ d ih =>
  intro L a m b h0 h1 h2 h3 h4 h5 S1 S2
  suffices hs:∃r,(∀n,d<=n->zo (n+1) L a m b c=some r)/\Mrg k L r a b by
   obtain ⟨r,e,hr⟩:=hs;refine ⟨r,λn hn=>?_,hr⟩;obtain ⟨n,rfl⟩:∃q,n=q+1:=⟨n - 1,by omega⟩
   exact e n (by omega)
  simp only [zo];have e1:IntKind.wrap .i64 (m - a)=m - a:=yU (by omega);have e2:IntKind.wrap .i64 (b - m)=b - m:=yU (by omega);have I:=half_is (x:=a+b) (by omega) (by omega);simp only [e1,e2,I];obtain ⟨mid,N⟩:∃mid,(a+b) / 2=mid:=⟨_,rfl⟩
  have V:2 * mid<=a+b:=by omega
  have Y:a+b<=2 * mid+1:=by omega
  simp only [N];clear N I;have en:IntKind.wrap .i64 (mid+m)=mid+m:=yU (by omega);have enb:IntKind.wrap .i64 (mid+m - b)=mid+m - b:=yU (by omega);have enp:IntKind.wrap .i64 (mid+m - (1:Int))=mid+m - 1:=yU (by omega);simp only [en,enb,enp];have H:∀i:Int,Mid k L a m b mid i->∃r,(∀n,d<=n->(if (decide (i < m)&&decide (m < mid+m - i))=true then (yw L i m (mid+m - i) c).bind λv=>(if (decide (a < i)&&decide (i < mid))=true then (zo n v a i mid c).bind λu=>(if (decide (mid < mid+m - i)&&decide (mid+m - i < b))=true then (zo n u mid (mid+m - i) b c).bind λt=>some t else some u) else (if (decide (mid < mid+m - i)&&decide (mid+m - i < b))=true then (zo n v mid (mid+m - i) b c).bind λt=>some t else some v)) else (if (decide (a < i)&&decide (i < mid))=true then (zo n L a i mid c).bind λu=>(if (decide (mid < mid+m - i)&&decide (mid+m - i < b))=true then (zo n u mid (mid+m - i) b c).bind λt=>some t else some u) else (if (decide (mid < mid+m - i)&&decide (mid+m - i < b))=true then (zo n L mid (mid+m - i) b c).bind λt=>some t else some L)))=some r)/\Mrg k L r a b:=by
   intro i M;have q1:=M.i0;have q2:=M.im;have q3:=M.id;have q4:=M.ie;refine optN (P:=λR=>Rot k L R m (mid+m - i) i) (Q:=λR=>Mrg k L R a b) (f:=λ_=>yw L i m (mid+m - i) c) (λh=>cstN ?_) (λh=>?_) (λR1 r1=>?_)
   ·simp only [ud,um] at h;obtain ⟨r,e,U,K⟩:=rot_is (c:=c) (L:=L) (a:=i) (m:=m) (b:=mid+m - i) (by omega) h.1 h.2 (by omega) h4;exact ⟨r,e,M.rot h.1 h.2 U K⟩
   ·refine M.norot λh'=>?_;rw [te,sg,sg] at h;omega
   ·obtain ⟨t1,t2,t3,t4⟩:=r1.lo M;have hl1:=r1.t.len;refine optN (P:=λR=>Mrg k R1 R a mid) (Q:=λR=>Mrg k L R a b) (f:=λn=>zo n R1 a i mid c) (λh=>?_) (λh=>?_) (λR2 r2=>?_)
    ·simp only [ud,um] at h;exact ih R1 a i mid h0 h.1 h.2 (by omega) (by omega) (by omega) t1 t2
    ·rw [te,sg,sg] at h;refine ⟨Turn.refl _ _ _,?_⟩;rcases h with h | h
     ·rw [show a=i by omega];exact t2
     ·rw [show mid=i by omega];exact t1
    ·have hl2:=r2.t.len;have u3:Srt k R2 mid (mid+m - i):=t3.same λx p w=>r2.t.out x (by omega) (by omega);have u4:Srt k R2 (mid+m - i) b:=t4.same λx p w=>r2.t.out x (by omega) (by omega);refine optN (P:=λR=>Mrg k R2 R mid b) (Q:=λR=>Mrg k L R a b) (f:=λn=>zo n R2 mid (mid+m - i) b c) (g:=λ_ t=>some t) (λh=>?_) (λh=>?_) (λR3 r3=>⟨R3,λ_ _=>rfl,M.join r1 r2 r3⟩)
     ·simp only [ud,um] at h;exact ih R2 mid _ b (by omega) h.1 h.2 (by omega) (by omega) (by omega) u3 u4
     ·rw [te,sg,sg] at h;refine ⟨Turn.refl _ _ _,?_⟩;rcases h with h | h
      ·have e:mid+m - i=mid:=by omega
       rwa [e] at u4
      ·have e:mid+m - i=b:=by omega
       rwa [e] at u3
  refine iteN (λh=>cstN ?_) (λh=>iteN (λh=>cstN ?_) (λh=>iteN (λh=>?_) (λh=>?_)))
  ·have W:m=a+1:=by have:=sx.1 h;omega
   refine lpW (Hal m b (λx=>k (At L x) < k (At L a)) (λx=>k (At L a)<=k (At L x))) (λs=>Hal m b (λx=>k (At L x) < k (At L a)) (λx=>k (At L a)<=k (At L x)) s/\s.1=s.2) (λs=>(s.2 - s.1).toNat) ⟨uT _,by dsimp only;omega,uT _,λx p w=>by dsimp only at w;omega,λx p w=>by dsimp only at p;omega⟩ ?_ ?_
   ·rintro ⟨i,j⟩ ⟨A,C,z,o,l⟩
    dsimp only at A C z o l ⊢;by_cases hij:i < j
    ·right;rw [up (uE hij)];have I:=half_is (x:=i+j) (by omega) (by omega);have S:IntKind.wrap .i64 ((i+j) / 2+(1:Int))=(i+j) / 2+1:=yU (by omega);simp only [I,S];obtain ⟨v,K,B⟩:=hc (At L ((i+j) / 2)) (At L a);rw [xY (L:=L) (i:=(i+j) / 2) (by omega) (by omega),ua,xY (L:=L) (i:=a) (by omega) (by omega),ua,K,ua];by_cases hv0:v < 0
     ·rw [up (uE hv0)];have:=B.1 hv0;refine ⟨_,rfl,⟨by dsimp only;omega,by dsimp only;omega,z,λx p w=>?_,l⟩,by dsimp only;omega⟩;dsimp only at w;have:=S2 x ((i+j) / 2) p (by omega) (by omega);omega
     ·rw [uu (by simp [hv0])];have:=mt B.2 hv0;refine ⟨_,rfl,⟨A,by dsimp only;omega,by dsimp only;omega,o,λx p w=>?_⟩,by dsimp only;omega⟩;dsimp only at p;have:=S2 ((i+j) / 2) x (by omega) (by omega) w;omega
    ·left;rw [uu (by simp [hij])];exact ⟨_,rfl,⟨A,C,z,o,l⟩,by dsimp only;omega⟩
   ·rintro ⟨i,j⟩ ⟨⟨A,C,z,o,l⟩,G⟩
    dsimp only at A C z o l G ⊢;subst G;have e3:IntKind.wrap .i64 (i - (1:Int))=i - 1:=yU (by omega);simp only [e3];refine lpW (λs=>a<=s.1/\s.1<=i - 1/\Turn k L s.2 a b/\∀x:Int,0<=x->At s.2 x=upF (At L) a s.1 x) (λs=>Turn k L s.2 a b/\∀x:Int,0<=x->At s.2 x=upF (At L) a (i - 1) x) (λs=>(i - 1 - s.1).toNat) ⟨uT _,by dsimp only;omega,Turn.refl _ _ _,λx O=>?_⟩ ?_ (λs hs=>⟨_,rfl,hs.1,?_⟩)
    ·unfold upF;rw [uu (by omega)];split
     ·exact congrArg _ ‹_›
     ·rfl
    ·rintro ⟨q,D⟩ ⟨f1,f2,J,F⟩
     dsimp only at f1 f2 J F ⊢;have U:=J.len;rw [zj U];by_cases hk:q < i - 1
     ·right;rw [up (uE hk)];have T:IntKind.wrap .i64 (q+(1:Int))=q+1:=yU (by omega);simp only [T];rw [xY (L:=D) (i:=q+1) (by omega) (by omega),ua,xY (L:=D) (i:=q) (by omega) (by omega),ua,ua,xY (by omega) (by rw [uI];omega),ua];have Z:At D q=At L a:=by rw [F q (by omega)];unfold upF;rw [uu (by omega),up rfl]
      have X:At D (q+1)=At L (q+1):=by rw [F (q+1) (by omega)];unfold upF;rw [uu (by omega),uu (by omega)]
      have k3:=o (q+1) (by omega) (by omega);obtain ⟨s1,s2,s3⟩:=swap_turn (k:=k) (E:=D) (i:=q) (by omega) (by omega) (by rw [Z,X];omega);refine ⟨_,rfl,⟨by dsimp only;omega,by dsimp only;omega,J.trans (s1.wide h0 (by omega) (by omega)),λx O=>?_⟩,by dsimp only;omega⟩;dsimp only;by_cases hq:x=q
      ·subst hq;rw [s2,X];unfold upF;rw [up (by omega)]
      ·by_cases hq2:x=q+1
       ·subst hq2;rw [s3,Z];unfold upF;rw [uu (by omega),up rfl]
       ·rw [s1.out x O (by omega),F x O];unfold upF
        repeat' split
        all_goals first
         | exact absurd ‹_› (by omega)
         | rfl
     ·left;rw [uu (by simp [hk])];exact ⟨_,rfl,J,by rw [show i - 1=q by omega];exact F⟩
    ·exact up_done (by omega) z (by rw [<- W];exact S2) (by rw [<- W];exact o) l h0 hs.2
  ·have hbm:b=m+1:=by have:=sx.1 h;omega
   refine lpW (Hal a m (λx=>k (At L x)<=k (At L m)) (λx=>k (At L m) < k (At L x))) (λs=>Hal a m (λx=>k (At L x)<=k (At L m)) (λx=>k (At L m) < k (At L x)) s/\s.1=s.2) (λs=>(s.2 - s.1).toNat) ⟨uT _,by dsimp only;omega,uT _,λx p w=>by dsimp only at w;omega,λx p w=>by dsimp only at p;omega⟩ ?_ ?_
   ·rintro ⟨i,j⟩ ⟨A,C,z,o,l⟩
    dsimp only at A C z o l ⊢;by_cases hij:i < j
    ·right;rw [up (uE hij)];have I:=half_is (x:=i+j) (by omega) (by omega);have S:IntKind.wrap .i64 ((i+j) / 2+(1:Int))=(i+j) / 2+1:=yU (by omega);simp only [I,S];obtain ⟨v,K,B⟩:=hc (At L m) (At L ((i+j) / 2));rw [xY (L:=L) (i:=m) (by omega) (by omega),ua,xY (L:=L) (i:=(i+j) / 2) (by omega) (by omega),ua,K,ua];by_cases hv0:v < 0
     ·rw [uu (by simp [hv0])];have:=B.1 hv0;refine ⟨_,rfl,⟨A,by dsimp only;omega,by dsimp only;omega,o,λx p w=>?_⟩,by dsimp only;omega⟩;dsimp only at p;have:=S1 ((i+j) / 2) x (by omega) (by omega) w;omega
     ·rw [up (by simp [hv0])];have:=mt B.2 hv0;refine ⟨_,rfl,⟨by dsimp only;omega,by dsimp only;omega,z,λx p w=>?_,l⟩,by dsimp only;omega⟩;dsimp only at w;have:=S1 x ((i+j) / 2) p (by omega) (by omega);omega
    ·left;rw [uu (by simp [hij])];exact ⟨_,rfl,⟨A,C,z,o,l⟩,by dsimp only;omega⟩
   ·rintro ⟨i,j⟩ ⟨⟨A,C,z,o,l⟩,G⟩
    dsimp only at A C z o l G ⊢;subst G;refine lpW (λs=>i<=s.1/\s.1<=m/\Turn k L s.2 a b/\∀x:Int,0<=x->At s.2 x=dnF (At L) m s.1 x) (λs=>Turn k L s.2 a b/\∀x:Int,0<=x->At s.2 x=dnF (At L) m i x) (λs=>(s.1 - i).toNat) ⟨by dsimp only;omega,uT _,Turn.refl _ _ _,λx O=>?_⟩ ?_ (λs hs=>⟨_,rfl,hs.1,?_⟩)
    ·unfold dnF;rw [uu (by omega)];split
     ·exact congrArg _ ‹_›
     ·rfl
    ·rintro ⟨q,D⟩ ⟨f1,f2,J,F⟩
     dsimp only at f1 f2 J F ⊢;have U:=J.len;rw [zj U];by_cases hk:q > i
     ·right;rw [up (uE hk)];have T:IntKind.wrap .i64 (q - (1:Int))=q - 1:=yU (by omega);simp only [T];rw [xY (L:=D) (i:=q - 1) (by omega) (by omega),ua,xY (L:=D) (i:=q) (by omega) (by omega),ua,ua,xY (by omega) (by rw [uI];omega),ua];have Z:At D q=At L m:=by rw [F q (by omega)];unfold dnF;rw [uu (by omega),up rfl]
      have X:At D (q - 1)=At L (q - 1):=by rw [F (q - 1) (by omega)];unfold dnF;rw [uu (by omega),uu (by omega)]
      have k3:=l (q - 1) (by omega) (by omega);obtain ⟨s1,s2,s3⟩:=swap_turn (k:=k) (E:=D) (i:=q - 1) (by omega) (by omega) (by rw [pa,Z,X];omega);have sc:=set_comm2 (E:=D) (i:=q - 1) (by omega) (At D (q - 1)) (At D q);rw [pa] at s1 s2 s3 sc;rw [sc];refine ⟨_,rfl,⟨by dsimp only;omega,by dsimp only;omega,J.trans (s1.wide h0 (by omega) (by omega)),λx O=>?_⟩,by dsimp only;omega⟩;dsimp only;by_cases hq:x=q
      ·subst hq;rw [s3,X];unfold dnF;rw [up (by omega)]
      ·by_cases hq2:x=q - 1
       ·subst hq2;rw [s2,Z];unfold dnF;rw [uu (by omega),up rfl]
       ·rw [s1.out x O (by omega),F x O];unfold dnF
        repeat' split
        all_goals first
         | exact absurd ‹_› (by omega)
         | rfl
     ·left;rw [uu (by simp [hk])];exact ⟨_,rfl,J,by rw [show i=q by omega];exact F⟩
    ·rw [hbm];exact dn_done (by omega) z S1 o l h0 hs.2
  ·have hg:m > mid:=tm h;refine lpWN (Hal (mid+m - b) mid (λx=>k (At L x)<=k (At L (mid+m - 1 - x))) (λx=>k (At L (mid+m - 1 - x)) < k (At L x))) (λs=>Hal (mid+m - b) mid (λx=>k (At L x)<=k (At L (mid+m - 1 - x))) (λx=>k (At L (mid+m - 1 - x)) < k (At L x)) s/\s.1=s.2) (λs=>(s.2 - s.1).toNat) ⟨uT _,by dsimp only;omega,uT _,λx p w=>by dsimp only at w;omega,λx p w=>by dsimp only at p;omega⟩ ?_ ?_
   ·rintro ⟨i,j⟩ ⟨A,C,z,o,l⟩
    dsimp only at A C z o l ⊢;by_cases hij:i < j
    ·right;rw [up (uE hij)];have I:=half_is (x:=i+j) (by omega) (by omega);have S:IntKind.wrap .i64 ((i+j) / 2+(1:Int))=(i+j) / 2+1:=yU (by omega);have ep:IntKind.wrap .i64 (mid+m - 1 - (i+j) / 2)=mid+m - 1 - (i+j) / 2:=yU (by omega);simp only [I,S,ep];obtain ⟨v,K,B⟩:=hc (At L (mid+m - 1 - (i+j) / 2)) (At L ((i+j) / 2));rw [xY (L:=L) (i:=mid+m - 1 - (i+j) / 2) (by omega) (by omega),ua,xY (L:=L) (i:=(i+j) / 2) (by omega) (by omega),ua,K,ua];by_cases hv0:v < 0
     ·rw [uu (by simp [hv0])];have:=B.1 hv0;refine ⟨_,rfl,⟨A,by dsimp only;omega,by dsimp only;omega,o,λx p w=>?_⟩,by dsimp only;omega⟩;dsimp only at p ⊢;have q1:=S1 ((i+j) / 2) x (by omega) (by omega) (by omega);have q2:=S2 (mid+m - 1 - x) (mid+m - 1 - (i+j) / 2) (by omega) (by omega) (by omega);omega
     ·rw [up (by simp [hv0])];have:=mt B.2 hv0;refine ⟨_,rfl,⟨by dsimp only;omega,by dsimp only;omega,z,λx p w=>?_,l⟩,by dsimp only;omega⟩;dsimp only at w ⊢;have q1:=S1 x ((i+j) / 2) (by omega) (by omega) (by omega);have q2:=S2 (mid+m - 1 - (i+j) / 2) (mid+m - 1 - x) (by omega) (by omega) (by omega);omega
    ·left;rw [uu (by simp [hij])];exact ⟨_,rfl,⟨A,C,z,o,l⟩,by dsimp only;omega⟩
   ·rintro ⟨i,j⟩ ⟨⟨A,C,z,o,l⟩,G⟩
    dsimp only at A C z o l G ⊢;subst G;have T:IntKind.wrap .i64 (mid+m - i)=mid+m - i:=yU (by omega);simp only [T];exact H i ⟨h0,h1,h2,h3,V,Y,by omega,by omega,by omega,by omega,S1,S2,λ_ _=>by
     have:=o (i - 1) (by omega) (by omega)
     rwa [show mid+m - 1 - (i - 1)=mid+m - i by omega] at this,λ_ _=>l i (uT _) (by omega)⟩
  ·have hg:¬ m > mid:=pG h;refine lpWN (Hal a m (λx=>k (At L x)<=k (At L (mid+m - 1 - x))) (λx=>k (At L (mid+m - 1 - x)) < k (At L x))) (λs=>Hal a m (λx=>k (At L x)<=k (At L (mid+m - 1 - x))) (λx=>k (At L (mid+m - 1 - x)) < k (At L x)) s/\s.1=s.2) (λs=>(s.2 - s.1).toNat) ⟨uT _,by dsimp only;omega,uT _,λx p w=>by dsimp only at w;omega,λx p w=>by dsimp only at p;omega⟩ ?_ ?_
   ·rintro ⟨i,j⟩ ⟨A,C,z,o,l⟩
    dsimp only at A C z o l ⊢;by_cases hij:i < j
    ·right;rw [up (uE hij)];have I:=half_is (x:=i+j) (by omega) (by omega);have S:IntKind.wrap .i64 ((i+j) / 2+(1:Int))=(i+j) / 2+1:=yU (by omega);have ep:IntKind.wrap .i64 (mid+m - 1 - (i+j) / 2)=mid+m - 1 - (i+j) / 2:=yU (by omega);simp only [I,S,ep];obtain ⟨v,K,B⟩:=hc (At L (mid+m - 1 - (i+j) / 2)) (At L ((i+j) / 2));rw [xY (L:=L) (i:=mid+m - 1 - (i+j) / 2) (by omega) (by omega),ua,xY (L:=L) (i:=(i+j) / 2) (by omega) (by omega),ua,K,ua];by_cases hv0:v < 0
     ·rw [uu (by simp [hv0])];have:=B.1 hv0;refine ⟨_,rfl,⟨A,by dsimp only;omega,by dsimp only;omega,o,λx p w=>?_⟩,by dsimp only;omega⟩;dsimp only at p ⊢;have q1:=S1 ((i+j) / 2) x (by omega) (by omega) (by omega);have q2:=S2 (mid+m - 1 - x) (mid+m - 1 - (i+j) / 2) (by omega) (by omega) (by omega);omega
     ·rw [up (by simp [hv0])];have:=mt B.2 hv0;refine ⟨_,rfl,⟨by dsimp only;omega,by dsimp only;omega,z,λx p w=>?_,l⟩,by dsimp only;omega⟩;dsimp only at w ⊢;have q1:=S1 x ((i+j) / 2) (by omega) (by omega) (by omega);have q2:=S2 (mid+m - 1 - (i+j) / 2) (mid+m - 1 - x) (by omega) (by omega) (by omega);omega
    ·left;rw [uu (by simp [hij])];exact ⟨_,rfl,⟨A,C,z,o,l⟩,by dsimp only;omega⟩
   ·rintro ⟨i,j⟩ ⟨⟨A,C,z,o,l⟩,G⟩
    dsimp only at A C z o l G ⊢;subst G;have T:IntKind.wrap .i64 (mid+m - i)=mid+m - i:=yU (by omega);simp only [T];exact H i ⟨h0,h1,h2,h3,V,Y,by omega,by omega,by omega,by omega,S1,S2,λ_ _=>by
     have:=o (i - 1) (by omega) (by omega)
     rwa [show mid+m - 1 - (i - 1)=mid+m - i by omega] at this,λ_ _=>l i (uT _) (by omega)⟩
end Go.Vv
namespace Go.Vv
open Go
variable {c:GE->GE->Option Int} {k:GE->Int}
inductive Chunks (k:GE->Int) (D:List GE) (q n:Int):Int->Prop where
 | last {a:Int}:n - a<=q->Srt k D a n->Chunks k D q n a
 | cons {a:Int}:Srt k D a (a+q)->Chunks k D q n (a+q)->Chunks k D q n a
inductive Doned (k:GE->Int) (D:List GE) (q:Int):Int->Prop where
 | nil:Doned k D q 0
 | snoc {a:Int}:Doned k D q a->Srt k D a (a+q)->Doned k D q (a+q)
theorem Doned.app {D:List GE} {q n a:Int} (h:Doned k D q a):Chunks k D q n a->Chunks k D q n 0:=by
 induction h with
 | nil=>exact λg=>g
 | snoc _ s ih=>exact λg=>ih (.cons s g)
theorem Doned.same {D R:List GE} {q a:Int} (i:0<=q) (h:Doned k D q a):(∀x:Int,0<=x->x < a->At R x=At D x)->0<=a/\Doned k R q a:=by
 induction h with
 | nil=>exact λ_=>⟨uT _,.nil⟩
 | @snoc a _ s ih =>
  intro e;obtain ⟨h0,g⟩:=ih λx d b=>e x d (by omega);exact ⟨by omega,.snoc g (s.same λx b f=>e x (by omega) f)⟩
theorem Chunks.same {D R:List GE} {q n a:Int} (d:0<=q) (h:Chunks k D q n a):(∀x:Int,a<=x->At R x=At D x)->Chunks k R q n a:=by
 induction h with
 | last h s=>exact λe=>.last h (s.same λx b _=>e x b)
 | cons s _ ih=>exact λe=>.cons (s.same λx b _=>e x b) (ih λx b=>e x (by omega))
theorem Chunks.two {D:List GE} {q n a:Int} (e:1<=q) (h:Chunks k D q n a) (b:a+2 * q<=n):Srt k D a (a+q)/\Srt k D (a+q) (a+2 * q)/\Chunks k D q n (a+2 * q):=by
 cases h with
 | last h s=>omega
 | cons s g =>
  cases g with
  | last h s2=>exact ⟨s,s2.sub (uT _) (by omega),.last (by omega) λi j f l d=>by omega⟩
  | cons s2 g=>rw [show a+q+q=a+2 * q by omega] at s2 g;exact ⟨s,s2,g⟩
theorem Chunks.end {D:List GE} {q n a:Int} (h:Chunks k D q n a) (d:n < a+2 * q):(a+q < n->Srt k D a (a+q)/\Srt k D (a+q) n)/\(¬ a+q < n->Srt k D a n):=by
 cases h with
 | last h s=>exact ⟨λb=>by omega,λ_=>s⟩
 | cons s g =>
  refine ⟨λb=>⟨s,?_⟩,λb=>s.sub (uT _) (by omega)⟩;cases g with
  | last h s2=>exact s2
  | cons s2 g=>exact s2.sub (uT _) (by omega)
theorem sym_top (i:∀x y,∃v,c x y=some v/\(v < 0 ↔ k x < k y)) {L:List GE} {a m b:Int} (h0:0<=a) (f:a < m) (d:m < b) (g:b<=L.length) (h:(L.length:Int)<=1099511627776) (s1:Srt k L a m) (s2:Srt k L m b):∃r,xI L a m b c=some r/\Mrg k L r a b:=by
 obtain ⟨r,e,j⟩:=sym_is i (b - a).toNat L a m b h0 f d g h (by omega) s1 s2;exact ⟨r,qc _ e,j⟩
theorem stab_is (H:∀x y,∃v,c x y=some v/\(v < 0 ↔ k x < k y)) {L:List GE} {n:Int} (V:n=(L.length:Int)) (W:n<=1099511627776):∃r,xn L n c=some r/\Mrg k L r 0 n:=by
 unfold xn;refine lpW (λs=>0<=s.1/\s.1<=n/\s.2.1=s.1+20/\Turn k L s.2.2 0 n/\Doned k s.2.2 20 s.1) (λs=>0<=s.1/\s.1<=n/\n < s.1+20/\Turn k L s.2.2 0 n/\Doned k s.2.2 20 s.1) (λs=>(n - s.1).toNat) ⟨uT _,by dsimp only;omega,rfl,Turn.refl _ _ _,.nil⟩ ?_ ?_
 ·rintro ⟨a,b,D⟩ ⟨f,A,I,i,p⟩
  dsimp only at f A I i p ⊢;have j:=i.len;rw [zj j];by_cases h:b<=n
  ·right;rw [up (uE h)];have N:IntKind.wrap .i64 (b+(20:Int))=b+20:=yU (by omega);obtain ⟨r,e,t,s⟩:=ins_is H (L:=D) (a:=a) (b:=b) f (by omega) (by omega) (by omega);rw [e,ua,N];refine ⟨_,rfl,⟨by dsimp only;omega,h,rfl,i.trans (t.wide (uT _) f h),?_⟩,by dsimp only;omega⟩;dsimp only;have:=(p.same (R:=r) (by omega) λx l C=>t.out x l (by omega)).2;rw [I] at s ⊢;exact .snoc this s
  ·left;rw [uu (by simp [h])];exact ⟨_,rfl,f,A,by dsimp only;omega,i,p⟩
 ·rintro ⟨a,b,D⟩ ⟨f,A,I,i,p⟩
  dsimp only at f A I i p ⊢;have j:=i.len;obtain ⟨r,e,t,s⟩:=ins_is H (L:=D) (a:=a) (b:=n) f (by omega) (by omega) A;rw [e,ua];refine lpW (λs=>20<=s.1/\s.1<=2199023255552/\Turn k L s.2 0 n/\Chunks k s.2 s.1 n 0) (λs=>Mrg k L s.2 0 n) (λs=>(n - s.1).toNat) ⟨by dsimp only;omega,by dsimp only;omega,i.trans (t.wide (uT _) f (uT _)),((p.same (R:=r) (by omega) λx l C=>t.out x l (by omega)).2).app (.last (by omega) s)⟩ ?_ (λs hs=>⟨_,rfl,hs⟩)
  rintro ⟨q,E⟩ ⟨O,S,G,J⟩
  dsimp only at O S G J ⊢;have j:=G.len;rw [zj j];by_cases h:q < n
  ·right;rw [up (uE h)];have Q:IntKind.wrap .i64 ((2:Int) * q)=2 * q:=yU (by omega);have U:IntKind.wrap .i64 (q * (2:Int))=2 * q:=(yU (by omega)).trans (by omega);simp only [Q,U];refine Exists.imp (λ_ h=>⟨h.1,h.2.1,h.2.2⟩) (lpN (P:=λu:Int×List GE=>(20<=u.1/\u.1<=2199023255552/\Turn k L u.2 0 n/\Chunks k u.2 u.1 n 0)/\(n - u.1).toNat < (n - q).toNat) (λs=>0<=s.1/\s.1<=n/\s.2.1=s.1+2 * q/\Turn k L s.2.2 0 n/\Doned k s.2.2 (2 * q) s.1/\Chunks k s.2.2 q n s.1) (λs=>0<=s.1/\s.1<=n/\n < s.1+2 * q/\Turn k L s.2.2 0 n/\Doned k s.2.2 (2 * q) s.1/\Chunks k s.2.2 q n s.1) (λs=>(n - s.1).toNat) ⟨uT _,by dsimp only;omega,by dsimp only;omega,G,.nil,J⟩ ?_ ?_)
   ·rintro ⟨a,b,F⟩ ⟨g,B,z,d,o,w⟩
    dsimp only at g B z d o w ⊢;have j:=d.len;rw [zj j];by_cases hb:b<=n
    ·right;rw [up (uE hb)];have K:IntKind.wrap .i64 (a+q)=a+q:=yU (by omega);have T:IntKind.wrap .i64 (b+2 * q)=b+2 * q:=yU (by omega);simp only [K,T];obtain ⟨s1,s2,M⟩:=w.two (by omega) (by omega);rw [<- z] at s2 M;obtain ⟨r,e,t,s⟩:=sym_top H (L:=F) (a:=a) (m:=a+q) (b:=b) g (by omega) (by omega) (by omega) (by omega) s1 s2;rw [e,ua];refine ⟨_,rfl,⟨by dsimp only;omega,hb,rfl,d.trans (t.wide (uT _) g hb),?_,M.same (by omega) λx C=>t.out x (by omega) (by omega)⟩,by dsimp only;omega⟩;dsimp only;have:=(o.same (R:=r) (by omega) λx l C=>t.out x l (by omega)).2;rw [z] at s ⊢;exact .snoc this s
    ·left;rw [uu (by simp [hb])];exact ⟨_,rfl,g,B,by dsimp only;omega,d,o,w⟩
   ·rintro ⟨a,b,F⟩ ⟨g,B,z,d,o,w⟩
    dsimp only at g B z d o w ⊢;have j:=d.len;have K:IntKind.wrap .i64 (a+q)=a+q:=yU (by omega);simp only [K];obtain ⟨s1,s2⟩:=w.end z;by_cases hb:a+q < n
    ·rw [up (uE hb)];obtain ⟨r,e,t,s⟩:=sym_top H (L:=F) (a:=a) (m:=a+q) (b:=n) g (by omega) (by omega) (by omega) (by omega) (s1 hb).1 (s1 hb).2;rw [e,ua];exact ⟨_,rfl,⟨by dsimp only;omega,by dsimp only;omega,d.trans (t.wide (uT _) g (uT _)),((o.same (R:=r) (by omega) λx l C=>t.out x l (by omega)).2).app (.last (by omega) s)⟩,by dsimp only;omega⟩
    ·rw [uu (by simp [hb])];exact ⟨_,rfl,⟨by dsimp only;omega,by dsimp only;omega,d,o.app (.last (by omega) (s2 hb))⟩,by dsimp only;omega⟩
  ·left;rw [uu (by simp [h])];refine ⟨_,rfl,G,?_⟩;dsimp only;cases J with
   | last _ s=>exact s
   | cons s _=>exact s.sub (uT _) (by omega)
theorem stab_eq (f:∀x y,∃v,c x y=some v/\(v < 0 ↔ k x < k y)) {L M:List GE} (b:(L.length:Int)<=1099511627776) (d:M.Pairwise (λx y=>k x<=k y)) (a:Eqv k L M):yZ L c=some M:=by
 obtain ⟨r,e,t,s⟩:=stab_is f (L:=L) rfl b;unfold yZ;rw [e,ua];have h:Srt k r 0 r.length:=by rw [t.len];exact s
 rw [ord_uniq r M h.pair d λq=>(a q).trans (t.eqv q).symm]
end Go.Vv
namespace Go.Vv
open Go
noncomputable def r7F (n:Nat) (ahead1:List zy):Nat->GA->List GL->Option (Out (List GL) (List GL)):=(λ(n1:Nat) (x1:GA) (s1:(List GL))=>((yf ((([]:List zy)).length+(ahead1).length<=yK) ((yf (((([]:List zy)++ahead1)).length+(([x1.name]:List zy)).length<=yK) ((lp (zq (λ(n2:Nat) (x2:GC) (s2:(List GL))=>((yf ((s2).length+(([(GL.mk ((([]:List zy)++ahead1)++([x1.name]:List zy)) x2)]:List GL)).length<=yK) (some (.nxt (s2++([(GL.mk ((([]:List zy)++ahead1)++([x1.name]:List zy)) x2)]:List GL))))):Option (Out _ (List GL)))) x1.leaves 0 s1) λ(s2:(List GL))=>((w9 n x1.subs ((([]:List zy)++ahead1)++([x1.name]:List zy))).bind λv44=>(yf ((s2).length+(v44).length<=yK) (some (.nxt (s2++v44)))))))))):Option (Out _ (List GL))))
theorem rows7_eq (n:Nat) (t0:List GA) (a:List zy):w9 (n+1) t0 a=(lp (zq (r7F n a) t0 0 ([]:List GL)) λ(s1:(List GL))=>some s1):=rfl
def vR (r:GE):GL:=⟨r.path,r.leaf⟩
noncomputable def roF:Nat->GL->List GE->Option (Out (List GE) (List GE)):=(λ(n1:Nat) (x1:GL) (s1:(List GE))=>((yf ((s1).length+(([(GE.mk x1.path x1.l)]:List GE)).length<=yK) (some (.nxt (s1++([(GE.mk x1.path x1.l)]:List GE))))):Option (Out _ (List GE))))
theorem roT_eq (t0:List GA):ref30Rows t0=((qX t0).bind λa=>(if (!a)=true then some ([]:List GE) else ((ref07Rows t0 ([]:List zy)).bind λv3=>(lp (zq roF v3 0 ([]:List GE)) λ(s1:(List GE))=>some s1)))):=rfl
theorem filt_all {α:Type} (L:List α):L.filter (λ_=>true)=L:=tP.2 λ_ _=>rfl
theorem r7F_is {n:Nat} {a:List zy} {x:GA} {s:List GL} (e:a.length<=16777216) (h:w9 n x.subs (a++[x.name])=some ((zu (a++[x.name]) x.subs).map vR)) (hs:s.length+(wN a x).length<=16777216) (i:Nat):r7F n a i x s=some (.nxt (s++(wN a x).map vR)):=by
 rw [xq] at hs ⊢;simp only [uo,uz] at hs;unfold r7F;simp only [u6];rw [zj (yY (by simp;omega)),zj (yY (by simp;omega))];rw [vX (λ_:GC=>true) (λl=>(⟨a++[x.name],l⟩:GL)) x.leaves 0 s (yY (by omega)) (λi y d _ b=>by rw [zj (by simpa using b),up rfl]),yp];rw [filt_all];rw [h,ua,zj (yY (by simp;omega))];simp [vR,rl]
theorem rows7_is:∀(n:Nat) (t:List GA) (a:List zy),GA.deps t < n->Small t->a.length+GA.deps t<=16777216->w9 n t a=some ((zu a t).map vR)
 | 0,_,_,h,_,_=>by omega
 | n+1,t,a,h,hs,ha=>by
  rw [rows7_eq];have key:∀(u:List GA) (i:Nat) (s:List GL),(∀x ∈ u,x ∈ t)->s.length+(zu a u).length<=16777216->zq (r7F n a) u i s=some (.inr (s++(zu a u).map vR)):=by
   intro u
   induction u with
   | nil=>intro i s _ _;simp [zq,zu]
   | cons x r ih =>
    intro i s b d;have e:zu a (x::r)=wN a x++zu a r:=by rw [yc,tX,<- yc]
    rw [e] at d ⊢;simp only [uo] at d;have f:=b x (by simp);have o:x.dep<=GA.deps t:=qa f;have m:=xT x;have j:=rows7_is n x.subs (a++[x.name]) (by omega) (hs.subs f) (by simp;omega);have g:=r7F_is (s:=s) (by omega) j (by omega) i;simp only [zq,g];rw [ih (i+1) (s++(wN a x).map vR) (λy l=>b y (by simp [l])) (by simp;omega)];simp
  rw [key t 0 [] (λx h=>h) (by simpa using uU (rows_len _ t a (uh _)) hs.2),yp,u6]
theorem refRows_is {t:List GA} (h:Small t):ref30Rows t=some (if treeB 0 t=true then zu [] t else []):=by
 rw [roT_eq,qH h,ua];cases treeB 0 t with
 | false=>rfl
 | true =>
  have b:ref07Rows t []=some ((zu [] t).map vR):=qc (GA.deps t+1) λn d=>rows7_is n t [] (by omega) h (by simpa using h.dep);have g:(zu [] t).length<=16777216:=uU (rows_len _ t [] (uh _)) h.2;rw [uu (by decide),b,ua,vX (λ_:GL=>true) (λx=>(⟨x.path,x.l⟩:GE)) _ 0 [] (yY (by simp;omega)) (λi y f _ a=>by unfold roF;rw [zj (by simpa using a),up rfl]),yp];have e:(((zu [] t).map vR).filter λ_=>true).map (λx=>(⟨x.path,x.l⟩:GE))=zu [] t:=by
   rw [filt_all,rN];exact List.map_id' _
  rw [e];rfl
theorem ref30SamePath_refl (p:List zy):qj p p=some true:=by
 unfold qj;rw [uu (by simp),qe (r:=false) (λ_ _=>true)]
 ·simp [allI]
 ·intro i x a;have hi:=(uc.1 a).1;have b:p[i]=x:=(uc.1 a).2;rw [wM hi,b];simp
theorem ref30Same_refl (L:List GE):ref30Same L L=some true:=by
 unfold ref30Same;rw [uu (by simp),qe (r:=false) (λ_ _=>true)]
 ·simp [allI]
 ·intro i x a;have hi:=(uc.1 a).1;have b:L[i]=x:=(uc.1 a).2;have hd:L.getD i default=x:=by rw [ur,a];rfl
  rw [wM hi,b];simp only [ua,ref30SamePath_refl,uB,hd,ref05Same_refl];rw [zj (by intro _;omega),zj (by intro _;omega)];simp
theorem rows_app (A B:List GA):zu [] (A++B)=zu [] A++zu [] B:=by
 rw [yc,yc,yc,List.flatMap_append]
theorem itS_app (A B:List GE):itS (A++B)=itS A+itS B:=by simp [itS]
theorem toS_app (A B:List GE):toS (A++B)=toS A+toS B:=by simp [toS]
theorem use_bytes {name:zy} {t:List GA} (hs:Small t) (a:treeB 0 t=true) {u:GI} (h:wl name t=some u):∃r,ref09Put [] t=some r/\u.bytes=(r.length:Int):=by
 have d:=hs.2;obtain ⟨r,e,b⟩:=put_both hs;obtain ⟨i,m,_,j⟩:=statePut_tot hs;have f:=rows_bk_le (zu [] t);have l:=rows_lbk (GA.deps t) t [] (uh _);have g:=rows_len (GA.deps t) t [] (uh _);refine ⟨r,b,?_⟩;unfold wl at h;rw [e,ua,pathsRows_is hs,ua,up a] at h;have:=use_loop (ρ:=GI) (zu [] t) 0 0 0 0 (by omega) (by omega) (by omega);rw [show ((0:Int),(0:Int),(0:Int))=(((0:Nat):Int),((0:Nat):Int),((0:Nat):Int)) from rfl,this,yp] at h;cases h;rfl
def atN (name:zy) (r:GE):Bool:=r.path.head?==some name
theorem cnt_name {ρ:Type} (name:zy):∀(L:List GE) (i a b c:Nat),(∀r ∈ L,r.path ≠ [])->a+L.length<=4611686018427387904->b+itS L<=4611686018427387904->c+toS L<=4611686018427387904 ->
  zq (λ(n2:Nat) (g:GE) (s2:Int×Int×Int)=>(((yu g.path (0:Int)).bind λf=>(if (f==name)=true then some (.nxt ((IntKind.wrap .i64 (s2.1+(1:Int))),(IntKind.wrap .i64 (s2.2.1+((g.leaf.items).length:Int))),(IntKind.wrap .i64 (s2.2.2+((g.leaf.tombs).length:Int))))) else some (.nxt (s2.1,s2.2.1,s2.2.2)))):Option (Out ρ (Int×Int×Int)))) L i ((a:Int),(b:Int),(c:Int))=some (.inr (((a+(L.filter (atN name)).length:Nat):Int),((b+itS (L.filter (atN name)):Nat):Int),((c+toS (L.filter (atN name)):Nat):Int)))
 | [],_,a,b,c,_,_,_,_=>by simp [zq,itS,toS]
 | r::L,i,a,b,c,hp,h1,h2,h3=>by
  have o:itS (r::L)=r.leaf.items.length+itS L:=by simp [itS]
  have u:toS (r::L)=r.leaf.tombs.length+toS L:=by simp [toS]
  rw [o] at h2;rw [u] at h3;simp only [uk] at h1;obtain ⟨d,w,l⟩:∃d w,r.path=d::w:=by
   cases h:r.path with
   | nil=>exact absurd h (hp r (by simp))
   | cons d w=>exact ⟨d,w,rfl⟩
  have p:yu r.path (0:Int)=some d:=by rw [l];rfl
  have j:atN name r=(d==name):=by unfold atN;rw [l];simp
  simp only [zq,p,ua];have e:=λx q=>hp x (tJ r q);by_cases hn:(d==name)=true
  ·have n:IntKind.wrap .i64 ((a:Int)+1)=((a+1:Nat):Int):=by rw [yU (by omega)];omega
   have s:IntKind.wrap .i64 ((b:Int)+((r.leaf.items.length:Nat):Int))=((b+r.leaf.items.length:Nat):Int):=by rw [yU (by omega)];omega
   have v:IntKind.wrap .i64 ((c:Int)+((r.leaf.tombs.length:Nat):Int))=((c+r.leaf.tombs.length:Nat):Int):=by rw [yU (by omega)];omega
   rw [up hn,n,s,v];simp only [];rw [cnt_name name L (i+1) (a+1) (b+r.leaf.items.length) (c+r.leaf.tombs.length) e (by omega) (by omega) (by omega),pf (by rw [j];exact hn)];have t:itS (r::L.filter (atN name))=r.leaf.items.length+itS (L.filter (atN name)):=by simp [itS]
   have m:toS (r::L.filter (atN name))=r.leaf.tombs.length+toS (L.filter (atN name)):=by simp [toS]
   rw [t,m,uk,tM a,tM b,tM c,p8 1]
  ·rw [uu hn];simp only [];rw [cnt_name name L (i+1) a b c e (by omega) (by omega) (by omega),pg (by rw [j];exact hn)]
theorem rows_name {t:List GA} (j:t.Pairwise λx y=>x.name ≠ y.name) {x:GA} (d:x ∈ t):(zu [] t).filter (atN x.name)=zu [] [x]:=by
 have a:∀{z:GA} {r:GE},r ∈ wN [] z->atN x.name r=(z.name==x.name):=λh=>by
  obtain ⟨w,e⟩:=rowsN_head h;unfold atN;rw [e];simp
 induction t with
 | nil=>cases d
 | cons y t ih =>
  obtain ⟨g,m⟩:=uW.1 j;have e:zu [] (y::t)=wN [] y++zu [] t:=by rw [yc,tX,<- yc]
  have l:zu [] [x]=wN [] x:=by rw [yc];simp
  rw [e,tp];rcases uD.1 d with rfl | d
  ·have f:(wN [] x).filter (atN x.name)=wN [] x:=tP.2 λr b=>by rw [a b];simp
   have i:(zu [] t).filter (atN x.name)=[]:=tH.2 λr b=>by
    obtain ⟨z,n,b⟩:=mem_rows.1 b;rw [a b];simpa using λe=>g z n e.symm
   rw [f,i,tA,l]
  ·have f:(wN [] y).filter (atN x.name)=[]:=tH.2 λr b=>by
    rw [a b];simpa using g x d
   rw [f,u6,ih m d]
theorem names_ne {t:List GA} (h:upB t=true):t.Pairwise λx y=>x.name ≠ y.name:=((qR t).1 h).imp λh e=>by rw [e,less_irr] at h;cases h
theorem rows_ne {t:List GA} {r:GE} (h:r ∈ zu [] t):r.path ≠ []:=by
 obtain ⟨x,_,a⟩:=mem_rows.1 h;obtain ⟨w,e⟩:=rowsN_head a;rw [e];simp
theorem refUses_is {t:List GA} (hs:Small t) (f:treeB 0 t=true):wR t=some (t.map qQ,0):=by
 unfold wR;rw [qH hs,f,ua,uu (by decide),refRows_is hs,up f,ua];have C:=hs.2;have z:=rows_bk_le (zu [] t);have A:=rows_lbk (GA.deps t) t [] (uh _);have D:=rows_len (GA.deps t) t [] (uh _);have B:=hs.len;rw [vX (λ_:GA=>true) qQ t 0 [] (by simp [yK];omega)]
 ·rw [yp,filt_all];rfl
 ·intro i x s g o;have j:=useU_is hs f g;obtain ⟨w,q,l⟩:=use_bytes (sing_small hs g) (sing_may f g) j.eq;obtain ⟨n,m,p⟩:=j.v;rw [q,ua];have:=cnt_name (ρ:=Out (List GI×Int) (List GI)) x.name (zu [] t) 0 0 0 0 (λr y=>rows_ne y) (by omega) (by omega) (by omega);rw [show ((0:Int),(0:Int),(0:Int))=(((0:Nat):Int),((0:Nat):Int),((0:Nat):Int)) from rfl,this,yp,up rfl,rows_name (names_ne (zN f).1) g];have e:GI.mk x.name ((0+(zu [] [x]).length:Nat):Int) ((0+itS (zu [] [x]):Nat):Int) ((0+toS (zu [] [x]):Nat):Int) (w.length:Int)=qQ x:=by
   have h:=j.name;generalize qQ x=u at h n m p l;obtain ⟨a,b,c,d,e⟩:=u;simp only at h n m p l;subst h n m p l;simp
  simp only [e];rw [zj (by simpa using o)]
theorem refUses_no {t:List GA} (hs:Small t) (a:treeB 0 t=false):wR t=some ([],2):=by
 unfold wR;rw [qH hs,a];rfl
theorem uses_no {t:List GA} (hs:Small t) (a:treeB 0 t=false):wV t=some ([],2):=by
 unfold wV;rw [qu hs,a];rfl
def lv (t:List GA):Int×Int×Int:=(((zu [] t).length:Int),(itS (zu [] t):Int),(toS (zu [] t):Int))
theorem all_loop {ρ:Type} {t:List GA} (hs:Small t) (d:treeB 0 t=true) {u:GI} (a:UseOf [] t u):∀(L A:List GA) (i:Nat),t=A++L ->
  zq (λ(E:Nat) (b:GI) (s1:Int×Int×Int)=>(some (.nxt ((IntKind.wrap .i64 (s1.1+b.leaves)),(IntKind.wrap .i64 (s1.2.1+b.items)),(IntKind.wrap .i64 (s1.2.2+b.tombs)))):Option (Out ρ (Int×Int×Int)))) (L.map qQ) i (lv A)=some (.inr (lv t))
 | [],A,i,e=>by rw [e,tA];rfl
 | x::L,A,i,e=>by
  have n:x ∈ t:=by rw [e];simp
  have h:=useU_is hs d n;have f:t=(A++[x])++L:=by rw [e];simp
  have q:zu [] t=(zu [] A++zu [] [x])++zu [] L:=by rw [f,rows_app,rows_app]
  obtain ⟨D,z,B⟩:=a.v;have y:=a.l.2;have F:=a.i.2;have C:=a.t.2;obtain ⟨p,o,s⟩:=h.v;have m:=congrArg List.length q;have w:=congrArg itS q;have r:=congrArg toS q;rw [uo,uo] at m;rw [itS_app,itS_app] at w;rw [toS_app,toS_app] at r;have j:IntKind.wrap .i64 ((lv A).1+(qQ x).leaves)=(lv (A++[x])).1:=by
   simp only [lv,rows_app,uo,p];rw [yU (by omega)];omega
  have g:IntKind.wrap .i64 ((lv A).2.1+(qQ x).items)=(lv (A++[x])).2.1:=by
   simp only [lv,rows_app,itS_app,o];rw [yU (by omega)];omega
  have z3:IntKind.wrap .i64 ((lv A).2.2+(qQ x).tombs)=(lv (A++[x])).2.2:=by
   simp only [lv,rows_app,toS_app,s];rw [yU (by omega)];omega
  simp only [uC,zq,j,g,z3];exact all_loop hs d a L (A++[x]) (i+1) f
theorem all_is {t:List GA} (hs:Small t):∃v,meterAll t=some v/\ref45All t=some v:=by
 unfold meterAll ref45All;rw [qu hs,ua];cases ht:treeB 0 t with
 | false =>
  rw [refUses_no hs ht];exact ⟨_,rfl,rfl⟩
 | true =>
  obtain ⟨u,f⟩:=use_is [] hs ht;obtain ⟨r,n,j⟩:=use_bytes hs ht f.eq;have l:=all_loop (ρ:=GI×Int) hs ht f t [] 0 rfl;rw [refUses_is hs ht,ua,uu (by simp),uu (by simp),f.eq,ua];rw [show lv []=((0:Int),(0:Int),(0:Int)) from rfl] at l;rw [l,yp,n,ua];refine ⟨_,rfl,?_⟩;obtain ⟨m,i,h⟩:=f.v;have g:=f.name;obtain ⟨a,b,c,d,e⟩:=u;simp only at g m i h j;subst g m i h j;rfl
end Go.Vv
namespace Go.Vv
open Go
theorem any_idx {ρ:Type} {q:GI->Bool} {r:ρ} {L:List GI}:∀(M:List Nat) (k:Nat),k+M.length<=L.length ->
  zq (λ(n2:Nat) (d:Nat) (s2:Unit)=>(((yu L (n2:Int)).bind λa=>(if (q a)=true then some (.ret r) else some (.nxt ()))):Option (Out ρ Unit))) M k ()=if ((L.drop k).take M.length).any q=true then some (.inl r) else some (.inr ())
 | [],k,_=>by simp [zq]
 | x::M,k,h=>by
  simp only [uk] at h;have b:k < L.length:=by omega
  have e:(L.drop k).take (M.length+1)=L[k]::(L.drop (k+1)).take M.length:=by
   rw [ri b,sS]
  simp only [zq,wM b,ua,uk,e,pW];cases hq:q L[k] with
  | true=>simp
  | false =>
   simp only [ul,uG,tr];exact any_idx M (k+1) (by omega)
theorem refMay_is {L:List GI} (e:L.length<=maxLen):ref45May L=some (mayQ L):=by
 unfold ref45May;rw [qe (mayQ1 L) (r:=false)]
 ·unfold mayQ;split <;> simp_all
 ·intro i x d;have hi:i < L.length:=(uc.1 d).1;simp only [maxLen] at e;have b:=any_idx (ρ:=Out Bool Unit) (q:=λy=>y.name==x.name) (r:=Out.ret false) (L:=L) (List.range ((i:Int)).toNat) 0 (by simp;omega);rw [sq] at b;rw [ref04IsName_is,zj (by omega),b,pR,uB];have a:leastQ x < 0 ↔ (x.leaves < 0 \/ x.items < 0 \/ x.tombs < 0 \/ x.bytes < 0):=by
   unfold leastQ
   repeat' split
   all_goals omega
  have hd:decide (leastQ x < 0)=(decide (x.leaves < 0) || decide (x.items < 0) || decide (x.tombs < 0) || decide (x.bytes < 0)):=by
   rw [uJ];simp only [um,tn,a,or_assoc]
  unfold mayQ1;rw [hd];generalize ((L.take i).any λy=>y.name==x.name)=A;generalize (x.name==([]:zy))=B;generalize nameB x.name=C;generalize decide (x.leaves < 0)=D1;generalize decide (x.items < 0)=D2;generalize decide (x.tombs < 0)=D3;generalize decide (x.bytes < 0)=D4;cases A <;> cases B <;> cases C <;> cases D1 <;> cases D2 <;> cases D3 <;> cases D4 <;> rfl
theorem mayQ_uniq {L:List GI} (h:mayQ L=true) {i j:Nat} (hi:i < L.length) (b:j < L.length) (e:L[i].name=L[j].name):i=j:=by
 have key:∀{i j:Nat} (hi:i < L.length) (b:j < L.length),i < j->L[i].name ≠ L[j].name:=λ{i j} hi b f e=>by
  have a:=allI_iff.1 h j L[j] (ug b);unfold mayQ1 at a;simp only [tv,sL] at a;have d:=a.1.1;rw [sm] at d;exact d L[i] (List.mem_take_iff_getElem.2 ⟨i,by omega,rfl⟩) (by simpa using e)
 rcases Nat.lt_trichotomy i j with a | a | a
 ·exact absurd e (key hi b a)
 ·exact a
 ·exact absurd e.symm (key b hi a)
def QAt (L:List GI) (name:zy) (n:Nat) (v:Int):Prop :=
 (∃j,∃h:j < L.length,j < n/\L[j].name=name/\v=(j:Int)) \/ ((∀j,∀h:j < L.length,j < n->L[j].name ≠ name) /\
  ((∃j,∃h:j < L.length,j < n/\L[j].name=[]/\v=(j:Int)) \/ (v=-1/\∀j,∀h:j < L.length,j < n->L[j].name ≠ [])))
theorem refQuota_loop {ρ:Type} {L:List GI} {name:zy}:∀(M:List GI) (i:Nat) (v:Int),M=L.drop i->QAt L name i v ->
  ∃v',zq (λ(p:Nat) (q:GI) (o:Int)=>((yf (((q.name==name)==false)=true->0<=(p:Int)/\(p:Int) < ((L).length:Int)) ((if ((q.name==name) || ((((L).getD (p:Int).toNat default).name==([]:zy))&&(decide (o < (0:Int)))))=true then some (.nxt (p:Int)) else some (.nxt o)))):Option (Out ρ Int))) M i v=some (.inr v')/\QAt L name L.length v'
 | [],i,v,hM,h=>by
  have s:L.length<=i:=by have:=congrArg List.length hM;simp at this;omega
  refine ⟨v,rfl,?_⟩;rcases h with ⟨j,d,f,g⟩ | ⟨h0,⟨j,d,f,g⟩ | ⟨f,g⟩⟩
  ·exact .inl ⟨j,d,d,g⟩
  ·exact .inr ⟨λk a _=>h0 k a (by omega),.inl ⟨j,d,d,g⟩⟩
  ·exact .inr ⟨λk a _=>h0 k a (by omega),.inr ⟨f,λk a _=>g k a (by omega)⟩⟩
 | x::M,i,v,hM,h=>by
  have hi:i < L.length:=by have:=congrArg List.length hM;simp at this;omega
  have r:L.drop i=L[i]::L.drop (i+1):=ri hi;rw [r] at hM;injection hM with f g;subst f;have hd:L.getD (i:Int).toNat default=L[i]:=by rw [uB,ur,ug hi];rfl
  simp only [zq,hd];rw [zj (λ_=>by omega)];by_cases hn:L[i].name=name
  ·rw [up (by simp [hn])];exact refQuota_loop M (i+1) _ g (.inl ⟨i,hi,by omega,hn,rfl⟩)
  ·have b:∀k,∀a:k < L.length,k < i+1->(∀j,∀d:j < L.length,j < i->L[j].name ≠ name)->L[k].name ≠ name:=λk a l m=>by
    by_cases e:k=i
    ·subst e;exact hn
    ·exact m k a (by omega)
   by_cases hs:L[i].name=[]/\v < 0
   ·rw [up (by simp [hs.1,hs.2])];refine refQuota_loop M (i+1) _ g ?_;rcases h with ⟨j,d,f,l,m⟩ | ⟨h0,⟨j,d,f,l,m⟩ | ⟨f,l⟩⟩
    ·omega
    ·omega
    ·exact .inr ⟨λk a n=>b k a n h0,.inl ⟨i,hi,by omega,hs.1,rfl⟩⟩
   ·rw [uu (λh=>hs (by simpa [hn] using h))];refine refQuota_loop M (i+1) _ g ?_;rcases h with ⟨j,d,f,l,m⟩ | ⟨h0,⟨j,d,f,l,m⟩ | ⟨f,l⟩⟩
    ·exact .inl ⟨j,d,by omega,l,m⟩
    ·exact .inr ⟨λk a n=>b k a n h0,.inl ⟨j,d,by omega,l,m⟩⟩
    ·refine .inr ⟨λk a n=>b k a n h0,.inr ⟨f,λk a n=>?_⟩⟩;by_cases e:k=i
     ·subst e;exact λe=>hs ⟨e,by omega⟩
     ·exact l k a (by omega)
theorem quota2 {L:List GI} (o:mayQ L=true) (name:zy):(∃j,∃h:j < L.length,wg L name=some (L[j],true)/\wD L name=some (j:Int)) \/ (wg L name=some (GI.mk [] 0 0 0 0,false)/\wD L name=some (-1)):=by
 obtain ⟨v,e,l⟩:=refQuota_loop (ρ:=Int) (L:=L) (name:=name) L 0 (-1) rfl (.inr ⟨λj _ h=>by omega,.inr ⟨rfl,λj _ h=>by omega⟩⟩);have p:wD L name=some v:=by unfold wD;rw [e];rfl
 have key:∀s:zy,(∃j,∃h:j < L.length,L[j].name=s/\zZ L (λm=>xw m s)=some (j:Int)) \/ ((∀j,∀h:j < L.length,L[j].name ≠ s)/\zZ L (λm=>xw m s)=some (-1)):=λs=>by
  rcases indexQ_is (f:=λm=>xw m s) (q:=λx=>x.name==s) (λx=>rfl) L with ⟨h,n⟩ | ⟨j,a,t,n,_⟩
  ·exact .inr ⟨λj a e=>by
    rw [sm] at n;exact n L[j] (tU a) (by simpa using e),h⟩
  ·exact .inl ⟨j,a,by simpa using t,n⟩
 rw [p];unfold wg;rw [zj (by decide)];have r:List.range (((2:Int)).toNat)=[0,1]:=rfl;rw [r];simp only [zq,ut];rcases key name with ⟨j,a,b,h⟩ | ⟨b,h⟩
 ·rw [h,ua];simp only [show ((j:Int) >= 0) from by omega,sZ,ut];rw [wM a,ua];refine .inl ⟨j,a,rfl,?_⟩;rcases l with ⟨i,hi,_,d,g⟩ | ⟨h0,_⟩
  ·rw [g,mayQ_uniq o hi a (d.trans b.symm)]
  ·exact absurd b (h0 j a a)
 ·rw [h,ua];simp only [show ¬ ((-1:Int) >= 0) from by omega,sK,ul,uG,uZ,ra];have l:((∃j,∃h:j < L.length,j < L.length/\L[j].name=[]/\v=(j:Int)) \/ (v=-1/\∀j,∀h:j < L.length,j < L.length->L[j].name ≠ [])):=by
   rcases l with ⟨i,hi,_,d,g⟩ | ⟨_,h⟩
   ·exact absurd d (b i hi)
   ·exact h
  rcases key [] with ⟨j,a,b,h⟩ | ⟨b,h⟩
  ·rw [h,ua];simp only [show ((j:Int) >= 0) from by omega,sZ,ut];rw [wM a,ua];refine .inl ⟨j,a,rfl,?_⟩;rcases l with ⟨i,hi,_,d,g⟩ | ⟨_,h0⟩
   ·rw [g,mayQ_uniq o hi a (d.trans b.symm)]
   ·exact absurd b (h0 j a a)
  ·rw [h,ua];simp only [show ¬ ((-1:Int) >= 0) from by omega,sK,ul,uG];refine .inr ⟨rfl,?_⟩;rcases l with ⟨i,hi,_,d,g⟩ | ⟨h0,_⟩
   ·exact absurd d (b i hi)
   ·rw [h0]
theorem over_of {L:List GI} (p:mayQ L=true) (s:∀q ∈ L,GI.wf q) {u q:GI} (g:q ∈ L) (v:wg L u.name=some (q,true)) (a:UseB u):x7 L u=some (ovr u.leaves q.leaves,ovr u.items q.items,ovr u.tombs q.tombs,ovr u.bytes q.bytes):=by
 unfold x7;rw [v,ua];have f:=mayQ_pos p g;obtain ⟨w0,o,m,j,r⟩:=s q g;have d:∀n,InK .i64 n->n<=9223372036854775807:=λn h=>by unfold InK at h;simp [IntKind.min,IntKind.max,IntKind.signed,IntKind.bits] at h;omega
 simp only [tg,ul,uG,xP,ua];rw [zj (by decide)];have e:List.range (((4:Int)).toNat)=[0,1,2,3]:=rfl;rw [e];simp only [zq,ut,uZ,ra,uG,Nat.reduceAdd,show (2:Nat) ≠ 0 from by omega,show (2:Nat) ≠ 1 from by omega,show (3:Nat) ≠ 0 from by omega,show (3:Nat) ≠ 1 from by omega,show (3:Nat) ≠ 2 from by omega,yp];rw [ovr_is a.l.1 a.l.2 f.1 (d _ o),ovr_is a.i.1 a.i.2 f.2.1 (d _ m),ovr_is a.t.1 a.t.2 f.2.2.1 (d _ j),ovr_is a.b.1 a.b.2 f.2.2.2 (d _ r)]
theorem over_non {L:List GI} {u:GI} (a:wg L u.name=some (GI.mk [] 0 0 0 0,false)):x7 L u=some (0,0,0,0):=by
 unfold x7;rw [a];rfl
theorem ovr0 {u q:Int}:(ovr u q==0)=!decide (u > q):=by
 unfold ovr;by_cases h:u > q
 ·rw [up (by omega),uE h];simp;omega
 ·rw [uu (by omega),uS h];rfl
theorem ovrp {u q:Int}:decide (ovr u q > 0)=decide (u > q):=by
 unfold ovr;by_cases h:u > q
 ·rw [up (by omega),uE h];simp;omega
 ·rw [uu (by omega),uS h];rfl
end Go.Vv
namespace Go.Vv
open Go
theorem some_ne (a b c d:Int):(some (a,b,c,d) != some ((0:Int),(0:Int),(0:Int),(0:Int)))=!((a==0)&&(b==0)&&(c==0)&&(d==0)):=by
 rw [uJ];simp only [oa,oA,un,tG,tv,te,rV];by_cases h1:a=0 <;> by_cases h2:b=0 <;> by_cases h3:c=0 <;> by_cases h4:d=0 <;> simp [h1,h2,h3,h4]
theorem refOver_is {L:List GI} (o:L.length<=maxLen) (a:mayQ L=true) (n:∀q ∈ L,GI.wf q) {t:List GA} (hs:Small t) (h:treeB 0 t=true):ref45Over L t=some ((t.map qQ).filter (overB L),0):=by
 unfold ref45Over;rw [refUses_is hs h,ua,up (by simp),refMay_is o,a,ua,uu (by simp)];rw [vX (overB L) (λu=>u) _ 0 [] (by have:=hs.len;simp [yK];omega)]
 ·simp
 ·intro i u s p d;obtain ⟨x,m,rfl⟩:=tF.1 p;have g:=useU_is hs h m;generalize qQ x=u at g;unfold overB;rcases quota2 a u.name with ⟨j,l,f,b⟩ | ⟨f,b⟩
  ·rw [over_of a n (tU l) f g.ub,b,ua];have hd:L.getD (j:Int).toNat default=L[j]:=by rw [uB,ur,ug l];rfl
   rw [hd,zj (λ_=>by omega),zj (λ_=>by omega),zj (λ_=>by omega),zj (λ_=>by omega)];have e:(some (ovr u.leaves L[j].leaves,ovr u.items L[j].items,ovr u.tombs L[j].tombs,ovr u.bytes L[j].bytes) != some ((0:Int),(0:Int),(0:Int),(0:Int)))=(decide ((j:Int) >= 0)&&((((decide (u.leaves > L[j].leaves)) || (decide (u.items > L[j].items))) || (decide (u.tombs > L[j].tombs))) || (decide (u.bytes > L[j].bytes)))):=by
    rw [uE (show (j:Int) >= 0 by omega),uX];have this:=some_ne (ovr u.leaves L[j].leaves) (ovr u.items L[j].items) (ovr u.tombs L[j].tombs) (ovr u.bytes L[j].bytes);rw [this,ovr0,ovr0,ovr0,ovr0];simp
   rw [e,zj (by simpa using d)]
  ·rw [over_non f,b,ua];simp [yf]
theorem refOne_is {t:List GA} (hs:Small t) (f:treeB 0 t=true) (name:zy):∃u,vJ t name=some u/\ref45Xone t name=some u/\u.name=name/\UseB u:=by
 unfold ref45Xone;rw [refUses_is hs f,ua];have key:∀(M:List GA) (i:Nat),(∀x ∈ M,x ∈ t)->(∃x ∈ M,x.name=name/\zq (λ(r:Nat) (e:GI) (l:Unit)=>((if (e.name==name)=true then some (.ret e) else some (.nxt ())):Option (Out GI Unit))) (M.map qQ) i ()=some (.inl (qQ x))) \/ ((∀x ∈ M,x.name ≠ name)/\zq (λ(r:Nat) (e:GI) (l:Unit)=>((if (e.name==name)=true then some (.ret e) else some (.nxt ())):Option (Out GI Unit))) (M.map qQ) i ()=some (.inr ())):=by
  intro M
  induction M with
  | nil=>intro i _;exact .inr ⟨by simp,rfl⟩
  | cons x M ih =>
   intro i o;have p:=(useU_is hs f (o x (by simp))).name;simp only [uC,zq,p];by_cases h:x.name=name
   ·exact .inl ⟨x,by simp,h,by simp [h]⟩
   ·have q:(x.name==name)=false:=by simpa using h
    rw [q];simp only [ul,uG];rcases ih (i+1) (λy a=>o y (by simp [a])) with ⟨y,a,b,d⟩ | ⟨b,d⟩
    ·exact .inl ⟨y,by simp [a],b,d⟩
    ·refine .inr ⟨λy a=>?_,d⟩;rcases uD.1 a with rfl | a
     ·exact h
     ·exact b y a
 rcases of_is hs f name with ⟨x,m,b,d⟩ | ⟨b,d⟩
 ·rcases key t 0 (λ_ h=>h) with ⟨y,a,g,j⟩ | ⟨g,_⟩
  ·have n:=useU_is hs f m;refine ⟨_,d,?_,n.name.trans b,n.ub⟩;rw [j,up_uniq (zN f).1 a m (g.trans b.symm)];rfl
  ·exact absurd b (g x m)
 ·rcases key t 0 (λ_ h=>h) with ⟨y,a,g,j⟩ | ⟨_,j⟩
  ·exact absurd g (b y a)
  ·exact ⟨_,d,by rw [j];rfl,rfl,⟨by simp,by simp,by simp,by simp⟩⟩
theorem fits2 {L:List GI} (G:L.length<=maxLen) (O:∀q ∈ L,GI.wf q) {t:List GA} (hs:Small t) (H:GA.bks t<=1048576) {e:GJ} (z:GJ.wf e):∃v,meterFits L t e=some v/\ref45Fits L t e=some v:=by
 by_cases hx:mayQ L=true/\treeB 0 t=true/\ww e=true
 ·obtain ⟨m,o,n⟩:=hx;have K:=fine_of hs o H;obtain ⟨u,l,b,D,M,us,I,_⟩:=apply_is K n z;have d:=evOk n;obtain ⟨P,_,_⟩:=qJ d.path;obtain ⟨g,w,y⟩:∃g w,e.op.path=g::w:=by
   cases h:e.op.path with
   | nil=>exact absurd h P
   | cons g w=>exact ⟨g,w,rfl⟩
  obtain ⟨A,C,x,N,J⟩:=refOne_is hs o g;obtain ⟨B,F,r,Q,s⟩:=refOne_is us I g;have hi:yu e.op.path (0:Int)=some g:=by rw [y];rfl
  have R:ref45Fits L t e=((wD L B.name).bind λp=>(if (decide (p < (0:Int)))=true then some (true,(0:Int)) else ((yu L p).bind λa=>some ((!(((((decide (B.leaves > a.leaves))&&(decide (B.leaves > A.leaves))) || ((decide (B.items > a.items))&&(decide (B.items > A.items)))) || ((decide (B.tombs > a.tombs))&&(decide (B.tombs > A.tombs)))) || ((decide (B.bytes > a.bytes))&&(decide (B.bytes > A.bytes))))),(0:Int))))):=by
   unfold ref45Fits;rw [refMay_is G,m,qH hs,o,vU,n];simp only [ua,tg,u2,ut,pC,ul,uG];rw [M,ua,hi,ua,x,ua,ua,r,ua]
  rw [R];rcases quota2 m B.name with ⟨j,E,i,f⟩ | ⟨i,f⟩
  ·rw [fits_is m hs o n D y C F (over_of m O (tU E) i s),f,ua,uu (by simp),wM E,ua];simp only [ovrp];exact ⟨_,rfl,rfl⟩
  ·rw [fits_is m hs o n D y C F (over_non i),f,ua,up (by simp)];exact ⟨_,rfl,by simp⟩
 ·refine ⟨(false,2),?_,?_⟩
  ·unfold meterFits;rw [meterMay_is,qu hs,opMayEvent_is];cases i:mayQ L <;> cases f:treeB 0 t <;> cases h3:ww e <;> first | rfl | exact absurd ⟨i,f,h3⟩ hx
  ·unfold ref45Fits;rw [refMay_is G,qH hs,vU];cases i:mayQ L <;> cases f:treeB 0 t <;> cases h3:ww e <;> first | rfl | exact absurd ⟨i,f,h3⟩ hx
theorem over2 {L:List GI} (a:L.length<=maxLen) (b:∀q ∈ L,GI.wf q) {t:List GA} (hs:Small t):∃v,meterOver L t=some v/\ref45Over L t=some v:=by
 by_cases hx:treeB 0 t=true/\mayQ L=true
 ·exact ⟨_,meterOver_is hx.2 b hs hx.1,refOver_is a hx.2 b hs hx.1⟩
 ·refine ⟨([],2),?_,?_⟩
  ·unfold meterOver;cases ht:treeB 0 t with
   | false=>rw [uses_no hs ht];rfl
   | true =>
    cases hm:mayQ L with
    | true=>exact absurd ⟨ht,hm⟩ hx
    | false=>rw [uses_is hs ht,meterMay_is,hm];rfl
  ·unfold ref45Over;cases ht:treeB 0 t with
   | false=>rw [refUses_no hs ht];rfl
   | true =>
    cases hm:mayQ L with
    | true=>exact absurd ⟨ht,hm⟩ hx
    | false=>rw [refUses_is hs ht,refMay_is a,hm];rfl
theorem uses2 {t:List GA} (hs:Small t):∃v,wV t=some v/\wR t=some v:=by
 cases ht:treeB 0 t with
 | false=>exact ⟨_,uses_no hs ht,refUses_no hs ht⟩
 | true=>exact ⟨_,uses_is hs ht,refUses_is hs ht⟩
theorem same45_refl (L:List GI):ref45Same L L=some true:=by
 unfold ref45Same;rw [uu (by simp),qe (r:=false) (λ_ _=>true)]
 ·simp [allI]
 ·intro i x a;have hi:=(uc.1 a).1;have b:L[i]=x:=(uc.1 a).2;rw [wM hi,b];simp
def wtR (r:GE):Int:=IntKind.wrap .i64 (((r.leaf.items).length:Int)+((r.leaf.tombs).length:Int))
theorem cmpInt_is (a b:Int):qp a b=some (if a < b then -1 else if a > b then 1 else 0):=by
 unfold qp cmpXisNaNInt;simp only [ua,s7,ul,uG,um]
 repeat' split
 all_goals rfl
theorem heavyC (x y:GE):∃v,(λb a=>wy b a) x y=some v/\(v < 0 ↔ (λr=>-wtR r) x < (λr=>-wtR r) y):=by
 refine ⟨if wtR y < wtR x then -1 else if wtR y > wtR x then 1 else 0,?_,?_⟩
 ·unfold wy vn;simp only [ua,cmpInt_is];rfl
 ·dsimp only
  repeat' split
  all_goals omega
def putW (x:GE):List GE->List GE
 | []=>[x]
 | y::r=>if wtR y >= wtR x then y::putW x r else x::y::r
def heavyW (out:List GE):List GE->List GE
 | []=>out
 | x::r=>heavyW (putW x out) r
theorem putW_split (x:GE):∀L:List GE,∃A B,L=A++B/\putW x L=A++x::B/\(∀y ∈ A,wtR y >= wtR x)/\∀z C,B=z::C->¬ wtR z >= wtR x
 | []=>⟨[],[],rfl,rfl,by simp,by simp⟩
 | y::r=>by
  by_cases h:wtR y >= wtR x
  ·obtain ⟨A,B,g,b,d,f⟩:=putW_split x r;refine ⟨y::A,B,by rw [g];rfl,by simp only [putW,up h,b];rfl,λz a=>?_,f⟩;rcases uD.1 a with rfl | a
   ·exact h
   ·exact d z a
  ·exact ⟨[],y::r,rfl,by simp only [putW,uu h];rfl,by simp,λz C e=>by cases e;exact h⟩
theorem putW_pair {x:GE}:∀{L:List GE},L.Pairwise (λa b=>-wtR a<=-wtR b)->(putW x L).Pairwise (λa b=>-wtR a<=-wtR b)
 | [],_=>by simp [putW]
 | y::r,h=>by
  obtain ⟨e,g⟩:=uW.1 h;by_cases hy:wtR y >= wtR x
  ·simp only [putW,up hy];refine uW.2 ⟨λz d=>?_,putW_pair g⟩;obtain ⟨A,B,f,i,_,_⟩:=putW_split x r;rw [i] at d;simp only [uR,uD] at d;rcases d with d | rfl | d
   ·exact e z (by rw [f];simp [d])
   ·omega
   ·exact e z (by rw [f];simp [d])
  ·simp only [putW,uu hy];refine uW.2 ⟨λz d=>?_,h⟩;rcases uD.1 d with rfl | d
   ·omega
   ·have:=e z d;omega
theorem putW_filt {x:GE} (q:Int):∀{L:List GE},L.Pairwise (λa b=>-wtR a<=-wtR b)->(putW x L).filter (λr=>-wtR r==q)=L.filter (λr=>-wtR r==q)++[x].filter (λr=>-wtR r==q)
 | [],_=>by simp [putW]
 | y::r,h=>by
  obtain ⟨g,f⟩:=uW.1 h;by_cases hy:wtR y >= wtR x
  ·simp only [putW,up hy];rw [tL,tL,putW_filt q f];split <;> rfl
  ·simp only [putW,uu hy];by_cases hq:(-wtR x==q)=true
   ·have:(y::r).filter (λr=>-wtR r==q)=[]:=tH.2 λz d e=>by
     have i:=sx.1 hq;have j:=sx.1 e;rcases uD.1 d with rfl | d
     ·omega
     ·have:=g z d;omega
    rw [pf (by exact hq),this,pf (by exact hq)];rfl
   ·have e:[x].filter (λr=>-wtR r==q)=[]:=pg (by exact hq);rw [pg (a:=x) (by exact hq),e,tA]
theorem heavyW_is:∀(L out:List GE),out.Pairwise (λa b=>-wtR a<=-wtR b)->(heavyW out L).Pairwise (λa b=>-wtR a<=-wtR b)/\(heavyW out L).length=out.length+L.length/\∀q:Int,(heavyW out L).filter (λr=>-wtR r==q)=(out++L).filter (λr=>-wtR r==q)
 | [],out,h=>⟨h,rfl,λq=>by simp [heavyW]⟩
 | x::L,out,h=>by
  obtain ⟨i,d,g⟩:=heavyW_is L (putW x out) (putW_pair h);obtain ⟨A,B,e,f,_,_⟩:=putW_split x out;refine ⟨i,by rw [heavyW,d,f,e];simp;omega,λq=>?_⟩;rw [heavyW,g,tp,putW_filt q h,uy,<- tp,<- tp];rfl
theorem refPut_loop {ρ:Type} {L:List GE} {i:Nat} {x:GE} (o:L[i]?=some x) {out:List GE} (E:out.length<=1073741824):∃A B,out=A++B/\putW x out=A++x::B /\
  ye (λ(s2:Int)=>((yf (((decide (s2 < ((out).length:Int)))==true)=true->0<=s2/\s2 < ((out).length:Int)) (((if ((decide (s2 < ((out).length:Int)))==true)=true then xz ((out).getD s2.toNat default) else some default).bind λb=>(yf (((decide (s2 < ((out).length:Int)))==true)=true->0<=(i:Int)/\(i:Int) < ((L).length:Int)) (((if ((decide (s2 < ((out).length:Int)))==true)=true then xz ((L).getD (i:Int).toNat default) else some default).bind λv45=>(if ((decide (s2 < ((out).length:Int)))&&(decide (b >= v45)))=true then some (.nxt (IntKind.wrap .i64 (s2+(1:Int)))) else some (.brk s2)))))))):Option (Out ρ Int))) (0:Int)=some (.inr (A.length:Int)):=by
 obtain ⟨A,B,j,u,y,v⟩:=putW_split x out;refine ⟨A,B,j,u,?_⟩;have hi:=(uc.1 o).1;have hd:L.getD (i:Int).toNat default=x:=by rw [uB,ur,o];rfl
 have g:∀r,xz r=some (wtR r):=λ_=>rfl;have t:out.length=A.length+B.length:=by rw [j];simp
 have key:=qK (ρ:=ρ) (f:=λ(s2:Int)=>((yf (((decide (s2 < ((out).length:Int)))==true)=true->0<=s2/\s2 < ((out).length:Int)) (((if ((decide (s2 < ((out).length:Int)))==true)=true then xz ((out).getD s2.toNat default) else some default).bind λb=>(yf (((decide (s2 < ((out).length:Int)))==true)=true->0<=(i:Int)/\(i:Int) < ((L).length:Int)) (((if ((decide (s2 < ((out).length:Int)))==true)=true then xz ((L).getD (i:Int).toNat default) else some default).bind λv45=>(if ((decide (s2 < ((out).length:Int)))&&(decide (b >= v45)))=true then some (.nxt (IntKind.wrap .i64 (s2+(1:Int)))) else some (.brk s2)))))))):Option (Out ρ Int)))
  (λs=>0<=s/\s<=A.length) (λs=>s=A.length) (λs=>(A.length - s).toNat) ?_ _ 0 rfl ⟨uT _,by omega⟩
 ·obtain ⟨D,e,w⟩:=key;rw [e,w]
 ·rintro s ⟨q,s1⟩
  rw [zj (λh=>⟨q,by simpa using h⟩)];by_cases hs:s < A.length
  ·right;have a:s < out.length:=by omega
   have n:out.getD s.toNat default=A[s.toNat]:=by
    rw [ur,j,uj (by omega),ug (by omega)];rfl
   have l:=y A[s.toNat] (tU (by omega));rw [uE a,n,up (show (true==true)=true from rfl),g,ua,zj (λ_=>by omega),up (show (true==true)=true from rfl),hd,g,ua,uE l,up (show (true&&true)=true from rfl),yU (by omega)];exact ⟨_,rfl,by omega,by omega⟩
  ·left;have d:s=A.length:=by omega
   by_cases a:s < out.length
   ·obtain ⟨z,C,p⟩:∃z C,B=z::C:=by
     cases B with
     | nil=>simp at t;omega
     | cons z C=>exact ⟨z,C,rfl⟩
    have n:out.getD s.toNat default=z:=by
     rw [ur,j,ui (by omega),p,show s.toNat - A.length=0 by omega];rfl
    have m:=v z C p;rw [uE a,n,up (show (true==true)=true from rfl),g,ua,zj (λ_=>by omega),up (show (true==true)=true from rfl),hd,g,ua,uS m,uu (by decide)];exact ⟨_,rfl,d⟩
   ·rw [uS a,uu (by decide),ua,zj (λh=>by cases h),uu (by decide),ua,rx,uu (by decide)];exact ⟨_,rfl,d⟩
theorem refHeavy_loop {L:List GE} (r:L.length<=1073741824):∀(M:List GE) (i:Nat) (out:List GE),M=L.drop i->out.length+M.length<=L.length->out.Pairwise (λa b=>-wtR a<=-wtR b) ->
  zq (λ(l:Nat) (j:GE) (s1:(List GE))=>((lp (ye (λ(s2:Int)=>((yf (((decide (s2 < ((s1).length:Int)))==true)=true->0<=s2/\s2 < ((s1).length:Int)) (((if ((decide (s2 < ((s1).length:Int)))==true)=true then xz ((s1).getD s2.toNat default) else some default).bind λh=>(yf (((decide (s2 < ((s1).length:Int)))==true)=true->0<=(l:Int)/\(l:Int) < ((L).length:Int)) (((if ((decide (s2 < ((s1).length:Int)))==true)=true then xz ((L).getD (l:Int).toNat default) else some default).bind λv45=>(if ((decide (s2 < ((s1).length:Int)))&&(decide (h >= v45)))=true then some (.nxt (IntKind.wrap .i64 (s2+(1:Int)))) else some (.brk s2)))))))):Option (Out _ Int))) (0:Int)) λ(s2:Int)=>((slc s1 (0:Int) s2).bind λd=>(yf ((([]:List GE)).length+(d).length<=yK) ((yf (((([]:List GE)++d)).length+(([j]:List GE)).length<=yK) (((slc s1 s2 ((s1).length:Int)).bind λg=>(yf ((((([]:List GE)++d)++([j]:List GE))).length+(g).length<=yK) (some (.nxt (((([]:List GE)++d)++([j]:List GE))++g))))))))))):Option (Out (List GE) (List GE)))) M i out=some (.inr (heavyW out M))
 | [],_,_,_,_,_=>rfl
 | x::M,i,out,hM,hl,hp=>by
  simp only [uk] at hl;have hi:i < L.length:=by have:=congrArg List.length hM;simp at this;omega
  rw [ri hi] at hM;injection hM with o p;obtain ⟨A,B,m,n,s⟩:=refPut_loop (ρ:=Out (List GE) (List GE)) (L:=L) (i:=i) (x:=x) (by rw [ug hi,o]) (out:=out) (by omega);have f:out.length=A.length+B.length:=by rw [m];simp
  have s1:slc out 0 (A.length:Int)=some A:=by rw [vw ⟨by omega,by omega,by omega⟩,m];simp
  have s2:slc out (A.length:Int) (out.length:Int)=some B:=by rw [vw ⟨by omega,by omega,by omega⟩,uB,uB,uM (uh _),m,sO]
  simp only [zq];rw [s,yp,s1,ua,zj (by simp [yK];omega),zj (by simp [yK];omega),s2,ua,zj (by simp [yK];omega)];have e:((([]:List GE)++A)++([x]:List GE))++B=putW x out:=by rw [n,u6,uy];rfl
  simp only [e];have q:(putW x out).length=out.length+1:=by rw [n,f];simp;omega
  exact refHeavy_loop r M (i+1) (putW x out) p (by omega) (putW_pair hp)
theorem heavy2 {t:List GA} (hs:Small t) (a:Int):∃v,qm t a=some v/\qi t a=some v:=by
 have s:=rows_len (GA.deps t) t [] (uh _);have p:=hs.2;obtain ⟨L,u,n,g⟩:∃L:List GE,L.length<=16777216/\vW t=some L/\ref30Rows t=some L:=by
  refine ⟨_,?_,pathsRows_is hs,refRows_is hs⟩;split
  ·omega
  ·simp
 obtain ⟨j,h,i⟩:=heavyW_is L [] List.Pairwise.nil;have l:=refHeavy_loop (L:=L) (by omega) L 0 [] rfl (by simp) List.Pairwise.nil;have b:yZ L (λo m=>wy o m)=some (heavyW [] L):=stab_eq (k:=λr=>-wtR r) heavyC (by omega) j λq=>i q;generalize heavyW [] L=H at l j h i b;simp only [uV,uZ] at h;unfold qm qi;rw [n,g,ua,ua,b,l,yp,ua];by_cases h1:a < 1
 ·rw [up (uE h1)];refine ⟨[],rfl,?_⟩;have d:slc H 0 (0:Int)=some []:=by rw [vw ⟨by omega,by omega,by omega⟩];simp
  by_cases h0:a < 0
  ·rw [up (uE h0)];by_cases hH:(0:Int) < H.length
   ·rw [up (uE hH),d];rfl
   ·rw [uu (by simpa using hH)];have:H=[]:=uP (by omega);rw [this]
  ·rw [uu (by simpa using h0)];have f:a=0:=by omega
   subst f;by_cases hH:(0:Int) < H.length
   ·rw [up (uE hH),d];rfl
   ·rw [uu (by simpa using hH)];have:H=[]:=uP (by omega);rw [this]
 ·rw [uu (by simpa using h1),uu (show ¬ decide (a < 0)=true by simp;omega)];by_cases f:a < H.length
  ·have d:slc H 0 a=some (H.take a.toNat):=by rw [vw ⟨by omega,by omega,by omega⟩];simp
   rw [uu (by omega),up (uE f),d];exact ⟨_,rfl,rfl⟩
  ·rw [uu (show ¬ decide (a < (H.length:Int))=true by simpa using f)];have e:(if ((H.length:Nat):Int) < a then ((H.length:Nat):Int) else a)=(H.length:Int):=by split <;> omega
   have d:slc H 0 (H.length:Int)=some H:=by rw [vw ⟨by omega,by omega,by omega⟩];simp
   rw [e,d];exact ⟨_,rfl,rfl⟩
theorem law45MeterMakes_is {L:List GI} {t:List GA} {e:GJ} {h:Int} (i:L.length<=maxLen) (j:∀q ∈ L,GI.wf q) (hs:Small t) (l:GA.bks t<=1048576) (u:GJ.wf e):vp L t e h=some true:=by
 obtain ⟨g,x⟩:=great45_tot (L:=L) hs e.op;obtain ⟨a,p,o⟩:=uses2 hs;obtain ⟨b,w,n⟩:=all_is hs;obtain ⟨c,c1,c2⟩:=over2 i j hs;obtain ⟨d,s,m⟩:=fits2 i j hs l u;obtain ⟨f,r,v⟩:=heavy2 hs h;unfold vp;rw [x,ua];cases g with
 | true=>simp [known45]
 | false =>
  rw [uu (by decide),p,o,w,n,meterMay_is,refMay_is i,c1,c2,s,m,r,v,known45];simp [same45_refl,ref30Same_refl]
theorem law45MeterMakes_top (l:List GI) (t:List GA) (e:GJ) (a:Int) (b:l.length<=maxLen/\∀y ∈ l,GI.wf y) (d:t.length<=maxLen/\∀y ∈ t,GA.wf y) (f:GJ.wf e) (g:InK .i64 a) (h:((l.map GI.bk).sum+1)+((t.map GA.bk).sum+1)+GJ.bk e+1<=1048576):vp l t e a=some true:=by
 refine law45MeterMakes_is b.1 b.2 (small_of d (by omega)) ?_ f;rw [GA.bks_eq];omega
end Go.Vv
