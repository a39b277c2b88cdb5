/- The program's put, and the document's Lay, are layer 31's lay. -/
import Derived.Test.YtandnkcefogjeaaGreatPlS0
namespace Go.Vv
open Go
theorem bsf_loop {b:GLeaf->Int->Option Int} {x:List GLeaf} {s:Int} {c:Nat} (r:x.length<=16777216) (o:∀i n,x[i]?=some n->∃v,b n s=some v/\(i < c->v < 0)/\(c<=i->0<=v)) :
  ∀(k lo hi:Nat),hi - lo<=k->lo<=c->c<=hi->hi<=x.length->yC (ρ:=Int×Bool) (λ(a:Int×Int)=>((if (decide (a.1 < a.2))=true then ((yq x (IntKind.wrap .i64 ((Int.fdiv (IntKind.wrap .u64 ((IntKind.wrap .i64 (a.1+a.2)))) (2 ^ (min (1:Int).toNat (IntKind.bits .u64))))))).bind λp=>((b p s).bind λd=>(if (decide (d < (0:Int)))=true then some (.nxt ((IntKind.wrap .i64 ((IntKind.wrap .i64 ((Int.fdiv (IntKind.wrap .u64 ((IntKind.wrap .i64 (a.1+a.2)))) (2 ^ (min (1:Int).toNat (IntKind.bits .u64))))))+(1:Int))),a.2)) else some (.nxt (a.1,(IntKind.wrap .i64 ((Int.fdiv (IntKind.wrap .u64 ((IntKind.wrap .i64 (a.1+a.2)))) (2 ^ (min (1:Int).toNat (IntKind.bits .u64))))))))))) else some (.brk (a.1,a.2))):Option (Out _ (Int×Int)))) ((lo:Int),(hi:Int))=some (.inr ((c:Int),(c:Int))):=by
 intro k
 induction k with
 | zero =>
  intro lo hi m f h hh;obtain rfl:lo=hi:=by omega
  obtain rfl:lo=c:=by omega
  rw [y6];simp
 | succ k ih =>
  intro lo hi m f h hh;rw [y6];by_cases hlt:lo < hi
  ·have hd:decide ((lo:Int) < (hi:Int))=true:=decide_eq_true (by omega);simp only [hd,if_true,half_mid hlt (by omega)];have g:(lo+hi) / 2 < x.length:=by omega
   rw [qf g,Option.bind_some];obtain ⟨v,j,q,l⟩:=o ((lo+hi) / 2) _ (List.getElem?_eq_getElem g);rw [j,Option.bind_some];by_cases hcm:(lo+hi) / 2 < c
   ·rw [decide_eq_true (q hcm),if_pos rfl];simp only;have e:IntKind.wrap .i64 ((((lo+hi) / 2:Nat):Int)+1)=(((lo+hi) / 2+1:Nat):Int):=by rw [w64n (by omega)];omega
    rw [e];exact ih _ _ (by omega) (by omega) h hh
   ·rw [decide_eq_false (by have:=l (by omega);omega)];simp only [Bool.false_eq_true,if_false];exact ih _ _ (by omega) f (by omega) (by omega)
  ·obtain rfl:lo=hi:=by omega
   obtain rfl:lo=c:=by omega
   simp
theorem bsf_is {a:GLeaf->Int->Option Int} {x:List GLeaf} {s:Int} {c:Nat} (b:x.length<=16777216) (e:c<=x.length) (d:∀i n,x[i]?=some n->∃v,a n s=some v/\(i < c->v < 0)/\(c<=i->0<=v)) :
  zK x s a=(if c < x.length then a (x.getD c default) s else some 1).bind λv=>some ((c:Int),(decide (c < x.length)&&(v==0))):=by
 unfold zK;have:=bsf_loop b d x.length 0 x.length (by omega) (Nat.zero_le _) e (Nat.le_refl _);simp only [Int.natCast_zero] at this;rw [show ((0:Int),(x.length:Int))=(((0:Nat):Int),(x.length:Int)) from rfl] at *;rw [this];simp only [lp];by_cases h:c < x.length
 ·have hd:decide ((c:Int) < (x.length:Int))=true:=decide_eq_true (by omega);simp only [hd,h,if_true,Int.toNat_natCast,beq_self_eq_true,decide_true,Bool.true_and];rw [zj (by intro _;omega)]
 ·have hd:decide ((c:Int) < (x.length:Int))=false:=decide_eq_false (by omega);simp only [hd,h,if_false,decide_false,Bool.false_and,Option.bind_some];rw [zj (by intro hh;cases hh)];simp

theorem putC_is (x:GLeaf) (k:Int):wB x k=some (cmpI x.typ k):=by unfold wB;rw [cmpU8is];rfl
theorem cmpI_neg {a b:Int}:cmpI a b < 0 ↔ a < b:=by unfold cmpI;split <;> (try split) <;> omega
theorem cmpI_zero {a b:Int}:cmpI a b=0 ↔ a=b:=by unfold cmpI;split <;> (try split) <;> omega
theorem split_typ {ls:List GLeaf} (k:Int) (h:ls.Pairwise λx y=>x.typ < y.typ):(∃A B,ls=A++B/\(∀y ∈ A,y.typ < k)/\∀y ∈ B,k < y.typ) \/ ∃A x B,ls=A++x::B/\x.typ=k/\(∀y ∈ A,y.typ < k)/\∀y ∈ B,k < y.typ:=by
 induction ls with
 | nil=>exact .inl ⟨[],[],rfl,λ_ h=>by simp at h,λ_ h=>by simp at h⟩
 | cons x t ih =>
  obtain ⟨d,f⟩:=List.pairwise_cons.1 h;rcases Int.lt_trichotomy x.typ k with e | e | e
  ·rcases ih f with ⟨A,B,rfl,b,c⟩ | ⟨A,z,B,rfl,g,b,c⟩
   ·refine .inl ⟨x::A,B,rfl,λy a=>?_,c⟩;rcases List.mem_cons.1 a with rfl | a
    ·exact e
    ·exact b y a
   ·refine .inr ⟨x::A,z,B,rfl,g,λy a=>?_,c⟩;rcases List.mem_cons.1 a with rfl | a
    ·exact e
    ·exact b y a
  ·exact .inr ⟨[],x,t,rfl,e,λ_ h=>by simp at h,λy a=>by rw [<- e];exact d y a⟩
  ·refine .inl ⟨[],x::t,rfl,λ_ h=>by simp at h,λy a=>?_⟩;rcases List.mem_cons.1 a with rfl | a
   ·exact e
   ·exact Int.lt_trans e (d y a)
theorem layLs_none {l:GLeaf} {A B:List GLeaf} (b:∀y ∈ A,y.typ < l.typ) (c:∀y ∈ B,l.typ < y.typ):qC l.typ l true (A++B)=A++l::B:=by
 unfold qC;rw [if_pos rfl,List.filter_append,List.filter_append];rw [List.filter_eq_self.2 (λy a=>decide_eq_true (b y a)),List.filter_eq_nil_iff.2 (λy a=>by have:=c y a;simp;omega),
  List.filter_eq_nil_iff.2 (λy a=>by have:=b y a;simp;omega),List.filter_eq_self.2 (λy a=>decide_eq_true (c y a))]
 simp
theorem layLs_some {l x:GLeaf} {A B:List GLeaf} (d:x.typ=l.typ) (b:∀y ∈ A,y.typ < l.typ) (c:∀y ∈ B,l.typ < y.typ):qC l.typ l true (A++x::B)=A++l::B:=by
 unfold qC;rw [if_pos rfl,List.filter_append,List.filter_append,List.filter_cons,List.filter_cons];rw [if_neg (by simp;omega),if_neg (by simp;omega)];rw [List.filter_eq_self.2 (λy a=>decide_eq_true (b y a)),List.filter_eq_nil_iff.2 (λy a=>by have:=c y a;simp;omega),
  List.filter_eq_nil_iff.2 (λy a=>by have:=b y a;simp;omega),List.filter_eq_self.2 (λy a=>decide_eq_true (c y a))]
 simp
theorem bsf_none {A B:List GLeaf} {k:Int} (g:(A++B).length<=16777216) (f:∀y ∈ A,y.typ < k) (b:∀y ∈ B,k < y.typ):zK (A++B) k (λj l=>wB j l)=some ((A.length:Int),false):=by
 rw [bsf_is (c:=A.length) g (by simp) λi m hi=>⟨_,putC_is m k,λa=>by
   rw [List.getElem?_append_left a] at hi;exact cmpI_neg.2 (f m (List.mem_of_getElem? hi)),λa=>by
   rw [List.getElem?_append_right a] at hi;have:=b m (List.mem_of_getElem? hi);have n:¬ cmpI m.typ k < 0:=λh=>by rw [cmpI_neg] at h;omega
   omega⟩]
 cases B with
 | nil=>simp
 | cons y B =>
  have e:(A++y::B).getD A.length default=y:=by simp
  have:=b y (by simp);rw [if_pos (by simp),e,putC_is];have d:(cmpI y.typ k==0)=false:=by
   rw [beq_eq_false_iff_ne,Ne,cmpI_zero];omega
  simp [d]
theorem bsf_some {A B:List GLeaf} {x:GLeaf} {k:Int} (d:(A++x::B).length<=16777216) (hs:x.typ=k) (j:∀y ∈ A,y.typ < k) (f:∀y ∈ B,k < y.typ):zK (A++x::B) k (λb l=>wB b l)=some ((A.length:Int),true):=by
 rw [bsf_is (c:=A.length) d (by simp) λi m hi=>⟨_,putC_is m k,λa=>by
   rw [List.getElem?_append_left a] at hi;exact cmpI_neg.2 (j m (List.mem_of_getElem? hi)),λa=>by
   rw [List.getElem?_append_right a] at hi;have n:¬ m.typ < k:=by
    rcases List.mem_cons.1 (List.mem_of_getElem? hi) with rfl | g
    ·omega
    ·have:=f m g;omega
   have o:¬ cmpI m.typ k < 0:=λh=>by rw [cmpI_neg] at h;omega
   omega⟩]
 have e:(A++x::B).getD A.length default=x:=by simp
 rw [if_pos (by simp),e,putC_is,cmpI_zero.2 hs];simp
theorem insO_at {α:Type} {A B:List α} (x:α) (h:(A++B).length<=16777216):insO (A++B) (A.length:Int) [x]=some (A++x::B):=by
 unfold insO;rw [if_pos ⟨⟨by omega,by simp;omega⟩,by simp,yo (by simp at h ⊢;omega)⟩];simp
noncomputable def putX (n:Nat) (p:List zk) (l2:GLeaf) (y7:GNode) (v6:List GNode) (i:Int):Option (List GNode) :=
 (if (decide (((p).length:Int) > (1:Int)))=true then ((slc p (1:Int) ((p).length:Int)).bind λm10=>((xL n y7.subs m10 l2).bind λv11=>((yq v6 i).bind λy12=>some (v6.set i.toNat (GNode.mk y7.name y7.leaves v11))))) else ((xc y7.leaves).bind λv13=>((zK v13 l2.typ (λx0 x1=>wB x0 x1)).bind λv14=>(if (!v14.2)=true then ((insO v13 v14.1 ([l2]:List GLeaf)).bind λv16=>((yq v16 v14.1).bind λy17=>((yq v6 i).bind λy18=>some (v6.set i.toNat (GNode.mk y7.name (v16.set v14.1.toNat l2) y7.subs))))) else ((yq v13 v14.1).bind λy19=>((yq v6 i).bind λy20=>some (v6.set i.toNat (GNode.mk y7.name (v13.set v14.1.toNat l2) y7.subs))))))))
theorem putN_eq (n:Nat) (t0:List GNode) (a:List zk) (d:GLeaf):xL (n+1) t0 a d=((yn t0).bind λb=>((yq a (0:Int)).bind λh=>((treeXfind b h).bind λv3=>(if (!v3.2)=true then ((yq a (0:Int)).bind λf=>((insO b v3.1 ([(GNode.mk f ([]:List GLeaf) ([]:List GNode))]:List GNode)).bind λe=>((yq e v3.1).bind λg=>putX n a d g e v3.1))) else ((yq b v3.1).bind λc=>putX n a d c b v3.1))))):=rfl
theorem putX_leaf {n:Nat} {s:zk} {l:GLeaf} {A B:List GNode} {x:GNode} (f:x.leaves.length<=16777215) (h:x.leaves.Pairwise λx y=>x.typ < y.typ):putX n [s] l x (A++x::B) (A.length:Int)=some (A++⟨x.name,qC l.typ l true x.leaves,x.subs⟩::B):=by
 unfold putX;have d:decide (((([s]:List zk).length:Int)) > 1)=false:=rfl;have b:yq (A++x::B) (A.length:Int)=some x:=zw (by simp);simp only [d,Bool.false_eq_true,if_false];rw [cloneLeaf_is (yo (by omega)),Option.bind_some];rcases split_typ l.typ h with ⟨C,D,e,a,hd⟩ | ⟨C,z,D,e,c,a,hd⟩
 ·rw [e,bsf_none (by rw [<- e];omega) a hd,Option.bind_some];simp only [Bool.not_false,if_true];rw [insO_at _ (by rw [<- e];omega),Option.bind_some,zw (x:=l) (by simp),Option.bind_some,b,Option.bind_some,layLs_none a hd];simp
 ·rw [e,bsf_some (by rw [<- e];omega) c a hd,Option.bind_some];simp only [Bool.not_true,Bool.false_eq_true,if_false];rw [zw (x:=z) (by simp),Option.bind_some,b,Option.bind_some,layLs_some c a hd];simp
theorem putX_sub {n:Nat} {s a:zk} {r:List zk} {l:GLeaf} {A B:List GNode} {x:GNode} {b:List GNode} (f:(s::a::r).length<=16777216) (h:xL n x.subs (a::r) l=some b):putX n (s::a::r) l x (A++x::B) (A.length:Int)=some (A++⟨x.name,x.leaves,b⟩::B):=by
 unfold putX;have e:decide ((((s::a::r).length:Int)) > 1)=true:=decide_eq_true (by simp only [List.length_cons];omega);have c:yq (A++x::B) (A.length:Int)=some x:=zw (by simp);simp only [e,if_true];rw [slc_at ⟨by omega,by simp only [List.length_cons];omega,Int.le_refl _⟩,Option.bind_some];have d:((s::a::r).take (((s::a::r).length:Int)).toNat).drop (1:Int).toNat=a::r:=by rw [Int.toNat_natCast,List.take_length];rfl
 rw [d,h,Option.bind_some,c,Option.bind_some];simp
theorem find_eq (t:List GNode) (s:zk):treeXfind t s=(zn t s (λb c=>yU b c)).bind λa=>some (a.1,a.2):=rfl
end Go.Vv
namespace Go.Vv
open Go
theorem layLs_len {k:Int} {l:GLeaf} {there:Bool} {ls:List GLeaf}:(qC k l there ls).length<=ls.length+1:=by
 unfold qC;split
 ·have a:=List.filter_append_perm (λx:GLeaf=>decide (x.typ < k)) ls;have b:=a.length_eq;have c:(ls.filter λx=>decide (k < x.typ)).length<=(ls.filter λx=>!decide (x.typ < k)).length:=by
   have:(ls.filter λx=>decide (k < x.typ))=(ls.filter λx=>!decide (x.typ < k)).filter (λx=>decide (k < x.typ)):=by
    rw [List.filter_filter];refine List.filter_congr λx _=>?_;rw [Bool.eq_iff_iff];simp;omega
   rw [this];exact List.length_filter_le _ _
  simp only [List.length_append,List.length_cons,List.length_nil] at b ⊢;omega
 ·exact Nat.le_succ_of_le (List.length_filter_le _ _)
theorem lay_leaf {n:Nat} {s:zk} {l:GLeaf} {A m B:List GNode} {ls:List GLeaf} {sb:List GNode} {f:Bool} (i:LeafOk l) (h:m.length=if f=true then 1 else 0) (a:zn (A++m++B) s (λg j=>yU g j)=some ((A.length:Int),f))
  (b:((if f=true then ((yq (A++m++B) (A.length:Int)).bind λc=>some (.inr (c.name,c.leaves,c.subs))) else some (.inr (s,([]:List GLeaf),([]:List GNode)))):Option (List GNode ⊕ (zk×(List GLeaf)×(List GNode))))=some (.inr (s,ls,sb)))
  (p:(A++m++B).length<=16777216) (o:ls.length<=16777215) (q:sb.length<=16777217) (e:ls.Pairwise λx y=>x.typ < y.typ) :
  yW (n+1) (A++m++B) [s] l.typ l true=some (A++fitN s (qC l.typ l true ls) sb++B):=by
 have d:yq [s] (0:Int)=some s:=rfl;have:=layLs_len (k:=l.typ) (l:=l) (there:=true) (ls:=ls);rw [layN_eq,d,Option.bind_some,a,Option.bind_some,Option.bind_some];simp only [];rw [b,yS,layIn_leaf (λ_=>⟨rfl,i⟩) (by omega) e,yS,layRest_is h (by omega) (by omega) (by omega)]
theorem lay_sub {n:Nat} {s a:zk} {r:List zk} {k:Int} {l:GLeaf} {there:Bool} {A m B:List GNode} {ls:List GLeaf} {sb b:List GNode} {f:Bool} (j:m.length=if f=true then 1 else 0) (c:zn (A++m++B) s (λi o=>yU i o)=some ((A.length:Int),f))
  (d:((if f=true then ((yq (A++m++B) (A.length:Int)).bind λe=>some (.inr (e.name,e.leaves,e.subs))) else some (.inr (s,([]:List GLeaf),([]:List GNode)))):Option (List GNode ⊕ (zk×(List GLeaf)×(List GNode))))=some (.inr (s,ls,sb)))
  (t:(A++m++B).length<=16777216) (q:ls.length<=16777215) (u:b.length<=16777217) (p:(s::a::r).length<=16777216) (h:yW n sb (a::r) k l there=some b) :
  yW (n+1) (A++m++B) (s::a::r) k l there=some (A++fitN s ls b++B):=by
 have g:yq (s::a::r) (0:Int)=some s:=rfl;rw [layN_eq,g,Option.bind_some,c,Option.bind_some,Option.bind_some];simp only [];rw [d,yS,layIn_sub p h,yS,layRest_is j (by omega) (by omega) (by omega)]
theorem fit_one {a:zk} {ls:List GLeaf} {sb:List GNode} (h:ls ≠ [] \/ sb ≠ []):fitN a ls sb=[⟨a,ls,sb⟩]:=by
 unfold fitN;rw [if_neg];rcases h with h | h
 ·have:=List.length_pos_iff.2 h;omega
 ·have:=List.length_pos_iff.2 h;omega
theorem layLs_ne {l:GLeaf} {ls:List GLeaf}:qC l.typ l true ls ≠ []:=List.ne_nil_of_mem (layLs_mem.2 (.inr ⟨rfl,rfl⟩))
theorem put_lay {l:GLeaf} (Q:leafB l=true) (E:LeafOk l):∀(p:List zk) (t:List GNode) (d n:Nat),p ≠ []->p.all nameB=true->d+p.length<=3->treeB d t=true->(zo [] t).length<=16777214->p.length < n ->
  xL n t p l=yW n t p l.typ l true
 | [],_,_,_,h,_,_,_,_,_=>absurd rfl h
 | _::_,_,_,0,_,_,_,_,_,h=>by omega
 | s::q,t,d,n+1,_,hp,hd,ht,hw,hn=>by
  simp only [List.all_cons,Bool.and_eq_true,List.length_cons] at hp hd hn;obtain ⟨T,R⟩:=zM ht;have C:t.length<=16777214:=Nat.le_trans (wP _ d (by rw [yT];exact List.all_eq_true.2 R)) hw;have w:yq (s::q) (0:Int)=some s:=rfl
  -- what is below
  have below:∀(sb:List GNode) (c:zk) (m:List zk),q=c::m->treeB (d+1) sb=true->(zo [] sb).length<=16777214->∃b,xL n sb q l=some b/\yW n sb q l.typ l true=some b/\b ≠ []/\b.length<=16777215:=by
   intro sb c m i r G;subst i;obtain ⟨b,P,Y,W,S⟩:=lay_is (k:=l.typ) (l:=l) (there:=true) (λ_=>⟨rfl,Q,E⟩) (c::m) sb (d+1) n (by simp) hp.2 (by simp only [List.length_cons] at hd ⊢;omega) r (by omega) (by omega);have M:=wP sb (d+1) (by rw [yT];exact List.all_eq_true.2 (zM r).2);refine ⟨b,?_,P,?_,by omega⟩
   ·rw [<- P];exact put_lay Q E (c::m) sb (d+1) n (by simp) hp.2 (by simp only [List.length_cons] at hd ⊢;omega) r G (by omega)
   ·intro e;have:=(S [] ⟨[]++(c::m),l⟩).2 (.inr ⟨rfl,rfl⟩);rw [e] at this;simp [zo] at this
  rcases split_up s T with ⟨A,B,e,J,o⟩ | ⟨A,x,B,e,D,J,o⟩
  ·have I:(A++B).length<=16777214:=by rw [<- e];exact C
   have g:=bs_none (by omega) J o;have a:zn (A++[]++B) s (λH K=>yU H K)=some ((A.length:Int),false):=by rw [List.append_nil];exact g
   have j:A++B=A++[]++B:=by simp
   have L:xL (n+1) t (s::q) l=putX n (s::q) l ⟨s,[],[]⟩ (A++⟨s,[],[]⟩::B) (A.length:Int):=by
    rw [putN_eq,cloneNode_is (yo (by omega)),Option.bind_some,w,Option.bind_some,find_eq,e,g,Option.bind_some,Option.bind_some];simp only [Bool.not_false,if_true,Option.bind_some];rw [insO_at _ (by omega),Option.bind_some,zw (x:=⟨s,[],[]⟩) (by simp),Option.bind_some]
   rw [L];cases i:q with
   | nil =>
    rw [putX_leaf (x:=⟨s,[],[]⟩) (by simp) (by simp),e,j,lay_leaf (ls:=[]) (sb:=[]) E (by simp) a rfl (by rw [<- j];omega) (by simp) (by simp) (by simp),fit_one (.inl layLs_ne)];simp
   | cons c m =>
    obtain ⟨b,y,v,N,V⟩:=below [] c m i (tree_nil _) (by simp [zo]);rw [i] at y v;rw [putX_sub (x:=⟨s,[],[]⟩) (by rw [i] at hd;simp only [List.length_cons] at hd ⊢;omega) y,e,j,lay_sub (ls:=[]) (sb:=[]) (f:=false) (by simp) a rfl (by rw [<- j];omega) (by simp) (by omega) (by rw [i] at hd;simp only [List.length_cons] at hd ⊢;omega) v,fit_one (.inr N)];simp
  ·have I:(A++x::B).length<=16777214:=by rw [<- e];exact C
   have g:=bs_some (by omega) D J o;have a:zn (A++[x]++B) s (λH K=>yU H K)=some ((A.length:Int),true):=by rw [List.append_assoc];exact g
   have j:A++x::B=A++[x]++B:=by simp
   have z:x ∈ t:=by rw [e];simp
   obtain ⟨X,n2,O⟩:=wd (R x z);have U:=qR z;have M:=wP x.subs (d+1) (by rw [yT];exact List.all_eq_true.2 (zM n2).2);have u:((if true=true then ((yq (A++[x]++B) (A.length:Int)).bind λF=>some (.inr (F.name,F.leaves,F.subs))) else some (.inr (s,([]:List GLeaf),([]:List GNode)))):Option (List GNode ⊕ (zk×(List GLeaf)×(List GNode))))=some (.inr (s,x.leaves,x.subs)):=by
    rw [if_pos rfl,zw (x:=x) (by simp),Option.bind_some,D]
   have L:xL (n+1) t (s::q) l=putX n (s::q) l x (A++x::B) (A.length:Int):=by
    rw [putN_eq,cloneNode_is (yo (by omega)),Option.bind_some,w,Option.bind_some,find_eq,e,g,Option.bind_some,Option.bind_some];simp only [Bool.not_true,Bool.false_eq_true,if_false];rw [zw (x:=x) (by simp),Option.bind_some]
   rw [L];cases i:q with
   | nil =>
    rw [putX_leaf (x:=x) (by omega) (leaves_up O).1,e,j,lay_leaf (ls:=x.leaves) (sb:=x.subs) E (by simp) a u (by rw [<- j];omega) (by omega) (by omega) (leaves_up O).1,fit_one (.inl layLs_ne),D];simp
   | cons c m =>
    obtain ⟨b,y,v,N,V⟩:=below x.subs c m i n2 (by omega);rw [i] at y v;rw [putX_sub (x:=x) (by rw [i] at hd;simp only [List.length_cons] at hd ⊢;omega) y,e,j,lay_sub (ls:=x.leaves) (sb:=x.subs) (f:=true) (by simp) a u (by rw [<- j];omega) (by omega) (by omega) (by rw [i] at hd;simp only [List.length_cons] at hd ⊢;omega) v,fit_one (.inr N),D];simp
end Go.Vv
namespace Go.Vv
open Go
noncomputable def l7A (t0:List GNode) (path1:List zk):(List GNode)×Int->Option (Out (List GNode) ((List GNode)×Int)):=(λ(s1:(List GNode)×Int)=>((yf (((decide (s1.2 < ((t0).length:Int)))==true)=true->0<=s1.2/\s1.2 < ((t0).length:Int)) ((yf (((decide (s1.2 < ((t0).length:Int)))==true)=true->0<=(0:Int)/\(0:Int) < ((path1).length:Int)) ((if ((decide (s1.2 < ((t0).length:Int)))&&(Op.bytesLess (((t0).getD s1.2.toNat default).name) ((path1).getD (0:Int).toNat default)))=true then ((yq t0 s1.2).bind λy22=>(yf ((s1.1).length+(([y22]:List GNode)).length<=yK) (some (.nxt ((s1.1++([y22]:List GNode)),(IntKind.wrap .i64 (s1.2+(1:Int)))))))) else some (.brk (s1.1,s1.2))))))):Option (Out _ ((List GNode)×Int))))
noncomputable def l7B (ls:List GLeaf) (l2:GLeaf):(List GLeaf)×Int->Option (Out (List GNode) ((List GLeaf)×Int)):=(λ(sd62:(List GLeaf)×Int)=>((yf (((decide (sd62.2 < ((ls).length:Int)))==true)=true->0<=sd62.2/\sd62.2 < ((ls).length:Int)) ((if ((decide (sd62.2 < ((ls).length:Int)))&&(decide (((ls).getD sd62.2.toNat default).typ < l2.typ)))=true then ((yq ls sd62.2).bind λy66=>(yf ((sd62.1).length+(([y66]:List GLeaf)).length<=yK) (some (.nxt ((sd62.1++([y66]:List GLeaf)),(IntKind.wrap .i64 (sd62.2+(1:Int)))))))) else some (.brk (sd62.1,sd62.2))))):Option (Out _ ((List GLeaf)×Int))))
theorem l7A_is {t:List GNode} {s:zk} {q:List zk} (n:t.length<=16777216) (a b:List GNode) (e:t=a++b) (m:∀y ∈ a,Op.bytesLess y.name s=true) (j:∀y r,b=y::r->Op.bytesLess y.name s=false) :
  ∀(k i:Nat),a.length - i<=k->i<=a.length->yC (l7A t (s::q)) (a.take i,(i:Int))=some (.inr (a,(a.length:Int))):=by
 have f:t.length=a.length+b.length:=by rw [e];simp
 intro k
 induction k with
 | zero =>
  intro i g hi;obtain rfl:i=a.length:=by omega
  rw [y6];have:l7A t (s::q) (a.take a.length,(a.length:Int))=some (.brk (a,(a.length:Int))):=by
   unfold l7A;simp only [List.take_length];rw [zj (by intro h;simp at h;omega),zj (by intro h;simp)];cases hbb:b with
   | nil =>
    rw [hbb] at f;rw [decide_eq_false (by simp at f;omega)];rfl
   | cons y r =>
    have c:t.getD a.length default=y:=by rw [e,hbb];simp
    have:=j y r hbb;simp only [Int.toNat_natCast,c];have d:(s::q).getD (0:Int).toNat default=s:=rfl;rw [d,this,Bool.and_false];rfl
  rw [this]
 | succ k ih =>
  intro i g hi;rcases Nat.lt_or_ge i a.length with h | h
  ·rw [y6];have c:t[i]?=some a[i]:=by rw [e,List.getElem?_append_left h,List.getElem?_eq_getElem h]
   have hd:t.getD i default=a[i]:=by rw [List.getD_eq_getElem?_getD,c];rfl
   have:l7A t (s::q) (a.take i,(i:Int))=some (.nxt (a.take (i+1),((i+1:Nat):Int))):=by
    unfold l7A;simp only;rw [zj (by intro h;simp at h;omega),zj (by intro h;simp)];have d:(s::q).getD (0:Int).toNat default=s:=rfl;have l:IntKind.wrap .i64 ((i:Int)+1)=((i+1:Nat):Int):=by rw [w64n (by omega)];omega
    rw [Int.toNat_natCast,hd,d,m _ (List.getElem_mem h),decide_eq_true (by omega:(i:Int) < (t.length:Int)),Bool.and_self,if_pos rfl,zw c,Option.bind_some,zj (yo (by simp;omega)),l];rw [List.take_succ_eq_append_getElem h]
   rw [this];exact ih (i+1) (by omega) h
  ·exact ih i (by omega) hi

theorem l7B_at {ls:List GLeaf} {l:GLeaf} (n:ls.length<=16777216) (a b:List GLeaf) (e:ls=a++b) (m:∀y ∈ a,y.typ < l.typ) (g:∀y r,b=y::r->¬ y.typ < l.typ) :
  ∀(k i:Nat),a.length - i<=k->i<=a.length->yC (l7B ls l) (a.take i,(i:Int))=some (.inr (a,(a.length:Int))):=by
 have c:ls.length=a.length+b.length:=by rw [e];simp
 intro k
 induction k with
 | zero =>
  intro i f hi;obtain rfl:i=a.length:=by omega
  rw [y6];have:l7B ls l (a.take a.length,(a.length:Int))=some (.brk (a,(a.length:Int))):=by
   unfold l7B;simp only [List.take_length];rw [zj (by intro h;simp at h;omega)];cases hbb:b with
   | nil =>
    rw [hbb] at c;rw [decide_eq_false (by simp at c;omega)];rfl
   | cons y r =>
    have d:ls.getD a.length default=y:=by rw [e,hbb];simp
    have:=g y r hbb;simp only [Int.toNat_natCast,d];rw [decide_eq_false this,Bool.and_false];rfl
  rw [this]
 | succ k ih =>
  intro i f hi;rcases Nat.lt_or_ge i a.length with h | h
  ·rw [y6];have d:ls[i]?=some a[i]:=by rw [e,List.getElem?_append_left h,List.getElem?_eq_getElem h]
   have hd:ls.getD i default=a[i]:=by rw [List.getD_eq_getElem?_getD,d];rfl
   have:l7B ls l (a.take i,(i:Int))=some (.nxt (a.take (i+1),((i+1:Nat):Int))):=by
    unfold l7B;simp only;have j:IntKind.wrap .i64 ((i:Int)+1)=((i+1:Nat):Int):=by rw [w64n (by omega)];omega
    rw [zj (by intro h;simp at h;omega),Int.toNat_natCast,hd,decide_eq_true (m _ (List.getElem_mem h)),decide_eq_true (by omega:(i:Int) < (ls.length:Int)),Bool.and_self,if_pos rfl,zw d,Option.bind_some,zj (yo (by simp;omega)),j];rw [List.take_succ_eq_append_getElem h]
   rw [this];exact ih (i+1) (by omega) h
  ·exact ih i (by omega) hi
end Go.Vv
namespace Go.Vv
open Go
noncomputable def l7R (n:Nat) (t0:List GNode) (path1:List zk) (l2:GLeaf) (A:List GNode) (sd30:Int×zk×(List GLeaf)×(List GNode)):Option (List GNode):=(if (decide (((path1).length:Int) > (1:Int)))=true then ((slc path1 (1:Int) ((path1).length:Int)).bind λm38=>((x6 n sd30.2.2.2 m38 l2).bind λv39=>(yf ((A).length+(([(GNode.mk sd30.2.1 sd30.2.2.1 v39)]:List GNode)).length<=yK) (((slc t0 sd30.1 ((t0).length:Int)).bind λm41=>(yf (((A++([(GNode.mk sd30.2.1 sd30.2.2.1 v39)]:List GNode))).length+(m41).length<=yK) (some ((A++([(GNode.mk sd30.2.1 sd30.2.2.1 v39)]:List GNode))++m41)))))))) else (lp (yC (l7B sd30.2.2.1 l2) (([]:List GLeaf),(0:Int))) λ(sd62:(List GLeaf)×Int)=>(yf (((decide (sd62.2 < ((sd30.2.2.1).length:Int)))==true)=true->0<=sd62.2/\sd62.2 < ((sd30.2.2.1).length:Int)) ((if ((decide (sd62.2 < ((sd30.2.2.1).length:Int)))&&(((sd30.2.2.1).getD sd62.2.toNat default).typ==l2.typ))=true then (yf ((sd62.1).length+(([l2]:List GLeaf)).length<=yK) (((slc sd30.2.2.1 (IntKind.wrap .i64 (sd62.2+(1:Int))) ((sd30.2.2.1).length:Int)).bind λm72=>(yf (((sd62.1++([l2]:List GLeaf))).length+(m72).length<=yK) ((yf ((A).length+(([(GNode.mk sd30.2.1 ((sd62.1++([l2]:List GLeaf))++m72) sd30.2.2.2)]:List GNode)).length<=yK) (((slc t0 sd30.1 ((t0).length:Int)).bind λm75=>(yf (((A++([(GNode.mk sd30.2.1 ((sd62.1++([l2]:List GLeaf))++m72) sd30.2.2.2)]:List GNode))).length+(m75).length<=yK) (some ((A++([(GNode.mk sd30.2.1 ((sd62.1++([l2]:List GLeaf))++m72) sd30.2.2.2)]:List GNode))++m75))))))))))) else (yf ((sd62.1).length+(([l2]:List GLeaf)).length<=yK) (((slc sd30.2.2.1 sd62.2 ((sd30.2.2.1).length:Int)).bind λm78=>(yf (((sd62.1++([l2]:List GLeaf))).length+(m78).length<=yK) ((yf ((A).length+(([(GNode.mk sd30.2.1 ((sd62.1++([l2]:List GLeaf))++m78) sd30.2.2.2)]:List GNode)).length<=yK) (((slc t0 sd30.1 ((t0).length:Int)).bind λm81=>(yf (((A++([(GNode.mk sd30.2.1 ((sd62.1++([l2]:List GLeaf))++m78) sd30.2.2.2)]:List GNode))).length+(m81).length<=yK) (some ((A++([(GNode.mk sd30.2.1 ((sd62.1++([l2]:List GLeaf))++m78) sd30.2.2.2)]:List GNode))++m81))))))))))))))))
theorem lay7_eq2 (n:Nat) (t0:List GNode) (a:List zk) (f:GLeaf):x6 (n+1) t0 a f=(lp (yC (l7A t0 a) (([]:List GNode),(0:Int))) λ(b:(List GNode)×Int)=>((yq a (0:Int)).bind λe=>(lp ((yf (((decide (b.2 < ((t0).length:Int)))==true)=true->0<=b.2/\b.2 < ((t0).length:Int)) ((yf (((decide (b.2 < ((t0).length:Int)))==true)=true->0<=(0:Int)/\(0:Int) < ((a).length:Int)) ((if ((decide (b.2 < ((t0).length:Int)))&&(((t0).getD b.2.toNat default).name==((a).getD (0:Int).toNat default)))=true then ((yq t0 b.2).bind λc=>some (.inr ((IntKind.wrap .i64 (b.2+(1:Int))),c.name,c.leaves,c.subs))) else some (.inr (b.2,e,([]:List GLeaf),([]:List GNode)))))))):Option (_ ⊕ (Int×zk×(List GLeaf)×(List GNode)))) λd=>l7R n t0 a f b.1 d))):=rfl

theorem vG {α:Type} (L:List α) (i:Nat):((L.take ((L.length:Int)).toNat).drop ((i:Int)).toNat)=L.drop i:=by simp
theorem l7R_sub {n:Nat} {t A:List GNode} {s a:zk} {r:List zk} {l:GLeaf} {i:Nat} {b:zk} {ls:List GLeaf} {sb u:List GNode} (hi:i<=t.length) (g:t.length<=16777215) (j:A.length<=8388608) (c:t.length<=8388607) (f:(s::a::r).length<=16777216) (h:x6 n sb (a::r) l=some u) :
  l7R n t (s::a::r) l A ((i:Int),b,ls,sb)=some (A++[⟨b,ls,u⟩]++t.drop i):=by
 unfold l7R;have e:decide ((((s::a::r).length:Int)) > 1)=true:=decide_eq_true (by simp only [List.length_cons];omega);simp only [e,if_true];rw [slc_at ⟨by omega,by simp only [List.length_cons];omega,Int.le_refl _⟩,Option.bind_some];have d:((s::a::r).take (((s::a::r).length:Int)).toNat).drop (1:Int).toNat=a::r:=by rw [Int.toNat_natCast,List.take_length];rfl
 rw [d,h,Option.bind_some,zj (yo (by simp;omega)),slc_at ⟨by omega,by omega,Int.le_refl _⟩,Option.bind_some,vG,zj (yo (by simp;omega))]
theorem l7R_leaf {n:Nat} {t A:List GNode} {s:zk} {l:GLeaf} {i:Nat} {g:zk} {ls:List GLeaf} {sb:List GNode} (hi:i<=t.length) (u:A.length<=8388608) (k:t.length<=8388607) (c:ls.length<=8388607) (f:ls.Pairwise λx y=>x.typ < y.typ) :
  l7R n t [s] l A ((i:Int),g,ls,sb)=some (A++[⟨g,qC l.typ l true ls,sb⟩]++t.drop i):=by
 unfold l7R;have q:decide (((([s]:List zk).length:Int)) > 1)=false:=rfl;simp only [q,Bool.false_eq_true,if_false];rcases split_typ l.typ f with ⟨C,D,e,b,hd⟩ | ⟨C,z,D,e,j,b,hd⟩
 ·have d:=l7B_at (ls:=ls) (l:=l) (by omega) C D e b (λy r h=>by have:=hd y (by rw [h];simp);omega) C.length 0 (by omega) (by omega);rw [show (([]:List GLeaf),(0:Int))=(C.take 0,((0:Nat):Int)) from rfl,d,yS,e,layLs_none b hd];rw [e] at c;simp only [List.length_append] at c;simp only [];rw [zj (by intro h;simp at h ⊢;omega)];have a:((decide (((C.length:Nat):Int) < ((C++D).length:Int)))&&(((C++D).getD ((C.length:Nat):Int).toNat default).typ==l.typ))=false:=by
   cases D with
   | nil=>simp
   | cons y D=>have:=hd y (by simp);simp;omega
  rw [a];simp only [Bool.false_eq_true,if_false];rw [zj (yo (by simp;omega)),slc_at ⟨by omega,by simp <;> omega,Int.le_refl _⟩,Option.bind_some,vG,List.drop_left,zj (yo (by simp;omega)),zj (yo (by simp;omega)),slc_at ⟨by omega,by omega,Int.le_refl _⟩,Option.bind_some,vG,zj (yo (by simp;omega))];simp
 ·have d:=l7B_at (ls:=ls) (l:=l) (by omega) C (z::D) e b (λy r h=>by injection h with o _;rw [<- o];omega) C.length 0 (by omega) (by omega);rw [show (([]:List GLeaf),(0:Int))=(C.take 0,((0:Nat):Int)) from rfl,d,yS,e,layLs_some j b hd];rw [e] at c;simp only [List.length_append,List.length_cons] at c;simp only [];rw [zj (by intro h;simp at h ⊢;omega)];have a:((decide (((C.length:Nat):Int) < ((C++z::D).length:Int)))&&(((C++z::D).getD ((C.length:Nat):Int).toNat default).typ==l.typ))=true:=by
   simp [j];omega
  rw [a];simp only [if_true];have p:IntKind.wrap .i64 ((C.length:Int)+1)=((C.length+1:Nat):Int):=by rw [w64n (by omega)];omega
  have m:(C++z::D).drop (C.length+1)=D:=by
   rw [<- List.drop_drop,List.drop_left];rfl
  rw [zj (yo (by simp;omega)),p,slc_at ⟨by omega,by simp <;> omega,Int.le_refl _⟩,Option.bind_some,vG,m,zj (yo (by simp;omega)),zj (yo (by simp;omega)),slc_at ⟨by omega,by omega,Int.le_refl _⟩,Option.bind_some,vG,zj (yo (by simp;omega))];simp
theorem lay7_none {n:Nat} {s:zk} {q:List zk} {l:GLeaf} {A B:List GNode} (h:(A++B).length<=16777215) (d:NLt s A) (b:NGt s B):x6 (n+1) (A++B) (s::q) l=l7R n (A++B) (s::q) l A ((A.length:Int),s,[],[]):=by
 have f:=l7A_is (t:=A++B) (s:=s) (q:=q) (by omega) A B rfl d (λy r hh=>by
  have:=b y (by rw [hh];simp);rcases hx:Op.bytesLess y.name s with _ | _
  ·rfl
  ·have:=qe this hx;rw [less_irr] at this;cases this) A.length 0 (by omega) (by omega)
 rw [lay7_eq2,show (([]:List GNode),(0:Int))=(A.take 0,((0:Nat):Int)) from rfl,f,yS];have c:yq (s::q) (0:Int)=some s:=rfl;simp only [c,Option.bind_some];rw [zj (by intro h;simp at h ⊢;omega),zj (by intro h;simp)];have a:((decide (((A.length:Nat):Int) < ((A++B).length:Int)))&&(((A++B).getD ((A.length:Nat):Int).toNat default).name==((s::q).getD (0:Int).toNat default)))=false:=by
  cases B with
  | nil=>simp
  | cons y B =>
   have:=less_ne (b y (by simp));simp;intro _ e;exact this e.symm
 rw [a];simp only [Bool.false_eq_true,if_false,yS]
theorem lay7_some {n:Nat} {s:zk} {q:List zk} {l:GLeaf} {A B:List GNode} {x:GNode} (b:x.name=s) (h:(A++x::B).length<=16777215) (d:NLt s A) (i:NGt s B):x6 (n+1) (A++x::B) (s::q) l=l7R n (A++x::B) (s::q) l A (((A.length+1:Nat):Int),s,x.leaves,x.subs):=by
 have e:=l7A_is (t:=A++x::B) (s:=s) (q:=q) (by omega) A (x::B) rfl d (λy r hh=>by
  injection hh with f _;rw [<- f,b,less_irr]) A.length 0 (by omega) (by omega)
 rw [lay7_eq2,show (([]:List GNode),(0:Int))=(A.take 0,((0:Nat):Int)) from rfl,e,yS];have c:yq (s::q) (0:Int)=some s:=rfl;simp only [c,Option.bind_some];rw [zj (by intro h;simp at h ⊢;omega),zj (by intro h;simp)];have a:((decide (((A.length:Nat):Int) < ((A++x::B).length:Int)))&&(((A++x::B).getD ((A.length:Nat):Int).toNat default).name==((s::q).getD (0:Int).toNat default)))=true:=by
  simp [b];omega
 rw [a];simp only [List.length_append,List.length_cons] at h;have g:IntKind.wrap .i64 ((A.length:Int)+1)=((A.length+1:Nat):Int):=by rw [w64n (by omega)];omega
 simp only [if_true];rw [zw (x:=x) (by simp),Option.bind_some,yS,g,b]
end Go.Vv
namespace Go.Vv
open Go
theorem lay7_lay {l:GLeaf} (P:leafB l=true) (E:LeafOk l):∀(p:List zk) (t:List GNode) (d n:Nat),p ≠ []->p.all nameB=true->d+p.length<=3->treeB d t=true->(zo [] t).length<=8388606->p.length < n ->
  x6 n t p l=yW n t p l.typ l true
 | [],_,_,_,h,_,_,_,_,_=>absurd rfl h
 | _::_,_,_,0,_,_,_,_,_,h=>by omega
 | s::q,t,d,n+1,_,hp,hd,ht,hw,hn=>by
  simp only [List.all_cons,Bool.and_eq_true,List.length_cons] at hp hd hn;obtain ⟨T,R⟩:=zM ht;have D:t.length<=8388606:=Nat.le_trans (wP _ d (by rw [yT];exact List.all_eq_true.2 R)) hw;have below:∀(sb:List GNode) (c:zk) (m:List zk),q=c::m->treeB (d+1) sb=true->(zo [] sb).length<=8388606->∃b,x6 n sb q l=some b/\yW n sb q l.typ l true=some b/\b ≠ []/\b.length<=16777215:=by
   intro sb c m i u G;subst i;obtain ⟨b,O,Y,W,S⟩:=lay_is (k:=l.typ) (l:=l) (there:=true) (λ_=>⟨rfl,P,E⟩) (c::m) sb (d+1) n (by simp) hp.2 (by simp only [List.length_cons] at hd ⊢;omega) u (by omega) (by omega);have L:=wP sb (d+1) (by rw [yT];exact List.all_eq_true.2 (zM u).2);refine ⟨b,?_,O,?_,by omega⟩
   ·rw [<- O];exact lay7_lay P E (c::m) sb (d+1) n (by simp) hp.2 (by simp only [List.length_cons] at hd ⊢;omega) u G (by omega)
   ·intro e;have:=(S [] ⟨[]++(c::m),l⟩).2 (.inr ⟨rfl,rfl⟩);rw [e] at this;simp [zo] at this
  rcases split_up s T with ⟨A,B,e,y,g⟩ | ⟨A,x,B,e,I,y,g⟩
  ·have r:(A++B).length<=8388606:=by rw [<- e];exact D
   have J:A.length<=8388606:=by simp only [List.length_append] at r;omega
   have o:=bs_none (by omega) y g;have a:zn (A++[]++B) s (λH K=>yU H K)=some ((A.length:Int),false):=by rw [List.append_nil];exact o
   have j:A++B=A++[]++B:=by simp
   rw [e,lay7_none (by omega) y g];cases i:q with
   | nil =>
    rw [l7R_leaf (by simp) (by omega) (by omega) (by simp) (by simp),j,lay_leaf (ls:=[]) (sb:=[]) E (by simp) a rfl (by rw [<- j];omega) (by simp) (by simp) (by simp),fit_one (.inl layLs_ne)];simp
   | cons c m =>
    obtain ⟨b,z,w,M,V⟩:=below [] c m i (tree_nil _) (by simp [zo]);rw [i] at z w;rw [l7R_sub (by simp) (by omega) (by omega) (by omega) (by rw [i] at hd;simp only [List.length_cons] at hd ⊢;omega) z,j,lay_sub (ls:=[]) (sb:=[]) (f:=false) (by simp) a rfl (by rw [<- j];omega) (by simp) (by omega) (by rw [i] at hd;simp only [List.length_cons] at hd ⊢;omega) w,fit_one (.inr M)];simp
  ·have r:(A++x::B).length<=8388606:=by rw [<- e];exact D
   have J:A.length+1<=8388606:=by simp only [List.length_append,List.length_cons] at r;omega
   have o:=bs_some (by omega) I y g;have a:zn (A++[x]++B) s (λH K=>yU H K)=some ((A.length:Int),true):=by rw [List.append_assoc];exact o
   have j:A++x::B=A++[x]++B:=by simp
   have C:x ∈ t:=by rw [e];simp
   obtain ⟨X,n2,N⟩:=wd (R x C);have U:=qR C;have L:=wP x.subs (d+1) (by rw [yT];exact List.all_eq_true.2 (zM n2).2);have v:((if true=true then ((yq (A++[x]++B) (A.length:Int)).bind λF=>some (.inr (F.name,F.leaves,F.subs))) else some (.inr (s,([]:List GLeaf),([]:List GNode)))):Option (List GNode ⊕ (zk×(List GLeaf)×(List GNode))))=some (.inr (s,x.leaves,x.subs)):=by
    rw [if_pos rfl,zw (x:=x) (by simp),Option.bind_some,I]
   have Q:(A++x::B).drop (A.length+1)=B:=by rw [<- List.drop_drop,List.drop_left];rfl
   rw [e,lay7_some I (by omega) y g];cases i:q with
   | nil =>
    rw [l7R_leaf (by simp) (by omega) (by omega) (by omega) (leaves_up N).1,Q,j,lay_leaf (ls:=x.leaves) (sb:=x.subs) E (by simp) a v (by rw [<- j];omega) (by omega) (by omega) (leaves_up N).1,fit_one (.inl layLs_ne)]
   | cons c m =>
    obtain ⟨b,z,w,M,V⟩:=below x.subs c m i n2 (by omega);rw [i] at z w;rw [l7R_sub (by simp) (by omega) (by omega) (by omega) (by rw [i] at hd;simp only [List.length_cons] at hd ⊢;omega) z,Q,j,lay_sub (ls:=x.leaves) (sb:=x.subs) (f:=true) (by simp) a v (by rw [<- j];omega) (by omega) (by omega) (by rw [i] at hd;simp only [List.length_cons] at hd ⊢;omega) w,fit_one (.inr M)]
end Go.Vv
namespace Go.Vv
open Go
theorem ilt_tot {a b:GItem} (h:a.dot ≠ b.dot):aheadI a b=true \/ aheadI b a=true:=by
 unfold aheadI;rcases dlt_tot a.dot b.dot with e | e | e
 ·exact absurd e h
 ·by_cases ht:a.time=b.time
  ·left;simp [ht,e]
  ·rcases Int.lt_or_gt_of_ne ht with c | c
   ·left;simp [ht,c]
   ·right;rw [if_pos (λe=>ht e.symm)];simp;omega
 ·by_cases ht:a.time=b.time
  ·right;simp [ht,e]
  ·rcases Int.lt_or_gt_of_ne ht with c | c
   ·left;simp [ht,c]
   ·right;rw [if_pos (λe=>ht e.symm)];simp;omega
theorem pw_next {α:Type} [Inhabited α] {lt:α->α->Prop} {L:List α} (h:L.Pairwise lt) {i:Nat} {x:α} (hi:L[i]?=some x) (h0:i ≠ 0):lt (L.getD (i - 1) default) x:=by
 obtain ⟨a,rfl⟩:=List.getElem?_eq_some_iff.1 hi;have e:L.getD (i - 1) default=L[i - 1]:=by rw [List.getD_eq_getElem?_getD,List.getElem?_eq_getElem (by omega)];rfl
 rw [e];exact List.pairwise_iff_getElem.1 h _ _ _ _ (by omega)
theorem riseB_pw {L:List GItem} (h:L.Pairwise λa b=>aheadI a b=true):riseB L=true:=by
 refine allI_iff.2 λi x hi=>?_;by_cases h0:i=0
 ·simp [h0]
 ·simp only [h0,decide_false,Bool.false_or,prevI];exact pw_next (lt:=λa b=>aheadI a b=true) h hi h0
theorem rising_of_pw {L:List GDot} (h:L.Pairwise λa b=>dotLt a b=true):rising L=true:=by
 rw [rising_allI];refine allI_iff.2 λi x hi=>?_;unfold xf;by_cases h0:i=0
 ·simp [h0]
 ·simp only [h0,decide_false,Bool.false_or];exact pw_next (lt:=λa b=>dotLt a b=true) h hi h0
theorem layP_mem {L:List GItem} {x y:GItem} (h:y ∈ layP L x):y ∈ L \/ y=x:=by
 unfold layP at h;split at h
 ·exact .inl h
 ·rcases List.mem_append.1 h with h | h
  ·exact .inl ((List.takeWhile_sublist _).mem h)
  ·rcases List.mem_append.1 h with h | h
   ·exact .inr (List.mem_singleton.1 h)
   ·exact .inl ((List.dropWhile_sublist _).mem h)
theorem layP_pw {L:List GItem} (x:GItem) (h:L.Pairwise λa b=>aheadI a b=true):(layP L x).Pairwise λa b=>aheadI a b=true:=by
 unfold layP;split
 ·exact h
 ·rename_i c;simp only [Bool.not_eq_true,List.any_eq_false,decide_eq_true_eq] at c;exact ins_pw (lt:=aheadI) (λ_ _ _=>ilt_tr) h λy d=>ilt_tot (a:=y) (b:=x) (c y d)
theorem layP_once {L:List GItem} (x:GItem) (h:onceB L=true):onceB (layP L x)=true:=by
 unfold layP;split
 ·exact h
 ·rename_i a;simp only [Bool.not_eq_true,List.any_eq_false,decide_eq_true_eq] at a;unfold onceB at h ⊢;rw [decide_eq_true_eq] at h ⊢;have d:(L.takeWhile (λy=>aheadI y x)++([x]++L.dropWhile λy=>aheadI y x)).Perm (x::L):=by
   have e:=List.takeWhile_append_dropWhile (p:=λy=>aheadI y x) (l:=L);have:(x::(L.takeWhile (λy=>aheadI y x)++L.dropWhile λy=>aheadI y x)).Perm (x::L):=by rw [e]
   exact List.perm_middle.trans this
  rw [(d.map (·.dot)).nodup_iff,List.map_cons,List.nodup_cons];refine ⟨λc=>?_,h⟩;obtain ⟨y,b,e⟩:=List.mem_map.1 c;exact a y b e
theorem layP_len (L:List GItem) (x:GItem):(layP L x).length<=L.length+1:=by
 unfold layP;split
 ·omega
 ·have e:=congrArg List.length (List.takeWhile_append_dropWhile (p:=λy=>aheadI y x) (l:=L));simp only [List.length_append,List.length_cons,List.length_nil] at e ⊢;omega
theorem all_layP {q:GItem->Bool} {L:List GItem} {x:GItem} (h:L.all q=true) (c:q x=true):(layP L x).all q=true :=
 List.all_eq_true.2 λy b=>by
  rcases layP_mem b with a | a
  ·exact List.all_eq_true.1 h y a
  ·rw [a];exact c
structure EvOk (e:GEvent):Prop where
 dot:we e.dot=true
 time:qG e.time=true
 kind:1<=e.op.kind/\e.op.kind<=5
 path:pathB e.op.path=true
 text:e.op.text.length<=40
 dots:e.op.kind=4->e.op.dots.all we=true
 dlen:e.op.dots.length<=64
theorem evOk {e:GEvent} (h:xZ e=true):EvOk e:=by
 have b:=kind_of h;have hd:=dots_of h;simp only [xZ,opB,Bool.and_eq_true,decide_eq_true_eq] at h;obtain ⟨⟨⟨c,d⟩,g⟩,⟨⟨⟨⟨_,i⟩,f⟩,_⟩,a⟩⟩:=h;refine ⟨c,?_,b,i,f,λj=>?_,hd⟩
 ·simp [qG,d,g]
 ·rw [if_neg (by omega)] at a;simp only [Bool.and_eq_true] at a;exact a.2.1
theorem type_range {k:Int} (h:1<=k/\k<=5):1<=x9 k/\x9 k<=4:=by
 unfold x9;split
 ·omega
 split
 ·omega
 split
 ·omega
 split
 ·omega
 ·omega
theorem applyP_typ (l:GLeaf) (e:GEvent):(yH l e).typ=l.typ:=by
 unfold yH;generalize (decide (l.time=0) || (if l.time ≠ e.time then decide (l.time < e.time) else dotLt l.dot e.dot))=b;cases b <;> simp only [Bool.false_eq_true,if_false,if_true] <;> (repeat' split) <;> rfl
theorem applyP_may {l:GLeaf} {e:GEvent} (a:leafB l=true) (C:xZ e=true) (o:x9 e.op.kind=l.typ):leafB (yH l e)=true:=by
 have c:=riseB_of a;have t:=tombs_of a;have n:=apart_of_leaf a;obtain ⟨u,s,H,d4,r,F,G⟩:=evOk C;have D:=applyP_typ l e;by_cases k1:e.op.kind=1
 ·have A:l.typ=1:=by rw [<- o,k1];rfl
  unfold yH;rw [if_pos k1];unfold leafB at a ⊢;rw [if_pos A] at a;simp only [A,if_true];exact a
 by_cases k2:e.op.kind=2
 ·have w:l.typ=2:=by rw [<- o,k2];rfl
  unfold yH;rw [if_neg k1,if_pos k2];generalize (decide (l.time=0) || (if l.time ≠ e.time then decide (l.time < e.time) else dotLt l.dot e.dot))=b;cases b
  case false=>exact a
  case true =>
   simp only [if_true];unfold leafB at a ⊢;rw [if_neg (by omega),if_pos w] at a;simp only [w];rw [if_neg (by omega),if_pos trivial];simp only [Bool.and_eq_true,decide_eq_true_eq] at a ⊢;refine ⟨a.1,?_⟩;have:¬ e.time=0:=by
    simp only [qG,Bool.and_eq_true,decide_eq_true_eq] at s;omega
   rw [if_neg this];simp [u,s,r]
 by_cases k3:e.op.kind=3
 ·have t3:l.typ=3:=by rw [<- o,k3];rfl
  unfold yH;rw [if_neg k1,if_neg k2,if_pos k3];split
  ·exact a
  ·rename_i y;simp only [Bool.not_eq_true,List.any_eq_false,decide_eq_true_eq] at y;unfold leafB at a ⊢;rw [if_neg (by omega),if_neg (by omega),if_pos t3] at a;simp only [t3];rw [if_neg (by omega),if_neg (by omega),if_pos trivial];simp only [Bool.and_eq_true,decide_eq_true_eq] at a ⊢;obtain ⟨⟨⟨m,p⟩,⟨⟨j,v⟩,h⟩⟩,g⟩:=a;refine ⟨⟨⟨m,by simpa [zeroB] using p⟩,⟨⟨all_layP j ?_,riseB_pw (layP_pw _ c)⟩,layP_once _ h⟩⟩,?_⟩
   ·simp [vl,u,r]
   ·simp only [tombsB,Bool.and_eq_true] at g ⊢;refine ⟨g.1,List.all_eq_true.2 λd hd=>?_⟩;simp only [Bool.not_eq_true',List.any_eq_false,decide_eq_true_eq];intro x k i;rcases layP_mem k with f | f
    ·exact n x f d hd i.symm
    ·rw [f] at i;exact y d hd i.symm
 by_cases k4:e.op.kind=4
 ·have t3:l.typ=3:=by rw [<- o,k4];rfl
  have hd:=F k4;unfold yH;rw [if_neg k1,if_neg k2,if_neg k3,if_pos k4];unfold leafB at a ⊢;rw [if_neg (by omega),if_neg (by omega),if_pos t3] at a;simp only [t3];rw [if_neg (by omega),if_neg (by omega),if_pos trivial];simp only [Bool.and_eq_true,decide_eq_true_eq] at a ⊢;obtain ⟨⟨⟨m,p⟩,⟨⟨j,v⟩,h⟩⟩,g⟩:=a;refine ⟨⟨⟨m,by simpa [zeroB] using p⟩,⟨⟨List.all_eq_true.2 λx k=>List.all_eq_true.1 j x (List.mem_filter.1 k).1,riseB_pw (c.filter _)⟩,?_⟩⟩,?_⟩
  ·unfold onceB at h ⊢;rw [decide_eq_true_eq] at h ⊢;exact h.sublist ((List.filter_sublist).map _)
  ·simp only [tombsB,Bool.and_eq_true] at g ⊢;refine ⟨⟨List.all_eq_true.2 λd q=>?_,rising_of_pw (burs_pw _ t)⟩,List.all_eq_true.2 λd q=>?_⟩
   ·rcases (burs_mem _ _ _).1 q with f | f
    ·exact List.all_eq_true.1 hd d f
    ·exact List.all_eq_true.1 g.1.1 d f
   ·simp only [Bool.not_eq_true',List.any_eq_false,decide_eq_true_eq];intro x k i;obtain ⟨E,z⟩:=List.mem_filter.1 k;simp only [Bool.not_eq_true',List.any_eq_false,decide_eq_true_eq] at z;rcases (burs_mem _ _ _).1 q with f | f
    ·exact z d f i.symm
    ·exact n x E d f i.symm
 ·have B:e.op.kind=5:=by omega
  have t4:l.typ=4:=by rw [<- o,B];rfl
  unfold yH;rw [if_neg k1,if_neg k2,if_neg k3,if_neg k4];unfold leafB at a ⊢;rw [if_neg (by omega),if_neg (by omega),if_neg (by omega),if_pos t4] at a;simp only [t4];rw [if_neg (by omega),if_neg (by omega),if_neg (by omega),if_pos trivial];simp only [Bool.and_eq_true,decide_eq_true_eq] at a ⊢;obtain ⟨⟨⟨m,p⟩,g⟩,⟨⟨j,v⟩,h⟩⟩:=a;refine ⟨⟨⟨m,by simpa [zeroB] using p⟩,g⟩,⟨⟨all_layP j ?_,riseB_pw (layP_pw _ c)⟩,layP_once _ h⟩⟩;simp [vl,u,s,r]
theorem applyP_ok {l:GLeaf} {e:GEvent} (a:LeafOk l) (g:xZ e=true) (hi:l.items.length<=1048576) (i:l.tombs.length<=1048576):LeafOk (yH l e)/\(yH l e).items.length<=l.items.length+1/\(yH l e).tombs.length<=l.tombs.length+64:=by
 have d:=evOk g;have f:0<=e.time:=by have:=d.time;simp only [qG,Bool.and_eq_true,decide_eq_true_eq] at this;omega
 have c:=λx=>layP_len l.items x;have h:=burs_len e.op.dots l.tombs;have j:=List.length_filter_le (λx:GItem=>!(e.op.dots.any λy=>decide (y=x.dot))) l.items;have hd:=d.dlen;have key:(yH l e).items.length<=l.items.length+1/\(yH l e).tombs.length<=l.tombs.length+64/\0<=(yH l e).time:=by
  unfold yH;split
  ·exact ⟨by simp,by simp,a.time⟩
  split
  ·generalize (decide (l.time=0) || (if l.time ≠ e.time then decide (l.time < e.time) else dotLt l.dot e.dot))=b;cases b
   ·exact ⟨by simp,by simp,a.time⟩
   ·exact ⟨by simp,by simp,f⟩
  split
  ·split
   ·exact ⟨by simp,by simp,a.time⟩
   ·exact ⟨c _,by simp,a.time⟩
  split
  ·exact ⟨by simp only [];omega,by simp only [];omega,a.time⟩
  ·exact ⟨c _,by simp,a.time⟩
 exact ⟨⟨by omega,by omega,key.2.2⟩,key.1,key.2.1⟩
end Go.Vv
namespace Go.Vv
open Go
def vj (k:Int):GLeaf:=GLeaf.mk k (0:Int) (0:Int) (GDot.mk (GActor.mk (0:Int) (0:Int)) (0:Int)) ([]:zk) ([]:List GItem) ([]:List GDot)
theorem leafNew_is {k:Int} (h:1<=k/\k<=4):vW k=some (vj k):=by
 unfold vW;rw [if_neg (by simp;omega)];rfl
theorem refNew_is {k:Int} (h:1<=k/\k<=4):ref05New k=some (vj k):=by
 unfold ref05New;rw [if_pos (by simp;omega)];rfl
theorem newLf_may {k:Int} (h:1<=k/\k<=4):leafB (vj k)=true:=by
 have:k=1 \/ k=2 \/ k=3 \/ k=4:=by omega
 rcases this with rfl | rfl | rfl | rfl <;> decide
theorem newLf_ok (k:Int):LeafOk (vj k):=⟨by simp [vj],by simp [vj],Int.le_refl _⟩
theorem node7_is (t:List GNode) (s:zk):ref07Xnode t s=some (match nodeOf t s with | some x=>(x,true) | none=>(node0,false)):=by
 unfold ref07Xnode;have key:∀(L:List GNode) (i:Nat),zq (ρ:=GNode×Bool) (λ(c:Nat) (a:GNode) (b:Unit)=>((if (a.name==s)=true then some (.ret (a,true)) else some (.nxt ())):Option (Out _ Unit))) L i ()=some (match nodeOf L s with | some x=>.inl (x,true) | none=>.inr ()):=by
  intro L
  induction L with
  | nil=>intro i;rfl
  | cons y r ih =>
   intro i;rw [zq];unfold nodeOf;rw [List.find?_cons];cases h:(y.name==s)
   ·simp only [Bool.false_eq_true,if_false];exact ih (i+1)
   ·simp only [if_true]
 rw [key];cases nodeOf t s <;> rfl
noncomputable def l7F (v1:GLeaf):Nat->zk->(List GNode)×zk×(List GLeaf)×(List GNode)->Option (Out (GLeaf×Bool) ((List GNode)×zk×(List GLeaf)×(List GNode))):=(λ(n1:Nat) (x1:zk) (s1:(List GNode)×zk×(List GLeaf)×(List GNode))=>(((ref07Xnode s1.1 x1).bind λv32=>(if (!v32.2)=true then some (.ret (v1,false)) else some (.nxt (v32.1.subs,v32.1.name,v32.1.leaves,v32.1.subs))))))
noncomputable def l7S (ls:List GLeaf) (kind2:Int):Int->Option (Out (GLeaf×Bool) Int):=(λ(s2:Int)=>((if (((decide (s2 < ((ls).length:Int)))&&(decide (kind2 >= (1:Int))))&&(decide (kind2<=(4:Int))))=true then ((yq ls s2).bind λy63=>(if (y63.typ==kind2)=true then ((yq ls s2).bind λy65=>some (.ret (y65,true))) else some (.nxt (IntKind.wrap .i64 (s2+(1:Int)))))) else some (.brk s2))))
theorem leaf7_eq (t0:List GNode) (b:List zk) (a:Int):qv t0 b a=((ref05New a).bind λc=>(lp (zq (l7F c) b 0 (t0,([]:zk),([]:List GLeaf),([]:List GNode))) λ(d:(List GNode)×zk×(List GLeaf)×(List GNode))=>(lp (yC (l7S d.2.2.1 a) (0:Int)) λ(s2:Int)=>some (c,false)))):=rfl
theorem l7_walk (v:GLeaf):∀(p:List zk) (n:Nat) (t:List GNode) (z:zk×(List GLeaf)×(List GNode)),p ≠ [] ->
  zq (l7F v) p n (t,z)=some (match wI t p with | some x=>.inr (x.subs,x.name,x.leaves,x.subs) | none=>.inl (v,false))
 | [],_,_,_,h=>absurd rfl h
 | [s],n,t,z,_=>by
  simp only [wI,zq,l7F,node7_is,Option.bind_some];cases nodeOf t s with
  | none=>rfl
  | some x=>rfl
 | s::c::q,n,t,z,_=>by
  have b:=λu z=>l7_walk v (c::q) (n+1) u z (by simp);simp only [wI];cases e:nodeOf t s with
  | none=>rw [zq];simp only [l7F,node7_is,e,Option.bind_some];rfl
  | some x =>
   have a:l7F v n s (t,z)=some (.nxt (x.subs,x.name,x.leaves,x.subs)):=by simp only [l7F,node7_is,e,Option.bind_some];rfl
   rw [zq,a,Option.bind_some];exact b x.subs (x.name,x.leaves,x.subs)
theorem l7_scan {ls:List GLeaf} {k:Int} (c:1<=k/\k<=4) (d:ls.length<=16777216):∀(m i:Nat),ls.length - i=m->i<=ls.length->yC (l7S ls k) (i:Int)=some (match (ls.drop i).find? (λy=>y.typ==k) with | some y=>.inl (y,true) | none=>.inr (ls.length:Int)):=by
 intro m
 induction m with
 | zero =>
  intro i h hi;obtain rfl:i=ls.length:=by omega
  rw [y6];unfold l7S;simp
 | succ m ih =>
  intro i h hi;have a:i < ls.length:=by omega
  rw [y6];have hd:ls.drop i=ls[i]::ls.drop (i+1):=List.drop_eq_getElem_cons a;have b:((decide ((i:Int) < (ls.length:Int))&&decide (k >= 1))&&decide (k<=4))=true:=by simp;omega
  rw [hd,List.find?_cons];cases e:(ls[i].typ==k)
  ·have:l7S ls k (i:Int)=some (.nxt ((i+1:Nat):Int)):=by
    unfold l7S;rw [if_pos b,qf a,Option.bind_some,e];simp only [Bool.false_eq_true,if_false];rw [w64n (by omega)];rfl
   rw [this];exact ih (i+1) (by omega) (by omega)
  ·have:l7S ls k (i:Int)=some (.ret (ls[i],true)):=by
    unfold l7S;rw [if_pos b,qf a,Option.bind_some,e];simp
   rw [this]
theorem leaves_len:∀{p:List zk} {t:List GNode} {d:Nat} {x:GNode},treeB d t=true->p ≠ []->wI t p=some x->x.leaves.length<=(zo [] t).length
 | [],_,_,_,_,h,_=>absurd rfl h
 | [s],t,d,x,h,_,e=>by
  have b:x ∈ t:=List.mem_of_find?_eq_some (show nodeOf t s=some x from e);have:=qR b;omega
 | s::c::q,t,d,x,h,_,e=>by
  simp only [wI] at e;cases hn:nodeOf t s with
  | none=>rw [hn] at e;cases e
  | some y =>
   rw [hn,Option.bind_some] at e;have a:y ∈ t:=List.mem_of_find?_eq_some (show nodeOf t s=some y from hn);have f:=leaves_len (wd ((zM h).2 y a)).2.1 (by simp) e;have g:=qR a;omega
theorem leaf7_is {t:List GNode} (h:treeB 0 t=true) (n:(zo [] t).length<=16777215) {p:List zk} (f:p ≠ []) {k:Int} (i:1<=k/\k<=4) :
  (∃l,GRow.mk p l ∈ zo [] t/\l.typ=k/\qv t p k=some (l,true)) \/ ((∀r ∈ zo [] t,xi r ≠ (p,k))/\qv t p k=some (vj k,false)):=by
 have a:=λl=>row_at p t 0 [] l f h;simp only [List.nil_append] at a;have c:(∀l,¬ (GRow.mk p l ∈ zo [] t/\l.typ=k))->∀r ∈ zo [] t,xi r ≠ (p,k):=λm r o e=>by
  have:=row_mk e;simp only [List.nil_append] at this;exact m r.leaf ⟨by rw [<- this];exact o,congrArg Prod.snd e⟩
 rw [leaf7_eq,refNew_is i,Option.bind_some,l7_walk _ p 0 t _ f];cases e:wI t p with
 | none =>
  right;refine ⟨c λl hh=>?_,rfl⟩;obtain ⟨x,b,_⟩:=(a l).1 hh.1;rw [e] at b;cases b
 | some x =>
  simp only [lp];have g:x.leaves.length<=16777215:=by
   exact Nat.le_trans (leaves_len h f e) n
  have hs:=l7_scan i (by omega:x.leaves.length<=16777216) x.leaves.length 0 (by omega) (Nat.zero_le _);simp only [List.drop_zero,Int.natCast_zero] at hs;have d:yC (l7S x.leaves k) (0:Int)=_:=hs;rw [d];cases hf:x.leaves.find? (λy=>y.typ==k) with
  | some y =>
   left;refine ⟨y,(a y).2 ⟨x,e,List.mem_of_find?_eq_some hf⟩,?_,rfl⟩;have:=List.find?_some hf;simpa using this
  | none =>
   right;refine ⟨c λl hh=>?_,rfl⟩;obtain ⟨q,b,j⟩:=(a l).1 hh.1;rw [e] at b;injection b with b;subst b;have:=List.find?_eq_none.1 hf l j;simp [hh.2] at this
end Go.Vv
namespace Go.Vv
open Go
theorem name_len {s:zk} (h:nameB s=true):s.length<=12/\∀b ∈ s,b ≠ 0:=by
 simp only [nameB,Bool.and_eq_true,decide_eq_true_eq,List.all_eq_true] at h;refine ⟨h.1.2,λb a e=>?_⟩;have:=h.2 b a;rw [e] at this;revert this;decide
theorem leaf_bk (l:GLeaf):4<=GLeaf.bk l:=by unfold GLeaf.bk;omega
theorem leaves_bk:∀ls:List GLeaf,4 * ls.length<=(ls.map GLeaf.bk).sum
 | []=>by simp
 | l::ls=>by
  have:=leaves_bk ls;have:=leaf_bk l;simp only [List.length_cons,List.map_cons,List.sum_cons];omega
theorem rows4:∀(t:List GNode),4 * (zo [] t).length<=GNode.bks t:=by
 refine wa (by simp [zo]) ?_;intro x r a b;have c:=leaves_bk x.leaves;have d:=bk_node x;rw [show x::r=[x]++r from rfl,qs,qJ,yN];simp only [List.length_append,List.length_map];rw [len_rows x.subs ([]++[x.name]) []];show _<=x.bk+GNode.bks r;omega
def wS (n:Nat):List GRow->Nat
 | []=>0
 | r::L=>r.leaf.bk+17 * (r.path.length - n)+wS n L
theorem wS_app (n:Nat):∀A B:List GRow,wS n (A++B)=wS n A+wS n B
 | [],B=>by simp [wS]
 | r::A,B=>by simp only [List.cons_append,wS,wS_app n A B];omega
theorem wS_leaves (a:List zk) (s:zk):∀ls:List GLeaf,wS a.length (ls.map λl=>GRow.mk (a++[s]) l)=(ls.map GLeaf.bk).sum+17 * ls.length
 | []=>rfl
 | l::ls=>by
  simp only [List.map_cons,wS,wS_leaves a s ls,List.sum_cons,List.length_cons,List.length_append,List.length_nil];omega
theorem wS_up (n:Nat):∀L:List GRow,(∀r ∈ L,n+1<=r.path.length)->wS n L=wS (n+1) L+17 * L.length
 | [],_=>rfl
 | r::L,h=>by
  have b:=h r (by simp);simp only [wS,wS_up n L (λq a=>h q (by simp [a])),List.length_cons];omega
theorem bk_is (x:GNode):x.bk=(x.name.length+1)+(((x.leaves.map GLeaf.bk).sum+1)+((GNode.bks x.subs+1)+0))+1:=by cases x;simp only [GNode.bk]
theorem bks_rows:∀(t:List GNode) (d:Nat) (a:List zk),(∀x ∈ t,nodeB d x=true)->GNode.bks t<=wS a.length (zo a t):=by
 refine wa (λ_ _ _=>by simp [GNode.bks]) ?_;intro x r g k d a c;have n:=k d a λy j=>c y (by simp [j]);have e:=c x (by simp);obtain ⟨i,n2,_⟩:=wd e;have f:=g (d+1) (a++[x.name]) (zM n2).2;have l:=(name_len i).1;have b:=wP [x] d (by simp [xR,e]);rw [qJ,yN] at b;simp only [List.length_append,List.length_map,List.length_cons,List.length_nil,Nat.zero_add] at f b;rw [len_rows x.subs ([]++[x.name]) (a++[x.name])] at b;show x.bk+GNode.bks r<=wS a.length (w9 a x++zo a r);rw [wS_app,yN,wS_app,wS_leaves,wS_up a.length _ λq h=>by
  have:=(rows_path _ _ q h).1;simp at this;omega]
 have m:=bk_is x;omega
theorem wS_sub {lt:GRow->GRow->Prop} (a:∀x,¬ lt x x) (n:Nat):∀(L M:List GRow),L.Pairwise lt->(∀x ∈ L,x ∈ M)->wS n L<=wS n M
 | [],_,_,_=>Nat.zero_le _
 | x::L,M,h,hs=>by
  obtain ⟨f,g⟩:=List.pairwise_cons.1 h;obtain ⟨A,B,rfl⟩:=List.append_of_mem (hs x (by simp));have:=wS_sub a n L (A++B) g λy d=>by
   have b:=hs y (by simp [d]);have c:y ≠ x:=λe=>a x (by have:=f y d;rwa [e] at this);simp only [List.mem_append,List.mem_cons] at b ⊢;rcases b with h | h | h
   ·exact .inl h
   ·exact (c h).elim
   ·exact .inr h
  rw [wS_app] at this;rw [wS_app];simp only [wS];omega
def lS:List GRow->Nat
 | []=>0
 | r::L=>r.leaf.bk+lS L
theorem lS_app:∀A B:List GRow,lS (A++B)=lS A+lS B
 | [],B=>by simp [lS]
 | r::A,B=>by simp only [List.cons_append,lS,lS_app A B];omega
theorem lS_leaves (p:List zk):∀ls:List GLeaf,lS (ls.map λl=>GRow.mk p l)=(ls.map GLeaf.bk).sum
 | []=>rfl
 | l::ls=>by simp only [List.map_cons,lS,lS_leaves p ls,List.sum_cons]
theorem wS_le:∀L:List GRow,(∀r ∈ L,r.path.length<=3)->wS 0 L<=lS L+51 * L.length
 | [],_=>Nat.le_refl _
 | r::L,h=>by
  have b:=h r (by simp);have c:=wS_le L λq a=>h q (by simp [a]);simp only [wS,lS,List.length_cons];omega
theorem lS_le:∀(t:List GNode) (a:List zk),lS (zo a t)<=GNode.bks t:=by
 refine wa (λ_=>Nat.zero_le _) ?_;intro x r b c a;have d:=c a;have e:=b (a++[x.name]);have f:=bk_is x;show lS (w9 a x++zo a r)<=x.bk+GNode.bks r;rw [lS_app,yN,lS_app,lS_leaves];omega
theorem rows_wf:∀(t:List GNode) (a:List zk),GNode.wfs t->∀r ∈ zo a t,GLeaf.wf r.leaf:=by
 refine wa (λ_ _ _ h=>by simp [zo] at h) ?_;intro x r d e a h q b;simp only [GNode.wfs] at h;have b:q ∈ w9 a x++zo a r:=b;rcases List.mem_append.1 b with b | b
 ·have c:x.name.length<=maxLen/\(x.leaves.length<=maxLen/\∀y ∈ x.leaves,GLeaf.wf y)/\GNode.wfs x.subs:=by
   have:=h.1;cases x;simpa only [GNode.wf] using this
  rcases rowsN_mem.1 b with ⟨l,f,rfl⟩ | b
  ·exact c.2.1.2 l f
  ·exact d _ c.2.2 q b
 ·exact e a h.2 q b
theorem wf_rows:∀(t:List GNode) (d:Nat) (a:List zk),(∀x ∈ t,nodeB d x=true)->(zo a t).length<=maxLen->(∀r ∈ zo a t,GLeaf.wf r.leaf)->GNode.wfs t:=by
 refine wa (λ_ _ _ _ _=>by simp [GNode.wfs]) ?_;intro x r m p d a k e c;have e:(w9 a x++zo a r).length<=maxLen:=e;have c:∀q ∈ w9 a x++zo a r,GLeaf.wf q.leaf:=c;rw [yN] at e;simp only [List.length_append,List.length_map] at e;obtain ⟨o,n2,_⟩:=wd (k x (by simp));have n:=p d a (λy i=>k y (by simp [i])) (by omega) (λq g=>c q (by simp [g]));have j:=m (d+1) (a++[x.name]) (zM n2).2 (by omega) (λq g=>c q (List.mem_append.2 (.inl (rowsN_mem.2 (.inr g)))));have l:=(name_len o).1;have b:x.name.length<=maxLen:=Nat.le_trans l (by decide);have f:∀y ∈ x.leaves,GLeaf.wf y:=λy i=>c ⟨a++[x.name],y⟩ (List.mem_append.2 (.inl (rowsN_mem.2 (.inl ⟨y,i,rfl⟩))));have h:x.leaves.length<=maxLen:=by omega
 simp only [GNode.wfs];refine ⟨?_,n⟩;revert b f h j;cases x;intro j b f h;simp only [GNode.wf];exact ⟨b,⟨h,f⟩,j⟩
end Go.Vv
namespace Go.Vv
open Go
theorem ownC_is {l:GLeaf} (h:LeafOk l):vZ l=some l:=by
 unfold vZ;rw [qY (yo (by have:=h.items;omega)),Option.bind_some,cloneDot_is (yo (by have:=h.tombs;omega)),Option.bind_some]
theorem changed_is:∀(n:Nat) (t:List GNode),GNode.deps t < n->Small t->wh n t (λg=>vZ g)=some t
 | 0,_,h,_=>by omega
 | n+1,t,h,hs=>by
  unfold wh;have o:=hs.len;rw [wt (λ_=>true) (λx=>x) t 0 [] (yo (by simp;omega))]
  ·simp
  ·intro i x s a d;have f:=qX a;have m:=xV x;have k:=hs.leaves a;rw [changed_is n x.subs (by omega) (hs.subs a),Option.bind_some];rw [wt (λ_=>true) (λl=>l) x.leaves 0 [] (yo (by simp;omega))]
   ·have e:(x.leaves.filter λ_=>true)=x.leaves:=by simp
    simp only [yS,List.nil_append,List.map_id_fun',id,e,if_true];rw [zj (by simpa using d)];cases x;simp
   ·intro j l s2 c b;show ((vZ l).bind _)=_;rw [ownC_is (hs.leaf a c),Option.bind_some,zj (by simpa using b)];simp
theorem own7_is {t:List GNode} (h:Small t):treeXown t=some t:=by
 unfold treeXown treeXchanged;rw [vX (GNode.deps t+1) λn a=>changed_is n t (by omega) h,Option.bind_some]
theorem wS_len:∀L:List GRow,(∀r ∈ L,1<=r.path.length)->17 * L.length<=wS 0 L
 | [],_=>Nat.le_refl _
 | r::L,h=>by
  have b:=h r (by simp);have c:=wS_len L λq a=>h q (by simp [a]);simp only [wS,List.length_cons];omega
structure Fine (t:List GNode):Prop where
 small:Small t
 tree:treeB 0 t=true
 ws:wS 0 (zo [] t)<=14680064
 leaf:∀r ∈ zo [] t,r.leaf.bk<=1048576
theorem lS_mem:∀{L:List GRow} {r:GRow},r ∈ L->r.leaf.bk<=lS L
 | q::L,r,h=>by
  rcases List.mem_cons.1 h with rfl | h
  ·simp only [lS];omega
  ·have:=lS_mem h;simp only [lS];omega
theorem fine_of {t:List GNode} (hs:Small t) (b:treeB 0 t=true) (e:GNode.bks t<=1048576):Fine t:=by
 have d:=wS_le (zo [] t) λr a=>(wA (rows_ok t 0 [] hs b rfl rfl r a).path).2.1;have f:=lS_le t [];have c:=rows4 t;exact ⟨hs,b,by omega,λr a=>Nat.le_trans (lS_mem a) (by omega)⟩
theorem Fine.row {t:List GNode} (h:Fine t) {r:GRow} (a:r ∈ zo [] t):RowOk' r:=rows_ok t 0 [] h.small h.tree rfl rfl r a
theorem Fine.len {t:List GNode} (h:Fine t):(zo [] t).length<=863533:=by
 have b:=wS_len (zo [] t) λr a=>by
  have:=(wA (h.row a).path).1;exact List.length_pos_iff.2 this
 have:=h.ws;omega
theorem rows_small {u:List GNode} {M:List GRow} (d:treeB 0 u=true) (k:wS 0 M<=16777216) (i:M.length<=1048576) (c:∀r ∈ M,GLeaf.wf r.leaf) (h:∀r ∈ zo [] u,r ∈ M):Small u/\wS 0 (zo [] u)<=wS 0 M:=by
 have a:∀x:GRow,¬ kltB (xi x) (xi x)=true:=λx h=>by rw [klt_irr] at h;cases h
 have b:=xr d [];have f:=bks_rows u 0 [] (zM d).2;have g:=wS_sub a 0 _ _ b h;have j:=sub_len a _ _ b h;simp only [List.length_nil] at f;exact ⟨⟨wf_rows u 0 [] (zM d).2 (Nat.le_trans (Nat.le_trans j i) (by decide)) λr e=>c r (h r e),by omega⟩,g⟩
theorem small_put {t u:List GNode} {p:List zk} {l:GLeaf} (b:Fine t) (c:treeB 0 u=true) (i:l.bk<=1100000) (d:GLeaf.wf l) (e:p.length<=3) (h:∀r ∈ zo [] u,r ∈ zo [] t \/ r=⟨p,l⟩):Small u:=by
 have f:=b.ws;have g:=b.len;refine (rows_small (M:=zo [] t++[⟨p,l⟩]) c (by rw [wS_app];simp only [wS];omega) (by simp;omega) (λr a=>?_) λr a=>?_).1
 ·rcases List.mem_append.1 a with h | h
  ·exact rows_wf t [] b.small.1 r h
  ·rw [List.mem_singleton.1 h];exact d
 ·rcases h r a with h | h
  ·simp [h]
  ·simp [h]
theorem dots_bk (L:List GDot):(L.map GDot.bk).sum=5 * L.length:=by
 induction L with
 | nil=>rfl
 | cons d r ih =>
  have:GDot.bk d=5:=rfl;rw [List.map_cons,List.sum_cons,ih,this,List.length_cons];omega
theorem sum_filter_le {α:Type} (f:α->Nat) (q:α->Bool):∀L:List α,((L.filter q).map f).sum<=(L.map f).sum
 | []=>by simp
 | x::r=>by
  have:=sum_filter_le f q r;rw [List.filter_cons];split <;> simp only [List.map_cons,List.sum_cons] <;> omega
theorem lay_bk (L:List GItem) (x:GItem):((layP L x).map GItem.bk).sum<=(L.map GItem.bk).sum+x.bk:=by
 unfold layP;split
 ·omega
 ·have e:=List.takeWhile_append_dropWhile (p:=λy=>aheadI y x) (l:=L);have a:(L.map GItem.bk).sum=(((L.takeWhile (λy=>aheadI y x))++L.dropWhile λy=>aheadI y x).map GItem.bk).sum:=by rw [e]
  rw [a];simp only [List.map_append,List.sum_append,List.map_cons,List.map_nil,List.sum_cons,List.sum_nil];omega
theorem applyP_bk {l:GLeaf} {e:GEvent} (a:xZ e=true):(yH l e).bk<=l.bk+1000:=by
 have d:=evOk a;have g:=lay_bk l.items ⟨0,e.dot,e.op.text⟩;have h:=lay_bk l.items ⟨e.time,e.dot,e.op.text⟩;have k:=burs_len e.op.dots l.tombs;have f:=sum_filter_le GItem.bk (λx:GItem=>!(e.op.dots.any λy=>decide (y=x.dot))) l.items;have hd:=d.dlen;have j:=d.text;have b0:∀x:GDot,GDot.bk x=5:=λ_=>rfl;have c:GItem.bk ⟨0,e.dot,e.op.text⟩<=60:=by simp only [GItem.bk,b0];omega
 have i:GItem.bk ⟨e.time,e.dot,e.op.text⟩<=60:=by simp only [GItem.bk,b0];omega
 unfold yH;split
 ·simp only [GLeaf.bk];omega
 split
 ·generalize (decide (l.time=0) || (if l.time ≠ e.time then decide (l.time < e.time) else dotLt l.dot e.dot))=b;cases b
  ·simp only [Bool.false_eq_true,if_false];omega
  ·simp only [if_true,GLeaf.bk,b0];omega
 split
 ·split
  ·omega
  ·simp only [GLeaf.bk];omega
 split
 ·simp only [GLeaf.bk,dots_bk];omega
 ·simp only [GLeaf.bk];omega
theorem inK_wrap64 (n:Int):InK .i64 (IntKind.wrap .i64 n):=by
 unfold InK;rw [IntKind.wrap_i64];constructor
 ·show (-9223372036854775808:Int)<=_;omega
 ·show _<=(9223372036854775807:Int);omega
theorem all_lay {q:GItem->Prop} {L:List GItem} {x:GItem} (h:∀y ∈ L,q y) (c:q x):∀y ∈ layP L x,q y:=λy b=>by
 rcases layP_mem b with a | a
 ·exact h y a
 ·rw [a];exact c
theorem applyP_wf {l:GLeaf} {e:GEvent} (t:GLeaf.wf l) (w:xZ e=true) (A:GEvent.wf e) (hi:l.items.length<=1048576) (u:l.tombs.length<=1048576):GLeaf.wf (yH l e):=by
 have d:=evOk w;obtain ⟨f,g,k,i,j,a,c⟩:=t;obtain ⟨o,s,v⟩:=A;obtain ⟨G,D,E,p,B⟩:=v;have m:∀n,n<=1048700->n<=maxLen:=λn h=>Nat.le_trans h (by decide);have r:=λx=>layP_len l.items x;have F:=burs_len e.op.dots l.tombs;have C:=List.length_filter_le (λx:GItem=>!(e.op.dots.any λy=>decide (y=x.dot))) l.items;have hd:=d.dlen;have z:InK .u64 0:=⟨Int.le_refl _,by decide⟩
 unfold yH;split
 ·exact ⟨f,inK_wrap64 _,k,i,j,a,c⟩
 split
 ·generalize (decide (l.time=0) || (if l.time ≠ e.time then decide (l.time < e.time) else dotLt l.dot e.dot))=b;cases b
  ·exact ⟨f,g,k,i,j,a,c⟩
  ·exact ⟨f,g,s,o,p,a,c⟩
 split
 ·split
  ·exact ⟨f,g,k,i,j,a,c⟩
  ·exact ⟨f,g,k,i,j,⟨m _ (by have:=r ⟨0,e.dot,e.op.text⟩;simp only [];omega),all_lay a.2 ⟨z,o,p⟩⟩,c⟩
 split
 ·refine ⟨f,g,k,i,j,⟨m _ (by simp only [];omega),λy q=>a.2 y (List.mem_filter.1 q).1⟩,⟨m _ (by simp only [];omega),λy q=>?_⟩⟩;rcases (burs_mem _ _ _).1 q with h | h
  ·exact B.2 y h
  ·exact c.2 y h
 ·exact ⟨f,g,k,i,j,⟨m _ (by have:=r ⟨e.time,e.dot,e.op.text⟩;simp only [];omega),all_lay a.2 ⟨s,o,p⟩⟩,c⟩
theorem newLf_wf {k:Int} (h:1<=k/\k<=4):GLeaf.wf (vj k):=by
 have z:InK .u64 0:=⟨Int.le_refl _,by decide⟩
 have c:InK .u8 0:=⟨Int.le_refl _,by decide⟩
 have a:InK .u32 0:=⟨Int.le_refl _,by decide⟩
 have b:InK .i64 0:=⟨by decide,by decide⟩
 refine ⟨⟨by show (0:Int)<=k;omega,by show k<=255;omega⟩,b,z,⟨⟨c,a⟩,z⟩,by simp [vj],⟨by simp [vj],by simp [vj]⟩,⟨by simp [vj],by simp [vj]⟩⟩
end Go.Vv
namespace Go.Vv
open Go
theorem tlR_false {k:Int} (c:1<=k/\k<=4) {e:Bool×zk×(List GLeaf)×(List GNode)} {v:GLeaf} (h:tlR k e=some (v,false)):v=vj k:=by
 unfold tlR at h;obtain ⟨d,_,h⟩:=Option.bind_eq_some_iff.1 h;obtain ⟨v50,_,h⟩:=Option.bind_eq_some_iff.1 h;split at h
 ·rw [leafNew_is c,Option.bind_some] at h;injection h with h;injection h with h _;exact h.symm
 ·obtain ⟨y,_,h⟩:=Option.bind_eq_some_iff.1 h;obtain ⟨a,_,h⟩:=Option.bind_eq_some_iff.1 h;obtain ⟨b,_,h⟩:=Option.bind_eq_some_iff.1 h;injection h with h;injection h with _ h;cases h
theorem treeLeaf_false {t:List GNode} {p:List zk} (c:p ≠ []) {k:Int} (b:1<=k/\k<=4) {v:GLeaf} (h:xN t p k=some (v,false)):v=vj k:=by
 have a:=tl_walk p 0 t (decide ((p.length:Int) > 0),([]:zk),([]:List GLeaf),([]:List GNode)) c;rw [tl_eq] at h;cases e:wI t p with
 | none =>
  rw [e] at a;obtain ⟨u,a⟩:=a;rw [a] at h;simp only [yS] at h;exact tlR_false b h
 | some x =>
  rw [e] at a;simp only at a;rw [a] at h;simp only [yS] at h;exact tlR_false b h
theorem leaf_lens (l:GLeaf):l.items.length<=l.bk/\l.tombs.length<=l.bk:=by
 have b:=sum_len (f:=GItem.bk) (λx=>by simp only [GItem.bk];omega) l.items;have a:=dots_bk l.tombs;simp only [GLeaf.bk];omega
theorem leaf_both {t:List GNode} (h:Fine t) {p:List zk} (n:p ≠ []) {k:Int} (f:1<=k/\k<=4) :
  ∃l b,xN t p k=some (l,b)/\qv t p k=some (l,b)/\l.typ=k/\leafB l=true/\LeafOk l/\GLeaf.wf l/\l.bk<=1048576/\((b=true/\GRow.mk p l ∈ zo [] t) \/ (b=false/\l=vj k/\∀r ∈ zo [] t,xi r ≠ (p,k))):=by
 have s:=h.len;have hs:=h.small;have j:=h.tree;have g:=λr c=>rows_ok t 0 [] hs j rfl rfl r c;rcases treeLeaf_is j (λr c=>(g r c).ok) n f with ⟨l,a,d,o⟩ | ⟨a,v,d⟩ <;> rcases leaf7_is j (by omega) n f with ⟨u,i,m,q⟩ | ⟨i,m⟩
 ·have e:=sorted_key (key:=xi) (xr j []) a i (by simp only [xi];rw [d,m]);injection e with _ e;subst e;have c:=g _ a;refine ⟨l,true,o,q,d,c.leaf,c.ok,rows_wf t [] hs.1 _ a,?_,.inl ⟨rfl,a⟩⟩;exact h.leaf _ a
 ·exact absurd (by simp only [xi];rw [d]) (i _ a)
 ·exact absurd (by simp only [xi];rw [m]) (a _ i)
 ·have e:=treeLeaf_false n f d;subst e;exact ⟨vj k,false,d,m,rfl,newLf_may f,newLf_ok k,newLf_wf f,(by simp [vj,GLeaf.bk,GDot.bk,GActor.bk]),.inr ⟨rfl,rfl,a⟩⟩
theorem put_all {l:GLeaf} (d:leafB l=true) (e:LeafOk l) {p:List zk} {t u:List GNode} (o:pathB p=true) (g:treeB 0 t=true) (s:(zo [] t).length<=8388606) (h:treeB 0 u=true) (m:∀r,r ∈ zo [] u ↔ (r ∈ zo [] t/\xi r ≠ (p,l.typ)) \/ (true=true/\r=⟨p,l⟩)) :
  treeXput t p l=some u/\ref07Lay t p l=some u:=by
 obtain ⟨f,v,c⟩:=wA o;have key:∀n,p.length+1<=n->yW n t p l.typ l true=some u:=λn b=>by
  obtain ⟨q,i,j,_,a⟩:=lay_is (k:=l.typ) (l:=l) (there:=true) (λ_=>⟨rfl,d,e⟩) p t 0 n f c (by omega) g (by omega) (by omega);have a:=a [];simp only [List.nil_append] at a;rw [i,rows_ext j h λr=>by rw [a,m];simp]
 refine ⟨vX (p.length+1) λn b=>?_,vX (p.length+1) λn b=>?_⟩
 ·rw [put_lay d e p t 0 n f c (by omega) g (by omega) (by omega)];exact key n b
 ·rw [lay7_lay d e p t 0 n f c (by omega) g (by omega) (by omega)];exact key n b
theorem apply_is {t:List GNode} {e:GEvent} (c:Fine t) (a:xZ e=true) (F:GEvent.wf e) :
  ∃u l b,treeApply t e=some (u,0)/\ref07Apply t e=some (u,0)/\Small u/\treeB 0 u=true/\xN t e.op.path (x9 e.op.kind)=some (l,b)/\l.typ=x9 e.op.kind/\leafB (yH l e)=true/\LeafOk (yH l e) /\
   ∀r,r ∈ zo [] u ↔ (r ∈ zo [] t/\xi r ≠ (e.op.path,x9 e.op.kind)) \/ r=⟨e.op.path,yH l e⟩:=by
 have d:=evOk a;have hs:=c.small;have j:=c.tree;have D:=type_range d.kind;obtain ⟨E,I,K⟩:=wA d.path;obtain ⟨l,b,w,H,i,s,x,B,L,_⟩:=leaf_both c E D;have v:=leaf_lens l;have q:=applyP_may s a i.symm;have J:(yH l e).typ=x9 e.op.kind:=by rw [applyP_typ,i]
 obtain ⟨n,_⟩:=applyP_ok x a (by omega) (by omega);have o:=c.len;obtain ⟨u,_,p,_,m⟩:=lay_all (k:=(yH l e).typ) (l:=yH l e) (there:=true) (λ_=>⟨rfl,q,n⟩) d.path j (by omega);obtain ⟨C,A⟩:=put_all q n d.path j (by omega) p m;have y:Small u:=small_put c p (Nat.le_trans (applyP_bk a) (by omega)) (applyP_wf B a F (by omega) (by omega)) I λr G=>by
  rcases (m r).1 G with h | h
  ·exact .inl h.1
  ·exact .inr h.2
 have g:l.items.length<=1048576:=by omega
 have f:l.tombs.length<=1048576:=by omega
 have z:applyW l e=(yH l e,0):=by
  unfold applyW;rw [if_neg (by rw [s,a];decide),if_neg (by rw [i];simp)]
 refine ⟨u,l,b,?_,?_,y,p,w,i,q,n,λr=>by rw [m,J];simp⟩
 ·unfold treeApply;rw [wC hs,opMayEvent_is,j,a];simp only [Option.bind_some,Bool.not_true,beq_self_eq_true,if_true,Bool.or_self,Bool.false_eq_true,if_false];rw [opType_is,Option.bind_some,w,Option.bind_some,leafApply_is e g f,z,Option.bind_some];simp only [bne_self_eq_false,Bool.false_eq_true,if_false];rw [C,Option.bind_some,own7_is y,Option.bind_some]
 ·unfold ref07Apply;rw [ve hs,vz,j,a];simp only [Option.bind_some,Bool.not_true,beq_self_eq_true,if_true,Bool.or_self,Bool.false_eq_true,if_false];rw [ref04Type_is,Option.bind_some,H,Option.bind_some,refApply_is e g f x.time,z,Option.bind_some];simp only [bne_self_eq_false,Bool.false_eq_true,if_false];rw [A,Option.bind_some]
end Go.Vv
namespace Go.Vv
open Go
theorem idxField_is {q:GField->Bool} {del:GField->Option Bool} (L:List GField) (h:∀x ∈ L,del x=some (q x)) :
  (yp L del=some (-1)/\∀x ∈ L,q x=false) \/ ∃A x B,L=A++x::B/\q x=true/\(∀y ∈ A,q y=false)/\yp L del=some (A.length:Int):=by
 unfold yp;rcases first_is L 0 h with ⟨e,a⟩ | ⟨A,x,B,b,a,c,e⟩
 ·left;exact ⟨by rw [e];rfl,a⟩
 ·right;exact ⟨A,x,B,b,a,c,by rw [e];simp [lp]⟩
def oneB (f:GField):Bool:=((((patB f.path&&((IntKind.wrap .u8 (((BitVec.ofInt (IntKind.bits .u8) f.types &&& ~~~(BitVec.ofInt (IntKind.bits .u8) (30:Int))).toNat:Int)))==(0:Int)))&&(decide (f.min<=f.max)))&&(decide (f.items >= (0:Int))))&&(decide (f.items<=(1000:Int))))
def schB (L:List GField):Bool:=decide ((L.length:Int)<=64)&&!(L.any λf=>!oneB f)
def Paths (L:List GField):Prop:=∀f ∈ L,f.path.length<=maxLen
theorem vr {L:List GField} (h:Paths L):qr L=some (schB L):=by
 unfold qr;have d:yV L (λa=>qq a)=some (L.any λf=>!oneB f):=by
  unfold yV;rcases idxField_is (q:=λf=>!oneB f) (del:=λa=>qq a) L (λf c=>by unfold qq schemaXmayOne;rw [qc (h f c)];rfl) with ⟨e,h1⟩ | ⟨A,x,B,e0,h1,h2,e⟩
  ·rw [e,Option.bind_some];have:(L.any λf=>!oneB f)=false:=List.any_eq_false.2 λx b=>by rw [h1 x b];simp
   rw [this];rfl
  ·rw [e,Option.bind_some];have:(L.any λf=>!oneB f)=true:=List.any_eq_true.2 ⟨x,by rw [e0];simp,h1⟩;rw [this];simp
 unfold schB;cases hd:decide ((L.length:Int)<=64)
 ·simp
 ·simp [d]
def fieldOf (L:List GField) (p:List zk):Option GField:=L.find? λf=>matchB f.path p
def kindOut (f:GField) (x:GLeaf):Bool:=((IntKind.wrap .u8 (((BitVec.ofInt (IntKind.bits .u8) (Int.fdiv f.types (2 ^ (min x.typ.toNat (IntKind.bits .u8)))) &&& BitVec.ofInt (IntKind.bits .u8) (1:Int)).toNat:Int)))==(0:Int))
def fitsB (f:GField) (x:GLeaf):Bool:=if x.typ=1 then decide (x.n >= f.min)&&decide (x.n<=f.max) else if x.typ=2 then true else decide ((x.items.length:Int)<=f.items)
def brB (L:List GField) (p:List zk) (x:GLeaf):Int :=
 match fieldOf L p with
 | none=>7
 | some f=>if kindOut f x=true then 15 else if fitsB f x=true then 0 else 14
theorem field_is {L:List GField} (h:Paths L) (p:List zk):qI L p=some (match fieldOf L p with | some f=>(f,true) | none=>(GField.mk ([]:List zk) (0:Int) (0:Int) (0:Int) (0:Int),false)):=by
 unfold qI;rcases idxField_is (q:=λf=>matchB f.path p) (del:=λc=>w8 c p) L (λf d=>by unfold w8;rw [pathsMatch_is (h f d)];rfl) with ⟨e,h1⟩ | ⟨A,x,B,rfl,h1,h2,e⟩
 ·rw [e,Option.bind_some];have:fieldOf L p=none:=List.find?_eq_none.2 λx b=>by rw [h1 x b];simp
  rw [this];rfl
 ·rw [e,Option.bind_some];have:fieldOf (A++x::B) p=some x:=by
   unfold fieldOf;rw [List.find?_append,List.find?_eq_none.2 (λy a=>by rw [h2 y a];simp),List.find?_cons,h1];rfl
  rw [this,if_neg (by simp),zw (x:=x) (by simp),Option.bind_some]
theorem breach_is {L:List GField} (h:Paths L) (p:List zk) {x:GLeaf} (a:1<=x.typ/\x.typ<=4):xJ L p x=some (brB L p x):=by
 unfold xJ brB;rw [field_is h,Option.bind_some];cases fieldOf L p with
 | none=>rfl
 | some f =>
  simp only [Bool.not_true,Bool.false_eq_true,if_false];rw [zj (by omega)];show (if kindOut f x=true then _ else _)=_;split
  ·rfl
  ·unfold fitsB wO vV vU;split
   ·simp only [Option.bind_some];cases (decide (x.n >= f.min)&&decide (x.n<=f.max)) <;> rfl
   ·split
    ·rfl
    ·split
     ·simp only [Option.bind_some];cases decide ((x.items.length:Int)<=f.items) <;> rfl
     ·split
      ·simp only [Option.bind_some];cases decide ((x.items.length:Int)<=f.items) <;> rfl
      ·omega
def badR (L:List GField) (r:GRow):Bool:=brB L r.path r.leaf != 0
theorem check_is {L:List GField} (h:Paths L) (d:schB L=true) {t:List GNode} (hs:Small t) (b:treeB 0 t=true) :
  xd L t=some (((zo [] t).filter (badR L)).map λr=>GBreach.mk r.path r.leaf.typ (brB L r.path r.leaf),0):=by
 unfold xd;have e:=hs.2;have f:=rows_len (GNode.deps t) t [] (Nat.le_refl _);rw [vr h,wC hs,pathsRows_is hs,d,b];simp only [Option.bind_some,Bool.not_true,beq_self_eq_true,if_true,Bool.or_self,Bool.false_eq_true,if_false];rw [wt (badR L) (λr=>GBreach.mk r.path r.leaf.typ (brB L r.path r.leaf)) (zo [] t) 0 [] (yo (by simp;omega))]
 ·simp only [yS,List.nil_append]
 ·intro i x s c a;rw [breach_is h _ (leaf_typ (rows_ok t 0 [] hs b rfl rfl x c).leaf),Option.bind_some];unfold badR;cases hbr:(brB L x.path x.leaf != 0)
  ·simp
  ·simp only [if_true];rw [zj (by simpa using a)]
def edF (r:GRow):GEdit:=GEdit.mk r.path r.leaf.typ false true zLf r.leaf
theorem fit_is {L:List GField} (h:Paths L) (C:schB L=true) {t:List GNode} (l:Fine t) :
  ∃u,vt L t=some (u,0)/\treeB 0 u=true/\∀r,r ∈ zo [] u ↔ r ∈ zo [] t/\badR L r=false:=by
 have hs:=l.small;have n:=l.tree;have z:=l.len;have d:=λr c=>rows_ok t 0 [] hs n rfl rfl r c;have b:zq (ρ:=List GNode×Int) (λ(G:Nat) (a:GRow) (g:(List GEdit))=>(((xJ L a.path a.leaf).bind λj=>(if (j==(0:Int))=true then (yf ((g).length+(([(GEdit.mk a.path a.leaf.typ false true zLf a.leaf)]:List GEdit)).length<=yK) (some (.nxt (g++([(GEdit.mk a.path a.leaf.typ false true zLf a.leaf)]:List GEdit))))) else some (.nxt g))):Option (Out _ (List GEdit)))) (zo [] t) 0 ([]:List GEdit)=some (.inr (((zo [] t).filter λr=>!badR L r).map edF)):=by
  rw [wt (λr=>!badR L r) edF (zo [] t) 0 [] (yo (by simp;omega))]
  ·simp
  ·intro i x s A p;rw [breach_is h _ (leaf_typ (d x A).leaf),Option.bind_some];unfold badR bne;cases hbr:(brB L x.path x.leaf==0)
   ·simp
   ·simp only [if_true,Bool.not_true,Bool.not_false];rw [zj (by simpa using p)];rfl
 have o:∀e ∈ ((zo [] t).filter λr=>!badR L r).map edF,EOk e/\EFits [] e:=λe m=>by
  obtain ⟨r,c,rfl⟩:=List.mem_map.1 m;have c:=(List.mem_filter.1 c).1;have f:=d r c;refine ⟨⟨f.path,leaf_typ f.leaf,.inr rfl,λh=>(by cases h),λh=>(by cases h),λ_=>rfl,λ_=>⟨f.leaf,f.ok,rfl⟩,λh=>(by cases h)⟩,⟨λh=>(by cases h),λ_ r c=>by simp [zo] at c⟩⟩
 have v:(((zo [] t).filter λr=>!badR L r).map edF).Pairwise eLt:=by
  rw [List.pairwise_map];exact (xr n []).filter _
 have y:(((zo [] t).filter λr=>!badR L r).map edF).length<=863533:=by
  rw [List.length_map];exact Nat.le_trans (List.length_filter_le _ _) z
 obtain ⟨u,B,F,D⟩:=patch_is small_nil (tree_nil 0) (by have:(zo [] ([]:List GNode)).length=0:=rfl;omega) o v;refine ⟨u,?_,F,λr=>?_⟩
 ·unfold vt;rw [vr h,wC hs,pathsRows_is hs,C,n];simp only [Option.bind_some,Bool.not_true,beq_self_eq_true,if_true,Bool.or_self,Bool.false_eq_true,if_false];rw [b,yS,B,Option.bind_some]
 ·rw [D];constructor
  ·rintro (h | ⟨e,m,_,rfl⟩)
   ·have:=h.1;simp [zo] at this
   ·obtain ⟨q,E,rfl⟩:=List.mem_map.1 m;obtain ⟨k,w⟩:=List.mem_filter.1 E;exact ⟨k,by simpa [edF] using w⟩
  ·rintro ⟨k,w⟩
   exact .inr ⟨edF r,List.mem_map.2 ⟨r,List.mem_filter.2 ⟨k,by rw [w];rfl⟩,rfl⟩,rfl,rfl⟩
end Go.Vv
namespace Go.Vv
open Go
theorem leaf_behind {u:List GNode} {p:List zk} {k:Int} {l:GLeaf} (b:treeB 0 u=true) (hs:Small u) (g:p ≠ []) (f:1<=k/\k<=4) (d:l.typ=k) (a:GRow.mk p l ∈ zo [] u):xN u p k=some (l,true):=by
 rcases treeLeaf_is b (λr a=>(rows_ok u 0 [] hs b rfl rfl r a).ok) g f with ⟨j,c,h,i⟩ | ⟨c,_⟩
 ·have e:=sorted_key (key:=xi) (xr b []) c a (by simp only [xi];rw [h,d]);injection e with _ e;subst e;exact i
 ·exact absurd (by simp only [xi];rw [d]) (c _ a)
theorem allows_is {L:List GField} (h:Paths L) (p:schB L=true) {t:List GNode} {e:GEvent} (a:Fine t) (c:xZ e=true) (s:GEvent.wf e) :
  ∃u l b,yE L t e=some (brB L e.op.path (yH l e))/\ref07Apply t e=some (u,0)/\Small u/\treeB 0 u=true/\xN t e.op.path (x9 e.op.kind)=some (l,b) /\
   ∀r,r ∈ zo [] u ↔ (r ∈ zo [] t/\xi r ≠ (e.op.path,x9 e.op.kind)) \/ r=⟨e.op.path,yH l e⟩:=by
 obtain ⟨u,l,b,n,v,g,f,q,m,w,x,j⟩:=apply_is a c s;have d:=evOk c;have i:=type_range d.kind;have k:(yH l e).typ=x9 e.op.kind:=by rw [applyP_typ,m]
 have o:=leaf_behind f g (wA d.path).1 i k ((j _).2 (.inr rfl));refine ⟨u,l,b,?_,v,g,f,q,j⟩;unfold yE;rw [vr h,wC a.small,opMayEvent_is,p,a.tree,c];simp only [Option.bind_some,Bool.not_true,beq_self_eq_true,if_true,Bool.or_self,Bool.false_eq_true,if_false];rw [n,Option.bind_some,opType_is,Option.bind_some,o,Option.bind_some,breach_is h _ (by rw [k];exact i),Option.bind_some]
theorem ref43Great_tot (L:List GField):∃b,ref43Great L=some b:=by
 unfold ref43Great
 refine lp_totL (λi x s _=>?_) λ_=>⟨_,rfl⟩
 split
 ·exact ⟨_,rfl⟩
 ·exact lp_totL (λj y s2 _=>by split <;> exact ⟨_,rfl⟩) λ_=>⟨_,rfl⟩
theorem great43_tot {L:List GField} {t:List GNode} (h:Small t) (o:GOp):∃b,law43Xgreat L t o=some b:=by
 unfold law43Xgreat
 obtain ⟨a,c⟩:=ref43Great_tot L;obtain ⟨b,d⟩:=ref07Great_tot h;rw [c,Option.bind_some,d];cases a <;> exact ⟨_,rfl⟩
def tab (x:GLeaf):List GNode:=[⟨[97],[],[⟨[98],[x],[]⟩]⟩]
def fab:List GField:=[GField.mk ([([97]:zk),([42]:zk)]:List zk) (2:Int) (0:Int) (10:Int) (0:Int)]
def leaf9:GLeaf:=GLeaf.mk (1:Int) (9:Int) (0:Int) (GDot.mk (GActor.mk (0:Int) (0:Int)) (0:Int)) ([]:zk) ([]:List GItem) ([]:List GDot)
def evA:GEvent:=GEvent.mk (GDot.mk (GActor.mk (0:Int) (1:Int)) (1:Int)) (1:Int) (GOp.mk (1:Int) ([([97]:zk),([98]:zk)]:List zk) (2:Int) ([]:zk) ([]:List GDot))
theorem tab_rows (x:GLeaf):zo [] (tab x)=[⟨[[97],[98]],x⟩]:=by simp [tab,zo,w9]
theorem tab_tree {x:GLeaf} (h:leafB x=true):treeB 0 (tab x)=true:=by
 simp [treeB,tab,xR,nodeB,upB,leavesB,allI,h];decide
theorem tab_fine {x:GLeaf} (h:leafB x=true) (c:GLeaf.wf x) (d:x.bk<=1000):Fine (tab x):=by
 have e:GNode.bks (tab x)<=2000:=by simp only [tab,GNode.bks,GNode.bk,List.map_cons,List.map_nil,List.sum_cons,List.sum_nil,List.length_cons,List.length_nil];omega
 refine fine_of ⟨?_,by omega⟩ (tab_tree h) (by omega);have b:1<=maxLen:=by decide
 simp only [tab,GNode.wfs,GNode.wf];refine ⟨⟨b,⟨Nat.zero_le _,λy a=>by cases a⟩,⟨b,⟨b,λy a=>?_⟩,trivial⟩,trivial⟩,trivial⟩;rw [List.mem_singleton.1 a];exact c
theorem fab_paths:Paths fab:=λf a=>by
 rw [List.mem_singleton.1 a];show 2<=maxLen;decide
theorem fab_may:schB fab=true:=by decide
theorem evA_may:xZ evA=true:=by decide
theorem ik {k:IntKind} {n:Int} (h:decide (k.min<=n/\n<=k.max)=true):InK k n:=by unfold InK;exact of_decide_eq_true h
theorem evA_wf:GEvent.wf evA:=by
 have b:1<=maxLen:=by decide
 refine ⟨⟨⟨ik rfl,ik rfl⟩,ik rfl⟩,ik rfl,⟨ik rfl,⟨(by decide:2<=maxLen),λy a=>?_⟩,ik rfl,Nat.zero_le _,⟨Nat.zero_le _,λy a=>by cases a⟩⟩⟩;simp [evA] at a;rcases a with rfl | rfl <;> exact b
theorem leaf9_wf:GLeaf.wf leaf9:=⟨ik rfl,ik rfl,ik rfl,⟨⟨ik rfl,ik rfl⟩,ik rfl⟩,Nat.zero_le _,⟨Nat.zero_le _,λy a=>by cases a⟩,⟨Nat.zero_le _,λy a=>by cases a⟩⟩
theorem known43:vk=some true:=by
 have h:=tab_fine (x:=vj 3) (newLf_may (by omega)) (newLf_wf (by omega)) (by simp [vj,GLeaf.bk,GDot.bk,GActor.bk]);have d:=tab_fine (x:=leaf9) (by decide) leaf9_wf (by simp [leaf9,GLeaf.bk,GDot.bk,GActor.bk]);have c:=check_is fab_paths fab_may h.small h.tree;obtain ⟨u,l,b,g,_,_,_,a5,_⟩:=allows_is fab_paths fab_may (t:=tab leaf9) (e:=evA) d evA_may evA_wf;have i:=leaf_behind (p:=[[97],[98]]) (k:=1) (l:=leaf9) d.tree d.small (by simp) (by omega) rfl (by rw [tab_rows];simp);have a5:xN (tab leaf9) [[97],[98]] 1=some (l,b):=a5;rw [i] at a5;injection a5 with a5;injection a5 with a5 _;subst a5;have f:brB fab evA.op.path (yH leaf9 evA)=14:=by decide
 rw [f] at g;rw [tab_rows] at c;have a:brB fab [[97],[98]] (vj 3)=15:=by decide
 have c:xd fab (tab (vj 3))=some ([GBreach.mk [[97],[98]] 3 15],0):=by
  rw [c,List.filter_cons_of_pos (by unfold badR;rw [a];rfl)];simp only [List.filter_nil,List.map_cons,List.map_nil,a];rfl
 unfold vk vM;rw [Option.bind_some];show ((xd fab (tab (vj 3))).bind _)=_;rw [c,Option.bind_some,Option.bind_some];show ((yE fab (tab leaf9) evA).bind _)=_;rw [g,Option.bind_some];rfl
end Go.Vv
namespace Go.Vv
open Go
abbrev spot (s:zk):Bool:=s==[42] || nameB s
theorem name_no {s:zk} {c:UInt8} (h:nameB s=true) (a:alnum c=false):c ∉ s:=by
 intro b;unfold nameB at h;simp only [Bool.and_eq_true,List.all_eq_true] at h;rw [h.2 c b] at a;exact absurd a (by simp)
theorem spot_star {s:zk} (h:spot s=true):(s==([42,42]:zk))=false:=by
 rcases Bool.or_eq_true_iff.1 h with h | h
 ·rw [beq_iff_eq.1 h];decide
 ·have:=name_no (c:=42) h (by decide);rw [beq_eq_false_iff_ne];rintro rfl;exact this (by simp)
theorem ends_app {p:List zk} (h:endsB p=true):p=p.dropLast++[[42,42]]:=by
 unfold endsB at h;have h:=beq_iff_eq.1 h;rw [List.getLast?_eq_some_iff] at h;obtain ⟨t,rfl⟩:=h;simp
theorem spot_step (s:zk):(((if ((!(s==([42]:zk)))==true)=true then wc s else some default).bind λv=>(if ((!(s==([42]:zk)))&&(!v))=true then some (Out.ret false) else some (.nxt ()))):Option (Out Bool Unit))=if spot s=true then some (.nxt ()) else some (.ret false):=by
 rw [ref04IsName_is];unfold spot;cases h:(s==([42]:zk)) <;> cases nameB s <;> simp
theorem range_all {p:List zk} {n:Nat} (h:n<=p.length) (q:zk->Bool):(List.range n).all (λj=>q (p.getD j default))=(p.take n).all q:=by
 rw [Bool.eq_iff_iff,List.all_eq_true,List.all_eq_true];constructor
 ·intro H x b;obtain ⟨i,hi,rfl⟩:=List.getElem_of_mem b;simp only [List.length_take] at hi;have:=H i (by simp;omega);rw [List.getD_eq_getElem?_getD,List.getElem?_eq_getElem (by omega)] at this;simpa using this
 ·intro H j a;have a:j < n:=by simpa using a
  have:p[j] ∈ p.take n:=by rw [List.mem_take_iff_getElem];exact ⟨j,by omega,rfl⟩
  have:=H _ this;rw [List.getD_eq_getElem?_getD,List.getElem?_eq_getElem (by omega)];simpa using this
theorem ref30MayPattern_is {p:List zk} (h:p.length<=maxLen):x5 p=some (patB p):=by
 unfold x5;by_cases h0:0 < p.length
 ·rw [wrapLen h0 h,zj (by intro _;omega)];have e:decide ((p.length:Int) > 0)=true:=by simpa using h0
  rw [e,Int.toNat_natCast,last_getD h0];cases he:endsB p
  ·rw [if_neg (by simp)];have c:patB p=(decide (p.length<=3)&&p.all spot):=by
    unfold patB yX;rw [he];simp [h0]
   rw [c];have d:decide ((p.length:Int) < 1)=false:=by simp;omega
   have b:decide ((p.length:Int) > 3)=!decide (p.length<=3):=by rw [Bool.eq_iff_iff];simp;omega
   rw [d,b];cases decide (p.length<=3)
   ·simp
   ·rw [if_neg (by simp),lp_all0 (r:=false) spot]
    ·cases p.all spot <;> simp
    ·intro i x a;rw [zj (by intro _;have:=(List.getElem?_eq_some_iff.1 a).1;omega)];have f:p.getD ((i:Int)).toNat default=x:=by rw [Int.toNat_natCast,List.getD_eq_getElem?_getD,a];rfl
     rw [f];exact spot_step x
  ·rw [if_pos (by simp)];have m:(yX p)=p.take (p.length - 1):=by unfold yX;rw [he,if_pos rfl,List.dropLast_eq_take]
   have c:patB p=(decide (p.length - 1<=3)&&(p.take (p.length - 1)).all spot):=by
    unfold patB;rw [he,m];simp
   rw [c];have l:((((p.length - 1:Nat):Int))==0)=decide (p.length - 1=0):=by rw [Bool.eq_iff_iff];simp
   rw [l];by_cases hn:p.length - 1=0
   ·simp [hn]
   ·rw [if_neg (by simpa using hn)];have d:decide (((p.length - 1:Nat):Int) < 1)=false:=by simp;omega
    have b:decide (((p.length - 1:Nat):Int) > 3)=!decide (p.length - 1<=3):=by rw [Bool.eq_iff_iff];simp;omega
    rw [d,b];cases decide (p.length - 1<=3)
    ·simp
    ·rw [if_neg (by simp),zj (by simp only [maxLen] at h;omega),lp_all0 (r:=false) (λj=>spot (p.getD j default)),range_all (by omega)]
     ·cases (p.take (p.length - 1)).all spot <;> simp
     ·intro i x a;obtain ⟨n,k⟩:=List.getElem?_eq_some_iff.1 a;simp at n k;subst k;have hi:i < p.length:=by omega
      rw [qf hi];simp only [Option.bind_some];rw [zj (by intro _;omega)];have f:p.getD ((i:Int)).toNat default=p[i]:=by rw [Int.toNat_natCast,List.getD_eq_getElem?_getD,List.getElem?_eq_getElem hi];rfl
      have g:p.getD i default=p[i]:=by rw [List.getD_eq_getElem?_getD,List.getElem?_eq_getElem hi];rfl
      rw [f,g];exact spot_step _
 ·have:p=[]:=List.eq_nil_of_length_eq_zero (by omega);subst this;rfl
def xn:List zk->List zk->Bool
 | [],path=>path.length==0
 | x::t,path=>x==[42,42] || (match path with | []=>false | y::r=>(x==[42] || x==y)&&xn t r)
theorem refMatchN_is:∀(p path:List zk) (n:Nat),p.length < n->xw n p path=some (xn p path)
 | [],path,n,h=>by
  cases n with
  | zero=>omega
  | succ n=>simp [xw,xn];rw [Bool.eq_iff_iff];simp
 | x::t,path,n,h=>by
  cases n with
  | zero=>omega
  | succ n =>
   have a:((((x::t).length:Nat):Int)==0)=false:=by rw [beq_eq_false_iff_ne];simp;omega
   have j:yq (x::t) (0:Int)=some x:=zw (i:=0) rfl;rw [xw,a,j];simp only [Option.bind_some];cases hx:(x==([42,42]:zk))
   ·cases path with
    | nil=>simp [yf,xn,hx]
    | cons y r =>
     have e:=refMatchN_is t r n (by simpa using h);have b:decide ((((y::r).length:Nat):Int) > 0)=true:=decide_eq_true (by simp only [List.length_cons];omega);have d:(List.take (((x::t).length:Nat):Int).toNat (x::t)).drop (1:Int).toNat=t:=by rw [Int.toNat_natCast,List.take_length];rfl
     have c:(List.take (((y::r).length:Nat):Int).toNat (y::r)).drop (1:Int).toNat=r:=by rw [Int.toNat_natCast,List.take_length];rfl
     have f:(x::t).getD (0:Int).toNat default=x:=rfl;have g:(y::r).getD (0:Int).toNat default=y:=rfl;rw [zj (by intro _;simp only [List.length_cons];omega),zj (by intro _;simp only [List.length_cons];omega),zj (by intro _;simp only [List.length_cons];omega),zj (by intro _;simp only [List.length_cons];omega),zj (by intro _;simp only [List.length_cons];omega),b,d,c,f,g,e];simp only [xn,hx];cases (x==([42]:zk)) <;> cases (x==y) <;> simp
   ·simp [xn,hx]
theorem refMatch_is (p path:List zk):ref30Xmatches p path=some (xn p path):=vX (p.length+1) (λn a=>refMatchN_is p path n (by omega))
theorem refMatch_all:∀(p path:List zk),(∀x ∈ p,spot x=true)->xn p path=(decide (p.length<=path.length)&&decide (path.length<=p.length)&&agreeB p path)
 | [],path,_=>by cases path <;> simp [xn,agreeB]
 | x::t,[],h=>by simp [xn,spot_star (h x (by simp))]
 | x::t,y::r,h=>by
  rw [xn,spot_star (h x (by simp)),refMatch_all t r (λz b=>h z (by simp [b])),agreeB];have a:decide ((x::t).length<=(y::r).length)=decide (t.length<=r.length):=by simp
  have c:decide ((y::r).length<=(x::t).length)=decide (r.length<=t.length):=by simp
  rw [a,c];cases (x==[42] || x==y) <;> simp
theorem refMatch_ends:∀(p path:List zk),(∀x ∈ p,spot x=true)->xn (p++[[42,42]]) path=(decide (p.length<=path.length)&&agreeB p path)
 | [],path,_=>by simp [xn,agreeB]
 | x::t,[],h=>by simp [xn,spot_star (h x (by simp))]
 | x::t,y::r,h=>by
  rw [List.cons_append,xn,spot_star (h x (by simp)),refMatch_ends t r (λz b=>h z (by simp [b])),agreeB];have a:decide ((x::t).length<=(y::r).length)=decide (t.length<=r.length):=by simp
  rw [a];cases (x==[42] || x==y) <;> simp
theorem ref30Match_is {p path:List zk} (h:p.length<=maxLen):qa p path=some (matchB p path):=by
 unfold qa matchB;rw [ref30MayPattern_is h];cases hp:patB p
 ·simp
 ·simp only [Option.bind_some,ref04MayPath_is,Bool.true_and];cases pathB path
  ·simp
  ·simp only [Bool.true_and,beq_self_eq_true,if_true,refMatch_is,Option.bind_some];congr 1;have hs:∀x ∈ yX p,spot x=true:=by
    unfold patB at hp;simp only [Bool.and_eq_true,List.all_eq_true] at hp;exact hp.2
   cases he:endsB p
   ·have e:yX p=p:=by unfold yX;rw [he];rfl
    rw [e] at hs ⊢;rw [refMatch_all p path hs];simp
   ·have e:yX p=p.dropLast:=by unfold yX;rw [he];rfl
    rw [e] at hs ⊢;rw [ends_app he,refMatch_ends _ path hs];simp
noncomputable def r7F (n:Nat) (ahead1:List zk):Nat->GNode->List GVarveref07Row->Option (Out (List GVarveref07Row) (List GVarveref07Row)):=(λ(n1:Nat) (x1:GNode) (s1:(List GVarveref07Row))=>((yf ((([]:List zk)).length+(ahead1).length<=yK) ((yf (((([]:List zk)++ahead1)).length+(([x1.name]:List zk)).length<=yK) ((lp (zq (λ(n2:Nat) (x2:GLeaf) (s2:(List GVarveref07Row))=>((yf ((s2).length+(([(GVarveref07Row.mk ((([]:List zk)++ahead1)++([x1.name]:List zk)) x2)]:List GVarveref07Row)).length<=yK) (some (.nxt (s2++([(GVarveref07Row.mk ((([]:List zk)++ahead1)++([x1.name]:List zk)) x2)]:List GVarveref07Row))))):Option (Out _ (List GVarveref07Row)))) x1.leaves 0 s1) λ(s2:(List GVarveref07Row))=>((wH n x1.subs ((([]:List zk)++ahead1)++([x1.name]:List zk))).bind λv44=>(yf ((s2).length+(v44).length<=yK) (some (.nxt (s2++v44)))))))))):Option (Out _ (List GVarveref07Row))))
theorem rows7_eq (n:Nat) (t0:List GNode) (a:List zk):wH (n+1) t0 a=(lp (zq (r7F n a) t0 0 ([]:List GVarveref07Row)) λ(b:(List GVarveref07Row))=>some b):=rfl
def vR (r:GRow):GVarveref07Row:=⟨r.path,r.leaf⟩
noncomputable def roF:Nat->GVarveref07Row->List GRow->Option (Out (List GRow) (List GRow)):=(λ(n1:Nat) (x1:GVarveref07Row) (s1:(List GRow))=>((yf ((s1).length+(([(GRow.mk x1.path x1.l)]:List GRow)).length<=yK) (some (.nxt (s1++([(GRow.mk x1.path x1.l)]:List GRow))))):Option (Out _ (List GRow))))
theorem roT_eq (t0:List GNode):ref30Rows t0=((vJ t0).bind λa=>(if (!a)=true then some ([]:List GRow) else ((ref07Rows t0 ([]:List zk)).bind λv3=>(lp (zq roF v3 0 ([]:List GRow)) λ(b:(List GRow))=>some b)))):=rfl
theorem filt_all {α:Type} (L:List α):L.filter (λ_=>true)=L:=List.filter_eq_self.2 λ_ _=>rfl
theorem r7F_is {n:Nat} {a:List zk} {x:GNode} {s:List GVarveref07Row} (c:a.length<=16777216) (h:wH n x.subs (a++[x.name])=some ((zo (a++[x.name]) x.subs).map vR)) (hs:s.length+(w9 a x).length<=16777216) (i:Nat):r7F n a i x s=some (.nxt (s++(w9 a x).map vR)):=by
 rw [yN] at hs ⊢;simp only [List.length_append,List.length_map] at hs;unfold r7F;simp only [List.nil_append];rw [zj (yo (by simp;omega)),zj (yo (by simp;omega))];rw [wt (λ_:GLeaf=>true) (λl=>(⟨a++[x.name],l⟩:GVarveref07Row)) x.leaves 0 s (yo (by omega)) (λi y d _ b=>by rw [zj (by simpa using b),if_pos rfl]),yS];rw [filt_all];rw [h,Option.bind_some,zj (yo (by simp;omega))];simp [vR,Function.comp_def]
theorem rows7_is:∀(n:Nat) (t:List GNode) (a:List zk),GNode.deps t < n->Small t->a.length+GNode.deps t<=16777216->wH n t a=some ((zo a t).map vR)
 | 0,_,_,h,_,_=>by omega
 | n+1,t,a,h,hs,ha=>by
  rw [rows7_eq];have key:∀(u:List GNode) (i:Nat) (s:List GVarveref07Row),(∀x ∈ u,x ∈ t)->s.length+(zo a u).length<=16777216->zq (r7F n a) u i s=some (.inr (s++(zo a u).map vR)):=by
   intro u
   induction u with
   | nil=>intro i s _ _;simp [zq,zo]
   | cons x r ih =>
    intro i s d b;have e:zo a (x::r)=w9 a x++zo a r:=by rw [yr,List.flatMap_cons,<- yr]
    rw [e] at b ⊢;simp only [List.length_append] at b;have c:=d x (by simp);have k:x.dep<=GNode.deps t:=qX c;have l:=xV x;have j:=rows7_is n x.subs (a++[x.name]) (by omega) (hs.subs c) (by simp;omega);have f:=r7F_is (s:=s) (by omega) j (by omega) i;simp only [zq,f];rw [ih (i+1) (s++(w9 a x).map vR) (λy g=>d y (by simp [g])) (by simp;omega)];simp
  rw [key t 0 [] (λx h=>h) (by simpa using Nat.le_trans (rows_len _ t a (Nat.le_refl _)) hs.2),yS,List.nil_append]
theorem refRows_is {t:List GNode} (h:Small t):ref30Rows t=some (if treeB 0 t=true then zo [] t else []):=by
 rw [roT_eq,ve h,Option.bind_some];cases treeB 0 t with
 | false=>rfl
 | true =>
  have b:ref07Rows t []=some ((zo [] t).map vR):=vX (GNode.deps t+1) λn c=>rows7_is n t [] (by omega) h (by simpa using h.dep);have f:(zo [] t).length<=16777216:=Nat.le_trans (rows_len _ t [] (Nat.le_refl _)) h.2;rw [if_neg (by decide),b,Option.bind_some,wt (λ_:GVarveref07Row=>true) (λx=>(⟨x.path,x.l⟩:GRow)) _ 0 [] (yo (by simp;omega)) (λi y d _ a=>by unfold roF;rw [zj (by simpa using a),if_pos rfl]),yS];have e:(((zo [] t).map vR).filter λ_=>true).map (λx=>(⟨x.path,x.l⟩:GRow))=zo [] t:=by
   rw [filt_all,List.map_map];exact List.map_id' _
  rw [e];rfl
end Go.Vv
namespace Go.Vv
open Go
def U8 (L:List GField):Prop:=∀f ∈ L,0<=f.types/\f.types<=255
theorem xbit43:∀n:Fin 256,∀k:Fin 5,ref43Xbit (n.val:Int) (k.val:Int)=some (n.val.testBit k.val):=by decide +kernel
theorem one43:∀n:Fin 256,((IntKind.wrap .u8 (((BitVec.ofInt (IntKind.bits .u8) (n.val:Int) &&& ~~~(BitVec.ofInt (IntKind.bits .u8) (30:Int))).toNat:Int)))==(0:Int))=(!n.val.testBit 0&&decide ((n.val:Int)<=31)):=by decide +kernel
theorem kind43:∀n:Fin 256,∀k:Fin 5,((IntKind.wrap .u8 (((BitVec.ofInt (IntKind.bits .u8) (Int.fdiv (n.val:Int) (2 ^ (min (k.val:Int).toNat (IntKind.bits .u8)))) &&& BitVec.ofInt (IntKind.bits .u8) (1:Int)).toNat:Int)))==(0:Int))=!n.val.testBit k.val:=by decide +kernel
theorem nat_of {n:Int} (h:0<=n/\n<=255):∃m:Fin 256,n=(m.val:Int):=⟨⟨n.toNat,by omega⟩,by simp;omega⟩
theorem nat_of5 {n:Int} (h:1<=n/\n<=4):∃m:Fin 5,n=(m.val:Int):=⟨⟨n.toNat,by omega⟩,by simp;omega⟩
theorem qu {L:List GField} (h:Paths L) (g:U8 L):ref43May L=some (schB L):=by
 unfold ref43May schB;have e:decide ((L.length:Int)<=64)=!decide ((L.length:Int) > 64):=by rw [Bool.eq_iff_iff];simp
 rw [e];cases hd:decide ((L.length:Int) > 64)
 ·rw [if_neg (by decide),lp_all0 (r:=false) oneB]
  ·have:(L.any λf=>!oneB f)=!L.all oneB:=by rw [List.all_eq_not_any_not,Bool.not_not]
   rw [this];cases L.all oneB <;> rfl
  ·intro i f k;have c:f ∈ L:=List.mem_of_getElem? k;obtain ⟨m,b⟩:=nat_of (g f c);have a:=xbit43 m ⟨0,by omega⟩;have d:=one43 m;rw [<- b] at a d;have a:ref43Xbit f.types 0=some (m.val.testBit 0):=a;rw [ref30MayPattern_is (h f c),Option.bind_some,a];unfold oneB;rw [d];have j:decide (f.types > 31)=!decide (f.types<=31):=by rw [Bool.eq_iff_iff];simp
   have l:decide (f.min > f.max)=!decide (f.min<=f.max):=by rw [Bool.eq_iff_iff];simp
   have a3:decide (f.items < 0)=!decide (f.items >= 0):=by rw [Bool.eq_iff_iff];simp
   have a4:decide (f.items > 1000)=!decide (f.items<=1000):=by rw [Bool.eq_iff_iff];simp
   rw [j,l,a3,a4];cases patB f.path <;> cases m.val.testBit 0 <;> cases decide (f.types<=31) <;> cases decide (f.min<=f.max) <;> cases decide (f.items >= 0) <;> cases decide (f.items<=1000) <;> rfl
 ·rw [if_pos rfl];rfl
theorem ref43Field_is {L:List GField} (h:Paths L) (p:List zk):(fieldOf L p=none/\qt L p=some (-1)) \/ ∃A f B,L=A++f::B/\fieldOf L p=some f/\qt L p=some (A.length:Int):=by
 have i:qt L p=yp L (λf=>qa f.path p):=rfl;rw [i];rcases idxField_is (q:=λf=>matchB f.path p) (del:=λf=>qa f.path p) L (λf g=>ref30Match_is (h f g)) with ⟨e,a⟩ | ⟨A,x,B,rfl,a,d,e⟩
 ·exact .inl ⟨List.find?_eq_none.2 λx c=>by rw [a x c];simp,e⟩
 ·refine .inr ⟨A,x,B,rfl,?_,e⟩;unfold fieldOf;rw [List.find?_append,List.find?_eq_none.2 (λy b=>by rw [d y b];simp),List.find?_cons,a];rfl
theorem ref43Breach_is {L:List GField} (h:Paths L) (o:U8 L) (p:List zk) {x:GLeaf} (t:1<=x.typ/\x.typ<=4):va L p x=some (brB L p x):=by
 unfold va brB;rcases ref43Field_is h p with ⟨c,g⟩ | ⟨A,f,B,rfl,c,g⟩
 ·rw [c,g];rfl
 ·rw [c,g,Option.bind_some,if_neg (by simp),zw (x:=f) (by simp),Option.bind_some];obtain ⟨m,s⟩:=nat_of (o f (by simp));obtain ⟨k,r⟩:=nat_of5 t;have i:=xbit43 m k;have l:=kind43 m k;rw [<- s,<- r] at i l;rw [i,Option.bind_some];unfold kindOut;simp only [l];cases m.val.testBit k.val
  ·rfl
  ·have j:0<=(A.length:Int)/\(A.length:Int) < (((A++f::B).length:Nat):Int):=by simp only [List.length_append,List.length_cons];omega
   have u:(A++f::B).getD ((A.length:Int)).toNat default=f:=by simp
   simp only [Bool.not_true,Bool.false_eq_true,if_false];rw [zj (λ_=>j),zj (λ_=>j),u];simp only [Option.bind_some];unfold fitsB;by_cases t1:x.typ=1
   ·have b:(x.typ==1)=true:=beq_iff_eq.2 t1;have e:(x.typ != 1)=false:=by simp [t1]
    rw [b,e,if_pos t1];have a:decide (x.n < f.min)=!decide (x.n >= f.min):=by rw [Bool.eq_iff_iff];simp
    have q:decide (x.n > f.max)=!decide (x.n<=f.max):=by rw [Bool.eq_iff_iff];simp
    rw [a,q];cases decide (x.n >= f.min) <;> cases decide (x.n<=f.max) <;> simp
   ·have b:(x.typ==1)=false:=beq_eq_false_iff_ne.2 t1;have e:(x.typ != 1)=true:=by simp [t1]
    rw [b,e,if_neg t1];have a:decide ((x.items.length:Int) > f.items)=!decide ((x.items.length:Int)<=f.items):=by rw [Bool.eq_iff_iff];simp
    rw [a];by_cases t2:x.typ=2
    ·have d:(x.typ != 2)=false:=by simp [t2]
     rw [d,if_pos t2];simp
    ·have d:(x.typ != 2)=true:=by simp [t2]
     rw [d,if_neg t2];cases decide ((x.items.length:Int)<=f.items) <;> simp
theorem ref43Check_is {L:List GField} (h:Paths L) (b:U8 L) (e:schB L=true) {t:List GNode} (hs:Small t) (c:treeB 0 t=true) :
  wG L t=some (((zo [] t).filter (badR L)).map λr=>GBreach.mk r.path r.leaf.typ (brB L r.path r.leaf),0):=by
 unfold wG;have f:=hs.2;have g:=rows_len (GNode.deps t) t [] (Nat.le_refl _);rw [qu h b,ve hs,refRows_is hs,e,c];simp only [Option.bind_some,Bool.not_true,beq_self_eq_true,if_true,Bool.or_self,Bool.false_eq_true,if_false];rw [wt (badR L) (λr=>GBreach.mk r.path r.leaf.typ (brB L r.path r.leaf)) (zo [] t) 0 [] (yo (by simp;omega))]
 ·simp only [yS,List.nil_append]
 ·intro i x s d a;rw [ref43Breach_is h b _ (leaf_typ (rows_ok t 0 [] hs c rfl rfl x d).leaf),Option.bind_some];unfold badR;cases hbr:(brB L x.path x.leaf != 0)
  ·simp
  ·simp only [if_true];rw [zj (by simpa using a)]
theorem made_loop:∀(c:List GRow) (n:Nat) (s:List GNode),(∀r ∈ c,RowOk' r)->c.Pairwise (λr q=>kltB (xi r) (xi q)=true)->treeB 0 s=true->(zo [] s).length+c.length<=8388606 ->
  ∃u,zq (ρ:=List GNode) (λ(D:Nat) (o:GRow) (t:(List GNode))=>(((ref07Lay t o.path o.leaf).bind λj=>some (.nxt j)):Option (Out _ (List GNode)))) c n s=some (.inr u)/\treeB 0 u=true/\∀r,r ∈ zo [] u ↔ (r ∈ zo [] s/\∀e ∈ c,xi r ≠ xi e) \/ r ∈ c
 | [],n,s,_,_,hs,_=>⟨s,rfl,hs,λr=>by simp⟩
 | e::es,n,s,h,hp,hs,hw=>by
  obtain ⟨v,B⟩:=List.pairwise_cons.1 hp;simp only [List.length_cons] at hw;have d:=h e (by simp);obtain ⟨w,C,m,a3,a4⟩:=lay_all (k:=e.leaf.typ) (l:=e.leaf) (there:=true) (λ_=>⟨rfl,d.leaf,d.ok⟩) d.path hs (by omega);have g:=(put_all (l:=e.leaf) d.leaf d.ok d.path hs (by omega) m (λr=>by rw [a4])).2;obtain ⟨u,y,p,A⟩:=made_loop es (n+1) w (λx b=>h x (by simp [b])) B m (by omega);refine ⟨u,by rw [zq,g];exact y,p,λr=>?_⟩;rw [A,a4];have f:∀x ∈ es,xi e ≠ xi x:=λx b z=>by
   have:=v x b;rw [<- z,klt_irr] at this;cases this
  constructor
  ·rintro (⟨a | a,i⟩ | a)
   ·refine .inl ⟨a.1,λx b=>?_⟩;rcases List.mem_cons.1 b with rfl | b
    ·exact a.2
    ·exact i x b
   ·exact .inr (by rw [a.2];simp)
   ·exact .inr (by simp [a])
  ·rintro (⟨a,i⟩ | a)
   ·exact .inl ⟨.inl ⟨a,i e (by simp)⟩,λx b=>i x (by simp [b])⟩
   ·rcases List.mem_cons.1 a with rfl | a
    ·exact .inl ⟨.inr ⟨rfl,rfl⟩,f⟩
    ·exact .inr a
theorem ref43Fit_is {L:List GField} (h:Paths L) (k:U8 L) (o:schB L=true) {t:List GNode} (c:Fine t):∃u,qK L t=some (u,0)/\treeB 0 u=true/\∀r,r ∈ zo [] u ↔ r ∈ zo [] t/\badR L r=false:=by
 have hs:=c.small;have d:=c.tree;have l:=c.len;have a:=λr f=>rows_ok t 0 [] hs d rfl rfl r f;have j:((zo [] t).filter λr=>!badR L r).length<=863533:=Nat.le_trans (List.length_filter_le _ _) l;obtain ⟨u,n,q,p⟩:=made_loop ((zo [] t).filter λr=>!badR L r) 0 [] (λr f=>a r (List.mem_filter.1 f).1) ((xr d []).filter _) (tree_nil 0) (by have:(zo [] ([]:List GNode)).length=0:=rfl;omega);refine ⟨u,?_,q,λr=>?_⟩
 ·unfold qK;rw [qu h k,ve hs,refRows_is hs,o,d];simp only [Option.bind_some,Bool.not_true,beq_self_eq_true,if_true,Bool.or_self,Bool.false_eq_true,if_false];rw [wt (λr=>!badR L r) (λr=>r) (zo [] t) 0 [] (yo (by simp;omega))]
  ·rw [yS,List.map_id',List.nil_append];unfold ref30Made;rw [n,yS,Option.bind_some]
  ·intro i x s m e;rw [ref43Breach_is h k _ (leaf_typ (a x m).leaf),Option.bind_some];unfold badR bne;cases hbr:(brB L x.path x.leaf==0)
   ·simp
   ·simp only [if_true,Bool.not_true,Bool.not_false];rw [zj (by simpa using e)]
 ·rw [p];constructor
  ·rintro (h | h)
   ·have:=h.1;simp [zo] at this
   ·obtain ⟨b,g⟩:=List.mem_filter.1 h;exact ⟨b,by simpa using g⟩
  ·rintro ⟨b,g⟩
   exact .inr (List.mem_filter.2 ⟨b,by rw [g];rfl⟩)
theorem samePath43 (a:List zk):vI a a=some true:=by
 unfold vI;rw [if_neg (by simp),lp_all0 (r:=false) (λ_=>true)]
 ·simp
 ·intro i x b;rw [zw b,Option.bind_some];simp
theorem ref43Same_refl (a:List GBreach):ref43Same a a=some true:=by
 unfold ref43Same;rw [if_neg (by simp),lp_all0 (r:=false) (λ_=>true)]
 ·simp
 ·intro i x c;have b:0<=(i:Int)/\(i:Int) < ((a.length:Nat):Int):=by have:=(List.getElem?_eq_some_iff.1 c).1;omega
  rw [zw c,Option.bind_some,samePath43,Option.bind_some,zj (λ_=>b),zj (λ_=>b),zj (λ_=>b),zj (λ_=>b)];simp
end Go.Vv
namespace Go.Vv
open Go
theorem ref43Allows_is {L:List GField} (h:Paths L) (v:U8 L) (A:schB L=true) {t:List GNode} {e:GEvent} (i:Fine t) (m:xZ e=true) (B:GEvent.wf e) :
  ∃c,yE L t e=some c/\xu L t e=some c:=by
 obtain ⟨u,l,b,D,y,a3,a4,a5,w⟩:=allows_is h A i m B;obtain ⟨j,k,R,M,a,P,O,f,F,N,Q,K⟩:=apply_is i m B;have E:j=u:=by rw [y] at a;injection a with a;injection a with a _;exact a.symm
 subst E;have G:k=l:=by rw [a5] at f;injection f with f;injection f with f _;exact f.symm
 subst G;have d:=evOk m;have z:=type_range d.kind;have s:(yH k e).typ=x9 e.op.kind:=by rw [applyP_typ,F]
 have H:=(wA d.path).1;refine ⟨_,D,?_⟩;unfold xu;rw [qu h v,ve i.small,vz,A,i.tree,m];simp only [Option.bind_some,Bool.not_true,beq_self_eq_true,if_true,Bool.or_self,Bool.false_eq_true,if_false];rw [y,Option.bind_some,ref04Type_is,Option.bind_some];have n:GRow.mk e.op.path (yH k e) ∈ zo [] j:=(w _).2 (.inr rfl);have g:(zo [] j).length<=16777215:=by
  have J:=i.len;have:=sub_len (lt:=λr q=>kltB (xi r) (xi q)=true) (λx h=>by rw [klt_irr] at h;cases h) (zo [] j) (zo [] t++[⟨e.op.path,yH k e⟩]) (xr a4 []) λr n=>by
   rcases (w r).1 n with h | h
   ·simp [h.1]
   ·simp [h]
  simp only [List.length_append,List.length_cons,List.length_nil] at this;omega
 rcases leaf7_is a4 g H z with ⟨x,o,C,I⟩ | ⟨o,C⟩
 ·have p:=sorted_key (key:=xi) (xr a4 []) o n (by simp only [xi];rw [C,s]);injection p with _ p;subst p;rw [I,Option.bind_some,ref43Breach_is h v _ (by rw [s];exact z),Option.bind_some]
 ·exact absurd (by simp only [xi];rw [s]) (o _ n)
theorem law43SchemaMakes_is {L:List GField} {t:List GNode} {e:GEvent} (f:Paths L) (n:U8 L) (hs:Small t) (O:GNode.bks t<=1048576) (U:GEvent.wf e):wv L t e=some true:=by
 obtain ⟨g,T⟩:=great43_tot (L:=L) hs e.op;unfold wv;rw [T,Option.bind_some];cases g with
 | true=>simp [known43]
 | false =>
  rw [vr f,qu f n];have z:(schB L&&treeB 0 t)=false->xd L t=some ([],2)/\wG L t=some ([],2)/\vt L t=some ([],2)/\qK L t=some ([],2)/\yE L t e=some 2/\xu L t e=some 2:=λj=>by
   unfold xd wG vt qK yE xu;rw [vr f,qu f n,wC hs,ve hs];cases d:schB L
   ·exact ⟨rfl,rfl,rfl,rfl,rfl,rfl⟩
   ·cases h:treeB 0 t
    ·exact ⟨rfl,rfl,rfl,rfl,rfl,rfl⟩
    ·rw [d,h] at j;cases j
  have k:∀(a:List GBreach) (x:List GNode) (c i:Int),xd L t=some (a,i)->wG L t=some (a,i)->vt L t=some (x,i)->qK L t=some (x,i)->yE L t e=some c->xu L t e=some c ->
    ((xd L t).bind λv4=>((wG L t).bind λv5=>((vt L t).bind λA=>((qK L t).bind λw=>(((some (schB L):Option Bool)).bind λo=>(((some (schB L):Option Bool)).bind λv9=>((if ((o==v9)==true)=true then ref43Same v4.1 v5.1 else some default).bind λb=>((if ((((o==v9)&&b)&&(v4.2==v5.2))==true)=true then yE L t e else some default).bind λl=>((if ((((o==v9)&&b)&&(v4.2==v5.2))==true)=true then xu L t e else some default).bind λm=>((if (((((o==v9)&&b)&&(v4.2==v5.2))&&(l==m))==true)=true then ref07Same A.1 w.1 else some default).bind λp=>((if (((((((o==v9)&&b)&&(v4.2==v5.2))&&(l==m))&&p)&&(A.2==w.2))==true)=true then vk else some default).bind λs=>some (((((((o==v9)&&b)&&(v4.2==v5.2))&&(l==m))&&p)&&(A.2==w.2))&&s))))))))))))=some true:=by
   intro a x c i d h J C P M;rw [d,h,J,C,P,M];simp only [Option.bind_some,beq_self_eq_true,if_true,ref43Same_refl,Bool.and_self,ref07Same_refl,known43]
  show _=some true;simp only [Bool.false_eq_true,if_false];cases hm:(schB L&&treeB 0 t)
  ·obtain ⟨S,H,V,W,I,B⟩:=z hm;exact k _ _ _ _ S H V W I B
  ·simp only [Bool.and_eq_true] at hm;obtain ⟨d,h⟩:=hm;have y:=fine_of hs h O;obtain ⟨u,R,E,F⟩:=fit_is f d y;obtain ⟨v,G,K,v3⟩:=ref43Fit_is f n d y;obtain rfl:v=u:=rows_ext K E λr=>by rw [v3,F]
   have N:=check_is f d hs h;have D:=ref43Check_is f n d hs h;have q:∃c,yE L t e=some c/\xu L t e=some c:=by
    cases he:xZ e with
    | true=>exact ref43Allows_is f n d y he U
    | false =>
     refine ⟨2,?_,?_⟩
     ·unfold yE;rw [vr f,wC hs,opMayEvent_is,d,h,he];rfl
     ·unfold xu;rw [qu f n,ve hs,vz,d,h,he];rfl
   obtain ⟨c,X,Q⟩:=q;exact k _ _ _ _ N D R G X Q
theorem law43SchemaMakes_top (l:List GField) (t:List GNode) (e:GEvent) (b:l.length<=maxLen/\∀y ∈ l,GField.wf y) (c:t.length<=maxLen/\∀y ∈ t,GNode.wf y) (d:GEvent.wf e) (g:((l.map GField.bk).sum+1)+((t.map GNode.bk).sum+1)+GEvent.bk e<=1048576):wv l t e=some true:=by
 refine law43SchemaMakes_is (λf a=>(b.2 f a).1.1) (λf a=>(b.2 f a).2.1) (small_of c (by omega)) ?_ d;rw [GNode.bks_eq];omega
end Go.Vv
