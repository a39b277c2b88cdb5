/- The program's put, and the document's Lay, are layer 31's lay. -/
import Derived.Test.YtehifcdoglcidaaGreatPlS0
namespace Go.Vv
open Go
theorem bsf_loop {b:GLeaf->Int->Option Int} {x:List GLeaf} {s:Int} {c:Nat} (r:x.length<=16777216) (q:∀i n,x[i]?=some n->∃v,b n s=some v/\(i < c->v < 0)/\(c<=i->0<=v)) :
  ∀(k lo hi:Nat),hi - lo<=k->lo<=c->c<=hi->hi<=x.length->yp (ρ:=Int×Bool) (λ(a:Int×Int)=>((if (decide (a.1 < a.2))=true then ((yi x (IntKind.wrap .i64 ((Int.fdiv (IntKind.wrap .u64 ((IntKind.wrap .i64 (a.1+a.2)))) (2 ^ (min (1:Int).toNat (IntKind.bits .u64))))))).bind λm=>((b m s).bind λd=>(if (decide (d < (0:Int)))=true then some (.nxt ((IntKind.wrap .i64 ((IntKind.wrap .i64 ((Int.fdiv (IntKind.wrap .u64 ((IntKind.wrap .i64 (a.1+a.2)))) (2 ^ (min (1:Int).toNat (IntKind.bits .u64))))))+(1:Int))),a.2)) else some (.nxt (a.1,(IntKind.wrap .i64 ((Int.fdiv (IntKind.wrap .u64 ((IntKind.wrap .i64 (a.1+a.2)))) (2 ^ (min (1:Int).toNat (IntKind.bits .u64))))))))))) else some (.brk (a.1,a.2))):Option (Out _ (Int×Int)))) ((lo:Int),(hi:Int))=some (.inr ((c:Int),(c:Int))):=by
 intro k
 induction k with
 | zero =>
  intro lo hi p f g hh;obtain rfl:lo=hi:=by omega
  obtain rfl:lo=c:=by omega
  rw [yV];simp
 | succ k ih =>
  intro lo hi p f g hh;rw [yV];by_cases hlt:lo < hi
  ·have hd:decide ((lo:Int) < (hi:Int))=true:=decide_eq_true (by omega);simp only [hd,if_true,half_mid hlt (by omega)];have h:(lo+hi) / 2 < x.length:=by omega
   rw [idx_at h,Option.bind_some];obtain ⟨v,j,o,l⟩:=q ((lo+hi) / 2) _ (List.getElem?_eq_getElem h);rw [j,Option.bind_some];by_cases hcm:(lo+hi) / 2 < c
   ·rw [decide_eq_true (o hcm),if_pos rfl];simp only;have e:IntKind.wrap .i64 ((((lo+hi) / 2:Nat):Int)+1)=(((lo+hi) / 2+1:Nat):Int):=by rw [w64n (by omega)];omega
    rw [e];exact ih _ _ (by omega) (by omega) g hh
   ·rw [decide_eq_false (by have:=l (by omega);omega)];simp only [Bool.false_eq_true,if_false];exact ih _ _ (by omega) f (by omega) (by omega)
  ·obtain rfl:lo=hi:=by omega
   obtain rfl:lo=c:=by omega
   simp
theorem bsf_is {a:GLeaf->Int->Option Int} {x:List GLeaf} {s:Int} {c:Nat} (d:x.length<=16777216) (b:c<=x.length) (e:∀i n,x[i]?=some n->∃v,a n s=some v/\(i < c->v < 0)/\(c<=i->0<=v)) :
  zA x s a=(if c < x.length then a (x.getD c default) s else some 1).bind λv=>some ((c:Int),(decide (c < x.length)&&(v==0))):=by
 unfold zA;have:=bsf_loop d e x.length 0 x.length (by omega) (Nat.zero_le _) b (Nat.le_refl _);simp only [Int.natCast_zero] at this;rw [show ((0:Int),(x.length:Int))=(((0:Nat):Int),(x.length:Int)) from rfl] at *;rw [this];simp only [lp];by_cases h:c < x.length
 ·have hd:decide ((c:Int) < (x.length:Int))=true:=decide_eq_true (by omega);simp only [hd,h,if_true,Int.toNat_natCast,beq_self_eq_true,decide_true,Bool.true_and];rw [zp (by intro _;omega)]
 ·have hd:decide ((c:Int) < (x.length:Int))=false:=decide_eq_false (by omega);simp only [hd,h,if_false,decide_false,Bool.false_and,Option.bind_some];rw [zp (by intro hh;cases hh)];simp

theorem putC_is (x:GLeaf) (k:Int):wd x k=some (cmpI x.typ k):=by unfold wd;rw [cmpU8is];rfl
theorem cmpI_neg {a b:Int}:cmpI a b < 0 ↔ a < b:=by unfold cmpI;split <;> (try split) <;> omega
theorem cmpI_zero {a b:Int}:cmpI a b=0 ↔ a=b:=by unfold cmpI;split <;> (try split) <;> omega
theorem split_typ {ls:List GLeaf} (k:Int) (h:ls.Pairwise λx y=>x.typ < y.typ):(∃A B,ls=A++B/\(∀y ∈ A,y.typ < k)/\∀y ∈ B,k < y.typ) \/ ∃A x B,ls=A++x::B/\x.typ=k/\(∀y ∈ A,y.typ < k)/\∀y ∈ B,k < y.typ:=by
 induction ls with
 | nil=>exact .inl ⟨[],[],rfl,λ_ h=>by simp at h,λ_ h=>by simp at h⟩
 | cons x t ih =>
  obtain ⟨d,f⟩:=List.pairwise_cons.1 h;rcases Int.lt_trichotomy x.typ k with e | e | e
  ·rcases ih f with ⟨A,B,rfl,c,b⟩ | ⟨A,z,B,rfl,g,c,b⟩
   ·refine .inl ⟨x::A,B,rfl,λy a=>?_,b⟩;rcases List.mem_cons.1 a with rfl | a
    ·exact e
    ·exact c y a
   ·refine .inr ⟨x::A,z,B,rfl,g,λy a=>?_,b⟩;rcases List.mem_cons.1 a with rfl | a
    ·exact e
    ·exact c y a
  ·exact .inr ⟨[],x,t,rfl,e,λ_ h=>by simp at h,λy a=>by rw [<- e];exact d y a⟩
  ·refine .inl ⟨[],x::t,rfl,λ_ h=>by simp at h,λy a=>?_⟩;rcases List.mem_cons.1 a with rfl | a
   ·exact e
   ·exact Int.lt_trans e (d y a)
theorem layLs_none {l:GLeaf} {A B:List GLeaf} (c:∀y ∈ A,y.typ < l.typ) (b:∀y ∈ B,l.typ < y.typ):vS l.typ l true (A++B)=A++l::B:=by
 unfold vS;rw [if_pos rfl,List.filter_append,List.filter_append];rw [List.filter_eq_self.2 (λy a=>decide_eq_true (c y a)),List.filter_eq_nil_iff.2 (λy a=>by have:=b y a;simp;omega),
  List.filter_eq_nil_iff.2 (λy a=>by have:=c y a;simp;omega),List.filter_eq_self.2 (λy a=>decide_eq_true (b y a))]
 simp
theorem layLs_some {l x:GLeaf} {A B:List GLeaf} (d:x.typ=l.typ) (c:∀y ∈ A,y.typ < l.typ) (b:∀y ∈ B,l.typ < y.typ):vS l.typ l true (A++x::B)=A++l::B:=by
 unfold vS;rw [if_pos rfl,List.filter_append,List.filter_append,List.filter_cons,List.filter_cons];rw [if_neg (by simp;omega),if_neg (by simp;omega)];rw [List.filter_eq_self.2 (λy a=>decide_eq_true (c y a)),List.filter_eq_nil_iff.2 (λy a=>by have:=b y a;simp;omega),
  List.filter_eq_nil_iff.2 (λy a=>by have:=c y a;simp;omega),List.filter_eq_self.2 (λy a=>decide_eq_true (b y a))]
 simp
theorem bsf_none {A B:List GLeaf} {k:Int} (f:(A++B).length<=16777216) (j:∀y ∈ A,y.typ < k) (b:∀y ∈ B,k < y.typ):zA (A++B) k (λg l=>wd g l)=some ((A.length:Int),false):=by
 rw [bsf_is (c:=A.length) f (by simp) λi m hi=>⟨_,putC_is m k,λa=>by
   rw [List.getElem?_append_left a] at hi;exact cmpI_neg.2 (j m (List.mem_of_getElem? hi)),λa=>by
   rw [List.getElem?_append_right a] at hi;have:=b m (List.mem_of_getElem? hi);have n:¬ cmpI m.typ k < 0:=λh=>by rw [cmpI_neg] at h;omega
   omega⟩]
 cases B with
 | nil=>simp
 | cons y B =>
  have e:(A++y::B).getD A.length default=y:=by simp
  have:=b y (by simp);rw [if_pos (by simp),e,putC_is];have d:(cmpI y.typ k==0)=false:=by
   rw [beq_eq_false_iff_ne,Ne,cmpI_zero];omega
  simp [d]
theorem bsf_some {A B:List GLeaf} {x:GLeaf} {k:Int} (b:(A++x::B).length<=16777216) (hs:x.typ=k) (j:∀y ∈ A,y.typ < k) (f:∀y ∈ B,k < y.typ):zA (A++x::B) k (λd g=>wd d g)=some ((A.length:Int),true):=by
 rw [bsf_is (c:=A.length) b (by simp) λi m hi=>⟨_,putC_is m k,λa=>by
   rw [List.getElem?_append_left a] at hi;exact cmpI_neg.2 (j m (List.mem_of_getElem? hi)),λa=>by
   rw [List.getElem?_append_right a] at hi;have n:¬ m.typ < k:=by
    rcases List.mem_cons.1 (List.mem_of_getElem? hi) with rfl | l
    ·omega
    ·have:=f m l;omega
   have o:¬ cmpI m.typ k < 0:=λh=>by rw [cmpI_neg] at h;omega
   omega⟩]
 have e:(A++x::B).getD A.length default=x:=by simp
 rw [if_pos (by simp),e,putC_is,cmpI_zero.2 hs];simp
theorem insO_at {α:Type} {A B:List α} (x:α) (h:(A++B).length<=16777216):insO (A++B) (A.length:Int) [x]=some (A++x::B):=by
 unfold insO;rw [if_pos ⟨⟨by omega,by simp;omega⟩,by simp,yP (by simp at h ⊢;omega)⟩];simp
noncomputable def putX (n:Nat) (p:List zn) (l2:GLeaf) (y7:GNode) (v6:List GNode) (i:Int):Option (List GNode) :=
 (if (decide (((p).length:Int) > (1:Int)))=true then ((slc p (1:Int) ((p).length:Int)).bind λm10=>((xG n y7.subs m10 l2).bind λv11=>((yi v6 i).bind λy12=>some (v6.set i.toNat (GNode.mk y7.name y7.leaves v11))))) else ((yY y7.leaves).bind λv13=>((zA v13 l2.typ (λx0 x1=>wd x0 x1)).bind λv14=>(if (!v14.2)=true then ((insO v13 v14.1 ([l2]:List GLeaf)).bind λv16=>((yi v16 v14.1).bind λy17=>((yi v6 i).bind λy18=>some (v6.set i.toNat (GNode.mk y7.name (v16.set v14.1.toNat l2) y7.subs))))) else ((yi v13 v14.1).bind λy19=>((yi v6 i).bind λy20=>some (v6.set i.toNat (GNode.mk y7.name (v13.set v14.1.toNat l2) y7.subs))))))))
theorem putN_eq (n:Nat) (t0:List GNode) (a:List zn) (c:GLeaf):xG (n+1) t0 a c=((yH t0).bind λb=>((yi a (0:Int)).bind λg=>((treeXfind b g).bind λv3=>(if (!v3.2)=true then ((yi a (0:Int)).bind λh=>((insO b v3.1 ([(GNode.mk h ([]:List GLeaf) ([]:List GNode))]:List GNode)).bind λe=>((yi e v3.1).bind λf=>putX n a c f e v3.1))) else ((yi b v3.1).bind λd=>putX n a c d b v3.1))))):=rfl
theorem putX_leaf {n:Nat} {s:zn} {l:GLeaf} {A B:List GNode} {x:GNode} (f:x.leaves.length<=16777215) (h:x.leaves.Pairwise λx y=>x.typ < y.typ):putX n [s] l x (A++x::B) (A.length:Int)=some (A++⟨x.name,vS l.typ l true x.leaves,x.subs⟩::B):=by
 unfold putX;have d:decide (((([s]:List zn).length:Int)) > 1)=false:=rfl;have c:yi (A++x::B) (A.length:Int)=some x:=zI (by simp);simp only [d,Bool.false_eq_true,if_false];rw [cloneLeaf_is (yP (by omega)),Option.bind_some];rcases split_typ l.typ h with ⟨C,D,e,a,hd⟩ | ⟨C,z,D,e,b,a,hd⟩
 ·rw [e,bsf_none (by rw [<- e];omega) a hd,Option.bind_some];simp only [Bool.not_false,if_true];rw [insO_at _ (by rw [<- e];omega),Option.bind_some,zI (x:=l) (by simp),Option.bind_some,c,Option.bind_some,layLs_none a hd];simp
 ·rw [e,bsf_some (by rw [<- e];omega) b a hd,Option.bind_some];simp only [Bool.not_true,Bool.false_eq_true,if_false];rw [zI (x:=z) (by simp),Option.bind_some,c,Option.bind_some,layLs_some b a hd];simp
theorem putX_sub {n:Nat} {s a:zn} {r:List zn} {l:GLeaf} {A B:List GNode} {x:GNode} {b:List GNode} (f:(s::a::r).length<=16777216) (h:xG n x.subs (a::r) l=some b):putX n (s::a::r) l x (A++x::B) (A.length:Int)=some (A++⟨x.name,x.leaves,b⟩::B):=by
 unfold putX;have d:decide ((((s::a::r).length:Int)) > 1)=true:=decide_eq_true (by simp only [List.length_cons];omega);have e:yi (A++x::B) (A.length:Int)=some x:=zI (by simp);simp only [d,if_true];rw [qs ⟨by omega,by simp only [List.length_cons];omega,Int.le_refl _⟩,Option.bind_some];have c:((s::a::r).take (((s::a::r).length:Int)).toNat).drop (1:Int).toNat=a::r:=by rw [Int.toNat_natCast,List.take_length];rfl
 rw [c,h,Option.bind_some,e,Option.bind_some];simp
theorem find_eq (t:List GNode) (s:zn):treeXfind t s=(zg t s (λb c=>xi b c)).bind λa=>some (a.1,a.2):=rfl
end Go.Vv
namespace Go.Vv
open Go
theorem layLs_len {k:Int} {l:GLeaf} {there:Bool} {ls:List GLeaf}:(vS k l there ls).length<=ls.length+1:=by
 unfold vS;split
 ·have b:=List.filter_append_perm (λx:GLeaf=>decide (x.typ < k)) ls;have a:=b.length_eq;have c:(ls.filter λx=>decide (k < x.typ)).length<=(ls.filter λx=>!decide (x.typ < k)).length:=by
   have:(ls.filter λx=>decide (k < x.typ))=(ls.filter λx=>!decide (x.typ < k)).filter (λx=>decide (k < x.typ)):=by
    rw [List.filter_filter];refine List.filter_congr λx _=>?_;rw [Bool.eq_iff_iff];simp;omega
   rw [this];exact List.length_filter_le _ _
  simp only [List.length_append,List.length_cons,List.length_nil] at a ⊢;omega
 ·exact Nat.le_succ_of_le (List.length_filter_le _ _)
theorem lay_leaf {n:Nat} {s:zn} {l:GLeaf} {A m B:List GNode} {ls:List GLeaf} {sb:List GNode} {f:Bool} (h:LeafOk l) (j:m.length=if f=true then 1 else 0) (a:zg (A++m++B) s (λg i=>xi g i)=some ((A.length:Int),f))
  (d:((if f=true then ((yi (A++m++B) (A.length:Int)).bind λe=>some (.inr (e.name,e.leaves,e.subs))) else some (.inr (s,([]:List GLeaf),([]:List GNode)))):Option (List GNode ⊕ (zn×(List GLeaf)×(List GNode))))=some (.inr (s,ls,sb)))
  (o:(A++m++B).length<=16777216) (q:ls.length<=16777215) (p:sb.length<=16777217) (b:ls.Pairwise λx y=>x.typ < y.typ) :
  xy (n+1) (A++m++B) [s] l.typ l true=some (A++fitN s (vS l.typ l true ls) sb++B):=by
 have c:yi [s] (0:Int)=some s:=rfl;have:=layLs_len (k:=l.typ) (l:=l) (there:=true) (ls:=ls);rw [layN_eq,c,Option.bind_some,a,Option.bind_some,Option.bind_some];simp only [];rw [d,xb,layIn_leaf (λ_=>⟨rfl,h⟩) (by omega) b,xb,layRest_is j (by omega) (by omega) (by omega)]
theorem lay_sub {n:Nat} {s a:zn} {r:List zn} {k:Int} {l:GLeaf} {there:Bool} {A m B:List GNode} {ls:List GLeaf} {sb b:List GNode} {f:Bool} (p:m.length=if f=true then 1 else 0) (c:zg (A++m++B) s (λj o=>xi j o)=some ((A.length:Int),f))
  (e:((if f=true then ((yi (A++m++B) (A.length:Int)).bind λg=>some (.inr (g.name,g.leaves,g.subs))) else some (.inr (s,([]:List GLeaf),([]:List GNode)))):Option (List GNode ⊕ (zn×(List GLeaf)×(List GNode))))=some (.inr (s,ls,sb)))
  (q:(A++m++B).length<=16777216) (u:ls.length<=16777215) (t:b.length<=16777217) (i:(s::a::r).length<=16777216) (h:xy n sb (a::r) k l there=some b) :
  xy (n+1) (A++m++B) (s::a::r) k l there=some (A++fitN s ls b++B):=by
 have d:yi (s::a::r) (0:Int)=some s:=rfl;rw [layN_eq,d,Option.bind_some,c,Option.bind_some,Option.bind_some];simp only [];rw [e,xb,layIn_sub i h,xb,layRest_is p (by omega) (by omega) (by omega)]
theorem fit_one {a:zn} {ls:List GLeaf} {sb:List GNode} (h:ls ≠ [] \/ sb ≠ []):fitN a ls sb=[⟨a,ls,sb⟩]:=by
 unfold fitN;rw [if_neg];rcases h with h | h
 ·have:=List.length_pos_iff.2 h;omega
 ·have:=List.length_pos_iff.2 h;omega
theorem layLs_ne {l:GLeaf} {ls:List GLeaf}:vS l.typ l true ls ≠ []:=List.ne_nil_of_mem (layLs_mem.2 (.inr ⟨rfl,rfl⟩))
theorem put_lay {l:GLeaf} (P:leafB l=true) (E:LeafOk l):∀(p:List zn) (t:List GNode) (d n:Nat),p ≠ []->p.all nameB=true->d+p.length<=3->treeB d t=true->(zq [] t).length<=16777214->p.length < n ->
  xG n t p l=xy n t p l.typ l true
 | [],_,_,_,h,_,_,_,_,_=>absurd rfl h
 | _::_,_,_,0,_,_,_,_,_,h=>by omega
 | s::q,t,d,n+1,_,hp,hd,ht,hw,hn=>by
  simp only [List.all_cons,Bool.and_eq_true,List.length_cons] at hp hd hn;obtain ⟨S,Q⟩:=zx ht;have w:t.length<=16777214:=Nat.le_trans (wu _ d (by rw [yO];exact List.all_eq_true.2 Q)) hw;have y:yi (s::q) (0:Int)=some s:=rfl
  -- what is below
  have below:∀(sb:List GNode) (c:zn) (m:List zn),q=c::m->treeB (d+1) sb=true->(zq [] sb).length<=16777214->∃a,xG n sb q l=some a/\xy n sb q l.typ l true=some a/\a ≠ []/\a.length<=16777215:=by
   intro sb c m i o G;subst i;obtain ⟨a,O,X,Y,T⟩:=lay_is (k:=l.typ) (l:=l) (there:=true) (λ_=>⟨rfl,P,E⟩) (c::m) sb (d+1) n (by simp) hp.2 (by simp only [List.length_cons] at hd ⊢;omega) o (by omega) (by omega);have H:=wu sb (d+1) (by rw [yO];exact List.all_eq_true.2 (zx o).2);refine ⟨a,?_,O,?_,by omega⟩
   ·rw [<- O];exact put_lay P E (c::m) sb (d+1) n (by simp) hp.2 (by simp only [List.length_cons] at hd ⊢;omega) o G (by omega)
   ·intro e;have:=(T [] ⟨[]++(c::m),l⟩).2 (.inr ⟨rfl,rfl⟩);rw [e] at this;simp [zq] at this
  rcases split_up s S with ⟨A,B,e,N,r⟩ | ⟨A,x,B,e,D,N,r⟩
  ·have M:(A++B).length<=16777214:=by rw [<- e];exact w
   have g:=bs_none (by omega) N r;have b:zg (A++[]++B) s (λF I=>xi F I)=some ((A.length:Int),false):=by rw [List.append_nil];exact g
   have j:A++B=A++[]++B:=by simp
   have L:xG (n+1) t (s::q) l=putX n (s::q) l ⟨s,[],[]⟩ (A++⟨s,[],[]⟩::B) (A.length:Int):=by
    rw [putN_eq,cloneNode_is (yP (by omega)),Option.bind_some,y,Option.bind_some,find_eq,e,g,Option.bind_some,Option.bind_some];simp only [Bool.not_false,if_true,Option.bind_some];rw [insO_at _ (by omega),Option.bind_some,zI (x:=⟨s,[],[]⟩) (by simp),Option.bind_some]
   rw [L];cases i:q with
   | nil =>
    rw [putX_leaf (x:=⟨s,[],[]⟩) (by simp) (by simp),e,j,lay_leaf (ls:=[]) (sb:=[]) E (by simp) b rfl (by rw [<- j];omega) (by simp) (by simp) (by simp),fit_one (.inl layLs_ne)];simp
   | cons c m =>
    obtain ⟨a,u,C,K,U⟩:=below [] c m i (tree_nil _) (by simp [zq]);rw [i] at u C;rw [putX_sub (x:=⟨s,[],[]⟩) (by rw [i] at hd;simp only [List.length_cons] at hd ⊢;omega) u,e,j,lay_sub (ls:=[]) (sb:=[]) (f:=false) (by simp) b rfl (by rw [<- j];omega) (by simp) (by omega) (by rw [i] at hd;simp only [List.length_cons] at hd ⊢;omega) C,fit_one (.inr K)];simp
  ·have M:(A++x::B).length<=16777214:=by rw [<- e];exact w
   have g:=bs_some (by omega) D N r;have b:zg (A++[x]++B) s (λF I=>xi F I)=some ((A.length:Int),true):=by rw [List.append_assoc];exact g
   have j:A++x::B=A++[x]++B:=by simp
   have v:x ∈ t:=by rw [e];simp
   obtain ⟨W,n2,R⟩:=xW (Q x v);have V:=qd v;have H:=wu x.subs (d+1) (by rw [yO];exact List.all_eq_true.2 (zx n2).2);have z:((if true=true then ((yi (A++[x]++B) (A.length:Int)).bind λJ=>some (.inr (J.name,J.leaves,J.subs))) else some (.inr (s,([]:List GLeaf),([]:List GNode)))):Option (List GNode ⊕ (zn×(List GLeaf)×(List GNode))))=some (.inr (s,x.leaves,x.subs)):=by
    rw [if_pos rfl,zI (x:=x) (by simp),Option.bind_some,D]
   have L:xG (n+1) t (s::q) l=putX n (s::q) l x (A++x::B) (A.length:Int):=by
    rw [putN_eq,cloneNode_is (yP (by omega)),Option.bind_some,y,Option.bind_some,find_eq,e,g,Option.bind_some,Option.bind_some];simp only [Bool.not_true,Bool.false_eq_true,if_false];rw [zI (x:=x) (by simp),Option.bind_some]
   rw [L];cases i:q with
   | nil =>
    rw [putX_leaf (x:=x) (by omega) (qH R).1,e,j,lay_leaf (ls:=x.leaves) (sb:=x.subs) E (by simp) b z (by rw [<- j];omega) (by omega) (by omega) (qH R).1,fit_one (.inl layLs_ne),D];simp
   | cons c m =>
    obtain ⟨a,u,C,K,U⟩:=below x.subs c m i n2 (by omega);rw [i] at u C;rw [putX_sub (x:=x) (by rw [i] at hd;simp only [List.length_cons] at hd ⊢;omega) u,e,j,lay_sub (ls:=x.leaves) (sb:=x.subs) (f:=true) (by simp) b z (by rw [<- j];omega) (by omega) (by omega) (by rw [i] at hd;simp only [List.length_cons] at hd ⊢;omega) C,fit_one (.inr K),D];simp
end Go.Vv
namespace Go.Vv
open Go
noncomputable def l7A (t0:List GNode) (path1:List zn):(List GNode)×Int->Option (Out (List GNode) ((List GNode)×Int)):=(λ(s1:(List GNode)×Int)=>((zY (((decide (s1.2 < ((t0).length:Int)))==true)=true->0<=s1.2/\s1.2 < ((t0).length:Int)) ((zY (((decide (s1.2 < ((t0).length:Int)))==true)=true->0<=(0:Int)/\(0:Int) < ((path1).length:Int)) ((if ((decide (s1.2 < ((t0).length:Int)))&&(Op.bytesLess (((t0).getD s1.2.toNat default).name) ((path1).getD (0:Int).toNat default)))=true then ((yi t0 s1.2).bind λy22=>(zY ((s1.1).length+(([y22]:List GNode)).length<=yB) (some (.nxt ((s1.1++([y22]:List GNode)),(IntKind.wrap .i64 (s1.2+(1:Int)))))))) else some (.brk (s1.1,s1.2))))))):Option (Out _ ((List GNode)×Int))))
noncomputable def l7B (ls:List GLeaf) (l2:GLeaf):(List GLeaf)×Int->Option (Out (List GNode) ((List GLeaf)×Int)):=(λ(sd62:(List GLeaf)×Int)=>((zY (((decide (sd62.2 < ((ls).length:Int)))==true)=true->0<=sd62.2/\sd62.2 < ((ls).length:Int)) ((if ((decide (sd62.2 < ((ls).length:Int)))&&(decide (((ls).getD sd62.2.toNat default).typ < l2.typ)))=true then ((yi ls sd62.2).bind λy66=>(zY ((sd62.1).length+(([y66]:List GLeaf)).length<=yB) (some (.nxt ((sd62.1++([y66]:List GLeaf)),(IntKind.wrap .i64 (sd62.2+(1:Int)))))))) else some (.brk (sd62.1,sd62.2))))):Option (Out _ ((List GLeaf)×Int))))
theorem l7A_is {t:List GNode} {s:zn} {q:List zn} (n:t.length<=16777216) (a b:List GNode) (e:t=a++b) (l:∀y ∈ a,Op.bytesLess y.name s=true) (g:∀y r,b=y::r->Op.bytesLess y.name s=false) :
  ∀(k i:Nat),a.length - i<=k->i<=a.length->yp (l7A t (s::q)) (a.take i,(i:Int))=some (.inr (a,(a.length:Int))):=by
 have f:t.length=a.length+b.length:=by rw [e];simp
 intro k
 induction k with
 | zero =>
  intro i j hi;obtain rfl:i=a.length:=by omega
  rw [yV];have:l7A t (s::q) (a.take a.length,(a.length:Int))=some (.brk (a,(a.length:Int))):=by
   unfold l7A;simp only [List.take_length];rw [zp (by intro h;simp at h;omega),zp (by intro h;simp)];cases hbb:b with
   | nil =>
    rw [hbb] at f;rw [decide_eq_false (by simp at f;omega)];rfl
   | cons y r =>
    have c:t.getD a.length default=y:=by rw [e,hbb];simp
    have:=g y r hbb;simp only [Int.toNat_natCast,c];have d:(s::q).getD (0:Int).toNat default=s:=rfl;rw [d,this,Bool.and_false];rfl
  rw [this]
 | succ k ih =>
  intro i j hi;rcases Nat.lt_or_ge i a.length with h | h
  ·rw [yV];have c:t[i]?=some a[i]:=by rw [e,List.getElem?_append_left h,List.getElem?_eq_getElem h]
   have hd:t.getD i default=a[i]:=by rw [List.getD_eq_getElem?_getD,c];rfl
   have:l7A t (s::q) (a.take i,(i:Int))=some (.nxt (a.take (i+1),((i+1:Nat):Int))):=by
    unfold l7A;simp only;rw [zp (by intro h;simp at h;omega),zp (by intro h;simp)];have d:(s::q).getD (0:Int).toNat default=s:=rfl;have m:IntKind.wrap .i64 ((i:Int)+1)=((i+1:Nat):Int):=by rw [w64n (by omega)];omega
    rw [Int.toNat_natCast,hd,d,l _ (List.getElem_mem h),decide_eq_true (by omega:(i:Int) < (t.length:Int)),Bool.and_self,if_pos rfl,zI c,Option.bind_some,zp (yP (by simp;omega)),m];rw [List.take_succ_eq_append_getElem h]
   rw [this];exact ih (i+1) (by omega) h
  ·exact ih i (by omega) hi

theorem l7B_at {ls:List GLeaf} {l:GLeaf} (n:ls.length<=16777216) (a b:List GLeaf) (e:ls=a++b) (j:∀y ∈ a,y.typ < l.typ) (f:∀y r,b=y::r->¬ y.typ < l.typ) :
  ∀(k i:Nat),a.length - i<=k->i<=a.length->yp (l7B ls l) (a.take i,(i:Int))=some (.inr (a,(a.length:Int))):=by
 have c:ls.length=a.length+b.length:=by rw [e];simp
 intro k
 induction k with
 | zero =>
  intro i g hi;obtain rfl:i=a.length:=by omega
  rw [yV];have:l7B ls l (a.take a.length,(a.length:Int))=some (.brk (a,(a.length:Int))):=by
   unfold l7B;simp only [List.take_length];rw [zp (by intro h;simp at h;omega)];cases hbb:b with
   | nil =>
    rw [hbb] at c;rw [decide_eq_false (by simp at c;omega)];rfl
   | cons y r =>
    have d:ls.getD a.length default=y:=by rw [e,hbb];simp
    have:=f y r hbb;simp only [Int.toNat_natCast,d];rw [decide_eq_false this,Bool.and_false];rfl
  rw [this]
 | succ k ih =>
  intro i g hi;rcases Nat.lt_or_ge i a.length with h | h
  ·rw [yV];have d:ls[i]?=some a[i]:=by rw [e,List.getElem?_append_left h,List.getElem?_eq_getElem h]
   have hd:ls.getD i default=a[i]:=by rw [List.getD_eq_getElem?_getD,d];rfl
   have:l7B ls l (a.take i,(i:Int))=some (.nxt (a.take (i+1),((i+1:Nat):Int))):=by
    unfold l7B;simp only;have m:IntKind.wrap .i64 ((i:Int)+1)=((i+1:Nat):Int):=by rw [w64n (by omega)];omega
    rw [zp (by intro h;simp at h;omega),Int.toNat_natCast,hd,decide_eq_true (j _ (List.getElem_mem h)),decide_eq_true (by omega:(i:Int) < (ls.length:Int)),Bool.and_self,if_pos rfl,zI d,Option.bind_some,zp (yP (by simp;omega)),m];rw [List.take_succ_eq_append_getElem h]
   rw [this];exact ih (i+1) (by omega) h
  ·exact ih i (by omega) hi
end Go.Vv
namespace Go.Vv
open Go
noncomputable def l7R (n:Nat) (t0:List GNode) (path1:List zn) (l2:GLeaf) (A:List GNode) (sd30:Int×zn×(List GLeaf)×(List GNode)):Option (List GNode):=(if (decide (((path1).length:Int) > (1:Int)))=true then ((slc path1 (1:Int) ((path1).length:Int)).bind λm38=>((xT n sd30.2.2.2 m38 l2).bind λv39=>(zY ((A).length+(([(GNode.mk sd30.2.1 sd30.2.2.1 v39)]:List GNode)).length<=yB) (((slc t0 sd30.1 ((t0).length:Int)).bind λm41=>(zY (((A++([(GNode.mk sd30.2.1 sd30.2.2.1 v39)]:List GNode))).length+(m41).length<=yB) (some ((A++([(GNode.mk sd30.2.1 sd30.2.2.1 v39)]:List GNode))++m41)))))))) else (lp (yp (l7B sd30.2.2.1 l2) (([]:List GLeaf),(0:Int))) λ(sd62:(List GLeaf)×Int)=>(zY (((decide (sd62.2 < ((sd30.2.2.1).length:Int)))==true)=true->0<=sd62.2/\sd62.2 < ((sd30.2.2.1).length:Int)) ((if ((decide (sd62.2 < ((sd30.2.2.1).length:Int)))&&(((sd30.2.2.1).getD sd62.2.toNat default).typ==l2.typ))=true then (zY ((sd62.1).length+(([l2]:List GLeaf)).length<=yB) (((slc sd30.2.2.1 (IntKind.wrap .i64 (sd62.2+(1:Int))) ((sd30.2.2.1).length:Int)).bind λm72=>(zY (((sd62.1++([l2]:List GLeaf))).length+(m72).length<=yB) ((zY ((A).length+(([(GNode.mk sd30.2.1 ((sd62.1++([l2]:List GLeaf))++m72) sd30.2.2.2)]:List GNode)).length<=yB) (((slc t0 sd30.1 ((t0).length:Int)).bind λm75=>(zY (((A++([(GNode.mk sd30.2.1 ((sd62.1++([l2]:List GLeaf))++m72) sd30.2.2.2)]:List GNode))).length+(m75).length<=yB) (some ((A++([(GNode.mk sd30.2.1 ((sd62.1++([l2]:List GLeaf))++m72) sd30.2.2.2)]:List GNode))++m75))))))))))) else (zY ((sd62.1).length+(([l2]:List GLeaf)).length<=yB) (((slc sd30.2.2.1 sd62.2 ((sd30.2.2.1).length:Int)).bind λm78=>(zY (((sd62.1++([l2]:List GLeaf))).length+(m78).length<=yB) ((zY ((A).length+(([(GNode.mk sd30.2.1 ((sd62.1++([l2]:List GLeaf))++m78) sd30.2.2.2)]:List GNode)).length<=yB) (((slc t0 sd30.1 ((t0).length:Int)).bind λm81=>(zY (((A++([(GNode.mk sd30.2.1 ((sd62.1++([l2]:List GLeaf))++m78) sd30.2.2.2)]:List GNode))).length+(m81).length<=yB) (some ((A++([(GNode.mk sd30.2.1 ((sd62.1++([l2]:List GLeaf))++m78) sd30.2.2.2)]:List GNode))++m81))))))))))))))))
theorem lay7_eq2 (n:Nat) (t0:List GNode) (a:List zn) (f:GLeaf):xT (n+1) t0 a f=(lp (yp (l7A t0 a) (([]:List GNode),(0:Int))) λ(b:(List GNode)×Int)=>((yi a (0:Int)).bind λe=>(lp ((zY (((decide (b.2 < ((t0).length:Int)))==true)=true->0<=b.2/\b.2 < ((t0).length:Int)) ((zY (((decide (b.2 < ((t0).length:Int)))==true)=true->0<=(0:Int)/\(0:Int) < ((a).length:Int)) ((if ((decide (b.2 < ((t0).length:Int)))&&(((t0).getD b.2.toNat default).name==((a).getD (0:Int).toNat default)))=true then ((yi t0 b.2).bind λc=>some (.inr ((IntKind.wrap .i64 (b.2+(1:Int))),c.name,c.leaves,c.subs))) else some (.inr (b.2,e,([]:List GLeaf),([]:List GNode)))))))):Option (_ ⊕ (Int×zn×(List GLeaf)×(List GNode)))) λd=>l7R n t0 a f b.1 d))):=rfl

theorem vk {α:Type} (L:List α) (i:Nat):((L.take ((L.length:Int)).toNat).drop ((i:Int)).toNat)=L.drop i:=by simp
theorem l7R_sub {n:Nat} {t A:List GNode} {s a:zn} {r:List zn} {l:GLeaf} {i:Nat} {b:zn} {ls:List GLeaf} {sb u:List GNode} (hi:i<=t.length) (f:t.length<=16777215) (g:A.length<=8388608) (c:t.length<=8388607) (j:(s::a::r).length<=16777216) (h:xT n sb (a::r) l=some u) :
  l7R n t (s::a::r) l A ((i:Int),b,ls,sb)=some (A++[⟨b,ls,u⟩]++t.drop i):=by
 unfold l7R;have d:decide ((((s::a::r).length:Int)) > 1)=true:=decide_eq_true (by simp only [List.length_cons];omega);simp only [d,if_true];rw [qs ⟨by omega,by simp only [List.length_cons];omega,Int.le_refl _⟩,Option.bind_some];have e:((s::a::r).take (((s::a::r).length:Int)).toNat).drop (1:Int).toNat=a::r:=by rw [Int.toNat_natCast,List.take_length];rfl
 rw [e,h,Option.bind_some,zp (yP (by simp;omega)),qs ⟨by omega,by omega,Int.le_refl _⟩,Option.bind_some,vk,zp (yP (by simp;omega))]
theorem l7R_leaf {n:Nat} {t A:List GNode} {s:zn} {l:GLeaf} {i:Nat} {j:zn} {ls:List GLeaf} {sb:List GNode} (hi:i<=t.length) (u:A.length<=8388608) (o:t.length<=8388607) (c:ls.length<=8388607) (f:ls.Pairwise λx y=>x.typ < y.typ) :
  l7R n t [s] l A ((i:Int),j,ls,sb)=some (A++[⟨j,vS l.typ l true ls,sb⟩]++t.drop i):=by
 unfold l7R;have p:decide (((([s]:List zn).length:Int)) > 1)=false:=rfl;simp only [p,Bool.false_eq_true,if_false];rcases split_typ l.typ f with ⟨C,D,e,b,hd⟩ | ⟨C,z,D,e,g,b,hd⟩
 ·have d:=l7B_at (ls:=ls) (l:=l) (by omega) C D e b (λy r h=>by have:=hd y (by rw [h];simp);omega) C.length 0 (by omega) (by omega);rw [show (([]:List GLeaf),(0:Int))=(C.take 0,((0:Nat):Int)) from rfl,d,xb,e,layLs_none b hd];rw [e] at c;simp only [List.length_append] at c;simp only [];rw [zp (by intro h;simp at h ⊢;omega)];have a:((decide (((C.length:Nat):Int) < ((C++D).length:Int)))&&(((C++D).getD ((C.length:Nat):Int).toNat default).typ==l.typ))=false:=by
   cases D with
   | nil=>simp
   | cons y D=>have:=hd y (by simp);simp;omega
  rw [a];simp only [Bool.false_eq_true,if_false];rw [zp (yP (by simp;omega)),qs ⟨by omega,by simp <;> omega,Int.le_refl _⟩,Option.bind_some,vk,List.drop_left,zp (yP (by simp;omega)),zp (yP (by simp;omega)),qs ⟨by omega,by omega,Int.le_refl _⟩,Option.bind_some,vk,zp (yP (by simp;omega))];simp
 ·have d:=l7B_at (ls:=ls) (l:=l) (by omega) C (z::D) e b (λy r h=>by injection h with k _;rw [<- k];omega) C.length 0 (by omega) (by omega);rw [show (([]:List GLeaf),(0:Int))=(C.take 0,((0:Nat):Int)) from rfl,d,xb,e,layLs_some g b hd];rw [e] at c;simp only [List.length_append,List.length_cons] at c;simp only [];rw [zp (by intro h;simp at h ⊢;omega)];have a:((decide (((C.length:Nat):Int) < ((C++z::D).length:Int)))&&(((C++z::D).getD ((C.length:Nat):Int).toNat default).typ==l.typ))=true:=by
   simp [g];omega
  rw [a];simp only [if_true];have q:IntKind.wrap .i64 ((C.length:Int)+1)=((C.length+1:Nat):Int):=by rw [w64n (by omega)];omega
  have m:(C++z::D).drop (C.length+1)=D:=by
   rw [<- List.drop_drop,List.drop_left];rfl
  rw [zp (yP (by simp;omega)),q,qs ⟨by omega,by simp <;> omega,Int.le_refl _⟩,Option.bind_some,vk,m,zp (yP (by simp;omega)),zp (yP (by simp;omega)),qs ⟨by omega,by omega,Int.le_refl _⟩,Option.bind_some,vk,zp (yP (by simp;omega))];simp
theorem lay7_none {n:Nat} {s:zn} {q:List zn} {l:GLeaf} {A B:List GNode} (h:(A++B).length<=16777215) (d:NLt s A) (b:NGt s B):xT (n+1) (A++B) (s::q) l=l7R n (A++B) (s::q) l A ((A.length:Int),s,[],[]):=by
 have f:=l7A_is (t:=A++B) (s:=s) (q:=q) (by omega) A B rfl d (λy r hh=>by
  have:=b y (by rw [hh];simp);rcases hx:Op.bytesLess y.name s with _ | _
  ·rfl
  ·have:=qF this hx;rw [q9] at this;cases this) A.length 0 (by omega) (by omega)
 rw [lay7_eq2,show (([]:List GNode),(0:Int))=(A.take 0,((0:Nat):Int)) from rfl,f,xb];have c:yi (s::q) (0:Int)=some s:=rfl;simp only [c,Option.bind_some];rw [zp (by intro h;simp at h ⊢;omega),zp (by intro h;simp)];have a:((decide (((A.length:Nat):Int) < ((A++B).length:Int)))&&(((A++B).getD ((A.length:Nat):Int).toNat default).name==((s::q).getD (0:Int).toNat default)))=false:=by
  cases B with
  | nil=>simp
  | cons y B =>
   have:=less_ne (b y (by simp));simp;intro _ e;exact this e.symm
 rw [a];simp only [Bool.false_eq_true,if_false,xb]
theorem lay7_some {n:Nat} {s:zn} {q:List zn} {l:GLeaf} {A B:List GNode} {x:GNode} (b:x.name=s) (h:(A++x::B).length<=16777215) (e:NLt s A) (i:NGt s B):xT (n+1) (A++x::B) (s::q) l=l7R n (A++x::B) (s::q) l A (((A.length+1:Nat):Int),s,x.leaves,x.subs):=by
 have f:=l7A_is (t:=A++x::B) (s:=s) (q:=q) (by omega) A (x::B) rfl e (λy r hh=>by
  injection hh with d _;rw [<- d,b,q9]) A.length 0 (by omega) (by omega)
 rw [lay7_eq2,show (([]:List GNode),(0:Int))=(A.take 0,((0:Nat):Int)) from rfl,f,xb];have c:yi (s::q) (0:Int)=some s:=rfl;simp only [c,Option.bind_some];rw [zp (by intro h;simp at h ⊢;omega),zp (by intro h;simp)];have a:((decide (((A.length:Nat):Int) < ((A++x::B).length:Int)))&&(((A++x::B).getD ((A.length:Nat):Int).toNat default).name==((s::q).getD (0:Int).toNat default)))=true:=by
  simp [b];omega
 rw [a];simp only [List.length_append,List.length_cons] at h;have g:IntKind.wrap .i64 ((A.length:Int)+1)=((A.length+1:Nat):Int):=by rw [w64n (by omega)];omega
 simp only [if_true];rw [zI (x:=x) (by simp),Option.bind_some,xb,g,b]
end Go.Vv
namespace Go.Vv
open Go
theorem lay7_lay {l:GLeaf} (P:leafB l=true) (E:LeafOk l):∀(p:List zn) (t:List GNode) (d n:Nat),p ≠ []->p.all nameB=true->d+p.length<=3->treeB d t=true->(zq [] t).length<=8388606->p.length < n ->
  xT n t p l=xy n t p l.typ l true
 | [],_,_,_,h,_,_,_,_,_=>absurd rfl h
 | _::_,_,_,0,_,_,_,_,_,h=>by omega
 | s::q,t,d,n+1,_,hp,hd,ht,hw,hn=>by
  simp only [List.all_cons,Bool.and_eq_true,List.length_cons] at hp hd hn;obtain ⟨S,Q⟩:=zx ht;have y:t.length<=8388606:=Nat.le_trans (wu _ d (by rw [yO];exact List.all_eq_true.2 Q)) hw;have below:∀(sb:List GNode) (c:zn) (m:List zn),q=c::m->treeB (d+1) sb=true->(zq [] sb).length<=8388606->∃a,xT n sb q l=some a/\xy n sb q l.typ l true=some a/\a ≠ []/\a.length<=16777215:=by
   intro sb c m i r H;subst i;obtain ⟨a,O,X,Y,T⟩:=lay_is (k:=l.typ) (l:=l) (there:=true) (λ_=>⟨rfl,P,E⟩) (c::m) sb (d+1) n (by simp) hp.2 (by simp only [List.length_cons] at hd ⊢;omega) r (by omega) (by omega);have I:=wu sb (d+1) (by rw [yO];exact List.all_eq_true.2 (zx r).2);refine ⟨a,?_,O,?_,by omega⟩
   ·rw [<- O];exact lay7_lay P E (c::m) sb (d+1) n (by simp) hp.2 (by simp only [List.length_cons] at hd ⊢;omega) r H (by omega)
   ·intro e;have:=(T [] ⟨[]++(c::m),l⟩).2 (.inr ⟨rfl,rfl⟩);rw [e] at this;simp [zq] at this
  rcases split_up s S with ⟨A,B,e,D,g⟩ | ⟨A,x,B,e,F,D,g⟩
  ·have u:(A++B).length<=8388606:=by rw [<- e];exact y
   have M:A.length<=8388606:=by simp only [List.length_append] at u;omega
   have o:=bs_none (by omega) D g;have b:zg (A++[]++B) s (λG J=>xi G J)=some ((A.length:Int),false):=by rw [List.append_nil];exact o
   have j:A++B=A++[]++B:=by simp
   rw [e,lay7_none (by omega) D g];cases i:q with
   | nil =>
    rw [l7R_leaf (by simp) (by omega) (by omega) (by simp) (by simp),j,lay_leaf (ls:=[]) (sb:=[]) E (by simp) b rfl (by rw [<- j];omega) (by simp) (by simp) (by simp),fit_one (.inl layLs_ne)];simp
   | cons c m =>
    obtain ⟨a,v,C,L,U⟩:=below [] c m i (tree_nil _) (by simp [zq]);rw [i] at v C;rw [l7R_sub (by simp) (by omega) (by omega) (by omega) (by rw [i] at hd;simp only [List.length_cons] at hd ⊢;omega) v,j,lay_sub (ls:=[]) (sb:=[]) (f:=false) (by simp) b rfl (by rw [<- j];omega) (by simp) (by omega) (by rw [i] at hd;simp only [List.length_cons] at hd ⊢;omega) C,fit_one (.inr L)];simp
  ·have u:(A++x::B).length<=8388606:=by rw [<- e];exact y
   have M:A.length+1<=8388606:=by simp only [List.length_append,List.length_cons] at u;omega
   have o:=bs_some (by omega) F D g;have b:zg (A++[x]++B) s (λG J=>xi G J)=some ((A.length:Int),true):=by rw [List.append_assoc];exact o
   have j:A++x::B=A++[x]++B:=by simp
   have w:x ∈ t:=by rw [e];simp
   obtain ⟨W,n2,R⟩:=xW (Q x w);have V:=qd w;have I:=wu x.subs (d+1) (by rw [yO];exact List.all_eq_true.2 (zx n2).2);have z:((if true=true then ((yi (A++[x]++B) (A.length:Int)).bind λK=>some (.inr (K.name,K.leaves,K.subs))) else some (.inr (s,([]:List GLeaf),([]:List GNode)))):Option (List GNode ⊕ (zn×(List GLeaf)×(List GNode))))=some (.inr (s,x.leaves,x.subs)):=by
    rw [if_pos rfl,zI (x:=x) (by simp),Option.bind_some,F]
   have N:(A++x::B).drop (A.length+1)=B:=by rw [<- List.drop_drop,List.drop_left];rfl
   rw [e,lay7_some F (by omega) D g];cases i:q with
   | nil =>
    rw [l7R_leaf (by simp) (by omega) (by omega) (by omega) (qH R).1,N,j,lay_leaf (ls:=x.leaves) (sb:=x.subs) E (by simp) b z (by rw [<- j];omega) (by omega) (by omega) (qH R).1,fit_one (.inl layLs_ne)]
   | cons c m =>
    obtain ⟨a,v,C,L,U⟩:=below x.subs c m i n2 (by omega);rw [i] at v C;rw [l7R_sub (by simp) (by omega) (by omega) (by omega) (by rw [i] at hd;simp only [List.length_cons] at hd ⊢;omega) v,N,j,lay_sub (ls:=x.leaves) (sb:=x.subs) (f:=true) (by simp) b z (by rw [<- j];omega) (by omega) (by omega) (by rw [i] at hd;simp only [List.length_cons] at hd ⊢;omega) C,fit_one (.inr L)]
end Go.Vv
namespace Go.Vv
open Go
theorem ilt_tot {a b:GItem} (h:a.dot ≠ b.dot):aheadI a b=true \/ aheadI b a=true:=by
 unfold aheadI;rcases dlt_tot a.dot b.dot with e | e | e
 ·exact absurd e h
 ·by_cases ht:a.time=b.time
  ·left;simp [ht,e]
  ·rcases Int.lt_or_gt_of_ne ht with c | c
   ·left;simp [ht,c]
   ·right;rw [if_pos (λe=>ht e.symm)];simp;omega
 ·by_cases ht:a.time=b.time
  ·right;simp [ht,e]
  ·rcases Int.lt_or_gt_of_ne ht with c | c
   ·left;simp [ht,c]
   ·right;rw [if_pos (λe=>ht e.symm)];simp;omega
theorem pw_next {α:Type} [Inhabited α] {lt:α->α->Prop} {L:List α} (h:L.Pairwise lt) {i:Nat} {x:α} (hi:L[i]?=some x) (h0:i ≠ 0):lt (L.getD (i - 1) default) x:=by
 obtain ⟨a,rfl⟩:=List.getElem?_eq_some_iff.1 hi;have e:L.getD (i - 1) default=L[i - 1]:=by rw [List.getD_eq_getElem?_getD,List.getElem?_eq_getElem (by omega)];rfl
 rw [e];exact List.pairwise_iff_getElem.1 h _ _ _ _ (by omega)
theorem riseB_pw {L:List GItem} (h:L.Pairwise λa b=>aheadI a b=true):riseB L=true:=by
 refine allI_iff.2 λi x hi=>?_;by_cases h0:i=0
 ·simp [h0]
 ·simp only [h0,decide_false,Bool.false_or,prevI];exact pw_next (lt:=λa b=>aheadI a b=true) h hi h0
theorem rising_of_pw {L:List GDot} (h:L.Pairwise λa b=>dotLt a b=true):rising L=true:=by
 rw [rising_allI];refine allI_iff.2 λi x hi=>?_;unfold xc;by_cases h0:i=0
 ·simp [h0]
 ·simp only [h0,decide_false,Bool.false_or];exact pw_next (lt:=λa b=>dotLt a b=true) h hi h0
theorem layP_mem {L:List GItem} {x y:GItem} (h:y ∈ layP L x):y ∈ L \/ y=x:=by
 unfold layP at h;split at h
 ·exact .inl h
 ·rcases List.mem_append.1 h with h | h
  ·exact .inl ((List.takeWhile_sublist _).mem h)
  ·rcases List.mem_append.1 h with h | h
   ·exact .inr (List.mem_singleton.1 h)
   ·exact .inl ((List.dropWhile_sublist _).mem h)
theorem layP_pw {L:List GItem} (x:GItem) (h:L.Pairwise λa b=>aheadI a b=true):(layP L x).Pairwise λa b=>aheadI a b=true:=by
 unfold layP;split
 ·exact h
 ·rename_i c;simp only [Bool.not_eq_true,List.any_eq_false,decide_eq_true_eq] at c;exact ins_pw (lt:=aheadI) (λ_ _ _=>ilt_tr) h λy d=>ilt_tot (a:=y) (b:=x) (c y d)
theorem layP_once {L:List GItem} (x:GItem) (h:onceB L=true):onceB (layP L x)=true:=by
 unfold layP;split
 ·exact h
 ·rename_i a;simp only [Bool.not_eq_true,List.any_eq_false,decide_eq_true_eq] at a;unfold onceB at h ⊢;rw [decide_eq_true_eq] at h ⊢;have c:(L.takeWhile (λy=>aheadI y x)++([x]++L.dropWhile λy=>aheadI y x)).Perm (x::L):=by
   have e:=List.takeWhile_append_dropWhile (p:=λy=>aheadI y x) (l:=L);have:(x::(L.takeWhile (λy=>aheadI y x)++L.dropWhile λy=>aheadI y x)).Perm (x::L):=by rw [e]
   exact List.perm_middle.trans this
  rw [(c.map (·.dot)).nodup_iff,List.map_cons,List.nodup_cons];refine ⟨λd=>?_,h⟩;obtain ⟨y,b,e⟩:=List.mem_map.1 d;exact a y b e
theorem layP_len (L:List GItem) (x:GItem):(layP L x).length<=L.length+1:=by
 unfold layP;split
 ·omega
 ·have e:=congrArg List.length (List.takeWhile_append_dropWhile (p:=λy=>aheadI y x) (l:=L));simp only [List.length_append,List.length_cons,List.length_nil] at e ⊢;omega
theorem all_layP {q:GItem->Bool} {L:List GItem} {x:GItem} (h:L.all q=true) (c:q x=true):(layP L x).all q=true :=
 List.all_eq_true.2 λy b=>by
  rcases layP_mem b with a | a
  ·exact List.all_eq_true.1 h y a
  ·rw [a];exact c
structure EvOk (e:GEvent):Prop where
 dot:xX e.dot=true
 time:vW e.time=true
 kind:1<=e.op.kind/\e.op.kind<=5
 path:vQ e.op.path=true
 text:e.op.text.length<=40
 dots:e.op.kind=4->e.op.dots.all xX=true
 dlen:e.op.dots.length<=64
theorem evOk {e:GEvent} (h:wa e=true):EvOk e:=by
 have f:=kind_of h;have hd:=dots_of h;simp only [wa,opB,Bool.and_eq_true,decide_eq_true_eq] at h;obtain ⟨⟨⟨i,d⟩,b⟩,⟨⟨⟨⟨_,g⟩,c⟩,_⟩,a⟩⟩:=h;refine ⟨i,?_,f,g,c,λj=>?_,hd⟩
 ·simp [vW,d,b]
 ·rw [if_neg (by omega)] at a;simp only [Bool.and_eq_true] at a;exact a.2.1
theorem type_range {k:Int} (h:1<=k/\k<=5):1<=wp k/\wp k<=4:=by
 unfold wp;split
 ·omega
 split
 ·omega
 split
 ·omega
 split
 ·omega
 ·omega
theorem applyP_typ (l:GLeaf) (e:GEvent):(yX l e).typ=l.typ:=by
 unfold yX;generalize (decide (l.time=0) || (if l.time ≠ e.time then decide (l.time < e.time) else dotLt l.dot e.dot))=b;cases b <;> simp only [Bool.false_eq_true,if_false,if_true] <;> (repeat' split) <;> rfl
theorem applyP_may {l:GLeaf} {e:GEvent} (a:leafB l=true) (F:wa e=true) (m:wp e.op.kind=l.typ):leafB (yX l e)=true:=by
 have c:=riseB_of a;have q:=tombs_of a;have n:=apart_of_leaf a;obtain ⟨t,r,G,d4,s,B,H⟩:=evOk F;have E:=applyP_typ l e;by_cases k1:e.op.kind=1
 ·have w:l.typ=1:=by rw [<- m,k1];rfl
  unfold yX;rw [if_pos k1];unfold leafB at a ⊢;rw [if_pos w] at a;simp only [w,if_true];exact a
 by_cases k2:e.op.kind=2
 ·have z:l.typ=2:=by rw [<- m,k2];rfl
  unfold yX;rw [if_neg k1,if_pos k2];generalize (decide (l.time=0) || (if l.time ≠ e.time then decide (l.time < e.time) else dotLt l.dot e.dot))=b;cases b
  case false=>exact a
  case true =>
   simp only [if_true];unfold leafB at a ⊢;rw [if_neg (by omega),if_pos z] at a;simp only [z];rw [if_neg (by omega),if_pos trivial];simp only [Bool.and_eq_true,decide_eq_true_eq] at a ⊢;refine ⟨a.1,?_⟩;have:¬ e.time=0:=by
    simp only [vW,Bool.and_eq_true,decide_eq_true_eq] at r;omega
   rw [if_neg this];simp [t,r,s]
 by_cases k3:e.op.kind=3
 ·have t3:l.typ=3:=by rw [<- m,k3];rfl
  unfold yX;rw [if_neg k1,if_neg k2,if_pos k3];split
  ·exact a
  ·rename_i v;simp only [Bool.not_eq_true,List.any_eq_false,decide_eq_true_eq] at v;unfold leafB at a ⊢;rw [if_neg (by omega),if_neg (by omega),if_pos t3] at a;simp only [t3];rw [if_neg (by omega),if_neg (by omega),if_pos trivial];simp only [Bool.and_eq_true,decide_eq_true_eq] at a ⊢;obtain ⟨⟨⟨p,o⟩,⟨⟨k,y⟩,g⟩⟩,h⟩:=a;refine ⟨⟨⟨p,by simpa [zeroB] using o⟩,⟨⟨all_layP k ?_,riseB_pw (layP_pw _ c)⟩,layP_once _ g⟩⟩,?_⟩
   ·simp [wU,t,s]
   ·simp only [tombsB,Bool.and_eq_true] at h ⊢;refine ⟨h.1,List.all_eq_true.2 λd hd=>?_⟩;simp only [Bool.not_eq_true',List.any_eq_false,decide_eq_true_eq];intro x j i;rcases layP_mem j with f | f
    ·exact n x f d hd i.symm
    ·rw [f] at i;exact v d hd i.symm
 by_cases k4:e.op.kind=4
 ·have t3:l.typ=3:=by rw [<- m,k4];rfl
  have hd:=B k4;unfold yX;rw [if_neg k1,if_neg k2,if_neg k3,if_pos k4];unfold leafB at a ⊢;rw [if_neg (by omega),if_neg (by omega),if_pos t3] at a;simp only [t3];rw [if_neg (by omega),if_neg (by omega),if_pos trivial];simp only [Bool.and_eq_true,decide_eq_true_eq] at a ⊢;obtain ⟨⟨⟨p,o⟩,⟨⟨k,y⟩,g⟩⟩,h⟩:=a;refine ⟨⟨⟨p,by simpa [zeroB] using o⟩,⟨⟨List.all_eq_true.2 λx j=>List.all_eq_true.1 k x (List.mem_filter.1 j).1,riseB_pw (c.filter _)⟩,?_⟩⟩,?_⟩
  ·unfold onceB at g ⊢;rw [decide_eq_true_eq] at g ⊢;exact g.sublist ((List.filter_sublist).map _)
  ·simp only [tombsB,Bool.and_eq_true] at h ⊢;refine ⟨⟨List.all_eq_true.2 λd u=>?_,rising_of_pw (burs_pw _ q)⟩,List.all_eq_true.2 λd u=>?_⟩
   ·rcases (burs_mem _ _ _).1 u with f | f
    ·exact List.all_eq_true.1 hd d f
    ·exact List.all_eq_true.1 h.1.1 d f
   ·simp only [Bool.not_eq_true',List.any_eq_false,decide_eq_true_eq];intro x j i;obtain ⟨C,A⟩:=List.mem_filter.1 j;simp only [Bool.not_eq_true',List.any_eq_false,decide_eq_true_eq] at A;rcases (burs_mem _ _ _).1 u with f | f
    ·exact A d f i.symm
    ·exact n x C d f i.symm
 ·have D:e.op.kind=5:=by omega
  have t4:l.typ=4:=by rw [<- m,D];rfl
  unfold yX;rw [if_neg k1,if_neg k2,if_neg k3,if_neg k4];unfold leafB at a ⊢;rw [if_neg (by omega),if_neg (by omega),if_neg (by omega),if_pos t4] at a;simp only [t4];rw [if_neg (by omega),if_neg (by omega),if_neg (by omega),if_pos trivial];simp only [Bool.and_eq_true,decide_eq_true_eq] at a ⊢;obtain ⟨⟨⟨p,o⟩,h⟩,⟨⟨k,y⟩,g⟩⟩:=a;refine ⟨⟨⟨p,by simpa [zeroB] using o⟩,h⟩,⟨⟨all_layP k ?_,riseB_pw (layP_pw _ c)⟩,layP_once _ g⟩⟩;simp [wU,t,r,s]
theorem applyP_ok {l:GLeaf} {e:GEvent} (a:LeafOk l) (g:wa e=true) (hi:l.items.length<=1048576) (j:l.tombs.length<=1048576):LeafOk (yX l e)/\(yX l e).items.length<=l.items.length+1/\(yX l e).tombs.length<=l.tombs.length+64:=by
 have d:=evOk g;have f:0<=e.time:=by have:=d.time;simp only [vW,Bool.and_eq_true,decide_eq_true_eq] at this;omega
 have c:=λx=>layP_len l.items x;have i:=burs_len e.op.dots l.tombs;have h:=List.length_filter_le (λx:GItem=>!(e.op.dots.any λy=>decide (y=x.dot))) l.items;have hd:=d.dlen;have key:(yX l e).items.length<=l.items.length+1/\(yX l e).tombs.length<=l.tombs.length+64/\0<=(yX l e).time:=by
  unfold yX;split
  ·exact ⟨by simp,by simp,a.time⟩
  split
  ·generalize (decide (l.time=0) || (if l.time ≠ e.time then decide (l.time < e.time) else dotLt l.dot e.dot))=b;cases b
   ·exact ⟨by simp,by simp,a.time⟩
   ·exact ⟨by simp,by simp,f⟩
  split
  ·split
   ·exact ⟨by simp,by simp,a.time⟩
   ·exact ⟨c _,by simp,a.time⟩
  split
  ·exact ⟨by simp only [];omega,by simp only [];omega,a.time⟩
  ·exact ⟨c _,by simp,a.time⟩
 exact ⟨⟨by omega,by omega,key.2.2⟩,key.1,key.2.1⟩
end Go.Vv
namespace Go.Vv
open Go
def qn (k:Int):GLeaf:=GLeaf.mk k (0:Int) (0:Int) (GDot.mk (GActor.mk (0:Int) (0:Int)) (0:Int)) ([]:zn) ([]:List GItem) ([]:List GDot)
theorem leafNew_is {k:Int} (h:1<=k/\k<=4):vw k=some (qn k):=by
 unfold vw;rw [if_neg (by simp;omega)];rfl
theorem refNew_is {k:Int} (h:1<=k/\k<=4):ref05New k=some (qn k):=by
 unfold ref05New;rw [if_pos (by simp;omega)];rfl
theorem newLf_may {k:Int} (h:1<=k/\k<=4):leafB (qn k)=true:=by
 have:k=1 \/ k=2 \/ k=3 \/ k=4:=by omega
 rcases this with rfl | rfl | rfl | rfl <;> decide
theorem newLf_ok (k:Int):LeafOk (qn k):=⟨by simp [qn],by simp [qn],Int.le_refl _⟩
theorem node7_is (t:List GNode) (s:zn):qu t s=some (match nodeOf t s with | some x=>(x,true) | none=>(node0,false)):=by
 unfold qu;have key:∀(L:List GNode) (i:Nat),zk (ρ:=GNode×Bool) (λ(c:Nat) (a:GNode) (b:Unit)=>((if (a.name==s)=true then some (.ret (a,true)) else some (.nxt ())):Option (Out _ Unit))) L i ()=some (match nodeOf L s with | some x=>.inl (x,true) | none=>.inr ()):=by
  intro L
  induction L with
  | nil=>intro i;rfl
  | cons y r ih =>
   intro i;rw [zk];unfold nodeOf;rw [List.find?_cons];cases h:(y.name==s)
   ·simp only [Bool.false_eq_true,if_false];exact ih (i+1)
   ·simp only [if_true]
 rw [key];cases nodeOf t s <;> rfl
noncomputable def l7F (v1:GLeaf):Nat->zn->(List GNode)×zn×(List GLeaf)×(List GNode)->Option (Out (GLeaf×Bool) ((List GNode)×zn×(List GLeaf)×(List GNode))):=(λ(n1:Nat) (x1:zn) (s1:(List GNode)×zn×(List GLeaf)×(List GNode))=>(((qu s1.1 x1).bind λv32=>(if (!v32.2)=true then some (.ret (v1,false)) else some (.nxt (v32.1.subs,v32.1.name,v32.1.leaves,v32.1.subs))))))
noncomputable def l7S (ls:List GLeaf) (kind2:Int):Int->Option (Out (GLeaf×Bool) Int):=(λ(s2:Int)=>((if (((decide (s2 < ((ls).length:Int)))&&(decide (kind2 >= (1:Int))))&&(decide (kind2<=(4:Int))))=true then ((yi ls s2).bind λy63=>(if (y63.typ==kind2)=true then ((yi ls s2).bind λy65=>some (.ret (y65,true))) else some (.nxt (IntKind.wrap .i64 (s2+(1:Int)))))) else some (.brk s2))))
theorem leaf7_eq (t0:List GNode) (b:List zn) (a:Int):vM t0 b a=((ref05New a).bind λc=>(lp (zk (l7F c) b 0 (t0,([]:zn),([]:List GLeaf),([]:List GNode))) λ(d:(List GNode)×zn×(List GLeaf)×(List GNode))=>(lp (yp (l7S d.2.2.1 a) (0:Int)) λ(e:Int)=>some (c,false)))):=rfl
theorem l7_walk (v:GLeaf):∀(p:List zn) (n:Nat) (t:List GNode) (z:zn×(List GLeaf)×(List GNode)),p ≠ [] ->
  zk (l7F v) p n (t,z)=some (match wh t p with | some x=>.inr (x.subs,x.name,x.leaves,x.subs) | none=>.inl (v,false))
 | [],_,_,_,h=>absurd rfl h
 | [s],n,t,z,_=>by
  simp only [wh,zk,l7F,node7_is,Option.bind_some];cases nodeOf t s with
  | none=>rfl
  | some x=>rfl
 | s::c::q,n,t,z,_=>by
  have a:=λu z=>l7_walk v (c::q) (n+1) u z (by simp);simp only [wh];cases e:nodeOf t s with
  | none=>rw [zk];simp only [l7F,node7_is,e,Option.bind_some];rfl
  | some x =>
   have b:l7F v n s (t,z)=some (.nxt (x.subs,x.name,x.leaves,x.subs)):=by simp only [l7F,node7_is,e,Option.bind_some];rfl
   rw [zk,b,Option.bind_some];exact a x.subs (x.name,x.leaves,x.subs)
theorem l7_scan {ls:List GLeaf} {k:Int} (c:1<=k/\k<=4) (d:ls.length<=16777216):∀(m i:Nat),ls.length - i=m->i<=ls.length->yp (l7S ls k) (i:Int)=some (match (ls.drop i).find? (λy=>y.typ==k) with | some y=>.inl (y,true) | none=>.inr (ls.length:Int)):=by
 intro m
 induction m with
 | zero =>
  intro i h hi;obtain rfl:i=ls.length:=by omega
  rw [yV];unfold l7S;simp
 | succ m ih =>
  intro i h hi;have a:i < ls.length:=by omega
  rw [yV];have hd:ls.drop i=ls[i]::ls.drop (i+1):=List.drop_eq_getElem_cons a;have b:((decide ((i:Int) < (ls.length:Int))&&decide (k >= 1))&&decide (k<=4))=true:=by simp;omega
  rw [hd,List.find?_cons];cases e:(ls[i].typ==k)
  ·have:l7S ls k (i:Int)=some (.nxt ((i+1:Nat):Int)):=by
    unfold l7S;rw [if_pos b,idx_at a,Option.bind_some,e];simp only [Bool.false_eq_true,if_false];rw [w64n (by omega)];rfl
   rw [this];exact ih (i+1) (by omega) (by omega)
  ·have:l7S ls k (i:Int)=some (.ret (ls[i],true)):=by
    unfold l7S;rw [if_pos b,idx_at a,Option.bind_some,e];simp
   rw [this]
theorem leaves_len:∀{p:List zn} {t:List GNode} {d:Nat} {x:GNode},treeB d t=true->p ≠ []->wh t p=some x->x.leaves.length<=(zq [] t).length
 | [],_,_,_,_,h,_=>absurd rfl h
 | [s],t,d,x,h,_,e=>by
  have b:x ∈ t:=List.mem_of_find?_eq_some (show nodeOf t s=some x from e);have:=qd b;omega
 | s::c::q,t,d,x,h,_,e=>by
  simp only [wh] at e;cases hn:nodeOf t s with
  | none=>rw [hn] at e;cases e
  | some y =>
   rw [hn,Option.bind_some] at e;have a:y ∈ t:=List.mem_of_find?_eq_some (show nodeOf t s=some y from hn);have g:=leaves_len (xW ((zx h).2 y a)).2.1 (by simp) e;have f:=qd a;omega
theorem leaf7_is {t:List GNode} (h:treeB 0 t=true) (o:(zq [] t).length<=16777215) {p:List zn} (d:p ≠ []) {k:Int} (g:1<=k/\k<=4) :
  (∃l,GRow.mk p l ∈ zq [] t/\l.typ=k/\vM t p k=some (l,true)) \/ ((∀r ∈ zq [] t,vl r ≠ (p,k))/\vM t p k=some (qn k,false)):=by
 have a:=λl=>row_at p t 0 [] l d h;simp only [List.nil_append] at a;have c:(∀l,¬ (GRow.mk p l ∈ zq [] t/\l.typ=k))->∀r ∈ zq [] t,vl r ≠ (p,k):=λj r m e=>by
  have:=row_mk e;simp only [List.nil_append] at this;exact j r.leaf ⟨by rw [<- this];exact m,congrArg Prod.snd e⟩
 rw [leaf7_eq,refNew_is g,Option.bind_some,l7_walk _ p 0 t _ d];cases e:wh t p with
 | none =>
  right;refine ⟨c λl hh=>?_,rfl⟩;obtain ⟨x,b,_⟩:=(a l).1 hh.1;rw [e] at b;cases b
 | some x =>
  simp only [lp];have i:x.leaves.length<=16777215:=by
   exact Nat.le_trans (leaves_len h d e) o
  have hs:=l7_scan g (by omega:x.leaves.length<=16777216) x.leaves.length 0 (by omega) (Nat.zero_le _);simp only [List.drop_zero,Int.natCast_zero] at hs;have f:yp (l7S x.leaves k) (0:Int)=_:=hs;rw [f];cases hf:x.leaves.find? (λy=>y.typ==k) with
  | some y =>
   left;refine ⟨y,(a y).2 ⟨x,e,List.mem_of_find?_eq_some hf⟩,?_,rfl⟩;have:=List.find?_some hf;simpa using this
  | none =>
   right;refine ⟨c λl hh=>?_,rfl⟩;obtain ⟨q,b,n⟩:=(a l).1 hh.1;rw [e] at b;injection b with b;subst b;have:=List.find?_eq_none.1 hf l n;simp [hh.2] at this
end Go.Vv
namespace Go.Vv
open Go
theorem name_len {s:zn} (h:nameB s=true):s.length<=12/\∀b ∈ s,b ≠ 0:=by
 simp only [nameB,Bool.and_eq_true,decide_eq_true_eq,List.all_eq_true] at h;refine ⟨h.1.2,λb a e=>?_⟩;have:=h.2 b a;rw [e] at this;revert this;decide
theorem leaf_bk (l:GLeaf):4<=GLeaf.bk l:=by unfold GLeaf.bk;omega
theorem leaves_bk:∀ls:List GLeaf,4 * ls.length<=(ls.map GLeaf.bk).sum
 | []=>by simp
 | l::ls=>by
  have:=leaves_bk ls;have:=leaf_bk l;simp only [List.length_cons,List.map_cons,List.sum_cons];omega
theorem rows4:∀(t:List GNode),4 * (zq [] t).length<=GNode.bks t:=by
 refine wq (by simp [zq]) ?_;intro x r c b;have d:=leaves_bk x.leaves;have a:=bk_node x;rw [show x::r=[x]++r from rfl,vL,vY,yU];simp only [List.length_append,List.length_map];rw [len_rows x.subs ([]++[x.name]) []];show _<=x.bk+GNode.bks r;omega
def wS (n:Nat):List GRow->Nat
 | []=>0
 | r::L=>r.leaf.bk+17 * (r.path.length - n)+wS n L
theorem wS_app (n:Nat):∀A B:List GRow,wS n (A++B)=wS n A+wS n B
 | [],B=>by simp [wS]
 | r::A,B=>by simp only [List.cons_append,wS,wS_app n A B];omega
theorem wS_leaves (a:List zn) (s:zn):∀ls:List GLeaf,wS a.length (ls.map λl=>GRow.mk (a++[s]) l)=(ls.map GLeaf.bk).sum+17 * ls.length
 | []=>rfl
 | l::ls=>by
  simp only [List.map_cons,wS,wS_leaves a s ls,List.sum_cons,List.length_cons,List.length_append,List.length_nil];omega
theorem wS_up (n:Nat):∀L:List GRow,(∀r ∈ L,n+1<=r.path.length)->wS n L=wS (n+1) L+17 * L.length
 | [],_=>rfl
 | r::L,h=>by
  have b:=h r (by simp);simp only [wS,wS_up n L (λq a=>h q (by simp [a])),List.length_cons];omega
theorem bk_is (x:GNode):x.bk=(x.name.length+1)+(((x.leaves.map GLeaf.bk).sum+1)+((GNode.bks x.subs+1)+0))+1:=by cases x;simp only [GNode.bk]
theorem bks_rows:∀(t:List GNode) (d:Nat) (a:List zn),(∀x ∈ t,nodeB d x=true)->GNode.bks t<=wS a.length (zq a t):=by
 refine wq (λ_ _ _=>by simp [GNode.bks]) ?_;intro x r g f d a c;have n:=f d a λy k=>c y (by simp [k]);have e:=c x (by simp);obtain ⟨i,n2,_⟩:=xW e;have h:=g (d+1) (a++[x.name]) (zx n2).2;have l:=(name_len i).1;have b:=wu [x] d (by simp [wQ,e]);rw [vY,yU] at b;simp only [List.length_append,List.length_map,List.length_cons,List.length_nil,Nat.zero_add] at h b;rw [len_rows x.subs ([]++[x.name]) (a++[x.name])] at b;show x.bk+GNode.bks r<=wS a.length (wL a x++zq a r);rw [wS_app,yU,wS_app,wS_leaves,wS_up a.length _ λq j=>by
  have:=(rows_path _ _ q j).1;simp at this;omega]
 have m:=bk_is x;omega
theorem wS_sub {lt:GRow->GRow->Prop} (a:∀x,¬ lt x x) (n:Nat):∀(L M:List GRow),L.Pairwise lt->(∀x ∈ L,x ∈ M)->wS n L<=wS n M
 | [],_,_,_=>Nat.zero_le _
 | x::L,M,h,hs=>by
  obtain ⟨g,f⟩:=List.pairwise_cons.1 h;obtain ⟨A,B,rfl⟩:=List.append_of_mem (hs x (by simp));have:=wS_sub a n L (A++B) f λy d=>by
   have b:=hs y (by simp [d]);have c:y ≠ x:=λe=>a x (by have:=g y d;rwa [e] at this);simp only [List.mem_append,List.mem_cons] at b ⊢;rcases b with h | h | h
   ·exact .inl h
   ·exact (c h).elim
   ·exact .inr h
  rw [wS_app] at this;rw [wS_app];simp only [wS];omega
def lS:List GRow->Nat
 | []=>0
 | r::L=>r.leaf.bk+lS L
theorem lS_app:∀A B:List GRow,lS (A++B)=lS A+lS B
 | [],B=>by simp [lS]
 | r::A,B=>by simp only [List.cons_append,lS,lS_app A B];omega
theorem lS_leaves (p:List zn):∀ls:List GLeaf,lS (ls.map λl=>GRow.mk p l)=(ls.map GLeaf.bk).sum
 | []=>rfl
 | l::ls=>by simp only [List.map_cons,lS,lS_leaves p ls,List.sum_cons]
theorem wS_le:∀L:List GRow,(∀r ∈ L,r.path.length<=3)->wS 0 L<=lS L+51 * L.length
 | [],_=>Nat.le_refl _
 | r::L,h=>by
  have c:=h r (by simp);have b:=wS_le L λq a=>h q (by simp [a]);simp only [wS,lS,List.length_cons];omega
theorem lS_le:∀(t:List GNode) (a:List zn),lS (zq a t)<=GNode.bks t:=by
 refine wq (λ_=>Nat.zero_le _) ?_;intro x r c b a;have f:=b a;have e:=c (a++[x.name]);have d:=bk_is x;show lS (wL a x++zq a r)<=x.bk+GNode.bks r;rw [lS_app,yU,lS_app,lS_leaves];omega
theorem rows_wf:∀(t:List GNode) (a:List zn),GNode.wfs t->∀r ∈ zq a t,GLeaf.wf r.leaf:=by
 refine wq (λ_ _ _ h=>by simp [zq] at h) ?_;intro x r e d a h q b;simp only [GNode.wfs] at h;have b:q ∈ wL a x++zq a r:=b;rcases List.mem_append.1 b with b | b
 ·have c:x.name.length<=maxLen/\(x.leaves.length<=maxLen/\∀y ∈ x.leaves,GLeaf.wf y)/\GNode.wfs x.subs:=by
   have:=h.1;cases x;simpa only [GNode.wf] using this
  rcases rowsN_mem.1 b with ⟨l,f,rfl⟩ | b
  ·exact c.2.1.2 l f
  ·exact e _ c.2.2 q b
 ·exact d a h.2 q b
theorem wf_rows:∀(t:List GNode) (d:Nat) (a:List zn),(∀x ∈ t,nodeB d x=true)->(zq a t).length<=maxLen->(∀r ∈ zq a t,GLeaf.wf r.leaf)->GNode.wfs t:=by
 refine wq (λ_ _ _ _ _=>by simp [GNode.wfs]) ?_;intro x r m l d a k e c;have e:(wL a x++zq a r).length<=maxLen:=e;have c:∀q ∈ wL a x++zq a r,GLeaf.wf q.leaf:=c;rw [yU] at e;simp only [List.length_append,List.length_map] at e;obtain ⟨p,n2,_⟩:=xW (k x (by simp));have n:=l d a (λy i=>k y (by simp [i])) (by omega) (λq h=>c q (by simp [h]));have j:=m (d+1) (a++[x.name]) (zx n2).2 (by omega) (λq h=>c q (List.mem_append.2 (.inl (rowsN_mem.2 (.inr h)))));have o:=(name_len p).1;have b:x.name.length<=maxLen:=Nat.le_trans o (by decide);have f:∀y ∈ x.leaves,GLeaf.wf y:=λy i=>c ⟨a++[x.name],y⟩ (List.mem_append.2 (.inl (rowsN_mem.2 (.inl ⟨y,i,rfl⟩))));have g:x.leaves.length<=maxLen:=by omega
 simp only [GNode.wfs];refine ⟨?_,n⟩;revert b f g j;cases x;intro j b f g;simp only [GNode.wf];exact ⟨b,⟨g,f⟩,j⟩
end Go.Vv
namespace Go.Vv
open Go
theorem ownC_is {l:GLeaf} (h:LeafOk l):vz l=some l:=by
 unfold vz;rw [qj (yP (by have:=h.items;omega)),Option.bind_some,cloneDot_is (yP (by have:=h.tombs;omega)),Option.bind_some]
theorem changed_is:∀(n:Nat) (t:List GNode),GNode.deps t < n->Small t->xY n t (λg=>vz g)=some t
 | 0,_,h,_=>by omega
 | n+1,t,h,hs=>by
  unfold xY;have o:=hs.len;rw [loop_keep (λ_=>true) (λx=>x) t 0 [] (yP (by simp;omega))]
  ·simp
  ·intro i x s a d;have m:=qh a;have f:=xM x;have k:=hs.leaves a;rw [changed_is n x.subs (by omega) (hs.subs a),Option.bind_some];rw [loop_keep (λ_=>true) (λl=>l) x.leaves 0 [] (yP (by simp;omega))]
   ·have b:(x.leaves.filter λ_=>true)=x.leaves:=by simp
    simp only [xb,List.nil_append,List.map_id_fun',id,b,if_true];rw [zp (by simpa using d)];cases x;simp
   ·intro j l p e c;show ((vz l).bind _)=_;rw [ownC_is (hs.leaf a e),Option.bind_some,zp (by simpa using c)];simp
theorem own7_is {t:List GNode} (h:Small t):treeXown t=some t:=by
 unfold treeXown treeXchanged;rw [anyN_of (GNode.deps t+1) λn a=>changed_is n t (by omega) h,Option.bind_some]
theorem wS_len:∀L:List GRow,(∀r ∈ L,1<=r.path.length)->17 * L.length<=wS 0 L
 | [],_=>Nat.le_refl _
 | r::L,h=>by
  have c:=h r (by simp);have b:=wS_len L λq a=>h q (by simp [a]);simp only [wS,List.length_cons];omega
structure Fine (t:List GNode):Prop where
 small:Small t
 tree:treeB 0 t=true
 ws:wS 0 (zq [] t)<=14680064
 leaf:∀r ∈ zq [] t,r.leaf.bk<=1048576
theorem lS_mem:∀{L:List GRow} {r:GRow},r ∈ L->r.leaf.bk<=lS L
 | q::L,r,h=>by
  rcases List.mem_cons.1 h with rfl | h
  ·simp only [lS];omega
  ·have:=lS_mem h;simp only [lS];omega
theorem fine_of {t:List GNode} (hs:Small t) (b:treeB 0 t=true) (d:GNode.bks t<=1048576):Fine t:=by
 have e:=wS_le (zq [] t) λr a=>(vP (rows_ok t 0 [] hs b rfl rfl r a).path).2.1;have f:=lS_le t [];have c:=rows4 t;exact ⟨hs,b,by omega,λr a=>Nat.le_trans (lS_mem a) (by omega)⟩
theorem Fine.row {t:List GNode} (h:Fine t) {r:GRow} (a:r ∈ zq [] t):RowOk' r:=rows_ok t 0 [] h.small h.tree rfl rfl r a
theorem Fine.len {t:List GNode} (h:Fine t):(zq [] t).length<=863533:=by
 have b:=wS_len (zq [] t) λr a=>by
  have:=(vP (h.row a).path).1;exact List.length_pos_iff.2 this
 have:=h.ws;omega
theorem rows_small {u:List GNode} {M:List GRow} (c:treeB 0 u=true) (k:wS 0 M<=16777216) (g:M.length<=1048576) (d:∀r ∈ M,GLeaf.wf r.leaf) (h:∀r ∈ zq [] u,r ∈ M):Small u/\wS 0 (zq [] u)<=wS 0 M:=by
 have a:∀x:GRow,¬ kltB (vl x) (vl x)=true:=λx h=>by rw [klt_irr] at h;cases h
 have b:=qV c [];have j:=bks_rows u 0 [] (zx c).2;have f:=wS_sub a 0 _ _ b h;have e:=sub_len a _ _ b h;simp only [List.length_nil] at j;exact ⟨⟨wf_rows u 0 [] (zx c).2 (Nat.le_trans (Nat.le_trans e g) (by decide)) λr i=>d r (h r i),by omega⟩,f⟩
theorem small_put {t u:List GNode} {p:List zn} {l:GLeaf} (b:Fine t) (d:treeB 0 u=true) (f:l.bk<=1100000) (c:GLeaf.wf l) (i:p.length<=3) (h:∀r ∈ zq [] u,r ∈ zq [] t \/ r=⟨p,l⟩):Small u:=by
 have g:=b.ws;have e:=b.len;refine (rows_small (M:=zq [] t++[⟨p,l⟩]) d (by rw [wS_app];simp only [wS];omega) (by simp;omega) (λr a=>?_) λr a=>?_).1
 ·rcases List.mem_append.1 a with h | h
  ·exact rows_wf t [] b.small.1 r h
  ·rw [List.mem_singleton.1 h];exact c
 ·rcases h r a with h | h
  ·simp [h]
  ·simp [h]
theorem dots_bk (L:List GDot):(L.map GDot.bk).sum=5 * L.length:=by
 induction L with
 | nil=>rfl
 | cons d r ih =>
  have:GDot.bk d=5:=rfl;rw [List.map_cons,List.sum_cons,ih,this,List.length_cons];omega
theorem sum_filter_le {α:Type} (f:α->Nat) (q:α->Bool):∀L:List α,((L.filter q).map f).sum<=(L.map f).sum
 | []=>by simp
 | x::r=>by
  have:=sum_filter_le f q r;rw [List.filter_cons];split <;> simp only [List.map_cons,List.sum_cons] <;> omega
theorem lay_bk (L:List GItem) (x:GItem):((layP L x).map GItem.bk).sum<=(L.map GItem.bk).sum+x.bk:=by
 unfold layP;split
 ·omega
 ·have e:=List.takeWhile_append_dropWhile (p:=λy=>aheadI y x) (l:=L);have a:(L.map GItem.bk).sum=(((L.takeWhile (λy=>aheadI y x))++L.dropWhile λy=>aheadI y x).map GItem.bk).sum:=by rw [e]
  rw [a];simp only [List.map_append,List.sum_append,List.map_cons,List.map_nil,List.sum_cons,List.sum_nil];omega
theorem applyP_bk {l:GLeaf} {e:GEvent} (a:wa e=true):(yX l e).bk<=l.bk+1000:=by
 have d:=evOk a;have i:=lay_bk l.items ⟨0,e.dot,e.op.text⟩;have f:=lay_bk l.items ⟨e.time,e.dot,e.op.text⟩;have c:=burs_len e.op.dots l.tombs;have j:=sum_filter_le GItem.bk (λx:GItem=>!(e.op.dots.any λy=>decide (y=x.dot))) l.items;have hd:=d.dlen;have h:=d.text;have b0:∀x:GDot,GDot.bk x=5:=λ_=>rfl;have k:GItem.bk ⟨0,e.dot,e.op.text⟩<=60:=by simp only [GItem.bk,b0];omega
 have g:GItem.bk ⟨e.time,e.dot,e.op.text⟩<=60:=by simp only [GItem.bk,b0];omega
 unfold yX;split
 ·simp only [GLeaf.bk];omega
 split
 ·generalize (decide (l.time=0) || (if l.time ≠ e.time then decide (l.time < e.time) else dotLt l.dot e.dot))=b;cases b
  ·simp only [Bool.false_eq_true,if_false];omega
  ·simp only [if_true,GLeaf.bk,b0];omega
 split
 ·split
  ·omega
  ·simp only [GLeaf.bk];omega
 split
 ·simp only [GLeaf.bk,dots_bk];omega
 ·simp only [GLeaf.bk];omega
theorem inK_wrap64 (n:Int):InK .i64 (IntKind.wrap .i64 n):=by
 unfold InK;rw [IntKind.wrap_i64];constructor
 ·show (-9223372036854775808:Int)<=_;omega
 ·show _<=(9223372036854775807:Int);omega
theorem all_lay {q:GItem->Prop} {L:List GItem} {x:GItem} (h:∀y ∈ L,q y) (c:q x):∀y ∈ layP L x,q y:=λy b=>by
 rcases layP_mem b with a | a
 ·exact h y a
 ·rw [a];exact c
theorem applyP_wf {l:GLeaf} {e:GEvent} (v:GLeaf.wf l) (B:wa e=true) (A:GEvent.wf e) (hi:l.items.length<=1048576) (w:l.tombs.length<=1048576):GLeaf.wf (yX l e):=by
 have d:=evOk B;obtain ⟨a,g,j,i,k,c,f⟩:=v;obtain ⟨o,s,u⟩:=A;obtain ⟨C,G,E,p,t⟩:=u;have m:∀n,n<=1048700->n<=maxLen:=λn h=>Nat.le_trans h (by decide);have r:=λx=>layP_len l.items x;have D:=burs_len e.op.dots l.tombs;have F:=List.length_filter_le (λx:GItem=>!(e.op.dots.any λy=>decide (y=x.dot))) l.items;have hd:=d.dlen;have z:InK .u64 0:=⟨Int.le_refl _,by decide⟩
 unfold yX;split
 ·exact ⟨a,inK_wrap64 _,j,i,k,c,f⟩
 split
 ·generalize (decide (l.time=0) || (if l.time ≠ e.time then decide (l.time < e.time) else dotLt l.dot e.dot))=b;cases b
  ·exact ⟨a,g,j,i,k,c,f⟩
  ·exact ⟨a,g,s,o,p,c,f⟩
 split
 ·split
  ·exact ⟨a,g,j,i,k,c,f⟩
  ·exact ⟨a,g,j,i,k,⟨m _ (by have:=r ⟨0,e.dot,e.op.text⟩;simp only [];omega),all_lay c.2 ⟨z,o,p⟩⟩,f⟩
 split
 ·refine ⟨a,g,j,i,k,⟨m _ (by simp only [];omega),λy q=>c.2 y (List.mem_filter.1 q).1⟩,⟨m _ (by simp only [];omega),λy q=>?_⟩⟩;rcases (burs_mem _ _ _).1 q with h | h
  ·exact t.2 y h
  ·exact f.2 y h
 ·exact ⟨a,g,j,i,k,⟨m _ (by have:=r ⟨e.time,e.dot,e.op.text⟩;simp only [];omega),all_lay c.2 ⟨s,o,p⟩⟩,f⟩
theorem newLf_wf {k:Int} (h:1<=k/\k<=4):GLeaf.wf (qn k):=by
 have z:InK .u64 0:=⟨Int.le_refl _,by decide⟩
 have c:InK .u8 0:=⟨Int.le_refl _,by decide⟩
 have a:InK .u32 0:=⟨Int.le_refl _,by decide⟩
 have b:InK .i64 0:=⟨by decide,by decide⟩
 refine ⟨⟨by show (0:Int)<=k;omega,by show k<=255;omega⟩,b,z,⟨⟨c,a⟩,z⟩,by simp [qn],⟨by simp [qn],by simp [qn]⟩,⟨by simp [qn],by simp [qn]⟩⟩
end Go.Vv
namespace Go.Vv
open Go
theorem tlR_false {k:Int} (d:1<=k/\k<=4) {c:Bool×zn×(List GLeaf)×(List GNode)} {v:GLeaf} (h:tlR k c=some (v,false)):v=qn k:=by
 unfold tlR at h;obtain ⟨e,_,h⟩:=Option.bind_eq_some_iff.1 h;obtain ⟨v50,_,h⟩:=Option.bind_eq_some_iff.1 h;split at h
 ·rw [leafNew_is d,Option.bind_some] at h;injection h with h;injection h with h _;exact h.symm
 ·obtain ⟨y,_,h⟩:=Option.bind_eq_some_iff.1 h;obtain ⟨a,_,h⟩:=Option.bind_eq_some_iff.1 h;obtain ⟨b,_,h⟩:=Option.bind_eq_some_iff.1 h;injection h with h;injection h with _ h;cases h
theorem treeLeaf_false {t:List GNode} {p:List zn} (c:p ≠ []) {k:Int} (b:1<=k/\k<=4) {v:GLeaf} (h:wr t p k=some (v,false)):v=qn k:=by
 have a:=tl_walk p 0 t (decide ((p.length:Int) > 0),([]:zn),([]:List GLeaf),([]:List GNode)) c;rw [tl_eq] at h;cases e:wh t p with
 | none =>
  rw [e] at a;obtain ⟨u,a⟩:=a;rw [a] at h;simp only [xb] at h;exact tlR_false b h
 | some x =>
  rw [e] at a;simp only at a;rw [a] at h;simp only [xb] at h;exact tlR_false b h
theorem leaf_lens (l:GLeaf):l.items.length<=l.bk/\l.tombs.length<=l.bk:=by
 have a:=sum_len (f:=GItem.bk) (λx=>by simp only [GItem.bk];omega) l.items;have b:=dots_bk l.tombs;simp only [GLeaf.bk];omega
theorem leaf_both {t:List GNode} (m:Fine t) {p:List zn} (n:p ≠ []) {k:Int} (f:1<=k/\k<=4) :
  ∃l b,wr t p k=some (l,b)/\vM t p k=some (l,b)/\l.typ=k/\leafB l=true/\LeafOk l/\GLeaf.wf l/\l.bk<=1048576/\((b=true/\GRow.mk p l ∈ zq [] t) \/ (b=false/\l=qn k/\∀r ∈ zq [] t,vl r ≠ (p,k))):=by
 have u:=m.len;have hs:=m.small;have h:=m.tree;have g:=λr c=>rows_ok t 0 [] hs h rfl rfl r c;rcases treeLeaf_is h (λr c=>(g r c).ok) n f with ⟨l,a,d,o⟩ | ⟨a,v,d⟩ <;> rcases leaf7_is h (by omega) n f with ⟨s,i,j,q⟩ | ⟨i,j⟩
 ·have e:=sorted_key (key:=vl) (qV h []) a i (by simp only [vl];rw [d,j]);injection e with _ e;subst e;have c:=g _ a;refine ⟨l,true,o,q,d,c.leaf,c.ok,rows_wf t [] hs.1 _ a,?_,.inl ⟨rfl,a⟩⟩;exact m.leaf _ a
 ·exact absurd (by simp only [vl];rw [d]) (i _ a)
 ·exact absurd (by simp only [vl];rw [j]) (a _ i)
 ·have e:=treeLeaf_false n f d;subst e;exact ⟨qn k,false,d,j,rfl,newLf_may f,newLf_ok k,newLf_wf f,(by simp [qn,GLeaf.bk,GDot.bk,GActor.bk]),.inr ⟨rfl,rfl,a⟩⟩
theorem put_all {l:GLeaf} (g:leafB l=true) (e:LeafOk l) {p:List zn} {t u:List GNode} (o:vQ p=true) (f:treeB 0 t=true) (v:(zq [] t).length<=8388606) (j:treeB 0 u=true) (h:∀r,r ∈ zq [] u ↔ (r ∈ zq [] t/\vl r ≠ (p,l.typ)) \/ (true=true/\r=⟨p,l⟩)) :
  treeXput t p l=some u/\ref07Lay t p l=some u:=by
 obtain ⟨c,s,d⟩:=vP o;have key:∀n,p.length+1<=n->xy n t p l.typ l true=some u:=λn a=>by
  obtain ⟨q,i,m,_,b⟩:=lay_is (k:=l.typ) (l:=l) (there:=true) (λ_=>⟨rfl,g,e⟩) p t 0 n c d (by omega) f (by omega) (by omega);have b:=b [];simp only [List.nil_append] at b;rw [i,rows_ext m j λr=>by rw [b,h];simp]
 refine ⟨anyN_of (p.length+1) λn a=>?_,anyN_of (p.length+1) λn a=>?_⟩
 ·rw [put_lay g e p t 0 n c d (by omega) f (by omega) (by omega)];exact key n a
 ·rw [lay7_lay g e p t 0 n c d (by omega) f (by omega) (by omega)];exact key n a
theorem apply_is {t:List GNode} {e:GEvent} (f:Fine t) (a:wa e=true) (F:GEvent.wf e) :
  ∃u l b,qr t e=some (u,0)/\qw t e=some (u,0)/\Small u/\treeB 0 u=true/\wr t e.op.path (wp e.op.kind)=some (l,b)/\l.typ=wp e.op.kind/\leafB (yX l e)=true/\LeafOk (yX l e) /\
   ∀r,r ∈ zq [] u ↔ (r ∈ zq [] t/\vl r ≠ (e.op.path,wp e.op.kind)) \/ r=⟨e.op.path,yX l e⟩:=by
 have d:=evOk a;have hs:=f.small;have j:=f.tree;have H:=type_range d.kind;obtain ⟨A,E,K⟩:=vP d.path;obtain ⟨l,b,s,G,i,v,w,I,L,_⟩:=leaf_both f A H;have z:=leaf_lens l;have o:=applyP_may v a i.symm;have D:(yX l e).typ=wp e.op.kind:=by rw [applyP_typ,i]
 obtain ⟨p,_⟩:=applyP_ok w a (by omega) (by omega);have q:=f.len;obtain ⟨u,_,n,_,m⟩:=lay_all (k:=(yX l e).typ) (l:=yX l e) (there:=true) (λ_=>⟨rfl,o,p⟩) d.path j (by omega);obtain ⟨J,C⟩:=put_all o p d.path j (by omega) n m;have x:Small u:=small_put f n (Nat.le_trans (applyP_bk a) (by omega)) (applyP_wf I a F (by omega) (by omega)) E λr B=>by
  rcases (m r).1 B with h | h
  ·exact .inl h.1
  ·exact .inr h.2
 have c:l.items.length<=1048576:=by omega
 have g:l.tombs.length<=1048576:=by omega
 have y:applyW l e=(yX l e,0):=by
  unfold applyW;rw [if_neg (by rw [v,a];decide),if_neg (by rw [i];simp)]
 refine ⟨u,l,b,?_,?_,x,n,s,i,o,p,λr=>by rw [m,D];simp⟩
 ·unfold qr;rw [treeMay_is hs,qP,j,a];simp only [Option.bind_some,Bool.not_true,beq_self_eq_true,if_true,Bool.or_self,Bool.false_eq_true,if_false];rw [opType_is,Option.bind_some,s,Option.bind_some,leafApply_is e c g,y,Option.bind_some];simp only [bne_self_eq_false,Bool.false_eq_true,if_false];rw [J,Option.bind_some,own7_is x,Option.bind_some]
 ·unfold qw;rw [ref07May_is hs,ref04MayEvent_is,j,a];simp only [Option.bind_some,Bool.not_true,beq_self_eq_true,if_true,Bool.or_self,Bool.false_eq_true,if_false];rw [ref04Type_is,Option.bind_some,G,Option.bind_some,refApply_is e c g w.time,y,Option.bind_some];simp only [bne_self_eq_false,Bool.false_eq_true,if_false];rw [C,Option.bind_some]
end Go.Vv
namespace Go.Vv
open Go
theorem u8_range (n:Int):0<=IntKind.wrap .u8 n/\IntKind.wrap .u8 n < 256:=by
 rw [IntKind.wrap_u8];omega
theorem u64_range (n:Int):0<=IntKind.wrap .u64 n/\IntKind.wrap .u64 n < 18446744073709551616:=by
 rw [IntKind.wrap_u64];omega
theorem num_tot {b:List UInt8} {n:Int} (h0:0<=n) (p:n < 18446744073709551616) (o:b.length<=2147483000):∃r,xC b n=some r/\b.length+1<=r.length/\r.length<=b.length+10:=by
 unfold xC;have key:=loopW_inv (ρ:=List UInt8) (f:=λ(a:(List UInt8)×Int)=>((if (decide (a.2 > (127:Int)))=true then (zY (0<=(IntKind.wrap .u8 (((BitVec.ofInt (IntKind.bits .u8) (IntKind.wrap .u8 (a.2)) ||| BitVec.ofInt (IntKind.bits .u8) (128:Int)).toNat:Int)))/\(IntKind.wrap .u8 (((BitVec.ofInt (IntKind.bits .u8) (IntKind.wrap .u8 (a.2)) ||| BitVec.ofInt (IntKind.bits .u8) (128:Int)).toNat:Int))) < 256) ((zY ((a.1).length+(([(UInt8.ofNat (IntKind.wrap .u8 (((BitVec.ofInt (IntKind.bits .u8) (IntKind.wrap .u8 (a.2)) ||| BitVec.ofInt (IntKind.bits .u8) (128:Int)).toNat:Int))).toNat)]:List UInt8)).length<=yB) (some (.nxt ((a.1++([(UInt8.ofNat (IntKind.wrap .u8 (((BitVec.ofInt (IntKind.bits .u8) (IntKind.wrap .u8 (a.2)) ||| BitVec.ofInt (IntKind.bits .u8) (128:Int)).toNat:Int))).toNat)]:List UInt8)),(Int.fdiv a.2 (2 ^ (min (7:Int).toNat (IntKind.bits .u64)))))))))) else some (.brk (a.1,a.2))):Option (Out _ ((List UInt8)×Int))))
  (λs=>0<=s.2/\b.length<=s.1.length/\∃k:Nat,s.2 < 128 ^ (k+1)/\s.1.length+k<=b.length+9) (λs=>b.length<=s.1.length/\s.1.length<=b.length+9) (λs=>s.2.toNat) ?_ _ (b,n) rfl ⟨h0,Nat.le_refl _,9,by omega,Nat.le_refl _⟩
 ·obtain ⟨j,e,i,l⟩:=key;rw [e];simp only [xb];rw [zp (u8_range _),zp (by simp [yB];omega)];exact ⟨_,rfl,by simp;omega,by simp;omega⟩
 ·rintro ⟨s,m⟩ ⟨h,g,k,c,d⟩
  simp only at h g c d;by_cases hm:m > 127
  ·right;simp only [hm,decide_true,if_true];rw [zp (u8_range _),zp (by simp [yB];omega)];refine ⟨_,rfl,?_,?_⟩
   ·have e:(Int.fdiv m (2 ^ (min (7:Int).toNat (IntKind.bits .u64))))=m / 128:=by
     have:(2:Int) ^ (min (7:Int).toNat (IntKind.bits .u64))=128:=by decide
     rw [this,Int.fdiv_eq_ediv_of_nonneg _ (by omega)]
    simp only [e];refine ⟨by omega,by simp;omega,?_⟩;cases k with
    | zero=>simp at c;omega
    | succ k =>
     refine ⟨k,?_,by simp;omega⟩;rw [Int.pow_succ] at c;exact Int.ediv_lt_of_lt_mul (by omega) c
   ·have e:(Int.fdiv m (2 ^ (min (7:Int).toNat (IntKind.bits .u64))))=m / 128:=by
     have:(2:Int) ^ (min (7:Int).toNat (IntKind.bits .u64))=128:=by decide
     rw [this,Int.fdiv_eq_ediv_of_nonneg _ (by omega)]
    simp only [e];omega
  ·left;simp only [hm,decide_false,Bool.false_eq_true,if_false];exact ⟨_,rfl,by simp;omega,by simp;omega⟩
theorem qc {b:List UInt8} {n:Int} (a:b.length<=2147483000):∃r,xC b (IntKind.wrap .u64 n)=some r/\b.length+1<=r.length/\r.length<=b.length+10:=num_tot (u64_range n).1 (u64_range n).2 a
theorem int_tot {b:List UInt8} {n:Int} (a:b.length<=2147483000):∃r,codeInt b n=some r/\b.length+1<=r.length/\r.length<=b.length+10:=by
 unfold codeInt;obtain ⟨r,e,h⟩:=qc (b:=b) (n:=(((BitVec.ofInt (IntKind.bits .u64) (IntKind.wrap .u64 ((IntKind.wrap .u64 (n)) * 2 ^ (min (1:Int).toNat (IntKind.bits .u64)))) ^^^ BitVec.ofInt (IntKind.bits .u64) (IntKind.wrap .u64 ((Int.fdiv n (2 ^ (min (63:Int).toNat (IntKind.bits .i64))))))).toNat:Int))) a;exact ⟨r,by rw [e,Option.bind_some],h⟩
theorem text_tot {b:List UInt8} {s:zn} (c:b.length+s.length<=2147482000):∃r,qi b s=some r/\b.length<=r.length/\r.length<=b.length+(10+s.length):=by
 unfold qi;obtain ⟨r,e,d,a⟩:=qc (b:=b) (n:=(s.length:Int)) (by omega);rw [e,Option.bind_some,zp (by simp only [yB];omega)];exact ⟨_,rfl,by simp;omega,by simp;omega⟩
theorem dot_tot {b:List UInt8} {d:GDot} (a:GDot.wf d) (i:b.length<=2147482000):∃r,xA b d=some r/\b.length<=r.length/\r.length<=b.length+30:=by
 unfold xA;obtain ⟨r,e,j,h⟩:=qc (b:=b) (n:=d.actor.rep) (by omega);obtain ⟨q,f,g,k⟩:=qc (b:=r) (n:=d.actor.inc) (by omega);have hs:0<=d.seq/\d.seq < 18446744073709551616:=by
  have:=a.2;unfold InK at this;simp [IntKind.min,IntKind.max,IntKind.signed,IntKind.bits] at this;omega
 obtain ⟨z,c,l,m⟩:=num_tot (b:=q) hs.1 hs.2 (by omega);simp only [e,f,c,Option.bind_some];exact ⟨_,rfl,by omega,by omega⟩
theorem acc_tot {α ρ:Type} {f:Nat->α->List UInt8->Option (Out ρ (List UInt8))} {K:Nat} (c:α->Nat):∀(L:List α) (i:Nat) (b:List UInt8),(∀i x s,x ∈ L->s.length+c x<=K->∃r,f i x s=some (.nxt r)/\s.length<=r.length/\r.length<=s.length+c x) ->
  b.length+(L.map c).sum<=K->∃r,zk f L i b=some (.inr r)/\b.length<=r.length/\r.length<=b.length+(L.map c).sum
 | [],_,b,_,_=>⟨b,rfl,Nat.le_refl _,by simp⟩
 | x::t,i,b,h,hb=>by
  simp only [List.map_cons,List.sum_cons] at hb ⊢;obtain ⟨r,e,k,j⟩:=h i x b (by simp) (by omega);obtain ⟨q,d,g,l⟩:=acc_tot c t (i+1) r (λi y s a=>h i y s (by simp [a])) (by omega);exact ⟨q,by simp only [zk,e,d],by omega,by omega⟩
theorem sum_mul {α:Type} {c f:α->Nat} (h:∀x,c x<=10 * f x):∀L:List α,(L.map c).sum<=10 * (L.map f).sum
 | []=>by simp
 | x::r=>by have:=sum_mul h r;have:=h x;simp only [List.map_cons,List.sum_cons];omega
theorem u64_of {n:Int} (h:InK .u64 n):0<=n/\n < 18446744073709551616:=by
 unfold InK at h;simp [IntKind.min,IntKind.max,IntKind.signed,IntKind.bits] at h;omega
theorem leafS_tot {b:List UInt8} {l:GLeaf} (t:GLeaf.wf l) (hb:b.length+10 * l.bk<=2147480000):∃r,vA b l=some r/\b.length<=r.length/\r.length<=b.length+10 * l.bk:=by
 obtain ⟨w1,w2,k,z,X,E,N⟩:=t;have Z:l.bk=12+l.text.length+(l.items.map GItem.bk).sum+(l.tombs.map GDot.bk).sum:=by
  have:GDot.bk l.dot=5:=rfl;simp only [GLeaf.bk,this];omega
 have hI:(l.items.map λx:GItem=>50+x.text.length).sum<=10 * (l.items.map GItem.bk).sum:=sum_mul (λx=>by have:GDot.bk x.dot=5:=rfl;simp only [GItem.bk,this];omega) _;have hT:(l.tombs.map λ_:GDot=>30).sum<=10 * (l.tombs.map GDot.bk).sum:=sum_mul (λx=>by have:GDot.bk x=5:=rfl;simp only [this];omega) _;unfold vA;obtain ⟨y,B,U,V⟩:=qc (b:=b) (n:=l.typ) (by omega);obtain ⟨v,u,a2,b2⟩:=int_tot (b:=y) (n:=l.n) (by omega);obtain ⟨q,G,a3,b3⟩:=num_tot (b:=v) (u64_of k).1 (u64_of k).2 (by omega);obtain ⟨T,J,a4,b4⟩:=dot_tot (b:=q) z (by omega);obtain ⟨C,P,a5,b5⟩:=text_tot (b:=T) (s:=l.text) (by omega);obtain ⟨R,H,a6,W⟩:=qc (b:=C) (n:=((l.items).length:Int)) (by omega);obtain ⟨o,Q,Y,b7⟩:=acc_tot (K:=2147480000) (ρ:=List UInt8) (f:=λ(n1:Nat) (a:GItem) (p:(List UInt8))=>(((xC p a.time).bind λv25=>((xA v25 a.dot).bind λg=>((qi g a.text).bind λc=>some (.nxt c)))):Option (Out _ (List UInt8))))
  (λx:GItem=>50+x.text.length) l.items 0 R (λi x s h hs=>by
   obtain ⟨a,e,x3⟩:=E.2 x h;obtain ⟨w,I,c1,d1⟩:=num_tot (b:=s) (u64_of a).1 (u64_of a).2 (by omega);obtain ⟨j,d,A,m⟩:=dot_tot (b:=w) e (by omega);obtain ⟨D,O,c3,d3⟩:=text_tot (b:=j) (s:=x.text) (by omega);exact ⟨D,by simp only [I,d,O,Option.bind_some],by omega,by omega⟩) (by omega)
 obtain ⟨S,M,a8,b8⟩:=qc (b:=o) (n:=((l.tombs).length:Int)) (by omega);obtain ⟨r9,L,a9,b9⟩:=acc_tot (K:=2147480000) (ρ:=List UInt8) (f:=λ(n2:Nat) (e:GDot) (F:(List UInt8))=>(((xA F e).bind λv45=>some (.nxt v45)):Option (Out _ (List UInt8))))
  (λ_:GDot=>30) l.tombs 0 S (λi x s h hs=>by
   obtain ⟨j,d,A,m⟩:=dot_tot (b:=s) (N.2 x h) (by omega);exact ⟨j,by simp only [d,Option.bind_some],by omega,by omega⟩) (by omega)
 simp only [B,u,G,J,P,H,Option.bind_some];rw [Q,xb,M,Option.bind_some,L,xb];exact ⟨_,rfl,by omega,by omega⟩
theorem acc_totP {ι α ρ:Type} {p:ι->Prop} {F:ι->Nat->α->List UInt8->Option (Out ρ (List UInt8))} {K:Nat} (c:α->Nat):∀(L:List α) (i:Nat) (b:List UInt8),(∀i x s,x ∈ L->s.length+c x<=K->∃r,(∀n,p n->F n i x s=some (.nxt r))/\s.length<=r.length/\r.length<=s.length+c x) ->
  b.length+(L.map c).sum<=K->∃r,(∀n,p n->zk (F n) L i b=some (.inr r))/\b.length<=r.length/\r.length<=b.length+(L.map c).sum
 | [],_,b,_,_=>⟨b,λ_ _=>rfl,Nat.le_refl _,by simp⟩
 | x::t,i,b,h,hb=>by
  simp only [List.map_cons,List.sum_cons] at hb ⊢;obtain ⟨r,e,l,k⟩:=h i x b (by simp) (by omega);obtain ⟨q,f,g,j⟩:=acc_totP c t (i+1) r (λi y s d=>h i y s (by simp [d])) (by omega);exact ⟨q,λn a=>by simp only [zk,e n a,f n a],by omega,by omega⟩
theorem put_tot:∀(d:Nat) (t:List GNode) (b:List UInt8),GNode.deps t < d->Small t->b.length+10+10 * GNode.bks t<=2147480000->∃r,(∀n,d<=n->vJ n b t=some r)/\b.length+1<=r.length/\r.length<=b.length+10+10 * GNode.bks t
 | 0,_,_,h,_,_=>by omega
 | d+1,t,b,h,hs,hb=>by
  obtain ⟨A,H,X,Y⟩:=qc (b:=b) (n:=((t).length:Int)) (by omega);have z:(t.map λx=>10 * GNode.bk x).sum<=10 * GNode.bks t:=by rw [GNode.bks_eq];exact sum_mul (λ_=>Nat.le_refl _) t
  obtain ⟨S,U,Z,b2⟩:=acc_totP (K:=2147480000) (ρ:=List UInt8) (p:=λn=>d<=n) (F:=λn (n1:Nat) (g:GNode) (J:(List UInt8))=>(((qi J g.name).bind λv23=>((xC v23 (IntKind.wrap .u64 (((g.leaves).length:Int)))).bind λv25=>(lp (zk (λ(n2:Nat) (k:GLeaf) (e:(List UInt8))=>(((vA e k).bind λa=>some (.nxt a)):Option (Out _ (List UInt8)))) g.leaves 0 v25) λ(e:(List UInt8))=>((vJ n e g.subs).bind λv=>some (.nxt v))))):Option (Out _ (List UInt8))))
   (λx=>10 * GNode.bk x) t 0 A (λi x s o Q=>by
    have R:=bk_node x;have B:=qh o;have I:=xM x;have c:=(GNode.wfs_iff t).1 hs.1 x o;have w:∀l ∈ x.leaves,GLeaf.wf l:=by
     cases x;simp only [GNode.wf] at c;exact c.2.1.2
    have hL:(x.leaves.map λl=>10 * GLeaf.bk l).sum<=10 * (x.leaves.map GLeaf.bk).sum:=sum_mul (λ_=>Nat.le_refl _) _;obtain ⟨W,E,c1,d1⟩:=text_tot (b:=s) (s:=x.name) (by omega);obtain ⟨C,N,c2,d2⟩:=qc (b:=W) (n:=((x.leaves).length:Int)) (by omega);obtain ⟨L,V,c3,d3⟩:=acc_tot (K:=2147480000) (ρ:=Out (List UInt8) (List UInt8)) (f:=λ(n2:Nat) (k:GLeaf) (e:(List UInt8))=>(((vA e k).bind λa=>some (.nxt a)):Option (Out _ (List UInt8))))
     (λl=>10 * GLeaf.bk l) x.leaves 0 C (λj l s G u=>by
      obtain ⟨q,M,O,T⟩:=leafS_tot (b:=s) (w l G) u;exact ⟨q,by rw [M,Option.bind_some],O,T⟩) (by omega)
    obtain ⟨D,P,c4,d4⟩:=put_tot d x.subs L (by omega) (hs.subs o) (by omega);refine ⟨D,λn y=>?_,by omega,by omega⟩;simp only [E,N,Option.bind_some];rw [V,xb,P n y,Option.bind_some]) (by omega)
  refine ⟨S,λn y=>?_,by omega,by omega⟩;obtain ⟨m,rfl⟩:∃m,n=m+1:=⟨n - 1,by omega⟩
  unfold vJ;rw [H,Option.bind_some,U m (by omega),xb]
theorem statePut_tot {t:List GNode} (hs:Small t):∃r,statePut [] t=some r/\1<=r.length/\r.length<=10+10 * GNode.bks t:=by
 have c:=hs.2;obtain ⟨r,e,a,b⟩:=put_tot (GNode.deps t+1) t [] (by omega) hs (by simp;omega);exact ⟨r,anyN_of _ e,by simpa using a,by simpa using b⟩
end Go.Vv
namespace Go.Vv
open Go
def itS (L:List GRow):Nat:=(L.map λr=>r.leaf.items.length).sum
def toS (L:List GRow):Nat:=(L.map λr=>r.leaf.tombs.length).sum
theorem use_loop {ρ:Type}:∀(L:List GRow) (i a b c:Nat),a+L.length<=4611686018427387904->b+itS L<=4611686018427387904->c+toS L<=4611686018427387904 ->
  zk (λ(l:Nat) (e:GRow) (d:Int×Int×Int)=>(some (.nxt ((IntKind.wrap .i64 (d.1+(1:Int))),(IntKind.wrap .i64 (d.2.1+((e.leaf.items).length:Int))),(IntKind.wrap .i64 (d.2.2+((e.leaf.tombs).length:Int))))):Option (Out ρ (Int×Int×Int)))) L i ((a:Int),(b:Int),(c:Int))=some (.inr (((a+L.length:Nat):Int),((b+itS L:Nat):Int),((c+toS L:Nat):Int)))
 | [],_,a,b,c,_,_,_=>by simp [zk,itS,toS]
 | r::L,i,a,b,c,h1,h2,h3=>by
  have k:itS (r::L)=r.leaf.items.length+itS L:=by simp [itS]
  have j:toS (r::L)=r.leaf.tombs.length+toS L:=by simp [toS]
  rw [k] at h2 ⊢;rw [j] at h3 ⊢;simp only [List.length_cons] at h1 ⊢;simp only [zk];have h:IntKind.wrap .i64 ((a:Int)+1)=((a+1:Nat):Int):=by rw [w64n (by omega)];omega
  have g:IntKind.wrap .i64 ((b:Int)+((r.leaf.items.length:Nat):Int))=((b+r.leaf.items.length:Nat):Int):=by rw [w64n (by omega)];omega
  have f:IntKind.wrap .i64 ((c:Int)+((r.leaf.tombs.length:Nat):Int))=((c+r.leaf.tombs.length:Nat):Int):=by rw [w64n (by omega)];omega
  rw [h,g,f];rw [use_loop L (i+1) (a+1) (b+r.leaf.items.length) (c+r.leaf.tombs.length) (by omega) (by omega) (by omega)];rw [show a+1+L.length=a+(L.length+1) by omega,Nat.add_assoc b,Nat.add_assoc c]
theorem rows_bk_le:∀(L:List GRow),itS L+toS L<=(L.map λr=>r.leaf.bk).sum
 | []=>by simp [itS,toS]
 | r::L=>by
  have h:=rows_bk_le L;have b:=leaf_lens r.leaf;have a:r.leaf.items.length+r.leaf.tombs.length<=r.leaf.bk:=by
   have b:=sum_len (f:=GItem.bk) (λx=>by simp only [GItem.bk];omega) r.leaf.items;have a:=dots_bk r.leaf.tombs;simp only [GLeaf.bk];omega
  simp only [itS,toS,List.map_cons,List.sum_cons] at *;omega
theorem rows_lbk:∀(n:Nat) (t:List GNode) (a:List zn),GNode.deps t<=n->((zq a t).map λr=>r.leaf.bk).sum<=GNode.bks t:=by
 intro n
 induction n with
 | zero =>
  intro t a h;cases t with
  | nil=>simp [zq,GNode.bks]
  | cons x r=>have:=qh (x:=x) (t:=x::r) (by simp);have:=xM x;omega
 | succ n ih =>
  intro t
  induction t with
  | nil=>intro a h;simp [zq,GNode.bks]
  | cons x r ih2 =>
   intro a h;have e:=qh (x:=x) (t:=x::r) (by simp);have d:=xM x;have b:=ih2 a (by simp only [GNode.deps] at h;omega);have f:=ih x.subs (a++[x.name]) (by omega);have g:=bk_node x;rw [yk] at b ⊢;simp only [List.flatMap_cons,List.map_append,List.sum_append,yU,List.map_map,GNode.bks];have c:(x.leaves.map ((λr:GRow=>r.leaf.bk) ∘ λl=>GRow.mk (a++[x.name]) l)).sum=(x.leaves.map GLeaf.bk).sum:=rfl;rw [c];omega
structure UseOf (name:zn) (t:List GNode) (u:GQuota):Prop where
 eq:wA name t=some u
 name:u.name=name
 v:u.leaves=((zq [] t).length:Int)/\u.items=(itS (zq [] t):Int)/\u.tombs=(toS (zq [] t):Int)
 l:0<=u.leaves/\u.leaves<=1073741824
 i:0<=u.items/\u.items<=1073741824
 t:0<=u.tombs/\u.tombs<=1073741824
 b:1<=u.bytes/\u.bytes<=1073741824
theorem use_is (name:zn) {t:List GNode} (hs:Small t) (a:treeB 0 t=true):∃u,UseOf name t u:=by
 have d:=hs.2;obtain ⟨r,e,b,h⟩:=statePut_tot hs;have f:=rows_bk_le (zq [] t);have g:=rows_lbk (GNode.deps t) t [] (Nat.le_refl _);have c:=rows_len (GNode.deps t) t [] (Nat.le_refl _);refine ⟨⟨name,((zq [] t).length:Int),(itS (zq [] t):Int),(toS (zq [] t):Int),(r.length:Int)⟩,?_,rfl,⟨rfl,rfl,rfl⟩,by constructor <;> simp only [] <;> omega,by constructor <;> simp only [] <;> omega,by constructor <;> simp only [] <;> omega,by constructor <;> simp only [] <;> omega⟩;unfold wA;rw [e,Option.bind_some,pathsRows_is hs,Option.bind_some,if_pos a];have:=use_loop (ρ:=GQuota) (zq [] t) 0 0 0 0 (by omega) (by omega) (by omega);rw [Nat.zero_add,Nat.zero_add,Nat.zero_add] at this;rw [show ((0:Int),(0:Int),(0:Int))=(((0:Nat):Int),((0:Nat):Int),((0:Nat):Int)) from rfl,this,xb]
theorem idxQ_is {f:GQuota->Option Bool} {q:GQuota->Bool} (e:∀x,f x=some (q x)):∀(L:List GQuota) (k:Nat),
  (zk (λ(b:Nat) (c:GQuota) (g:Unit)=>(((f c).bind λd=>(if d=true then some (.ret (b:Int)) else some (.nxt ()))):Option (Out Int Unit))) L k ()=some (.inr ())/\L.any q=false) \/
  ∃j,∃h:j < L.length,q L[j]=true/\zk (λ(b:Nat) (c:GQuota) (g:Unit)=>(((f c).bind λd=>(if d=true then some (.ret (b:Int)) else some (.nxt ()))):Option (Out Int Unit))) L k ()=some (.inl ((k+j:Nat):Int))/\L.any q=true
 | [],_=>.inl ⟨rfl,rfl⟩
 | x::t,k=>by
  simp only [zk,e x,Option.bind_some];cases hq:q x with
  | true=>exact .inr ⟨0,by simp,by simpa using hq,by simp,by simp [hq]⟩
  | false =>
   simp only [Bool.false_eq_true,if_false];rcases idxQ_is e t (k+1) with ⟨h,a⟩ | ⟨j,m,l,a,i⟩
   ·exact .inl ⟨h,by simp [hq,a]⟩
   ·exact .inr ⟨j+1,by simp;omega,by simpa using l,by rw [a];simp;omega,by simp [i]⟩
theorem indexQ_is {f:GQuota->Option Bool} {q:GQuota->Bool} (c:∀x,f x=some (q x)) (L:List GQuota):(zV L f=some (-1)/\L.any q=false) \/ ∃j,∃h:j < L.length,q L[j]=true/\zV L f=some (j:Int)/\L.any q=true:=by
 unfold zV;rcases idxQ_is c L 0 with ⟨h,a⟩ | ⟨j,e,d,a,b⟩
 ·rw [h];exact .inl ⟨rfl,a⟩
 ·rw [a];exact .inr ⟨j,e,d,by simp,b⟩
theorem containsQ_is {f:GQuota->Option Bool} {q:GQuota->Bool} (c:∀x,f x=some (q x)) (L:List GQuota):yQ L f=some (L.any q):=by
 unfold yQ;rcases indexQ_is c L with ⟨h,a⟩ | ⟨j,e,d,a,b⟩
 ·rw [h,a];rfl
 ·rw [a,b,Option.bind_some];simp
def leastQ (x:GQuota):Int:=(if x.bytes < (if x.tombs < (if x.items < x.leaves then x.items else x.leaves) then x.tombs else (if x.items < x.leaves then x.items else x.leaves)) then x.bytes else (if x.tombs < (if x.items < x.leaves then x.items else x.leaves) then x.tombs else (if x.items < x.leaves then x.items else x.leaves)))
def mayQ1 (L:List GQuota) (i:Nat) (x:GQuota):Bool:=!(((L.take i).any λy=>y.name==x.name) || (!(x.name==([]:zn))&&!nameB x.name) || decide (leastQ x < 0))
def mayQ (L:List GQuota):Bool:=allI (mayQ1 L) L
theorem meterMay_is (L:List GQuota):meterMay L=some (mayQ L):=by
 unfold meterMay;rw [lp_all (mayQ1 L) (r:=false)]
 ·unfold mayQ;split <;> simp_all
 ·intro i x b;have hi:i < L.length:=(List.getElem?_eq_some_iff.1 b).1;have e:slc L 0 (i:Int)=some (L.take i):=by rw [qs ⟨by omega,by omega,by omega⟩];simp
  rw [e,Option.bind_some,containsQ_is (f:=λc=>meterMayC1 c x) (q:=λy=>y.name==x.name) (λy=>rfl),Option.bind_some,opIsName_is];unfold mayQ1;show ((if _ then _ else _:Option Bool).bind λa=>if (_ || (_&&(!a)) || decide (leastQ x < 0))=true then _ else _)=_;generalize ((L.take i).any λy=>y.name==x.name)=A;generalize (x.name==([]:zn))=B;generalize nameB x.name=C;generalize decide (leastQ x < 0)=D;cases A <;> cases B <;> cases C <;> cases D <;> rfl
theorem mayQ_pos {L:List GQuota} (h:mayQ L=true) {x:GQuota} (c:x ∈ L):0<=x.leaves/\0<=x.items/\0<=x.tombs/\0<=x.bytes:=by
 obtain ⟨i,hi⟩:=List.mem_iff_getElem?.1 c;have b:=allI_iff.1 h i x hi;unfold mayQ1 at b;simp only [Bool.not_eq_true',Bool.or_eq_false_iff,decide_eq_false_iff_not] at b;have a:=b.2;unfold leastQ at a;split at a <;> (try split at a) <;> (try split at a) <;> omega
theorem quota_is (L:List GQuota) (name:zn):∃q b,qZ L name=some (q,b)/\(b=true->q ∈ L):=by
 unfold qZ;rw [zp (by decide)];have e:List.range (((2:Int)).toNat)=[0,1]:=rfl;rw [e];have key:∀s:zn,(∃j,∃h:j < L.length,zV L (λc=>x6 c s)=some (j:Int)) \/ zV L (λc=>x6 c s)=some (-1):=λs=>by
  rcases indexQ_is (f:=λc=>x6 c s) (q:=λx=>x.name==s) (λx=>rfl) L with ⟨h,_⟩ | ⟨j,a,_,d,_⟩
  ·exact .inr h
  ·exact .inl ⟨j,a,d⟩
 simp only [zk,if_true];rcases key name with ⟨j,a,h⟩ | h
 ·rw [h,Option.bind_some];simp only [show ((j:Int) >= 0) from by omega,decide_true,if_true];rw [idx_at a,Option.bind_some];exact ⟨_,_,rfl,λ_=>List.getElem_mem a⟩
 ·rw [h,Option.bind_some];simp only [show ¬ ((-1:Int) >= 0) from by omega,decide_false,Bool.false_eq_true,if_false,Nat.zero_add,Nat.one_ne_zero];rcases key [] with ⟨j,a,h⟩ | h
  ·rw [h,Option.bind_some];simp only [show ((j:Int) >= 0) from by omega,decide_true,if_true];rw [idx_at a,Option.bind_some];exact ⟨_,_,rfl,λ_=>List.getElem_mem a⟩
  ·rw [h,Option.bind_some];simp only [show ¬ ((-1:Int) >= 0) from by omega,decide_false,Bool.false_eq_true,if_false];exact ⟨_,_,rfl,λh=>by cases h⟩
def ovr (u q:Int):Int:=if u - q > 0 then u - q else 0
theorem ovr_is {u q:Int} (d:0<=u) (b:u<=1073741824) (a:0<=q) (c:q<=9223372036854775807):(if (IntKind.wrap .i64 (u - q)) > (0:Int) then (IntKind.wrap .i64 (u - q)) else (0:Int))=ovr u q:=by
 have e:IntKind.wrap .i64 (u - q)=u - q:=by rw [IntKind.wrap_i64];omega
 rw [e];rfl
structure UseB (u:GQuota):Prop where
 l:0<=u.leaves/\u.leaves<=1073741824
 i:0<=u.items/\u.items<=1073741824
 t:0<=u.tombs/\u.tombs<=1073741824
 b:0<=u.bytes/\u.bytes<=1073741824
theorem UseOf.ub {name:zn} {t:List GNode} {u:GQuota} (h:UseOf name t u):UseB u:=⟨h.l,h.i,h.t,by have:=h.b;omega,h.b.2⟩
theorem over_is {L:List GQuota} (g:mayQ L=true) (r:∀q ∈ L,GQuota.wf q) (name:zn):∃(q:GQuota) (b:Bool),(b=true->0<=q.leaves/\0<=q.items/\0<=q.tombs/\0<=q.bytes)/\∀u:GQuota,u.name=name->UseB u ->
  wR L u=some (if b=true then (ovr u.leaves q.leaves,ovr u.items q.items,ovr u.tombs q.tombs,ovr u.bytes q.bytes) else (0,0,0,0)):=by
 obtain ⟨q,b,s,f⟩:=quota_is L name;refine ⟨q,b,λh=>mayQ_pos g (f h),λu m a=>?_⟩;unfold wR;rw [m,s,Option.bind_some];cases b with
 | false=>rfl
 | true =>
  have c:=mayQ_pos g (f rfl);obtain ⟨w0,o,j,p,k⟩:=r q (f rfl);have d:∀n,InK .i64 n->n<=9223372036854775807:=λn h=>by unfold InK at h;simp [IntKind.min,IntKind.max,IntKind.signed,IntKind.bits] at h;omega
  simp only [Bool.not_true,Bool.false_eq_true,if_false,if_true,xE,Option.bind_some];rw [zp (by decide)];have e:List.range (((4:Int)).toNat)=[0,1,2,3]:=rfl;rw [e];simp only [zk,if_true,Nat.zero_add,Nat.one_ne_zero,if_false,Nat.reduceAdd,show (2:Nat) ≠ 0 from by omega,show (2:Nat) ≠ 1 from by omega,show (3:Nat) ≠ 0 from by omega,show (3:Nat) ≠ 1 from by omega,show (3:Nat) ≠ 2 from by omega,xb];rw [ovr_is a.l.1 a.l.2 c.1 (d _ o),ovr_is a.i.1 a.i.2 c.2.1 (d _ j),ovr_is a.t.1 a.t.2 c.2.2.1 (d _ p),ovr_is a.b.1 a.b.2 c.2.2.2 (d _ k)]
end Go.Vv
namespace Go.Vv
open Go
theorem sing_may {t:List GNode} (b:treeB 0 t=true) {x:GNode} (c:x ∈ t):treeB 0 [x]=true :=
 treeB_of (by omega) ((vV _).2 (by simp)) λy a=>by rw [List.mem_singleton.1 a];exact (zx b).2 x c
theorem sing_small {t:List GNode} (hs:Small t) {x:GNode} (a:x ∈ t):Small [x] :=
 ⟨(GNode.wfs_iff _).2 λy b=>by rw [List.mem_singleton.1 b];exact (GNode.wfs_iff t).1 hs.1 x a,by have:=bk_mem a;have:=hs.2;simp only [GNode.bks];omega⟩
noncomputable def vU (x:GNode):GQuota:=(wA x.name [x]).getD default
theorem wZ {t:List GNode} (hs:Small t) (b:treeB 0 t=true) {x:GNode} (a:x ∈ t):UseOf x.name [x] (vU x):=by
 obtain ⟨u,h⟩:=use_is x.name (sing_small hs a) (sing_may b a);have:vU x=u:=by unfold vU;rw [h.eq];rfl
 rw [this];exact h
theorem slc_one {A L:List GNode} {x:GNode} (h:A.length+1<=maxLen):slc (A++x::L) (A.length:Int) (IntKind.wrap .i64 ((A.length:Int)+(1:Int)))=some [x]:=by
 rw [wrap_add1 h,qs ⟨by omega,by omega,by simp;omega⟩];simp only [Int.toNat_natCast,Option.some.injEq];rw [List.take_append,List.take_of_length_le (by omega),show A.length+1 - A.length=1 by omega,List.take_succ_cons,List.take_zero,List.drop_left]
theorem uses_loop {t:List GNode} (hs:Small t) (d:treeB 0 t=true):∀(L A:List GNode) (s:List GQuota),t=A++L->s.length+L.length<=33554432 ->
  zk (λ(f:Nat) (i:GNode) (c:(List GQuota))=>(((slc t (f:Int) (IntKind.wrap .i64 ((f:Int)+(1:Int)))).bind λb=>((wA i.name b).bind λa=>(zY ((c).length+(([a]:List GQuota)).length<=yB) (some (.nxt (c++([a]:List GQuota))))))):Option (Out (List GQuota×Int) (List GQuota)))) L A.length s=some (.inr (s++L.map vU))
 | [],A,s,_,_=>by simp [zk]
 | x::r,A,s,h,hl=>by
  simp only [List.length_cons] at hl;have g:x ∈ t:=by rw [h];simp
  have j:A.length+1<=maxLen:=by
   have:=hs.len;rw [h] at this;simp only [List.length_append,List.length_cons] at this;exact Nat.le_trans (Nat.le_trans (by omega) this) (by decide)
  simp only [zk];have e:slc t (A.length:Int) (IntKind.wrap .i64 ((A.length:Int)+(1:Int)))=some [x]:=by rw [h];exact slc_one j
  rw [e,Option.bind_some,(wZ hs d g).eq,Option.bind_some,zp (by simp [yB];omega)];simp only [];have:=uses_loop hs d r (A++[x]) (s++[vU x]) (by rw [h];simp) (by simp;omega);rw [List.length_append,List.length_singleton] at this;rw [this];simp
theorem uses_is {t:List GNode} (hs:Small t) (a:treeB 0 t=true):qC t=some (t.map vU,0):=by
 unfold qC;rw [treeMay_is hs,a,Option.bind_some];simp only [Bool.not_true,Bool.false_eq_true,if_false];have:=uses_loop hs a t [] [] rfl (by have:=hs.len;simp;omega);simp only [List.length_nil,List.nil_append] at this;rw [this,xb]
theorem of_loop {t:List GNode} (hs:Small t) (j:treeB 0 t=true) (name:zn):∀(L A:List GNode),t=A++L ->
  (∃x ∈ L,x.name=name/\zk (λ(c:Nat) (f:GNode) (n:Unit)=>((if (f.name==name)=true then ((slc t (c:Int) (IntKind.wrap .i64 ((c:Int)+(1:Int)))).bind λb=>((wA name b).bind λa=>some (.ret a))) else some (.nxt ())):Option (Out GQuota Unit))) L A.length ()=some (.inl (vU x))) \/
  ((∀x ∈ L,x.name ≠ name)/\zk (λ(c:Nat) (f:GNode) (n:Unit)=>((if (f.name==name)=true then ((slc t (c:Int) (IntKind.wrap .i64 ((c:Int)+(1:Int)))).bind λb=>((wA name b).bind λa=>some (.ret a))) else some (.nxt ())):Option (Out GQuota Unit))) L A.length ()=some (.inr ()))
 | [],A,_=>.inr ⟨by simp,rfl⟩
 | x::r,A,h=>by
  have l:x ∈ t:=by rw [h];simp
  have m:A.length+1<=maxLen:=by
   have:=hs.len;rw [h] at this;simp only [List.length_append,List.length_cons] at this;exact Nat.le_trans (Nat.le_trans (by omega) this) (by decide)
  simp only [zk];by_cases hn:x.name=name
  ·left;refine ⟨x,by simp,hn,?_⟩;have e:slc t (A.length:Int) (IntKind.wrap .i64 ((A.length:Int)+(1:Int)))=some [x]:=by rw [h];exact slc_one m
   have k:=(wZ hs j l).eq;rw [hn] at k;rw [hn,beq_self_eq_true,if_pos rfl,e,Option.bind_some,k,Option.bind_some]
  ·have e:(x.name==name)=false:=by simpa using hn
   rw [e];simp only [Bool.false_eq_true,if_false];have:=of_loop hs j name r (A++[x]) (by rw [h];simp);rw [List.length_append,List.length_singleton] at this;rcases this with ⟨y,d,i,g⟩ | ⟨i,g⟩
   ·exact .inl ⟨y,by simp [d],i,g⟩
   ·refine .inr ⟨λy d=>?_,g⟩;rcases List.mem_cons.1 d with rfl | d
    ·exact hn
    ·exact i y d
theorem of_is {t:List GNode} (hs:Small t) (d:treeB 0 t=true) (name:zn):(∃x ∈ t,x.name=name/\wv t name=some (vU x)) \/ ((∀x ∈ t,x.name ≠ name)/\wv t name=some (GQuota.mk name 0 0 0 0)):=by
 unfold wv;have:=of_loop hs d name t [] rfl;simp only [List.length_nil] at this;rcases this with ⟨x,b,a,c⟩ | ⟨b,a⟩
 ·exact .inl ⟨x,b,a,by rw [c];rfl⟩
 ·exact .inr ⟨b,by rw [a];rfl⟩
noncomputable def overB (L:List GQuota) (u:GQuota):Bool:=wR L u != some (0,0,0,0)
theorem meterOver_is {L:List GQuota} (k:mayQ L=true) (m:∀q ∈ L,GQuota.wf q) {t:List GNode} (hs:Small t) (f:treeB 0 t=true):meterOver L t=some ((t.map vU).filter (overB L),0):=by
 unfold meterOver;rw [uses_is hs f,Option.bind_some,meterMay_is,k];simp only [bne_self_eq_false,beq_self_eq_true,if_true,Option.bind_some,Bool.not_true,Bool.or_self,Bool.false_eq_true,if_false];rw [loop_keep (overB L) (λu=>u) _ 0 [] (by have:=hs.len;simp [yB];omega)]
 ·simp
 ·intro i u s l g;obtain ⟨x,j,rfl⟩:=List.mem_map.1 l;obtain ⟨q,b,_,h⟩:=over_is k m x.name;have h:=h (vU x) (wZ hs f j).name (wZ hs f j).ub;unfold overB;rw [h,Option.bind_some];generalize (if b=true then (ovr (vU x).leaves q.leaves,ovr (vU x).items q.items,ovr (vU x).tombs q.tombs,ovr (vU x).bytes q.bytes) else ((0:Int),(0:Int),(0:Int),(0:Int)))=o;obtain ⟨a,b,c,d⟩:=o;have e:(some (a,b,c,d) != some ((0:Int),(0:Int),(0:Int),(0:Int)))=(!(a==(0:Int)&&(b==(0:Int)&&(c==(0:Int)&&(d==(0:Int)&&true))))):=by
   rw [Bool.eq_iff_iff];simp only [bne_iff_ne,ne_eq,Option.some.injEq,Prod.mk.injEq,Bool.not_eq_true',Bool.and_true,Bool.and_eq_false_iff,beq_eq_false_iff_ne];by_cases h1:a=0 <;> by_cases h2:b=0 <;> by_cases h3:c=0 <;> by_cases h4:d=0 <;> simp [h1,h2,h3,h4]
  rw [e];simp only [];rw [zp (by simpa using g)]
theorem up_uniq {t:List GNode} (h:upB t=true) {x y:GNode} (f:x ∈ t) (d:y ∈ t) (e:x.name=y.name):x=y:=by
 have b:=(vV t).1 h;obtain ⟨i,hi,rfl⟩:=List.mem_iff_getElem.1 f;obtain ⟨j,c,rfl⟩:=List.mem_iff_getElem.1 d;rw [List.pairwise_iff_getElem] at b;rcases Nat.lt_trichotomy i j with a | a | a
 ·have:=b i j hi c a;rw [e,q9] at this;cases this
 ·subst a;rfl
 ·have:=b j i c hi a;rw [e,q9] at this;cases this
theorem mem_rows {t:List GNode} {r:GRow}:r ∈ zq [] t ↔ ∃x ∈ t,r ∈ wL [] x:=by rw [yk,List.mem_flatMap]
theorem mem_sing {x:GNode} {r:GRow}:r ∈ zq [] [x] ↔ r ∈ wL [] x:=by rw [mem_rows];simp
theorem node_same {t u:List GNode} (A:treeB 0 t=true) (p:treeB 0 u=true) {l:zn} (h:∀r:GRow,(∀w,r.path ≠ l::w)->(r ∈ zq [] u ↔ r ∈ zq [] t)) {x:GNode} (j:x ∈ u) (n:x.name ≠ l):x ∈ t:=by
 have c:∀{z:GNode},z.name ≠ l->∀{r:GRow},r ∈ wL [] z->∀w,r.path ≠ l::w:=λk r b w e=>by
  obtain ⟨w',i⟩:=vB b;rw [e] at i;simp only [List.nil_append,List.cons.injEq] at i;exact k i.1.symm
 have d:∀{z y:GNode} {r:GRow},r ∈ wL [] z->r ∈ wL [] y->z.name=y.name:=λi C=>by
  obtain ⟨E,B⟩:=vB i;obtain ⟨D,v⟩:=vB C;rw [B] at v;simp only [List.nil_append,List.cons.injEq] at v;exact v.1
 obtain ⟨r,L,b⟩:=rowsN_ne ((zx p).2 x j) [];have b:r ∈ wL [] x:=by rw [b];simp
 have i:r ∈ zq [] t:=(h r (c n b)).1 (mem_rows.2 ⟨x,j,b⟩);obtain ⟨y,m,s⟩:=mem_rows.1 i;have f:=d b s;have:[x]=[y]:=rows_ext (sing_may p j) (sing_may A m) λq=>by
  rw [mem_sing,mem_sing];constructor
  ·intro g;obtain ⟨z,k,a⟩:=mem_rows.1 ((h q (c n g)).1 (mem_rows.2 ⟨x,j,g⟩));have:z=y:=up_uniq (zx A).1 k m ((d a g).trans f)
   rwa [this] at a
  ·intro g;have o:y.name ≠ l:=λe=>n (f.trans e);obtain ⟨z,k,a⟩:=mem_rows.1 ((h q (c o g)).2 (mem_rows.2 ⟨y,m,g⟩));have:z=x:=up_uniq (zx p).1 k j ((d a g).trans f.symm)
   rwa [this] at a
 rw [List.cons.injEq] at this;rw [this.1];exact m
end Go.Vv
namespace Go.Vv
open Go
def lfM:GLeaf:=GLeaf.mk (3:Int) (0:Int) (0:Int) (GDot.mk (GActor.mk (0:Int) (0:Int)) (0:Int)) ([]:zn) ([(GItem.mk (0:Int) (GDot.mk (GActor.mk (0:Int) (1:Int)) (2:Int)) ([]:zn)),(GItem.mk (0:Int) (GDot.mk (GActor.mk (0:Int) (1:Int)) (3:Int)) ([]:zn))]:List GItem) ([(GDot.mk (GActor.mk (0:Int) (1:Int)) (1:Int))]:List GDot)
def tabM:List GNode:=[⟨[97],[],[⟨[98],[lfM],[]⟩]⟩]
theorem ikM {k:IntKind} {n:Int} (h:(decide (k.min<=n)&&decide (n<=k.max))=true):InK k n:=by
 simp only [Bool.and_eq_true,decide_eq_true_eq] at h;exact h
theorem tabM_tree:treeB 0 tabM=true:=by
 have h:leafB lfM=true:=by decide
 simp [treeB,tabM,wQ,nodeB,upB,leavesB,allI,h];decide
theorem lfM_wf:GLeaf.wf lfM:=⟨ikM rfl,ikM rfl,ikM rfl,⟨⟨ikM rfl,ikM rfl⟩,ikM rfl⟩,Nat.zero_le _,⟨by decide,λy a=>by
 simp only [lfM,List.mem_cons,List.not_mem_nil,or_false] at a;rcases a with rfl | rfl <;> exact ⟨ikM rfl,⟨⟨ikM rfl,ikM rfl⟩,ikM rfl⟩,Nat.zero_le _⟩⟩,⟨by decide,λy a=>by
 simp only [lfM,List.mem_cons,List.not_mem_nil,or_false] at a;subst a;exact ⟨⟨ikM rfl,ikM rfl⟩,ikM rfl⟩⟩⟩
theorem tabM_small:Small tabM:=by
 have b:1<=maxLen:=by decide
 have c:GNode.bks tabM<=16777216:=by decide
 refine ⟨?_,c⟩;simp only [tabM,GNode.wfs,GNode.wf];refine ⟨⟨b,⟨Nat.zero_le _,λy a=>by cases a⟩,⟨b,⟨b,λy a=>?_⟩,trivial⟩,trivial⟩,trivial⟩;rw [List.mem_singleton.1 a];exact lfM_wf
theorem known45:wT=some true:=by
 unfold wT;simp only [wB,Option.bind_some];have h:=uses_is tabM_small tabM_tree;have l:=wZ tabM_small tabM_tree (x:=⟨[97],[],[⟨[98],[lfM],[]⟩]⟩) (by simp [tabM]);have e:tabM.map vU=[vU ⟨[97],[],[⟨[98],[lfM],[]⟩]⟩]:=rfl;rw [e] at h;have g:=l.v;have o:zq [] [(⟨[97],[],[⟨[98],[lfM],[]⟩]⟩:GNode)]=[⟨[[97],[98]],lfM⟩]:=by simp [zq,wL]
 rw [o] at g;have i:=l.name;have m:=l.b;generalize vU ⟨[97],[],[⟨[98],[lfM],[]⟩]⟩=w at h g i m;have f:qC ([(GNode.mk ([97]:zn) ([]:List GLeaf) ([(GNode.mk ([98]:zn) ([lfM]:List GLeaf) ([]:List GNode))]:List GNode))]:List GNode)=some ([w],0):=h;unfold lfM at f;rw [f,Option.bind_some];obtain ⟨n,a,b,c,d⟩:=w;simp only [itS,toS,lfM,List.map_cons,List.map_nil,List.sum_cons,List.sum_nil,List.length_cons,List.length_nil] at g i m;obtain ⟨j,k,v3⟩:=g;subst i;have j:a=1:=by simpa using j
 have k:b=2:=by simpa using k
 have v3:c=1:=by simpa using v3
 subst j k v3;simp [zY];omega
theorem great45_tot {L:List GQuota} {t:List GNode} (h:Small t) (o:GOp):∃b,law45Xgreat L t o=some b:=by
 unfold law45Xgreat
 obtain ⟨b,a⟩:=ref07Great_tot h;rw [lp_all0 (λx=>!decide (((x.name).length:Int) > (40:Int))) (r:=true)]
 ·split
  ·rw [a];split <;> exact ⟨_,rfl⟩
  ·exact ⟨_,rfl⟩
 ·intro i x _;cases decide (((x.name).length:Int) > (40:Int)) <;> rfl
theorem fits_is {L:List GQuota} (m:mayQ L=true) {t u:List GNode} (hs:Small t) (g:treeB 0 t=true) {e:GEvent} (j:wa e=true) (k:qr t e=some (u,0)) {c:zn} {w:List zn} (h:e.op.path=c::w) {a b:GQuota} (l:wv t c=some a) (i:wv u c=some b)
  {o:Int×Int×Int×Int} (d:wR L b=some o) :
  qD L t e=some (!((decide (o.1 > 0)&&decide (b.leaves > a.leaves)) || (decide (o.2.1 > 0)&&decide (b.items > a.items)) || (decide (o.2.2.1 > 0)&&decide (b.tombs > a.tombs)) || (decide (o.2.2.2 > 0)&&decide (b.bytes > a.bytes))),0):=by
 unfold qD;rw [meterMay_is,m,treeMay_is hs,g,qP,j];simp only [Option.bind_some,Bool.not_true,beq_self_eq_true,if_true,Bool.or_self,Bool.false_eq_true,if_false];rw [k,Option.bind_some];have hi:yi e.op.path (0:Int)=some c:=by rw [h];rfl
 rw [hi,Option.bind_some,l,Option.bind_some];simp only [xE,Option.bind_some];rw [i];simp only [Option.bind_some];rw [d];simp only [Option.bind_some];rw [zp (by decide)];have f:List.range (((4:Int)).toNat)=[0,1,2,3]:=rfl;rw [f];simp only [zk,if_true,Nat.zero_add,Nat.one_ne_zero,if_false,Nat.reduceAdd,show (2:Nat) ≠ 0 from by omega,show (2:Nat) ≠ 1 from by omega,show (3:Nat) ≠ 0 from by omega,show (3:Nat) ≠ 1 from by omega,show (3:Nat) ≠ 2 from by omega];generalize (decide (o.1 > 0)&&decide (b.leaves > a.leaves))=c1;generalize (decide (o.2.1 > 0)&&decide (b.items > a.items))=c2;generalize (decide (o.2.2.1 > 0)&&decide (b.tombs > a.tombs))=c3;generalize (decide (o.2.2.2 > 0)&&decide (b.bytes > a.bytes))=c4;cases c1 <;> cases c2 <;> cases c3 <;> cases c4 <;> rfl
theorem names_up {L:List GQuota} {t:List GNode} (hs:Small t) (c:treeB 0 t=true):(((t.map vU).filter (overB L)).map (·.name)).Pairwise λa b=>Op.bytesLess a b=true:=by
 refine List.Pairwise.map _ (λ_ _ h=>h) (List.Pairwise.filter _ ?_);rw [List.pairwise_map];refine List.Pairwise.imp_of_mem (λ{x y} e d h=>?_) ((vV t).1 (zx c).1);rw [(wZ hs c e).name,(wZ hs c d).name];exact h
theorem mem_names {L:List GQuota} {t:List GNode} (hs:Small t) (b:treeB 0 t=true) {s:zn}:s ∈ ((t.map vU).filter (overB L)).map (·.name) ↔ ∃x ∈ t,x.name=s/\overB L (vU x)=true:=by
 rw [List.mem_map];constructor
 ·rintro ⟨v,d,rfl⟩
  obtain ⟨e,c⟩:=List.mem_filter.1 d;obtain ⟨x,a,rfl⟩:=List.mem_map.1 e;exact ⟨x,a,(wZ hs b a).name.symm,c⟩
 ·rintro ⟨x,a,rfl,h⟩
  exact ⟨vU x,List.mem_filter.2 ⟨List.mem_map.2 ⟨x,a,rfl⟩,h⟩,(wZ hs b a).name⟩
theorem ovr_pos {u q:Int} (h:ovr u q ≠ 0):u - q > 0/\ovr u q > 0:=by
 unfold ovr at h ⊢;split at h <;> rename_i a
 ·rw [if_pos a];exact ⟨a,a⟩
 ·exact absurd rfl h
theorem ovr_ne {u q:Int} (h:u - q > 0):ovr u q ≠ 0:=by
 unfold ovr;rw [if_pos h];omega
end Go.Vv
namespace Go.Vv
open Go
theorem law45MeterKeeps_is {L:List GQuota} {t:List GNode} {e:GEvent} (K:∀q ∈ L,GQuota.wf q) (hs:Small t) (hb:GNode.bks t<=1048576) (hw:GEvent.wf e):wx L t e=some true:=by
 obtain ⟨g,hg⟩:=great45_tot (L:=L) hs e.op;unfold wx;rw [hg,Option.bind_some,meterMay_is,ref07May_is hs];cases g with
 | true=>simp [known45]
 | false =>
  cases hm:mayQ L with
  | false=>simp [known45]
  | true =>
   cases ht:treeB 0 t with
   | false=>simp [known45]
   | true =>
    simp only [Option.bind_some,Bool.not_true,beq_self_eq_true,if_true,Bool.or_self,Bool.false_eq_true,if_false];have hf:=fine_of hs ht hb;cases he:wa e with
    | false =>
     have:qD L t e=some (false,2):=by
      unfold qD;rw [meterMay_is,hm,treeMay_is hs,ht,qP,he];rfl
     rw [this,Option.bind_some];simp [known45]
    | true =>
     obtain ⟨u,l,b,W,a2,us,n,_,_,_,_,y⟩:=apply_is hf he hw;have d:=evOk he;obtain ⟨p1,_,_⟩:=vP d.path;obtain ⟨i,w,P⟩:∃i w,e.op.path=i::w:=by
      cases h:e.op.path with
      | nil=>exact absurd h p1
      | cons i w=>exact ⟨i,w,rfl⟩
     have v:∀{x:GNode},x ∈ u->x.name ≠ i->x ∈ t:=λo G=>node_same ht n (λr U=>by
      rw [y];constructor
      ·rintro (h | h)
       ·exact h.1
       ·exact absurd (by rw [h,P]) (U w)
      ·intro h;refine .inl ⟨h,λp=>?_⟩;have:r.path=e.op.path:=congrArg Prod.fst p;exact U w (by rw [this,P])) o G
     obtain ⟨q,E,S,C⟩:=over_is hm K i
     -- what the name took,and takes
     obtain ⟨A,hA,J,T,I⟩:∃A,wv t i=some A/\UseB A/\A.name=i/\((∃z ∈ t,z.name=i/\A=vU z) \/ (A.leaves=0/\A.items=0/\A.tombs=0/\A.bytes=0)):=by
      rcases of_is hs ht i with ⟨z,m,j,h⟩ | ⟨_,h⟩
      ·exact ⟨_,h,(wZ hs ht m).ub,(wZ hs ht m).name.trans j,.inl ⟨z,m,j,rfl⟩⟩
      ·exact ⟨_,h,⟨by simp,by simp,by simp,by simp⟩,rfl,.inr ⟨rfl,rfl,rfl,rfl⟩⟩
     obtain ⟨B,hB,R,M,O⟩:∃B,wv u i=some B/\UseB B/\B.name=i/\∀x ∈ u,x.name=i->vU x=B:=by
      rcases of_is us n i with ⟨z,m,j,h⟩ | ⟨h0,h⟩
      ·refine ⟨_,h,(wZ us n m).ub,(wZ us n m).name.trans j,λx o k=>?_⟩;rw [up_uniq (zx n).1 o m (k.trans j.symm)]
      ·exact ⟨_,h,⟨by simp,by simp,by simp,by simp⟩,rfl,λx o k=>absurd k (h0 x o)⟩
     have D:=C B M R;have F:=C A T J;rw [fits_is hm hs ht he W P hA hB D,Option.bind_some];generalize hc:((decide ((if E=true then (ovr B.leaves q.leaves,ovr B.items q.items,ovr B.tombs q.tombs,ovr B.bytes q.bytes) else ((0:Int),(0:Int),(0:Int),(0:Int))).1 > 0)&&decide (B.leaves > A.leaves)) || (decide ((if E=true then (ovr B.leaves q.leaves,ovr B.items q.items,ovr B.tombs q.tombs,ovr B.bytes q.bytes) else ((0:Int),(0:Int),(0:Int),(0:Int))).2.1 > 0)&&decide (B.items > A.items)) || (decide ((if E=true then (ovr B.leaves q.leaves,ovr B.items q.items,ovr B.tombs q.tombs,ovr B.bytes q.bytes) else ((0:Int),(0:Int),(0:Int),(0:Int))).2.2.1 > 0)&&decide (B.tombs > A.tombs)) || (decide ((if E=true then (ovr B.leaves q.leaves,ovr B.items q.items,ovr B.tombs q.tombs,ovr B.bytes q.bytes) else ((0:Int),(0:Int),(0:Int),(0:Int))).2.2.2 > 0)&&decide (B.bytes > A.bytes)))=c;cases c with
     | true=>simp [known45]
     | false =>
      simp only [Bool.not_false,Bool.not_true,Bool.false_eq_true,if_false];rw [meterOver_is hm K hs ht,Option.bind_some,a2,Option.bind_some];simp only [];rw [meterOver_is hm K us n,Option.bind_some];simp only [bne_self_eq_false,Bool.or_self,Bool.false_or];have V:((u.map vU).filter (overB L)).length<=((t.map vU).filter (overB L)).length:=by
       have h1:=sub_len (lt:=λa b:zn=>Op.bytesLess a b=true) (λx h=>by rw [q9] at h;cases h) _ (((t.map vU).filter (overB L)).map (·.name)) (names_up (L:=L) us n) λs Q=>by
        rw [mem_names hs ht];obtain ⟨x,o,k,f⟩:=(mem_names us n).1 Q;by_cases G:x.name=i
        ·-- the event's name
         have H:=O x o G;rw [H] at f;unfold overB at f;rw [D] at f;cases E with
         | false=>simp at f
         | true =>
          simp only [if_true] at f hc F;obtain ⟨k1,k2,k3,k4⟩:=S rfl;have m:∃z ∈ t,z.name=i/\A=vU z:=by
           rcases I with h | ⟨z1,z2,z3,z4⟩
           ·exact h
           ·exfalso;simp only [Bool.or_eq_false_iff,Bool.and_eq_false_iff,decide_eq_false_iff_not] at hc;obtain ⟨⟨⟨c1,c2⟩,c3⟩,c4⟩:=hc;simp only [bne_iff_ne,ne_eq,Option.some.injEq,Prod.mk.injEq,not_and] at f;have X:=λh=>ovr_pos (u:=B.leaves) (q:=q.leaves) h;have o2:=λh=>ovr_pos (u:=B.items) (q:=q.items) h;have o3:=λh=>ovr_pos (u:=B.tombs) (q:=q.tombs) h;have o4:=λh=>ovr_pos (u:=B.bytes) (q:=q.bytes) h;by_cases e1:ovr B.leaves q.leaves=0
            ·by_cases p:ovr B.items q.items=0
             ·by_cases e3:ovr B.tombs q.tombs=0
              ·have:=o4 (f e1 p e3);omega
              ·have:=o3 e3;omega
             ·have:=o2 p;omega
            ·have:=X e1;omega
          obtain ⟨z,m,j,N⟩:=m;refine ⟨z,m,j.trans (G.symm.trans k),?_⟩;rw [<- N];unfold overB;rw [F];simp only [Bool.or_eq_false_iff,Bool.and_eq_false_iff,decide_eq_false_iff_not] at hc;obtain ⟨⟨⟨c1,c2⟩,c3⟩,c4⟩:=hc;simp only [bne_iff_ne,ne_eq,Option.some.injEq,Prod.mk.injEq,not_and] at f ⊢;intro f1 Y f3 Z;have n1:¬ A.leaves - q.leaves > 0:=λh=>ovr_ne h f1;have n2:¬ A.items - q.items > 0:=λh=>ovr_ne h Y;have n3:¬ A.tombs - q.tombs > 0:=λh=>ovr_ne h f3;have n4:¬ A.bytes - q.bytes > 0:=λh=>ovr_ne h Z;by_cases e1:ovr B.leaves q.leaves=0
          ·by_cases p:ovr B.items q.items=0
           ·by_cases e3:ovr B.tombs q.tombs=0
            ·have:=ovr_pos (f e1 p e3);omega
            ·have:=ovr_pos e3;omega
           ·have:=ovr_pos p;omega
          ·have:=ovr_pos e1;omega
        ·exact ⟨x,v o G,k,f⟩
       simpa using h1
      have hd:(decide (((((u.map vU).filter (overB L))).length:Int) > ((((t.map vU).filter (overB L))).length:Int)))=false:=decide_eq_false (by omega);rw [hd];simp [known45]
theorem law45MeterKeeps_top (l:List GQuota) (t:List GNode) (e:GEvent) (c:l.length<=maxLen/\∀y ∈ l,GQuota.wf y) (b:t.length<=maxLen/\∀y ∈ t,GNode.wf y) (a:GEvent.wf e) (d:((l.map GQuota.bk).sum+1)+((t.map GNode.bk).sum+1)+GEvent.bk e<=1048576):wx l t e=some true:=by
 refine law45MeterKeeps_is c.2 (small_of b (by omega)) ?_ a;rw [GNode.bks_eq];omega
end Go.Vv
