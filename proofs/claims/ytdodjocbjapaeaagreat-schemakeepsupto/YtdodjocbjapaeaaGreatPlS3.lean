/- The program's put, and the document's Lay, are layer 31's lay. -/
import Derived.Test.YtdodjocbjapaeaaGreatPlS2
namespace Go.Vv
set_option linter.unusedVariables false
set_option linter.unusedSimpArgs false
open Go
set_option linter.unusedSimpArgs false
set_option linter.unusedVariables false
theorem bsf_loop {cmp:GLeaf→Int→Option Int} {x:List GLeaf} {s:Int} {c:Nat} (hx:x.length≤16777216) (h1:∀ i n,x[i]?=some n→∃ v,cmp n s=some v∧(i < c→v < 0)∧(c≤i→0≤v)) :
  ∀ (k lo hi:Nat),hi - lo≤k→lo≤c→c≤hi→hi≤x.length→wJ (ρ:=Int×Bool) (fun (s1:Int×Int)=>((if (decide (s1.1 < s1.2))=true then ((wK x (IntKind.wrap .i64 ((Int.fdiv (IntKind.wrap .u64 ((IntKind.wrap .i64 (s1.1+s1.2)))) (2 ^ (min (1:Int).toNat (IntKind.bits .u64))))))).bind fun y9=>((cmp y9 s).bind fun v10=>(if (decide (v10 < (0:Int)))=true then some (.nxt ((IntKind.wrap .i64 ((IntKind.wrap .i64 ((Int.fdiv (IntKind.wrap .u64 ((IntKind.wrap .i64 (s1.1+s1.2)))) (2 ^ (min (1:Int).toNat (IntKind.bits .u64))))))+(1:Int))),s1.2)) else some (.nxt (s1.1,(IntKind.wrap .i64 ((Int.fdiv (IntKind.wrap .u64 ((IntKind.wrap .i64 (s1.1+s1.2)))) (2 ^ (min (1:Int).toNat (IntKind.bits .u64))))))))))) else some (.brk (s1.1,s1.2))):Option (Out _ (Int×Int)))) ((lo:Int),(hi:Int))=some (.inr ((c:Int),(c:Int))):=by
 intro k
 induction k with
 | zero =>
  intro lo hi hk hl hc hh;obtain rfl:lo=hi:=by omega
  obtain rfl:lo=c:=by omega
  rw [vH];simp
 | succ k ih =>
  intro lo hi hk hl hc hh;rw [vH];by_cases hlt:lo < hi
  ·have hd:decide ((lo:Int) < (hi:Int))=true:=decide_eq_true (by omega);simp only [hd,if_true,half_mid hlt (by omega)];have hm:(lo+hi) / 2 < x.length:=by omega
   rw [idx_at hm,Option.bind_some];obtain ⟨v,hv,h2,h3⟩:=h1 ((lo+hi) / 2) _ (List.getElem?_eq_getElem hm);rw [hv,Option.bind_some];by_cases hcm:(lo+hi) / 2 < c
   ·rw [decide_eq_true (h2 hcm),if_pos rfl];simp only;have e:IntKind.wrap .i64 ((((lo+hi) / 2:Nat):Int)+1)=(((lo+hi) / 2+1:Nat):Int):=by rw [w64n (by omega)];omega
    rw [e];exact ih _ _ (by omega) (by omega) hc hh
   ·rw [decide_eq_false (by have:=h3 (by omega);omega)];simp only [Bool.false_eq_true,if_false];exact ih _ _ (by omega) hl (by omega) (by omega)
  ·obtain rfl:lo=hi:=by omega
   obtain rfl:lo=c:=by omega
   simp
theorem bsf_is {cmp:GLeaf→Int→Option Int} {x:List GLeaf} {s:Int} {c:Nat} (hx:x.length≤16777216) (hc:c≤x.length) (h1:∀ i n,x[i]?=some n→∃ v,cmp n s=some v∧(i < c→v < 0)∧(c≤i→0≤v)) :
  yN x s cmp=(if c < x.length then cmp (x.getD c default) s else some 1).bind fun v=>some ((c:Int),(decide (c < x.length)&&(v==0))):=by
 unfold yN;have:=bsf_loop hx h1 x.length 0 x.length (by omega) (Nat.zero_le _) hc (Nat.le_refl _);simp only [Int.natCast_zero] at this;rw [show ((0:Int),(x.length:Int))=(((0:Nat):Int),(x.length:Int)) from rfl] at *;rw [this];simp only [lp];by_cases h:c < x.length
 ·have hd:decide ((c:Int) < (x.length:Int))=true:=decide_eq_true (by omega);simp only [hd,h,if_true,Int.toNat_natCast,beq_self_eq_true,decide_true,Bool.true_and];rw [yc (by intro _;omega)]
 ·have hd:decide ((c:Int) < (x.length:Int))=false:=decide_eq_false (by omega);simp only [hd,h,if_false,decide_false,Bool.false_and,Option.bind_some];rw [yc (by intro hh;cases hh)];simp

theorem putC_is (x:GLeaf) (k:Int):treeXputC1 x k=some (cmpI x.typ k):=by unfold treeXputC1;rw [cmpU8is];rfl
theorem cmpI_neg {a b:Int}:cmpI a b < 0 ↔ a < b:=by unfold cmpI;split <;> (try split) <;> omega
theorem cmpI_zero {a b:Int}:cmpI a b=0 ↔ a=b:=by unfold cmpI;split <;> (try split) <;> omega
theorem split_typ {ls:List GLeaf} (k:Int) (h:ls.Pairwise fun x y=>x.typ < y.typ):(∃ A B,ls=A++B∧(∀ y ∈ A,y.typ < k)∧∀ y ∈ B,k < y.typ) ∨ ∃ A x B,ls=A++x::B∧x.typ=k∧(∀ y ∈ A,y.typ < k)∧∀ y ∈ B,k < y.typ:=by
 induction ls with
 | nil=>exact .inl ⟨[],[],rfl,fun _ h=>by simp at h,fun _ h=>by simp at h⟩
 | cons x t ih =>
  obtain ⟨h1,h2⟩:=List.pairwise_cons.1 h;rcases Int.lt_trichotomy x.typ k with e | e | e
  ·rcases ih h2 with ⟨A,B,rfl,ha,hb⟩ | ⟨A,z,B,rfl,hz,ha,hb⟩
   ·refine .inl ⟨x::A,B,rfl,fun y hy=>?_,hb⟩;rcases List.mem_cons.1 hy with rfl | hy
    ·exact e
    ·exact ha y hy
   ·refine .inr ⟨x::A,z,B,rfl,hz,fun y hy=>?_,hb⟩;rcases List.mem_cons.1 hy with rfl | hy
    ·exact e
    ·exact ha y hy
  ·exact .inr ⟨[],x,t,rfl,e,fun _ h=>by simp at h,fun y hy=>by rw [← e];exact h1 y hy⟩
  ·refine .inl ⟨[],x::t,rfl,fun _ h=>by simp at h,fun y hy=>?_⟩;rcases List.mem_cons.1 hy with rfl | hy
   ·exact e
   ·exact Int.lt_trans e (h1 y hy)
theorem layLs_none {l:GLeaf} {A B:List GLeaf} (ha:∀ y ∈ A,y.typ < l.typ) (hb:∀ y ∈ B,l.typ < y.typ):layLs l.typ l true (A++B)=A++l::B:=by
 unfold layLs;rw [if_pos rfl,List.filter_append,List.filter_append];rw [List.filter_eq_self.2 (fun y hy=>decide_eq_true (ha y hy)),List.filter_eq_nil_iff.2 (fun y hy=>by have:=hb y hy;simp;omega),
  List.filter_eq_nil_iff.2 (fun y hy=>by have:=ha y hy;simp;omega),List.filter_eq_self.2 (fun y hy=>decide_eq_true (hb y hy))]
 simp
theorem layLs_some {l x:GLeaf} {A B:List GLeaf} (hx:x.typ=l.typ) (ha:∀ y ∈ A,y.typ < l.typ) (hb:∀ y ∈ B,l.typ < y.typ):layLs l.typ l true (A++x::B)=A++l::B:=by
 unfold layLs;rw [if_pos rfl,List.filter_append,List.filter_append,List.filter_cons,List.filter_cons];rw [if_neg (by simp;omega),if_neg (by simp;omega)];rw [List.filter_eq_self.2 (fun y hy=>decide_eq_true (ha y hy)),List.filter_eq_nil_iff.2 (fun y hy=>by have:=hb y hy;simp;omega),
  List.filter_eq_nil_iff.2 (fun y hy=>by have:=ha y hy;simp;omega),List.filter_eq_self.2 (fun y hy=>decide_eq_true (hb y hy))]
 simp
theorem bsf_none {A B:List GLeaf} {k:Int} (hx:(A++B).length≤16777216) (ha:∀ y ∈ A,y.typ < k) (hb:∀ y ∈ B,k < y.typ):yN (A++B) k (fun x0 x1=>treeXputC1 x0 x1)=some ((A.length:Int),false):=by
 rw [bsf_is (c:=A.length) hx (by simp) fun i m hi=>⟨_,putC_is m k,fun hc=>by
   rw [List.getElem?_append_left hc] at hi;exact cmpI_neg.2 (ha m (List.mem_of_getElem? hi)),fun hc=>by
   rw [List.getElem?_append_right hc] at hi;have:=hb m (List.mem_of_getElem? hi);have h2:¬ cmpI m.typ k < 0:=fun h=>by rw [cmpI_neg] at h;omega
   omega⟩]
 cases B with
 | nil=>simp
 | cons y B =>
  have e:(A++y::B).getD A.length default=y:=by simp
  have:=hb y (by simp);rw [if_pos (by simp),e,putC_is];have e2:(cmpI y.typ k==0)=false:=by
   rw [beq_eq_false_iff_ne,Ne,cmpI_zero];omega
  simp [e2]
theorem bsf_some {A B:List GLeaf} {x:GLeaf} {k:Int} (hx:(A++x::B).length≤16777216) (hs:x.typ=k) (ha:∀ y ∈ A,y.typ < k) (hb:∀ y ∈ B,k < y.typ):yN (A++x::B) k (fun x0 x1=>treeXputC1 x0 x1)=some ((A.length:Int),true):=by
 rw [bsf_is (c:=A.length) hx (by simp) fun i m hi=>⟨_,putC_is m k,fun hc=>by
   rw [List.getElem?_append_left hc] at hi;exact cmpI_neg.2 (ha m (List.mem_of_getElem? hi)),fun hc=>by
   rw [List.getElem?_append_right hc] at hi;have h3:¬ m.typ < k:=by
    rcases List.mem_cons.1 (List.mem_of_getElem? hi) with rfl | hm
    ·omega
    ·have:=hb m hm;omega
   have h2:¬ cmpI m.typ k < 0:=fun h=>by rw [cmpI_neg] at h;omega
   omega⟩]
 have e:(A++x::B).getD A.length default=x:=by simp
 rw [if_pos (by simp),e,putC_is,cmpI_zero.2 hs];simp
theorem insO_at {α:Type} {A B:List α} (x:α) (h:(A++B).length≤16777216):insO (A++B) (A.length:Int) [x]=some (A++x::B):=by
 unfold insO;rw [if_pos ⟨⟨by omega,by simp;omega⟩,by simp,vp (by simp at h ⊢;omega)⟩];simp
noncomputable def putX (n:Nat) (p:List zY) (l2:GLeaf) (y7:GNode) (v6:List GNode) (i:Int):Option (List GNode) :=
 (if (decide (((p).length:Int) > (1:Int)))=true then ((slc p (1:Int) ((p).length:Int)).bind fun m10=>((qn n y7.subs m10 l2).bind fun v11=>((wK v6 i).bind fun y12=>some (v6.set i.toNat (GNode.mk y7.name y7.leaves v11))))) else ((vJ y7.leaves).bind fun v13=>((yN v13 l2.typ (fun x0 x1=>treeXputC1 x0 x1)).bind fun v14=>(if (!v14.2)=true then ((insO v13 v14.1 ([l2]:List GLeaf)).bind fun v16=>((wK v16 v14.1).bind fun y17=>((wK v6 i).bind fun y18=>some (v6.set i.toNat (GNode.mk y7.name (v16.set v14.1.toNat l2) y7.subs))))) else ((wK v13 v14.1).bind fun y19=>((wK v6 i).bind fun y20=>some (v6.set i.toNat (GNode.mk y7.name (v13.set v14.1.toNat l2) y7.subs))))))))
theorem putN_eq (n:Nat) (t0:List GNode) (path1:List zY) (l2:GLeaf):qn (n+1) t0 path1 l2=((wg t0).bind fun v1=>((wK path1 (0:Int)).bind fun y2=>((treeXfind v1 y2).bind fun v3=>(if (!v3.2)=true then ((wK path1 (0:Int)).bind fun y5=>((insO v1 v3.1 ([(GNode.mk y5 ([]:List GLeaf) ([]:List GNode))]:List GNode)).bind fun v6=>((wK v6 v3.1).bind fun y7=>putX n path1 l2 y7 v6 v3.1))) else ((wK v1 v3.1).bind fun y21=>putX n path1 l2 y21 v1 v3.1))))):=rfl
theorem putX_leaf {n:Nat} {s:zY} {l:GLeaf} {A B:List GNode} {x:GNode} (hl:x.leaves.length≤16777215) (h:x.leaves.Pairwise fun x y=>x.typ < y.typ):putX n [s] l x (A++x::B) (A.length:Int)=some (A++⟨x.name,layLs l.typ l true x.leaves,x.subs⟩::B):=by
 unfold putX;have d1:decide (((([s]:List zY).length:Int)) > 1)=false:=rfl;have i1:wK (A++x::B) (A.length:Int)=some x:=yI (by simp);simp only [d1,Bool.false_eq_true,if_false];rw [cloneLeaf_is (vp (by omega)),Option.bind_some];rcases split_typ l.typ h with ⟨C,D,e,hc,hd⟩ | ⟨C,z,D,e,hz,hc,hd⟩
 ·rw [e,bsf_none (by rw [← e];omega) hc hd,Option.bind_some];simp only [Bool.not_false,if_true];rw [insO_at _ (by rw [← e];omega),Option.bind_some,yI (x:=l) (by simp),Option.bind_some,i1,Option.bind_some,layLs_none hc hd];simp
 ·rw [e,bsf_some (by rw [← e];omega) hz hc hd,Option.bind_some];simp only [Bool.not_true,Bool.false_eq_true,if_false];rw [yI (x:=z) (by simp),Option.bind_some,i1,Option.bind_some,layLs_some hz hc hd];simp
theorem putX_sub {n:Nat} {s a:zY} {r:List zY} {l:GLeaf} {A B:List GNode} {x:GNode} {sb':List GNode} (hr:(s::a::r).length≤16777216) (h:qn n x.subs (a::r) l=some sb'):putX n (s::a::r) l x (A++x::B) (A.length:Int)=some (A++⟨x.name,x.leaves,sb'⟩::B):=by
 unfold putX;have e1:decide ((((s::a::r).length:Int)) > 1)=true:=decide_eq_true (by simp only [List.length_cons];omega);have i1:wK (A++x::B) (A.length:Int)=some x:=yI (by simp);simp only [e1,if_true];rw [slc_at ⟨by omega,by simp only [List.length_cons];omega,Int.le_refl _⟩,Option.bind_some];have e2:((s::a::r).take (((s::a::r).length:Int)).toNat).drop (1:Int).toNat=a::r:=by rw [Int.toNat_natCast,List.take_length];rfl
 rw [e2,h,Option.bind_some,i1,Option.bind_some];simp
theorem find_eq (t:List GNode) (s:zY):treeXfind t s=(zV t s (fun x0 x1=>vD x0 x1)).bind fun v1=>some (v1.1,v1.2):=rfl
end Go.Vv
namespace Go.Vv
open Go
set_option linter.unusedSimpArgs false
set_option linter.unusedVariables false
theorem layLs_len {k:Int} {l:GLeaf} {there:Bool} {ls:List GLeaf}:(layLs k l there ls).length≤ls.length+1:=by
 unfold layLs;split
 ·have h1:=List.filter_append_perm (fun x:GLeaf=>decide (x.typ < k)) ls;have h2:=h1.length_eq;have h3:(ls.filter fun x=>decide (k < x.typ)).length≤(ls.filter fun x=>!decide (x.typ < k)).length:=by
   have:(ls.filter fun x=>decide (k < x.typ))=(ls.filter fun x=>!decide (x.typ < k)).filter (fun x=>decide (k < x.typ)):=by
    rw [List.filter_filter];refine List.filter_congr fun x _=>?_;rw [Bool.eq_iff_iff];simp;omega
   rw [this];exact List.length_filter_le _ _
  simp only [List.length_append,List.length_cons,List.length_nil] at h2 ⊢;omega
 ·exact Nat.le_succ_of_le (List.length_filter_le _ _)
theorem lay_leaf {n:Nat} {s:zY} {l:GLeaf} {A m B:List GNode} {ls:List GLeaf} {sb:List GNode} {f:Bool} (ho:LeafOk l) (hm:m.length=if f=true then 1 else 0) (hbs:zV (A++m++B) s (fun x0 x1=>vD x0 x1)=some ((A.length:Int),f))
  (hst:((if f=true then ((wK (A++m++B) (A.length:Int)).bind fun y7=>some (.inr (y7.name,y7.leaves,y7.subs))) else some (.inr (s,([]:List GLeaf),([]:List GNode)))):Option (List GNode ⊕ (zY×(List GLeaf)×(List GNode))))=some (.inr (s,ls,sb)))
  (ht:(A++m++B).length≤16777216) (h1:ls.length≤16777215) (h2:sb.length≤16777217) (hup:ls.Pairwise fun x y=>x.typ < y.typ) :
  vF (n+1) (A++m++B) [s] l.typ l true=some (A++fitN s (layLs l.typ l true ls) sb++B):=by
 have hix:wK [s] (0:Int)=some s:=rfl;have:=layLs_len (k:=l.typ) (l:=l) (there:=true) (ls:=ls);rw [layN_eq,hix,Option.bind_some,hbs,Option.bind_some,Option.bind_some];simp only [];rw [hst,vX,layIn_leaf (fun _=>⟨rfl,ho⟩) (by omega) hup,vX,layRest_is hm (by omega) (by omega) (by omega)]
theorem lay_sub {n:Nat} {s a:zY} {r:List zY} {k:Int} {l:GLeaf} {there:Bool} {A m B:List GNode} {ls:List GLeaf} {sb sb':List GNode} {f:Bool} (hm:m.length=if f=true then 1 else 0) (hbs:zV (A++m++B) s (fun x0 x1=>vD x0 x1)=some ((A.length:Int),f))
  (hst:((if f=true then ((wK (A++m++B) (A.length:Int)).bind fun y7=>some (.inr (y7.name,y7.leaves,y7.subs))) else some (.inr (s,([]:List GLeaf),([]:List GNode)))):Option (List GNode ⊕ (zY×(List GLeaf)×(List GNode))))=some (.inr (s,ls,sb)))
  (ht:(A++m++B).length≤16777216) (h1:ls.length≤16777215) (h2:sb'.length≤16777217) (hr:(s::a::r).length≤16777216) (h:vF n sb (a::r) k l there=some sb') :
  vF (n+1) (A++m++B) (s::a::r) k l there=some (A++fitN s ls sb'++B):=by
 have hix:wK (s::a::r) (0:Int)=some s:=rfl;rw [layN_eq,hix,Option.bind_some,hbs,Option.bind_some,Option.bind_some];simp only [];rw [hst,vX,layIn_sub hr h,vX,layRest_is hm (by omega) (by omega) (by omega)]
theorem fit_one {nm:zY} {ls:List GLeaf} {sb:List GNode} (h:ls ≠ [] ∨ sb ≠ []):fitN nm ls sb=[⟨nm,ls,sb⟩]:=by
 unfold fitN;rw [if_neg];rcases h with h | h
 ·have:=List.length_pos_iff.2 h;omega
 ·have:=List.length_pos_iff.2 h;omega
theorem layLs_ne {l:GLeaf} {ls:List GLeaf}:layLs l.typ l true ls ≠ []:=List.ne_nil_of_mem (layLs_mem.2 (.inr ⟨rfl,rfl⟩))
theorem put_lay {l:GLeaf} (hb:leafB l=true) (ho:LeafOk l):∀ (p:List zY) (t:List GNode) (d n:Nat),p ≠ []→p.all nameB=true→d+p.length≤3→treeB d t=true→(ya [] t).length≤16777214→p.length < n →
  qn n t p l=vF n t p l.typ l true
 | [],_,_,_,h,_,_,_,_,_=>absurd rfl h
 | _::_,_,_,0,_,_,_,_,_,h=>by omega
 | s::q,t,d,n+1,_,hp,hd,ht,hw,hn=>by
  simp only [List.all_cons,Bool.and_eq_true,List.length_cons] at hp hd hn;obtain ⟨h1,h2⟩:=xe ht;have hl3:t.length≤16777214:=Nat.le_trans (node_row _ d (by rw [vC];exact List.all_eq_true.2 h2)) hw;have hix:wK (s::q) (0:Int)=some s:=rfl
  -- what is below
  have below:∀ (sb:List GNode) (c:zY) (q':List zY),q=c::q'→treeB (d+1) sb=true→(ya [] sb).length≤16777214→∃ sb',qn n sb q l=some sb'∧vF n sb q l.typ l true=some sb'∧sb' ≠ []∧sb'.length≤16777215:=by
   intro sb c q' hq hsb hw2;subst hq;obtain ⟨sb',e1,e2,e3,e4⟩:=lay_is (k:=l.typ) (l:=l) (there:=true) (fun _=>⟨rfl,hb,ho⟩) (c::q') sb (d+1) n (by simp) hp.2 (by simp only [List.length_cons] at hd ⊢;omega) hsb (by omega) (by omega);have hsl:=node_row sb (d+1) (by rw [vC];exact List.all_eq_true.2 (xe hsb).2);refine ⟨sb',?_,e1,?_,by omega⟩
   ·rw [← e1];exact put_lay hb ho (c::q') sb (d+1) n (by simp) hp.2 (by simp only [List.length_cons] at hd ⊢;omega) hsb hw2 (by omega)
   ·intro e;have:=(e4 [] ⟨[]++(c::q'),l⟩).2 (.inr ⟨rfl,rfl⟩);rw [e] at this;simp [ya] at this
  rcases split_up s h1 with ⟨A,B,e,ha,hb2⟩ | ⟨A,x,B,e,hx,ha,hb2⟩
  ·have hAB:(A++B).length≤16777214:=by rw [← e];exact hl3
   have hbs:=bs_none (by omega) ha hb2;have hbs2:zV (A++[]++B) s (fun x0 x1=>vD x0 x1)=some ((A.length:Int),false):=by rw [List.append_nil];exact hbs
   have e0:A++B=A++[]++B:=by simp
   have L:qn (n+1) t (s::q) l=putX n (s::q) l ⟨s,[],[]⟩ (A++⟨s,[],[]⟩::B) (A.length:Int):=by
    rw [putN_eq,cloneNode_is (vp (by omega)),Option.bind_some,hix,Option.bind_some,find_eq,e,hbs,Option.bind_some,Option.bind_some];simp only [Bool.not_false,if_true,Option.bind_some];rw [insO_at _ (by omega),Option.bind_some,yI (x:=⟨s,[],[]⟩) (by simp),Option.bind_some]
   rw [L];cases hq:q with
   | nil =>
    rw [putX_leaf (x:=⟨s,[],[]⟩) (by simp) (by simp),e,e0,lay_leaf (ls:=[]) (sb:=[]) ho (by simp) hbs2 rfl (by rw [← e0];omega) (by simp) (by simp) (by simp),fit_one (.inl layLs_ne)];simp
   | cons c q' =>
    obtain ⟨sb',b1,b2,b3,b4⟩:=below [] c q' hq (tree_nil _) (by simp [ya]);rw [hq] at b1 b2;rw [putX_sub (x:=⟨s,[],[]⟩) (by rw [hq] at hd;simp only [List.length_cons] at hd ⊢;omega) b1,e,e0,lay_sub (ls:=[]) (sb:=[]) (f:=false) (by simp) hbs2 rfl (by rw [← e0];omega) (by simp) (by omega) (by rw [hq] at hd;simp only [List.length_cons] at hd ⊢;omega) b2,fit_one (.inr b3)];simp
  ·have hAB:(A++x::B).length≤16777214:=by rw [← e];exact hl3
   have hbs:=bs_some (by omega) hx ha hb2;have hbs2:zV (A++[x]++B) s (fun x0 x1=>vD x0 x1)=some ((A.length:Int),true):=by rw [List.append_assoc];exact hbs
   have e0:A++x::B=A++[x]++B:=by simp
   have hxt:x ∈ t:=by rw [e];simp
   obtain ⟨n1,n2,n3⟩:=qL (h2 x hxt);have hml:=mem_rows_len hxt;have hsl:=node_row x.subs (d+1) (by rw [vC];exact List.all_eq_true.2 (xe n2).2);have hst:((if true=true then ((wK (A++[x]++B) (A.length:Int)).bind fun y7=>some (.inr (y7.name,y7.leaves,y7.subs))) else some (.inr (s,([]:List GLeaf),([]:List GNode)))):Option (List GNode ⊕ (zY×(List GLeaf)×(List GNode))))=some (.inr (s,x.leaves,x.subs)):=by
    rw [if_pos rfl,yI (x:=x) (by simp),Option.bind_some,hx]
   have L:qn (n+1) t (s::q) l=putX n (s::q) l x (A++x::B) (A.length:Int):=by
    rw [putN_eq,cloneNode_is (vp (by omega)),Option.bind_some,hix,Option.bind_some,find_eq,e,hbs,Option.bind_some,Option.bind_some];simp only [Bool.not_true,Bool.false_eq_true,if_false];rw [yI (x:=x) (by simp),Option.bind_some]
   rw [L];cases hq:q with
   | nil =>
    rw [putX_leaf (x:=x) (by omega) (leaves_up n3).1,e,e0,lay_leaf (ls:=x.leaves) (sb:=x.subs) ho (by simp) hbs2 hst (by rw [← e0];omega) (by omega) (by omega) (leaves_up n3).1,fit_one (.inl layLs_ne),hx];simp
   | cons c q' =>
    obtain ⟨sb',b1,b2,b3,b4⟩:=below x.subs c q' hq n2 (by omega);rw [hq] at b1 b2;rw [putX_sub (x:=x) (by rw [hq] at hd;simp only [List.length_cons] at hd ⊢;omega) b1,e,e0,lay_sub (ls:=x.leaves) (sb:=x.subs) (f:=true) (by simp) hbs2 hst (by rw [← e0];omega) (by omega) (by omega) (by rw [hq] at hd;simp only [List.length_cons] at hd ⊢;omega) b2,fit_one (.inr b3),hx];simp
end Go.Vv
namespace Go.Vv
open Go
set_option linter.unusedSimpArgs false
set_option linter.unusedVariables false
noncomputable def l7A (t0:List GNode) (path1:List zY):(List GNode)×Int→Option (Out (List GNode) ((List GNode)×Int)):=(fun (s1:(List GNode)×Int)=>((wR (((decide (s1.2 < ((t0).length:Int)))==true)=true→0≤s1.2∧s1.2 < ((t0).length:Int)) ((wR (((decide (s1.2 < ((t0).length:Int)))==true)=true→0≤(0:Int)∧(0:Int) < ((path1).length:Int)) ((if ((decide (s1.2 < ((t0).length:Int)))&&(Op.bytesLess (((t0).getD s1.2.toNat default).name) ((path1).getD (0:Int).toNat default)))=true then ((wK t0 s1.2).bind fun y22=>(wR ((s1.1).length+(([y22]:List GNode)).length≤vz) (some (.nxt ((s1.1++([y22]:List GNode)),(IntKind.wrap .i64 (s1.2+(1:Int)))))))) else some (.brk (s1.1,s1.2))))))):Option (Out _ ((List GNode)×Int))))
noncomputable def l7B (ls:List GLeaf) (l2:GLeaf):(List GLeaf)×Int→Option (Out (List GNode) ((List GLeaf)×Int)):=(fun (sd62:(List GLeaf)×Int)=>((wR (((decide (sd62.2 < ((ls).length:Int)))==true)=true→0≤sd62.2∧sd62.2 < ((ls).length:Int)) ((if ((decide (sd62.2 < ((ls).length:Int)))&&(decide (((ls).getD sd62.2.toNat default).typ < l2.typ)))=true then ((wK ls sd62.2).bind fun y66=>(wR ((sd62.1).length+(([y66]:List GLeaf)).length≤vz) (some (.nxt ((sd62.1++([y66]:List GLeaf)),(IntKind.wrap .i64 (sd62.2+(1:Int)))))))) else some (.brk (sd62.1,sd62.2))))):Option (Out _ ((List GLeaf)×Int))))
theorem l7A_is {t:List GNode} {s:zY} {q:List zY} (ht:t.length≤16777216) (a b:List GNode) (e:t=a++b) (ha:∀ y ∈ a,Op.bytesLess y.name s=true) (hb:∀ y r,b=y::r→Op.bytesLess y.name s=false) :
  ∀ (k i:Nat),a.length - i≤k→i≤a.length→wJ (l7A t (s::q)) (a.take i,(i:Int))=some (.inr (a,(a.length:Int))):=by
 have hl:t.length=a.length+b.length:=by rw [e];simp
 intro k
 induction k with
 | zero =>
  intro i hk hi;obtain rfl:i=a.length:=by omega
  rw [vH];have:l7A t (s::q) (a.take a.length,(a.length:Int))=some (.brk (a,(a.length:Int))):=by
   unfold l7A;simp only [List.take_length];rw [yc (by intro h;simp at h;omega),yc (by intro h;simp)];cases hbb:b with
   | nil =>
    rw [hbb] at hl;rw [decide_eq_false (by simp at hl;omega)];rfl
   | cons y r =>
    have hy:t.getD a.length default=y:=by rw [e,hbb];simp
    have:=hb y r hbb;simp only [Int.toNat_natCast,hy];have e2:(s::q).getD (0:Int).toNat default=s:=rfl;rw [e2,this,Bool.and_false];rfl
  rw [this]
 | succ k ih =>
  intro i hk hi;rcases Nat.lt_or_ge i a.length with h | h
  ·rw [vH];have hy:t[i]?=some a[i]:=by rw [e,List.getElem?_append_left h,List.getElem?_eq_getElem h]
   have hd:t.getD i default=a[i]:=by rw [List.getD_eq_getElem?_getD,hy];rfl
   have:l7A t (s::q) (a.take i,(i:Int))=some (.nxt (a.take (i+1),((i+1:Nat):Int))):=by
    unfold l7A;simp only;rw [yc (by intro h;simp at h;omega),yc (by intro h;simp)];have e2:(s::q).getD (0:Int).toNat default=s:=rfl;have e3:IntKind.wrap .i64 ((i:Int)+1)=((i+1:Nat):Int):=by rw [w64n (by omega)];omega
    rw [Int.toNat_natCast,hd,e2,ha _ (List.getElem_mem h),decide_eq_true (by omega:(i:Int) < (t.length:Int)),Bool.and_self,if_pos rfl,yI hy,Option.bind_some,yc (vp (by simp;omega)),e3];rw [List.take_succ_eq_append_getElem h]
   rw [this];exact ih (i+1) (by omega) h
  ·exact ih i (by omega) hi

theorem l7B_at {ls:List GLeaf} {l:GLeaf} (hl:ls.length≤16777216) (a b:List GLeaf) (e:ls=a++b) (ha:∀ y ∈ a,y.typ < l.typ) (hb:∀ y r,b=y::r→¬ y.typ < l.typ) :
  ∀ (k i:Nat),a.length - i≤k→i≤a.length→wJ (l7B ls l) (a.take i,(i:Int))=some (.inr (a,(a.length:Int))):=by
 have hlb:ls.length=a.length+b.length:=by rw [e];simp
 intro k
 induction k with
 | zero =>
  intro i hk hi;obtain rfl:i=a.length:=by omega
  rw [vH];have:l7B ls l (a.take a.length,(a.length:Int))=some (.brk (a,(a.length:Int))):=by
   unfold l7B;simp only [List.take_length];rw [yc (by intro h;simp at h;omega)];cases hbb:b with
   | nil =>
    rw [hbb] at hlb;rw [decide_eq_false (by simp at hlb;omega)];rfl
   | cons y r =>
    have hy:ls.getD a.length default=y:=by rw [e,hbb];simp
    have:=hb y r hbb;simp only [Int.toNat_natCast,hy];rw [decide_eq_false this,Bool.and_false];rfl
  rw [this]
 | succ k ih =>
  intro i hk hi;rcases Nat.lt_or_ge i a.length with h | h
  ·rw [vH];have hy:ls[i]?=some a[i]:=by rw [e,List.getElem?_append_left h,List.getElem?_eq_getElem h]
   have hd:ls.getD i default=a[i]:=by rw [List.getD_eq_getElem?_getD,hy];rfl
   have:l7B ls l (a.take i,(i:Int))=some (.nxt (a.take (i+1),((i+1:Nat):Int))):=by
    unfold l7B;simp only;have e3:IntKind.wrap .i64 ((i:Int)+1)=((i+1:Nat):Int):=by rw [w64n (by omega)];omega
    rw [yc (by intro h;simp at h;omega),Int.toNat_natCast,hd,decide_eq_true (ha _ (List.getElem_mem h)),decide_eq_true (by omega:(i:Int) < (ls.length:Int)),Bool.and_self,if_pos rfl,yI hy,Option.bind_some,yc (vp (by simp;omega)),e3];rw [List.take_succ_eq_append_getElem h]
   rw [this];exact ih (i+1) (by omega) h
  ·exact ih i (by omega) hi
end Go.Vv
namespace Go.Vv
open Go
set_option linter.unusedSimpArgs false
set_option linter.unusedVariables false
noncomputable def l7R (n:Nat) (t0:List GNode) (path1:List zY) (l2:GLeaf) (A:List GNode) (sd30:Int×zY×(List GLeaf)×(List GNode)):Option (List GNode):=(if (decide (((path1).length:Int) > (1:Int)))=true then ((slc path1 (1:Int) ((path1).length:Int)).bind fun m38=>((qD n sd30.2.2.2 m38 l2).bind fun v39=>(wR ((A).length+(([(GNode.mk sd30.2.1 sd30.2.2.1 v39)]:List GNode)).length≤vz) (((slc t0 sd30.1 ((t0).length:Int)).bind fun m41=>(wR (((A++([(GNode.mk sd30.2.1 sd30.2.2.1 v39)]:List GNode))).length+(m41).length≤vz) (some ((A++([(GNode.mk sd30.2.1 sd30.2.2.1 v39)]:List GNode))++m41)))))))) else (lp (wJ (l7B sd30.2.2.1 l2) (([]:List GLeaf),(0:Int))) fun (sd62:(List GLeaf)×Int)=>(wR (((decide (sd62.2 < ((sd30.2.2.1).length:Int)))==true)=true→0≤sd62.2∧sd62.2 < ((sd30.2.2.1).length:Int)) ((if ((decide (sd62.2 < ((sd30.2.2.1).length:Int)))&&(((sd30.2.2.1).getD sd62.2.toNat default).typ==l2.typ))=true then (wR ((sd62.1).length+(([l2]:List GLeaf)).length≤vz) (((slc sd30.2.2.1 (IntKind.wrap .i64 (sd62.2+(1:Int))) ((sd30.2.2.1).length:Int)).bind fun m72=>(wR (((sd62.1++([l2]:List GLeaf))).length+(m72).length≤vz) ((wR ((A).length+(([(GNode.mk sd30.2.1 ((sd62.1++([l2]:List GLeaf))++m72) sd30.2.2.2)]:List GNode)).length≤vz) (((slc t0 sd30.1 ((t0).length:Int)).bind fun m75=>(wR (((A++([(GNode.mk sd30.2.1 ((sd62.1++([l2]:List GLeaf))++m72) sd30.2.2.2)]:List GNode))).length+(m75).length≤vz) (some ((A++([(GNode.mk sd30.2.1 ((sd62.1++([l2]:List GLeaf))++m72) sd30.2.2.2)]:List GNode))++m75))))))))))) else (wR ((sd62.1).length+(([l2]:List GLeaf)).length≤vz) (((slc sd30.2.2.1 sd62.2 ((sd30.2.2.1).length:Int)).bind fun m78=>(wR (((sd62.1++([l2]:List GLeaf))).length+(m78).length≤vz) ((wR ((A).length+(([(GNode.mk sd30.2.1 ((sd62.1++([l2]:List GLeaf))++m78) sd30.2.2.2)]:List GNode)).length≤vz) (((slc t0 sd30.1 ((t0).length:Int)).bind fun m81=>(wR (((A++([(GNode.mk sd30.2.1 ((sd62.1++([l2]:List GLeaf))++m78) sd30.2.2.2)]:List GNode))).length+(m81).length≤vz) (some ((A++([(GNode.mk sd30.2.1 ((sd62.1++([l2]:List GLeaf))++m78) sd30.2.2.2)]:List GNode))++m81))))))))))))))))
theorem lay7_eq2 (n:Nat) (t0:List GNode) (path1:List zY) (l2:GLeaf):qD (n+1) t0 path1 l2=(lp (wJ (l7A t0 path1) (([]:List GNode),(0:Int))) fun (s1:(List GNode)×Int)=>((wK path1 (0:Int)).bind fun y24=>(lp ((wR (((decide (s1.2 < ((t0).length:Int)))==true)=true→0≤s1.2∧s1.2 < ((t0).length:Int)) ((wR (((decide (s1.2 < ((t0).length:Int)))==true)=true→0≤(0:Int)∧(0:Int) < ((path1).length:Int)) ((if ((decide (s1.2 < ((t0).length:Int)))&&(((t0).getD s1.2.toNat default).name==((path1).getD (0:Int).toNat default)))=true then ((wK t0 s1.2).bind fun y35=>some (.inr ((IntKind.wrap .i64 (s1.2+(1:Int))),y35.name,y35.leaves,y35.subs))) else some (.inr (s1.2,y24,([]:List GLeaf),([]:List GNode)))))))):Option (_ ⊕ (Int×zY×(List GLeaf)×(List GNode)))) fun sd30=>l7R n t0 path1 l2 s1.1 sd30))):=rfl

theorem take_drop_len {α:Type} (L:List α) (i:Nat):((L.take ((L.length:Int)).toNat).drop ((i:Int)).toNat)=L.drop i:=by simp
theorem l7R_sub {n:Nat} {t A:List GNode} {s a:zY} {r:List zY} {l:GLeaf} {i:Nat} {nm:zY} {ls:List GLeaf} {sb u:List GNode} (hi:i≤t.length) (ht:t.length≤16777215) (hA:A.length≤8388608) (ht2:t.length≤8388607) (hq:(s::a::r).length≤16777216) (h:qD n sb (a::r) l=some u) :
  l7R n t (s::a::r) l A ((i:Int),nm,ls,sb)=some (A++[⟨nm,ls,u⟩]++t.drop i):=by
 unfold l7R;have d1:decide ((((s::a::r).length:Int)) > 1)=true:=decide_eq_true (by simp only [List.length_cons];omega);simp only [d1,if_true];rw [slc_at ⟨by omega,by simp only [List.length_cons];omega,Int.le_refl _⟩,Option.bind_some];have e2:((s::a::r).take (((s::a::r).length:Int)).toNat).drop (1:Int).toNat=a::r:=by rw [Int.toNat_natCast,List.take_length];rfl
 rw [e2,h,Option.bind_some,yc (vp (by simp;omega)),slc_at ⟨by omega,by omega,Int.le_refl _⟩,Option.bind_some,take_drop_len,yc (vp (by simp;omega))]
theorem l7R_leaf {n:Nat} {t A:List GNode} {s:zY} {l:GLeaf} {i:Nat} {nm:zY} {ls:List GLeaf} {sb:List GNode} (hi:i≤t.length) (hA:A.length≤8388608) (ht2:t.length≤8388607) (hl:ls.length≤8388607) (hup:ls.Pairwise fun x y=>x.typ < y.typ) :
  l7R n t [s] l A ((i:Int),nm,ls,sb)=some (A++[⟨nm,layLs l.typ l true ls,sb⟩]++t.drop i):=by
 unfold l7R;have d1:decide (((([s]:List zY).length:Int)) > 1)=false:=rfl;simp only [d1,Bool.false_eq_true,if_false];rcases split_typ l.typ hup with ⟨C,D,e,hc,hd⟩ | ⟨C,z,D,e,hz,hc,hd⟩
 ·have hB:=l7B_at (ls:=ls) (l:=l) (by omega) C D e hc (fun y r h=>by have:=hd y (by rw [h];simp);omega) C.length 0 (by omega) (by omega);rw [show (([]:List GLeaf),(0:Int))=(C.take 0,((0:Nat):Int)) from rfl,hB,vX,e,layLs_none hc hd];rw [e] at hl;simp only [List.length_append] at hl;simp only [];rw [yc (by intro h;simp at h ⊢;omega)];have hcond:((decide (((C.length:Nat):Int) < ((C++D).length:Int)))&&(((C++D).getD ((C.length:Nat):Int).toNat default).typ==l.typ))=false:=by
   cases D with
   | nil=>simp
   | cons y D=>have:=hd y (by simp);simp;omega
  rw [hcond];simp only [Bool.false_eq_true,if_false];rw [yc (vp (by simp;omega)),slc_at ⟨by omega,by simp <;> omega,Int.le_refl _⟩,Option.bind_some,take_drop_len,List.drop_left,yc (vp (by simp;omega)),yc (vp (by simp;omega)),slc_at ⟨by omega,by omega,Int.le_refl _⟩,Option.bind_some,take_drop_len,yc (vp (by simp;omega))];simp
 ·have hB:=l7B_at (ls:=ls) (l:=l) (by omega) C (z::D) e hc (fun y r h=>by injection h with h1 _;rw [← h1];omega) C.length 0 (by omega) (by omega);rw [show (([]:List GLeaf),(0:Int))=(C.take 0,((0:Nat):Int)) from rfl,hB,vX,e,layLs_some hz hc hd];rw [e] at hl;simp only [List.length_append,List.length_cons] at hl;simp only [];rw [yc (by intro h;simp at h ⊢;omega)];have hcond:((decide (((C.length:Nat):Int) < ((C++z::D).length:Int)))&&(((C++z::D).getD ((C.length:Nat):Int).toNat default).typ==l.typ))=true:=by
   simp [hz];omega
  rw [hcond];simp only [if_true];have e3:IntKind.wrap .i64 ((C.length:Int)+1)=((C.length+1:Nat):Int):=by rw [w64n (by omega)];omega
  have e4:(C++z::D).drop (C.length+1)=D:=by
   rw [← List.drop_drop,List.drop_left];rfl
  rw [yc (vp (by simp;omega)),e3,slc_at ⟨by omega,by simp <;> omega,Int.le_refl _⟩,Option.bind_some,take_drop_len,e4,yc (vp (by simp;omega)),yc (vp (by simp;omega)),slc_at ⟨by omega,by omega,Int.le_refl _⟩,Option.bind_some,take_drop_len,yc (vp (by simp;omega))];simp
theorem lay7_none {n:Nat} {s:zY} {q:List zY} {l:GLeaf} {A B:List GNode} (h:(A++B).length≤16777215) (ha:NLt s A) (hb:NGt s B):qD (n+1) (A++B) (s::q) l=l7R n (A++B) (s::q) l A ((A.length:Int),s,[],[]):=by
 have hA:=l7A_is (t:=A++B) (s:=s) (q:=q) (by omega) A B rfl ha (fun y r hh=>by
  have:=hb y (by rw [hh];simp);rcases hx:Op.bytesLess y.name s with _ | _
  ·rfl
  ·have:=less_trans this hx;rw [less_irr] at this;cases this) A.length 0 (by omega) (by omega)
 rw [lay7_eq2,show (([]:List GNode),(0:Int))=(A.take 0,((0:Nat):Int)) from rfl,hA,vX];have i0:wK (s::q) (0:Int)=some s:=rfl;simp only [i0,Option.bind_some];rw [yc (by intro h;simp at h ⊢;omega),yc (by intro h;simp)];have hcond:((decide (((A.length:Nat):Int) < ((A++B).length:Int)))&&(((A++B).getD ((A.length:Nat):Int).toNat default).name==((s::q).getD (0:Int).toNat default)))=false:=by
  cases B with
  | nil=>simp
  | cons y B =>
   have:=less_ne (hb y (by simp));simp;intro _ e;exact this e.symm
 rw [hcond];simp only [Bool.false_eq_true,if_false,vX]
theorem lay7_some {n:Nat} {s:zY} {q:List zY} {l:GLeaf} {A B:List GNode} {x:GNode} (hx:x.name=s) (h:(A++x::B).length≤16777215) (ha:NLt s A) (hb:NGt s B):qD (n+1) (A++x::B) (s::q) l=l7R n (A++x::B) (s::q) l A (((A.length+1:Nat):Int),s,x.leaves,x.subs):=by
 have hA:=l7A_is (t:=A++x::B) (s:=s) (q:=q) (by omega) A (x::B) rfl ha (fun y r hh=>by
  injection hh with h1 _;rw [← h1,hx,less_irr]) A.length 0 (by omega) (by omega)
 rw [lay7_eq2,show (([]:List GNode),(0:Int))=(A.take 0,((0:Nat):Int)) from rfl,hA,vX];have i0:wK (s::q) (0:Int)=some s:=rfl;simp only [i0,Option.bind_some];rw [yc (by intro h;simp at h ⊢;omega),yc (by intro h;simp)];have hcond:((decide (((A.length:Nat):Int) < ((A++x::B).length:Int)))&&(((A++x::B).getD ((A.length:Nat):Int).toNat default).name==((s::q).getD (0:Int).toNat default)))=true:=by
  simp [hx];omega
 rw [hcond];simp only [List.length_append,List.length_cons] at h;have e3:IntKind.wrap .i64 ((A.length:Int)+1)=((A.length+1:Nat):Int):=by rw [w64n (by omega)];omega
 simp only [if_true];rw [yI (x:=x) (by simp),Option.bind_some,vX,e3,hx]
end Go.Vv
namespace Go.Vv
open Go
set_option linter.unusedSimpArgs false
set_option linter.unusedVariables false
theorem lay7_lay {l:GLeaf} (hb:leafB l=true) (ho:LeafOk l):∀ (p:List zY) (t:List GNode) (d n:Nat),p ≠ []→p.all nameB=true→d+p.length≤3→treeB d t=true→(ya [] t).length≤8388606→p.length < n →
  qD n t p l=vF n t p l.typ l true
 | [],_,_,_,h,_,_,_,_,_=>absurd rfl h
 | _::_,_,_,0,_,_,_,_,_,h=>by omega
 | s::q,t,d,n+1,_,hp,hd,ht,hw,hn=>by
  simp only [List.all_cons,Bool.and_eq_true,List.length_cons] at hp hd hn;obtain ⟨h1,h2⟩:=xe ht;have hl3:t.length≤8388606:=Nat.le_trans (node_row _ d (by rw [vC];exact List.all_eq_true.2 h2)) hw;have below:∀ (sb:List GNode) (c:zY) (q':List zY),q=c::q'→treeB (d+1) sb=true→(ya [] sb).length≤8388606→∃ sb',qD n sb q l=some sb'∧vF n sb q l.typ l true=some sb'∧sb' ≠ []∧sb'.length≤16777215:=by
   intro sb c q' hq hsb hw2;subst hq;obtain ⟨sb',e1,e2,e3,e4⟩:=lay_is (k:=l.typ) (l:=l) (there:=true) (fun _=>⟨rfl,hb,ho⟩) (c::q') sb (d+1) n (by simp) hp.2 (by simp only [List.length_cons] at hd ⊢;omega) hsb (by omega) (by omega);have hsl:=node_row sb (d+1) (by rw [vC];exact List.all_eq_true.2 (xe hsb).2);refine ⟨sb',?_,e1,?_,by omega⟩
   ·rw [← e1];exact lay7_lay hb ho (c::q') sb (d+1) n (by simp) hp.2 (by simp only [List.length_cons] at hd ⊢;omega) hsb hw2 (by omega)
   ·intro e;have:=(e4 [] ⟨[]++(c::q'),l⟩).2 (.inr ⟨rfl,rfl⟩);rw [e] at this;simp [ya] at this
  rcases split_up s h1 with ⟨A,B,e,ha,hb2⟩ | ⟨A,x,B,e,hx,ha,hb2⟩
  ·have hAB:(A++B).length≤8388606:=by rw [← e];exact hl3
   have hA2:A.length≤8388606:=by simp only [List.length_append] at hAB;omega
   have hbs:=bs_none (by omega) ha hb2;have hbs2:zV (A++[]++B) s (fun x0 x1=>vD x0 x1)=some ((A.length:Int),false):=by rw [List.append_nil];exact hbs
   have e0:A++B=A++[]++B:=by simp
   rw [e,lay7_none (by omega) ha hb2];cases hq:q with
   | nil =>
    rw [l7R_leaf (by simp) (by omega) (by omega) (by simp) (by simp),e0,lay_leaf (ls:=[]) (sb:=[]) ho (by simp) hbs2 rfl (by rw [← e0];omega) (by simp) (by simp) (by simp),fit_one (.inl layLs_ne)];simp
   | cons c q' =>
    obtain ⟨sb',b1,b2,b3,b4⟩:=below [] c q' hq (tree_nil _) (by simp [ya]);rw [hq] at b1 b2;rw [l7R_sub (by simp) (by omega) (by omega) (by omega) (by rw [hq] at hd;simp only [List.length_cons] at hd ⊢;omega) b1,e0,lay_sub (ls:=[]) (sb:=[]) (f:=false) (by simp) hbs2 rfl (by rw [← e0];omega) (by simp) (by omega) (by rw [hq] at hd;simp only [List.length_cons] at hd ⊢;omega) b2,fit_one (.inr b3)];simp
  ·have hAB:(A++x::B).length≤8388606:=by rw [← e];exact hl3
   have hA2:A.length+1≤8388606:=by simp only [List.length_append,List.length_cons] at hAB;omega
   have hbs:=bs_some (by omega) hx ha hb2;have hbs2:zV (A++[x]++B) s (fun x0 x1=>vD x0 x1)=some ((A.length:Int),true):=by rw [List.append_assoc];exact hbs
   have e0:A++x::B=A++[x]++B:=by simp
   have hxt:x ∈ t:=by rw [e];simp
   obtain ⟨n1,n2,n3⟩:=qL (h2 x hxt);have hml:=mem_rows_len hxt;have hsl:=node_row x.subs (d+1) (by rw [vC];exact List.all_eq_true.2 (xe n2).2);have hst:((if true=true then ((wK (A++[x]++B) (A.length:Int)).bind fun y7=>some (.inr (y7.name,y7.leaves,y7.subs))) else some (.inr (s,([]:List GLeaf),([]:List GNode)))):Option (List GNode ⊕ (zY×(List GLeaf)×(List GNode))))=some (.inr (s,x.leaves,x.subs)):=by
    rw [if_pos rfl,yI (x:=x) (by simp),Option.bind_some,hx]
   have ed:(A++x::B).drop (A.length+1)=B:=by rw [← List.drop_drop,List.drop_left];rfl
   rw [e,lay7_some hx (by omega) ha hb2];cases hq:q with
   | nil =>
    rw [l7R_leaf (by simp) (by omega) (by omega) (by omega) (leaves_up n3).1,ed,e0,lay_leaf (ls:=x.leaves) (sb:=x.subs) ho (by simp) hbs2 hst (by rw [← e0];omega) (by omega) (by omega) (leaves_up n3).1,fit_one (.inl layLs_ne)]
   | cons c q' =>
    obtain ⟨sb',b1,b2,b3,b4⟩:=below x.subs c q' hq n2 (by omega);rw [hq] at b1 b2;rw [l7R_sub (by simp) (by omega) (by omega) (by omega) (by rw [hq] at hd;simp only [List.length_cons] at hd ⊢;omega) b1,ed,e0,lay_sub (ls:=x.leaves) (sb:=x.subs) (f:=true) (by simp) hbs2 hst (by rw [← e0];omega) (by omega) (by omega) (by rw [hq] at hd;simp only [List.length_cons] at hd ⊢;omega) b2,fit_one (.inr b3)]
end Go.Vv
namespace Go.Vv
open Go
set_option linter.unusedSimpArgs false
set_option linter.unusedVariables false
theorem ilt_tot {a b:GItem} (h:a.dot ≠ b.dot):aheadI a b=true ∨ aheadI b a=true:=by
 unfold aheadI;rcases dlt_tot a.dot b.dot with e | e | e
 ·exact absurd e h
 ·by_cases ht:a.time=b.time
  ·left;simp [ht,e]
  ·rcases Int.lt_or_gt_of_ne ht with h2 | h2
   ·left;simp [ht,h2]
   ·right;rw [if_pos (fun e=>ht e.symm)];simp;omega
 ·by_cases ht:a.time=b.time
  ·right;simp [ht,e]
  ·rcases Int.lt_or_gt_of_ne ht with h2 | h2
   ·left;simp [ht,h2]
   ·right;rw [if_pos (fun e=>ht e.symm)];simp;omega
theorem pw_next {α:Type} [Inhabited α] {lt:α→α→Prop} {L:List α} (h:L.Pairwise lt) {i:Nat} {x:α} (hi:L[i]?=some x) (h0:i ≠ 0):lt (L.getD (i - 1) default) x:=by
 obtain ⟨hl,rfl⟩:=List.getElem?_eq_some_iff.1 hi;have e:L.getD (i - 1) default=L[i - 1]:=by rw [List.getD_eq_getElem?_getD,List.getElem?_eq_getElem (by omega)];rfl
 rw [e];exact List.pairwise_iff_getElem.1 h _ _ _ _ (by omega)
theorem riseB_pw {L:List GItem} (h:L.Pairwise fun a b=>aheadI a b=true):riseB L=true:=by
 refine allI_iff.2 fun i x hi=>?_;by_cases h0:i=0
 ·simp [h0]
 ·simp only [h0,decide_false,Bool.false_or,prevI];exact pw_next (lt:=fun a b=>aheadI a b=true) h hi h0
theorem rising_of_pw {L:List GDot} (h:L.Pairwise fun a b=>dotLt a b=true):rising L=true:=by
 rw [rising_allI];refine allI_iff.2 fun i x hi=>?_;unfold vN;by_cases h0:i=0
 ·simp [h0]
 ·simp only [h0,decide_false,Bool.false_or];exact pw_next (lt:=fun a b=>dotLt a b=true) h hi h0
theorem layP_mem {L:List GItem} {x y:GItem} (h:y ∈ layP L x):y ∈ L ∨ y=x:=by
 unfold layP at h;split at h
 ·exact .inl h
 ·rcases List.mem_append.1 h with h | h
  ·exact .inl ((List.takeWhile_sublist _).mem h)
  ·rcases List.mem_append.1 h with h | h
   ·exact .inr (List.mem_singleton.1 h)
   ·exact .inl ((List.dropWhile_sublist _).mem h)
theorem layP_pw {L:List GItem} (x:GItem) (h:L.Pairwise fun a b=>aheadI a b=true):(layP L x).Pairwise fun a b=>aheadI a b=true:=by
 unfold layP;split
 ·exact h
 ·rename_i hn;simp only [Bool.not_eq_true,List.any_eq_false,decide_eq_true_eq] at hn;exact ins_pw (lt:=aheadI) (fun _ _ _=>ilt_tr) h fun y hy=>ilt_tot (a:=y) (b:=x) (hn y hy)
theorem layP_once {L:List GItem} (x:GItem) (h:onceB L=true):onceB (layP L x)=true:=by
 unfold layP;split
 ·exact h
 ·rename_i hn;simp only [Bool.not_eq_true,List.any_eq_false,decide_eq_true_eq] at hn;unfold onceB at h ⊢;rw [decide_eq_true_eq] at h ⊢;have hp:(L.takeWhile (fun y=>aheadI y x)++([x]++L.dropWhile fun y=>aheadI y x)).Perm (x::L):=by
   have e:=List.takeWhile_append_dropWhile (p:=fun y=>aheadI y x) (l:=L);have:(x::(L.takeWhile (fun y=>aheadI y x)++L.dropWhile fun y=>aheadI y x)).Perm (x::L):=by rw [e]
   exact List.perm_middle.trans this
  rw [(hp.map (·.dot)).nodup_iff,List.map_cons,List.nodup_cons];refine ⟨fun hm=>?_,h⟩;obtain ⟨y,hy,e⟩:=List.mem_map.1 hm;exact hn y hy e
theorem layP_len (L:List GItem) (x:GItem):(layP L x).length≤L.length+1:=by
 unfold layP;split
 ·omega
 ·have e:=congrArg List.length (List.takeWhile_append_dropWhile (p:=fun y=>aheadI y x) (l:=L));simp only [List.length_append,List.length_cons,List.length_nil] at e ⊢;omega
theorem all_layP {q:GItem→Bool} {L:List GItem} {x:GItem} (h:L.all q=true) (hx:q x=true):(layP L x).all q=true :=
 List.all_eq_true.2 fun y hy=>by
  rcases layP_mem hy with h1 | h1
  ·exact List.all_eq_true.1 h y h1
  ·rw [h1];exact hx
structure EvOk (e:GEvent):Prop where
 dot:qM e.dot=true
 time:timeB e.time=true
 kind:1≤e.op.kind∧e.op.kind≤5
 path:pathB e.op.path=true
 text:e.op.text.length≤40
 dots:e.op.kind=4→e.op.dots.all qM=true
 dlen:e.op.dots.length≤64
theorem evOk {e:GEvent} (h:qR e=true):EvOk e:=by
 have hk:=kind_of h;have hd:=dots_of h;simp only [qR,opB,Bool.and_eq_true,decide_eq_true_eq] at h;obtain ⟨⟨⟨h1,h2⟩,h3⟩,⟨⟨⟨⟨_,h6⟩,h7⟩,_⟩,h8⟩⟩:=h;refine ⟨h1,?_,hk,h6,h7,fun h4=>?_,hd⟩
 ·simp [timeB,h2,h3]
 ·rw [if_neg (by omega)] at h8;simp only [Bool.and_eq_true] at h8;exact h8.2.1
theorem type_range {k:Int} (h:1≤k∧k≤5):1≤qT k∧qT k≤4:=by
 unfold qT;split
 ·omega
 split
 ·omega
 split
 ·omega
 split
 ·omega
 ·omega
theorem applyP_typ (l:GLeaf) (e:GEvent):(vj l e).typ=l.typ:=by
 unfold vj;generalize (decide (l.time=0) || (if l.time ≠ e.time then decide (l.time < e.time) else dotLt l.dot e.dot))=b;cases b <;> simp only [Bool.false_eq_true,if_false,if_true] <;> (repeat' split) <;> rfl
theorem applyP_may {l:GLeaf} {e:GEvent} (hl:leafB l=true) (he:qR e=true) (ht:qT e.op.kind=l.typ):leafB (vj l e)=true:=by
 have hrise:=riseB_of hl;have htm:=tombs_of hl;have hap:=apart_of_leaf hl;obtain ⟨d1,d2,d3,d4,d5,d6,d7⟩:=evOk he;have hty:=applyP_typ l e;by_cases k1:e.op.kind=1
 ·have t1:l.typ=1:=by rw [← ht,k1];rfl
  unfold vj;rw [if_pos k1];unfold leafB at hl ⊢;rw [if_pos t1] at hl;simp only [t1,if_true];exact hl
 by_cases k2:e.op.kind=2
 ·have t2:l.typ=2:=by rw [← ht,k2];rfl
  unfold vj;rw [if_neg k1,if_pos k2];generalize (decide (l.time=0) || (if l.time ≠ e.time then decide (l.time < e.time) else dotLt l.dot e.dot))=b;cases b
  case false=>exact hl
  case true =>
   simp only [if_true];unfold leafB at hl ⊢;rw [if_neg (by omega),if_pos t2] at hl;simp only [t2];rw [if_neg (by omega),if_pos trivial];simp only [Bool.and_eq_true,decide_eq_true_eq] at hl ⊢;refine ⟨hl.1,?_⟩;have:¬ e.time=0:=by
    simp only [timeB,Bool.and_eq_true,decide_eq_true_eq] at d2;omega
   rw [if_neg this];simp [d1,d2,d5]
 by_cases k3:e.op.kind=3
 ·have t3:l.typ=3:=by rw [← ht,k3];rfl
  unfold vj;rw [if_neg k1,if_neg k2,if_pos k3];split
  ·exact hl
  ·rename_i hn;simp only [Bool.not_eq_true,List.any_eq_false,decide_eq_true_eq] at hn;unfold leafB at hl ⊢;rw [if_neg (by omega),if_neg (by omega),if_pos t3] at hl;simp only [t3];rw [if_neg (by omega),if_neg (by omega),if_pos trivial];simp only [Bool.and_eq_true,decide_eq_true_eq] at hl ⊢;obtain ⟨⟨⟨h1,h2⟩,⟨⟨h3,h4⟩,h5⟩⟩,h6⟩:=hl;refine ⟨⟨⟨h1,by simpa [zeroB] using h2⟩,⟨⟨all_layP h3 ?_,riseB_pw (layP_pw _ hrise)⟩,layP_once _ h5⟩⟩,?_⟩
   ·simp [itemB,d1,d5]
   ·simp only [tombsB,Bool.and_eq_true] at h6 ⊢;refine ⟨h6.1,List.all_eq_true.2 fun d hd=>?_⟩;simp only [Bool.not_eq_true',List.any_eq_false,decide_eq_true_eq];intro x hx e2;rcases layP_mem hx with h7 | h7
    ·exact hap x h7 d hd e2.symm
    ·rw [h7] at e2;exact hn d hd e2.symm
 by_cases k4:e.op.kind=4
 ·have t3:l.typ=3:=by rw [← ht,k4];rfl
  have hd:=d6 k4;unfold vj;rw [if_neg k1,if_neg k2,if_neg k3,if_pos k4];unfold leafB at hl ⊢;rw [if_neg (by omega),if_neg (by omega),if_pos t3] at hl;simp only [t3];rw [if_neg (by omega),if_neg (by omega),if_pos trivial];simp only [Bool.and_eq_true,decide_eq_true_eq] at hl ⊢;obtain ⟨⟨⟨h1,h2⟩,⟨⟨h3,h4⟩,h5⟩⟩,h6⟩:=hl;refine ⟨⟨⟨h1,by simpa [zeroB] using h2⟩,⟨⟨List.all_eq_true.2 fun x hx=>List.all_eq_true.1 h3 x (List.mem_filter.1 hx).1,riseB_pw (hrise.filter _)⟩,?_⟩⟩,?_⟩
  ·unfold onceB at h5 ⊢;rw [decide_eq_true_eq] at h5 ⊢;exact h5.sublist ((List.filter_sublist).map _)
  ·simp only [tombsB,Bool.and_eq_true] at h6 ⊢;refine ⟨⟨List.all_eq_true.2 fun d hm=>?_,rising_of_pw (burs_pw _ htm)⟩,List.all_eq_true.2 fun d hm=>?_⟩
   ·rcases (burs_mem _ _ _).1 hm with h7 | h7
    ·exact List.all_eq_true.1 hd d h7
    ·exact List.all_eq_true.1 h6.1.1 d h7
   ·simp only [Bool.not_eq_true',List.any_eq_false,decide_eq_true_eq];intro x hx e2;obtain ⟨h8,h9⟩:=List.mem_filter.1 hx;simp only [Bool.not_eq_true',List.any_eq_false,decide_eq_true_eq] at h9;rcases (burs_mem _ _ _).1 hm with h7 | h7
    ·exact h9 d h7 e2.symm
    ·exact hap x h8 d h7 e2.symm
 ·have k5:e.op.kind=5:=by omega
  have t4:l.typ=4:=by rw [← ht,k5];rfl
  unfold vj;rw [if_neg k1,if_neg k2,if_neg k3,if_neg k4];unfold leafB at hl ⊢;rw [if_neg (by omega),if_neg (by omega),if_neg (by omega),if_pos t4] at hl;simp only [t4];rw [if_neg (by omega),if_neg (by omega),if_neg (by omega),if_pos trivial];simp only [Bool.and_eq_true,decide_eq_true_eq] at hl ⊢;obtain ⟨⟨⟨h1,h2⟩,h6⟩,⟨⟨h3,h4⟩,h5⟩⟩:=hl;refine ⟨⟨⟨h1,by simpa [zeroB] using h2⟩,h6⟩,⟨⟨all_layP h3 ?_,riseB_pw (layP_pw _ hrise)⟩,layP_once _ h5⟩⟩;simp [itemB,d1,d2,d5]
theorem applyP_ok {l:GLeaf} {e:GEvent} (hl:LeafOk l) (he:qR e=true) (hi:l.items.length≤1048576) (ht:l.tombs.length≤1048576):LeafOk (vj l e)∧(vj l e).items.length≤l.items.length+1∧(vj l e).tombs.length≤l.tombs.length+64:=by
 have d:=evOk he;have dt:0≤e.time:=by have:=d.time;simp only [timeB,Bool.and_eq_true,decide_eq_true_eq] at this;omega
 have h1:=fun x=>layP_len l.items x;have h2:=burs_len e.op.dots l.tombs;have h3:=List.length_filter_le (fun x:GItem=>!(e.op.dots.any fun y=>decide (y=x.dot))) l.items;have hd:=d.dlen;have key:(vj l e).items.length≤l.items.length+1∧(vj l e).tombs.length≤l.tombs.length+64∧0≤(vj l e).time:=by
  unfold vj;split
  ·exact ⟨by simp,by simp,hl.time⟩
  split
  ·generalize (decide (l.time=0) || (if l.time ≠ e.time then decide (l.time < e.time) else dotLt l.dot e.dot))=b;cases b
   ·exact ⟨by simp,by simp,hl.time⟩
   ·exact ⟨by simp,by simp,dt⟩
  split
  ·split
   ·exact ⟨by simp,by simp,hl.time⟩
   ·exact ⟨h1 _,by simp,hl.time⟩
  split
  ·exact ⟨by simp only [];omega,by simp only [];omega,hl.time⟩
  ·exact ⟨h1 _,by simp,hl.time⟩
 exact ⟨⟨by omega,by omega,key.2.2⟩,key.1,key.2.1⟩
end Go.Vv
namespace Go.Vv
open Go
set_option linter.unusedSimpArgs false
set_option linter.unusedVariables false
def newLf (k:Int):GLeaf:=GLeaf.mk k (0:Int) (0:Int) (GDot.mk (GActor.mk (0:Int) (0:Int)) (0:Int)) ([]:zY) ([]:List GItem) ([]:List GDot)
theorem leafNew_is {k:Int} (h:1≤k∧k≤4):leafNew k=some (newLf k):=by
 unfold leafNew;rw [if_neg (by simp;omega)];rfl
theorem refNew_is {k:Int} (h:1≤k∧k≤4):ref05New k=some (newLf k):=by
 unfold ref05New;rw [if_pos (by simp;omega)];rfl
theorem newLf_may {k:Int} (h:1≤k∧k≤4):leafB (newLf k)=true:=by
 have:k=1 ∨ k=2 ∨ k=3 ∨ k=4:=by omega
 rcases this with rfl | rfl | rfl | rfl <;> decide
theorem newLf_ok (k:Int):LeafOk (newLf k):=⟨by simp [newLf],by simp [newLf],Int.le_refl _⟩
theorem node7_is (t:List GNode) (s:zY):ref07Xnode t s=some (match nodeOf t s with | some x=>(x,true) | none=>(node0,false)):=by
 unfold ref07Xnode;have key:∀ (L:List GNode) (i:Nat),yl (ρ:=GNode×Bool) (fun (n1:Nat) (x1:GNode) (s1:Unit)=>((if (x1.name==s)=true then some (.ret (x1,true)) else some (.nxt ())):Option (Out _ Unit))) L i ()=some (match nodeOf L s with | some x=>.inl (x,true) | none=>.inr ()):=by
  intro L
  induction L with
  | nil=>intro i;rfl
  | cons y r ih =>
   intro i;rw [yl];unfold nodeOf;rw [List.find?_cons];cases h:(y.name==s)
   ·simp only [Bool.false_eq_true,if_false];exact ih (i+1)
   ·simp only [if_true]
 rw [key];cases nodeOf t s <;> rfl
noncomputable def l7F (v1:GLeaf):Nat→zY→(List GNode)×zY×(List GLeaf)×(List GNode)→Option (Out (GLeaf×Bool) ((List GNode)×zY×(List GLeaf)×(List GNode))):=(fun (n1:Nat) (x1:zY) (s1:(List GNode)×zY×(List GLeaf)×(List GNode))=>(((ref07Xnode s1.1 x1).bind fun v32=>(if (!v32.2)=true then some (.ret (v1,false)) else some (.nxt (v32.1.subs,v32.1.name,v32.1.leaves,v32.1.subs))))))
noncomputable def l7S (ls:List GLeaf) (kind2:Int):Int→Option (Out (GLeaf×Bool) Int):=(fun (s2:Int)=>((if (((decide (s2 < ((ls).length:Int)))&&(decide (kind2 ≥ (1:Int))))&&(decide (kind2≤(4:Int))))=true then ((wK ls s2).bind fun y63=>(if (y63.typ==kind2)=true then ((wK ls s2).bind fun y65=>some (.ret (y65,true))) else some (.nxt (IntKind.wrap .i64 (s2+(1:Int)))))) else some (.brk s2))))
theorem leaf7_eq (t0:List GNode) (path1:List zY) (kind2:Int):ref07Leaf t0 path1 kind2=((ref05New kind2).bind fun v1=>(lp (yl (l7F v1) path1 0 (t0,([]:zY),([]:List GLeaf),([]:List GNode))) fun (s1:(List GNode)×zY×(List GLeaf)×(List GNode))=>(lp (wJ (l7S s1.2.2.1 kind2) (0:Int)) fun (s2:Int)=>some (v1,false)))):=rfl
theorem l7_walk (v:GLeaf):∀ (p:List zY) (n:Nat) (t:List GNode) (z:zY×(List GLeaf)×(List GNode)),p ≠ [] →
  yl (l7F v) p n (t,z)=some (match nodeAt t p with | some x=>.inr (x.subs,x.name,x.leaves,x.subs) | none=>.inl (v,false))
 | [],_,_,_,h=>absurd rfl h
 | [s],n,t,z,_=>by
  simp only [nodeAt,yl,l7F,node7_is,Option.bind_some];cases nodeOf t s with
  | none=>rfl
  | some x=>rfl
 | s::c::q,n,t,z,_=>by
  have ih:=fun u z=>l7_walk v (c::q) (n+1) u z (by simp);simp only [nodeAt];cases e:nodeOf t s with
  | none=>rw [yl];simp only [l7F,node7_is,e,Option.bind_some];rfl
  | some x =>
   have e2:l7F v n s (t,z)=some (.nxt (x.subs,x.name,x.leaves,x.subs)):=by simp only [l7F,node7_is,e,Option.bind_some];rfl
   rw [yl,e2,Option.bind_some];exact ih x.subs (x.name,x.leaves,x.subs)
theorem l7_scan {ls:List GLeaf} {k:Int} (hk:1≤k∧k≤4) (hl:ls.length≤16777216):∀ (m i:Nat),ls.length - i=m→i≤ls.length→wJ (l7S ls k) (i:Int)=some (match (ls.drop i).find? (fun y=>y.typ==k) with | some y=>.inl (y,true) | none=>.inr (ls.length:Int)):=by
 intro m
 induction m with
 | zero =>
  intro i h hi;obtain rfl:i=ls.length:=by omega
  rw [vH];unfold l7S;simp
 | succ m ih =>
  intro i h hi;have hlt:i < ls.length:=by omega
  rw [vH];have hd:ls.drop i=ls[i]::ls.drop (i+1):=List.drop_eq_getElem_cons hlt;have hc:((decide ((i:Int) < (ls.length:Int))&&decide (k ≥ 1))&&decide (k≤4))=true:=by simp;omega
  rw [hd,List.find?_cons];cases e:(ls[i].typ==k)
  ·have:l7S ls k (i:Int)=some (.nxt ((i+1:Nat):Int)):=by
    unfold l7S;rw [if_pos hc,idx_at hlt,Option.bind_some,e];simp only [Bool.false_eq_true,if_false];rw [w64n (by omega)];rfl
   rw [this];exact ih (i+1) (by omega) (by omega)
  ·have:l7S ls k (i:Int)=some (.ret (ls[i],true)):=by
    unfold l7S;rw [if_pos hc,idx_at hlt,Option.bind_some,e];simp
   rw [this]
theorem leaves_len:∀ {p:List zY} {t:List GNode} {d:Nat} {x:GNode},treeB d t=true→p ≠ []→nodeAt t p=some x→x.leaves.length≤(ya [] t).length
 | [],_,_,_,_,h,_=>absurd rfl h
 | [s],t,d,x,h,_,e=>by
  have hx:x ∈ t:=List.mem_of_find?_eq_some (show nodeOf t s=some x from e);have:=mem_rows_len hx;omega
 | s::c::q,t,d,x,h,_,e=>by
  simp only [nodeAt] at e;cases hn:nodeOf t s with
  | none=>rw [hn] at e;cases e
  | some y =>
   rw [hn,Option.bind_some] at e;have hy:y ∈ t:=List.mem_of_find?_eq_some (show nodeOf t s=some y from hn);have h1:=leaves_len (qL ((xe h).2 y hy)).2.1 (by simp) e;have h2:=mem_rows_len hy;omega
theorem leaf7_is {t:List GNode} (h:treeB 0 t=true) (hw:(ya [] t).length≤16777215) {p:List zY} (hp:p ≠ []) {k:Int} (hk:1≤k∧k≤4) :
  (∃ l,GRow.mk p l ∈ ya [] t∧l.typ=k∧ref07Leaf t p k=some (l,true)) ∨ ((∀ r ∈ ya [] t,qz r ≠ (p,k))∧ref07Leaf t p k=some (newLf k,false)):=by
 have hra:=fun l=>row_at p t 0 [] l hp h;simp only [List.nil_append] at hra;have hno:(∀ l,¬ (GRow.mk p l ∈ ya [] t∧l.typ=k))→∀ r ∈ ya [] t,qz r ≠ (p,k):=fun hn r hr e=>by
  have:=row_mk e;simp only [List.nil_append] at this;exact hn r.leaf ⟨by rw [← this];exact hr,congrArg Prod.snd e⟩
 rw [leaf7_eq,refNew_is hk,Option.bind_some,l7_walk _ p 0 t _ hp];cases e:nodeAt t p with
 | none =>
  right;refine ⟨hno fun l hh=>?_,rfl⟩;obtain ⟨x,hx,_⟩:=(hra l).1 hh.1;rw [e] at hx;cases hx
 | some x =>
  simp only [lp];have hlen:x.leaves.length≤16777215:=by
   exact Nat.le_trans (leaves_len h hp e) hw
  have hs:=l7_scan hk (by omega:x.leaves.length≤16777216) x.leaves.length 0 (by omega) (Nat.zero_le _);simp only [List.drop_zero,Int.natCast_zero] at hs;have hs':wJ (l7S x.leaves k) (0:Int)=_:=hs;rw [hs'];cases hf:x.leaves.find? (fun y=>y.typ==k) with
  | some y =>
   left;refine ⟨y,(hra y).2 ⟨x,e,List.mem_of_find?_eq_some hf⟩,?_,rfl⟩;have:=List.find?_some hf;simpa using this
  | none =>
   right;refine ⟨hno fun l hh=>?_,rfl⟩;obtain ⟨x',hx,hl⟩:=(hra l).1 hh.1;rw [e] at hx;injection hx with hx;subst hx;have:=List.find?_eq_none.1 hf l hl;simp [hh.2] at this
end Go.Vv
namespace Go.Vv
open Go
theorem name_len {s:zY} (h:nameB s=true):s.length≤12∧∀ b ∈ s,b ≠ 0:=by
 simp only [nameB,Bool.and_eq_true,decide_eq_true_eq,List.all_eq_true] at h;refine ⟨h.1.2,fun b hb e=>?_⟩;have:=h.2 b hb;rw [e] at this;revert this;decide
theorem leaf_bk (l:GLeaf):4≤GLeaf.bk l:=by unfold GLeaf.bk;omega
theorem leaves_bk:∀ ls:List GLeaf,4 * ls.length≤(ls.map GLeaf.bk).sum
 | []=>by simp
 | l::ls=>by
  have:=leaves_bk ls;have:=leaf_bk l;simp only [List.length_cons,List.map_cons,List.sum_cons];omega
theorem rows4:∀ (t:List GNode),4 * (ya [] t).length≤GNode.bks t:=by
 refine qG (by simp [ya]) ?_;intro x r hx hr;have h1:=leaves_bk x.leaves;have h2:=bk_node x;rw [show x::r=[x]++r from rfl,rowsL_app,rows_one,vw];simp only [List.length_append,List.length_map];rw [len_rows x.subs ([]++[x.name]) []];show _≤x.bk+GNode.bks r;omega
def wS (n:Nat):List GRow→Nat
 | []=>0
 | r::L=>r.leaf.bk+17 * (r.path.length - n)+wS n L
theorem wS_app (n:Nat):∀ A B:List GRow,wS n (A++B)=wS n A+wS n B
 | [],B=>by simp [wS]
 | r::A,B=>by simp only [List.cons_append,wS,wS_app n A B];omega
theorem wS_leaves (a:List zY) (s:zY):∀ ls:List GLeaf,wS a.length (ls.map fun l=>GRow.mk (a++[s]) l)=(ls.map GLeaf.bk).sum+17 * ls.length
 | []=>rfl
 | l::ls=>by
  simp only [List.map_cons,wS,wS_leaves a s ls,List.sum_cons,List.length_cons,List.length_append,List.length_nil];omega
theorem wS_up (n:Nat):∀ L:List GRow,(∀ r ∈ L,n+1≤r.path.length)→wS n L=wS (n+1) L+17 * L.length
 | [],_=>rfl
 | r::L,h=>by
  have h1:=h r (by simp);simp only [wS,wS_up n L (fun q hq=>h q (by simp [hq])),List.length_cons];omega
theorem bk_is (x:GNode):x.bk=(x.name.length+1)+(((x.leaves.map GLeaf.bk).sum+1)+((GNode.bks x.subs+1)+0))+1:=by cases x;simp only [GNode.bk]
theorem bks_rows:∀ (t:List GNode) (d:Nat) (a:List zY),(∀ x ∈ t,nodeB d x=true)→GNode.bks t≤wS a.length (ya a t):=by
 refine qG (fun _ _ _=>by simp [GNode.bks]) ?_;intro x r hx hr d a hn;have h1:=hr d a fun y hy=>hn y (by simp [hy]);have h2:=hn x (by simp);obtain ⟨n1,n2,_⟩:=qL h2;have h3:=hx (d+1) (a++[x.name]) (xe n2).2;have h4:=(name_len n1).1;have h5:=node_row [x] d (by simp [qu,h2]);rw [rows_one,vw] at h5;simp only [List.length_append,List.length_map,List.length_cons,List.length_nil,Nat.zero_add] at h3 h5;rw [len_rows x.subs ([]++[x.name]) (a++[x.name])] at h5;show x.bk+GNode.bks r≤wS a.length (rowsN a x++ya a r);rw [wS_app,vw,wS_app,wS_leaves,wS_up a.length _ fun q hq=>by
  have:=(rows_path _ _ q hq).1;simp at this;omega]
 have h6:=bk_is x;omega
theorem wS_sub {lt:GRow→GRow→Prop} (irr:∀ x,¬ lt x x) (n:Nat):∀ (L M:List GRow),L.Pairwise lt→(∀ x ∈ L,x ∈ M)→wS n L≤wS n M
 | [],_,_,_=>Nat.zero_le _
 | x::L,M,h,hs=>by
  obtain ⟨h1,h2⟩:=List.pairwise_cons.1 h;obtain ⟨A,B,rfl⟩:=List.append_of_mem (hs x (by simp));have:=wS_sub irr n L (A++B) h2 fun y hy=>by
   have hy2:=hs y (by simp [hy]);have hne:y ≠ x:=fun e=>irr x (by have:=h1 y hy;rwa [e] at this);simp only [List.mem_append,List.mem_cons] at hy2 ⊢;rcases hy2 with h | h | h
   ·exact .inl h
   ·exact (hne h).elim
   ·exact .inr h
  rw [wS_app] at this;rw [wS_app];simp only [wS];omega
def lS:List GRow→Nat
 | []=>0
 | r::L=>r.leaf.bk+lS L
theorem lS_app:∀ A B:List GRow,lS (A++B)=lS A+lS B
 | [],B=>by simp [lS]
 | r::A,B=>by simp only [List.cons_append,lS,lS_app A B];omega
theorem lS_leaves (p:List zY):∀ ls:List GLeaf,lS (ls.map fun l=>GRow.mk p l)=(ls.map GLeaf.bk).sum
 | []=>rfl
 | l::ls=>by simp only [List.map_cons,lS,lS_leaves p ls,List.sum_cons]
theorem wS_le:∀ L:List GRow,(∀ r ∈ L,r.path.length≤3)→wS 0 L≤lS L+51 * L.length
 | [],_=>Nat.le_refl _
 | r::L,h=>by
  have h1:=h r (by simp);have h2:=wS_le L fun q hq=>h q (by simp [hq]);simp only [wS,lS,List.length_cons];omega
theorem lS_le:∀ (t:List GNode) (a:List zY),lS (ya a t)≤GNode.bks t:=by
 refine qG (fun _=>Nat.zero_le _) ?_;intro x r hx hr a;have h1:=hr a;have h2:=hx (a++[x.name]);have h3:=bk_is x;show lS (rowsN a x++ya a r)≤x.bk+GNode.bks r;rw [lS_app,vw,lS_app,lS_leaves];omega
theorem rows_wf:∀ (t:List GNode) (a:List zY),GNode.wfs t→∀ r ∈ ya a t,GLeaf.wf r.leaf:=by
 refine qG (fun _ _ _ h=>by simp [ya] at h) ?_;intro x r hx hr a h q hq;simp only [GNode.wfs] at h;have hq:q ∈ rowsN a x++ya a r:=hq;rcases List.mem_append.1 hq with hq | hq
 ·have hw:x.name.length≤maxLen∧(x.leaves.length≤maxLen∧∀ y ∈ x.leaves,GLeaf.wf y)∧GNode.wfs x.subs:=by
   have:=h.1;cases x;simpa only [GNode.wf] using this
  rcases rowsN_mem.1 hq with ⟨l,hl,rfl⟩ | hq
  ·exact hw.2.1.2 l hl
  ·exact hx _ hw.2.2 q hq
 ·exact hr a h.2 q hq
theorem wf_rows:∀ (t:List GNode) (d:Nat) (a:List zY),(∀ x ∈ t,nodeB d x=true)→(ya a t).length≤maxLen→(∀ r ∈ ya a t,GLeaf.wf r.leaf)→GNode.wfs t:=by
 refine qG (fun _ _ _ _ _=>by simp [GNode.wfs]) ?_;intro x r hx hr d a hn hl hw;have hl:(rowsN a x++ya a r).length≤maxLen:=hl;have hw:∀ q ∈ rowsN a x++ya a r,GLeaf.wf q.leaf:=hw;rw [vw] at hl;simp only [List.length_append,List.length_map] at hl;obtain ⟨n1,n2,_⟩:=qL (hn x (by simp));have h1:=hr d a (fun y hy=>hn y (by simp [hy])) (by omega) (fun q hq=>hw q (by simp [hq]));have h2:=hx (d+1) (a++[x.name]) (xe n2).2 (by omega) (fun q hq=>hw q (List.mem_append.2 (.inl (rowsN_mem.2 (.inr hq)))));have h3:=(name_len n1).1;have hnl:x.name.length≤maxLen:=Nat.le_trans h3 (by decide);have h4:∀ y ∈ x.leaves,GLeaf.wf y:=fun y hy=>hw ⟨a++[x.name],y⟩ (List.mem_append.2 (.inl (rowsN_mem.2 (.inl ⟨y,hy,rfl⟩))));have h5:x.leaves.length≤maxLen:=by omega
 simp only [GNode.wfs];refine ⟨?_,h1⟩;revert hnl h4 h5 h2;cases x;intro h2 hnl h4 h5;simp only [GNode.wf];exact ⟨hnl,⟨h5,h4⟩,h2⟩
end Go.Vv
namespace Go.Vv
open Go
set_option linter.unusedSimpArgs false
set_option linter.unusedVariables false
theorem ownC_is {l:GLeaf} (h:LeafOk l):treeXownC1 l=some l:=by
 unfold treeXownC1;rw [cloneItem_is (vp (by have:=h.items;omega)),Option.bind_some,cloneDot_is (vp (by have:=h.tombs;omega)),Option.bind_some]
theorem changed_is:∀ (n:Nat) (t:List GNode),GNode.deps t < n→Small t→qO n t (fun x0=>treeXownC1 x0)=some t
 | 0,_,h,_=>by omega
 | n+1,t,h,hs=>by
  unfold qO;have hl:=hs.len;rw [loop_keep (fun _=>true) (fun x=>x) t 0 [] (vp (by simp;omega))]
  ·simp
  ·intro i x s hx hsl;have hdp:=dep_mem hx;have hds:=qN x;have hll:=hs.leaves hx;rw [changed_is n x.subs (by omega) (hs.subs hx),Option.bind_some];rw [loop_keep (fun _=>true) (fun l=>l) x.leaves 0 [] (vp (by simp;omega))]
   ·have hft:(x.leaves.filter fun _=>true)=x.leaves:=by simp
    simp only [vX,List.nil_append,List.map_id_fun',id,hft,if_true];rw [yc (by simpa using hsl)];cases x;simp
   ·intro j l s2 hl2 hs2;show ((treeXownC1 l).bind _)=_;rw [ownC_is (hs.leaf hx hl2),Option.bind_some,yc (by simpa using hs2)];simp
theorem own7_is {t:List GNode} (h:Small t):treeXown t=some t:=by
 unfold treeXown treeXchanged;rw [anyN_of (GNode.deps t+1) fun n hn=>changed_is n t (by omega) h,Option.bind_some]
theorem wS_len:∀ L:List GRow,(∀ r ∈ L,1≤r.path.length)→17 * L.length≤wS 0 L
 | [],_=>Nat.le_refl _
 | r::L,h=>by
  have h1:=h r (by simp);have h2:=wS_len L fun q hq=>h q (by simp [hq]);simp only [wS,List.length_cons];omega
structure Fine (t:List GNode):Prop where
 small:Small t
 tree:treeB 0 t=true
 ws:wS 0 (ya [] t)≤14680064
 leaf:∀ r ∈ ya [] t,r.leaf.bk≤1048576
theorem lS_mem:∀ {L:List GRow} {r:GRow},r ∈ L→r.leaf.bk≤lS L
 | q::L,r,h=>by
  rcases List.mem_cons.1 h with rfl | h
  ·simp only [lS];omega
  ·have:=lS_mem h;simp only [lS];omega
theorem fine_of {t:List GNode} (hs:Small t) (ht:treeB 0 t=true) (hb:GNode.bks t≤1048576):Fine t:=by
 have h4:=wS_le (ya [] t) fun r hr=>(pathB_parts (rows_ok t 0 [] hs ht rfl rfl r hr).path).2.1;have h6:=lS_le t [];have h8:=rows4 t;exact ⟨hs,ht,by omega,fun r hr=>Nat.le_trans (lS_mem hr) (by omega)⟩
theorem Fine.row {t:List GNode} (h:Fine t) {r:GRow} (hr:r ∈ ya [] t):RowOk' r:=rows_ok t 0 [] h.small h.tree rfl rfl r hr
theorem Fine.len {t:List GNode} (h:Fine t):(ya [] t).length≤863533:=by
 have h1:=wS_len (ya [] t) fun r hr=>by
  have:=(pathB_parts (h.row hr).path).1;exact List.length_pos_iff.2 this
 have:=h.ws;omega
theorem rows_small {u:List GNode} {M:List GRow} (hu:treeB 0 u=true) (hw:wS 0 M≤16777216) (hn:M.length≤1048576) (hwf:∀ r ∈ M,GLeaf.wf r.leaf) (h:∀ r ∈ ya [] u,r ∈ M):Small u∧wS 0 (ya [] u)≤wS 0 M:=by
 have irr:∀ x:GRow,¬ kltB (qz x) (qz x)=true:=fun x h=>by rw [klt_irr] at h;cases h
 have hsd:=rows_sorted hu [];have h1:=bks_rows u 0 [] (xe hu).2;have h2:=wS_sub irr 0 _ _ hsd h;have h3:=sub_len irr _ _ hsd h;simp only [List.length_nil] at h1;exact ⟨⟨wf_rows u 0 [] (xe hu).2 (Nat.le_trans (Nat.le_trans h3 hn) (by decide)) fun r hr=>hwf r (h r hr),by omega⟩,h2⟩
theorem fine_sub {t u:List GNode} (ht:Fine t) (hu:treeB 0 u=true) (h:∀ r ∈ ya [] u,r ∈ ya [] t):Fine u:=by
 have h1:=ht.ws;have h2:=ht.len;obtain ⟨a,b⟩:=rows_small hu (by omega) (by omega) (fun r hr=>rows_wf t [] ht.small.1 r hr) h;exact ⟨a,hu,by omega,fun r hr=>ht.leaf r (h r hr)⟩
theorem small_put {t u:List GNode} {p:List zY} {l:GLeaf} (ht:Fine t) (hu:treeB 0 u=true) (hl:l.bk≤1100000) (hw:GLeaf.wf l) (hp:p.length≤3) (h:∀ r ∈ ya [] u,r ∈ ya [] t ∨ r=⟨p,l⟩):Small u:=by
 have h1:=ht.ws;have h2:=ht.len;refine (rows_small (M:=ya [] t++[⟨p,l⟩]) hu (by rw [wS_app];simp only [wS];omega) (by simp;omega) (fun r hr=>?_) fun r hr=>?_).1
 ·rcases List.mem_append.1 hr with h | h
  ·exact rows_wf t [] ht.small.1 r h
  ·rw [List.mem_singleton.1 h];exact hw
 ·rcases h r hr with h | h
  ·simp [h]
  ·simp [h]
theorem dots_bk (L:List GDot):(L.map GDot.bk).sum=5 * L.length:=by
 induction L with
 | nil=>rfl
 | cons d r ih =>
  have:GDot.bk d=5:=rfl;rw [List.map_cons,List.sum_cons,ih,this,List.length_cons];omega
theorem sum_filter_le {α:Type} (f:α→Nat) (q:α→Bool):∀ L:List α,((L.filter q).map f).sum≤(L.map f).sum
 | []=>by simp
 | x::r=>by
  have:=sum_filter_le f q r;rw [List.filter_cons];split <;> simp only [List.map_cons,List.sum_cons] <;> omega
theorem lay_bk (L:List GItem) (x:GItem):((layP L x).map GItem.bk).sum≤(L.map GItem.bk).sum+x.bk:=by
 unfold layP;split
 ·omega
 ·have e:=List.takeWhile_append_dropWhile (p:=fun y=>aheadI y x) (l:=L);have e2:(L.map GItem.bk).sum=(((L.takeWhile (fun y=>aheadI y x))++L.dropWhile fun y=>aheadI y x).map GItem.bk).sum:=by rw [e]
  rw [e2];simp only [List.map_append,List.sum_append,List.map_cons,List.map_nil,List.sum_cons,List.sum_nil];omega
theorem applyP_bk {l:GLeaf} {e:GEvent} (he:qR e=true):(vj l e).bk≤l.bk+1000:=by
 have d:=evOk he;have h1:=lay_bk l.items ⟨0,e.dot,e.op.text⟩;have h2:=lay_bk l.items ⟨e.time,e.dot,e.op.text⟩;have h3:=burs_len e.op.dots l.tombs;have h4:=sum_filter_le GItem.bk (fun x:GItem=>!(e.op.dots.any fun y=>decide (y=x.dot))) l.items;have hd:=d.dlen;have ht:=d.text;have b0:∀ x:GDot,GDot.bk x=5:=fun _=>rfl;have i1:GItem.bk ⟨0,e.dot,e.op.text⟩≤60:=by simp only [GItem.bk,b0];omega
 have i2:GItem.bk ⟨e.time,e.dot,e.op.text⟩≤60:=by simp only [GItem.bk,b0];omega
 unfold vj;split
 ·simp only [GLeaf.bk];omega
 split
 ·generalize (decide (l.time=0) || (if l.time ≠ e.time then decide (l.time < e.time) else dotLt l.dot e.dot))=b;cases b
  ·simp only [Bool.false_eq_true,if_false];omega
  ·simp only [if_true,GLeaf.bk,b0];omega
 split
 ·split
  ·omega
  ·simp only [GLeaf.bk];omega
 split
 ·simp only [GLeaf.bk,dots_bk];omega
 ·simp only [GLeaf.bk];omega
theorem inK_wrap64 (n:Int):InK .i64 (IntKind.wrap .i64 n):=by
 unfold InK;rw [IntKind.wrap_i64];constructor
 ·show (-9223372036854775808:Int)≤_;omega
 ·show _≤(9223372036854775807:Int);omega
theorem all_lay {q:GItem→Prop} {L:List GItem} {x:GItem} (h:∀ y ∈ L,q y) (hx:q x):∀ y ∈ layP L x,q y:=fun y hy=>by
 rcases layP_mem hy with h1 | h1
 ·exact h y h1
 ·rw [h1];exact hx
theorem applyP_wf {l:GLeaf} {e:GEvent} (hl:GLeaf.wf l) (he:qR e=true) (hw:GEvent.wf e) (hi:l.items.length≤1048576) (hto:l.tombs.length≤1048576):GLeaf.wf (vj l e):=by
 have d:=evOk he;obtain ⟨w1,w2,w3,w4,w5,w6,w7⟩:=hl;obtain ⟨e1,e2,e3⟩:=hw;obtain ⟨o1,o2,o3,o4,o5⟩:=e3;have hm:∀ n,n≤1048700→n≤maxLen:=fun n h=>Nat.le_trans h (by decide);have l1:=fun x=>layP_len l.items x;have l2:=burs_len e.op.dots l.tombs;have l3:=List.length_filter_le (fun x:GItem=>!(e.op.dots.any fun y=>decide (y=x.dot))) l.items;have hd:=d.dlen;have z:InK .u64 0:=⟨Int.le_refl _,by decide⟩
 unfold vj;split
 ·exact ⟨w1,inK_wrap64 _,w3,w4,w5,w6,w7⟩
 split
 ·generalize (decide (l.time=0) || (if l.time ≠ e.time then decide (l.time < e.time) else dotLt l.dot e.dot))=b;cases b
  ·exact ⟨w1,w2,w3,w4,w5,w6,w7⟩
  ·exact ⟨w1,w2,e2,e1,o4,w6,w7⟩
 split
 ·split
  ·exact ⟨w1,w2,w3,w4,w5,w6,w7⟩
  ·exact ⟨w1,w2,w3,w4,w5,⟨hm _ (by have:=l1 ⟨0,e.dot,e.op.text⟩;simp only [];omega),all_lay w6.2 ⟨z,e1,o4⟩⟩,w7⟩
 split
 ·refine ⟨w1,w2,w3,w4,w5,⟨hm _ (by simp only [];omega),fun y hy=>w6.2 y (List.mem_filter.1 hy).1⟩,⟨hm _ (by simp only [];omega),fun y hy=>?_⟩⟩;rcases (burs_mem _ _ _).1 hy with h | h
  ·exact o5.2 y h
  ·exact w7.2 y h
 ·exact ⟨w1,w2,w3,w4,w5,⟨hm _ (by have:=l1 ⟨e.time,e.dot,e.op.text⟩;simp only [];omega),all_lay w6.2 ⟨e2,e1,o4⟩⟩,w7⟩
theorem newLf_wf {k:Int} (h:1≤k∧k≤4):GLeaf.wf (newLf k):=by
 have z:InK .u64 0:=⟨Int.le_refl _,by decide⟩
 have z8:InK .u8 0:=⟨Int.le_refl _,by decide⟩
 have z32:InK .u32 0:=⟨Int.le_refl _,by decide⟩
 have zi:InK .i64 0:=⟨by decide,by decide⟩
 refine ⟨⟨by show (0:Int)≤k;omega,by show k≤255;omega⟩,zi,z,⟨⟨z8,z32⟩,z⟩,by simp [newLf],⟨by simp [newLf],by simp [newLf]⟩,⟨by simp [newLf],by simp [newLf]⟩⟩
end Go.Vv
namespace Go.Vv
open Go
set_option linter.unusedSimpArgs false
set_option linter.unusedVariables false
theorem tlR_false {k:Int} (hk:1≤k∧k≤4) {s1:Bool×zY×(List GLeaf)×(List GNode)} {v:GLeaf} (h:tlR k s1=some (v,false)):v=newLf k:=by
 unfold tlR at h;obtain ⟨v49,_,h⟩:=Option.bind_eq_some_iff.1 h;obtain ⟨v50,_,h⟩:=Option.bind_eq_some_iff.1 h;split at h
 ·rw [leafNew_is hk,Option.bind_some] at h;injection h with h;injection h with h _;exact h.symm
 ·obtain ⟨y,_,h⟩:=Option.bind_eq_some_iff.1 h;obtain ⟨a,_,h⟩:=Option.bind_eq_some_iff.1 h;obtain ⟨b,_,h⟩:=Option.bind_eq_some_iff.1 h;injection h with h;injection h with _ h;cases h
theorem treeLeaf_false {t:List GNode} {p:List zY} (hp:p ≠ []) {k:Int} (hk:1≤k∧k≤4) {v:GLeaf} (h:qq t p k=some (v,false)):v=newLf k:=by
 have hw:=tl_walk p 0 t (decide ((p.length:Int) > 0),([]:zY),([]:List GLeaf),([]:List GNode)) hp;rw [tl_eq] at h;cases e:nodeAt t p with
 | none =>
  rw [e] at hw;obtain ⟨u,hw⟩:=hw;rw [hw] at h;simp only [vX] at h;exact tlR_false hk h
 | some x =>
  rw [e] at hw;simp only at hw;rw [hw] at h;simp only [vX] at h;exact tlR_false hk h
theorem leaf_lens (l:GLeaf):l.items.length≤l.bk∧l.tombs.length≤l.bk:=by
 have h1:=sum_len (f:=GItem.bk) (fun x=>by simp only [GItem.bk];omega) l.items;have h2:=dots_bk l.tombs;simp only [GLeaf.bk];omega
theorem leaf_both {t:List GNode} (hf:Fine t) {p:List zY} (hp:p ≠ []) {k:Int} (hk:1≤k∧k≤4) :
  ∃ l b,qq t p k=some (l,b)∧ref07Leaf t p k=some (l,b)∧l.typ=k∧leafB l=true∧LeafOk l∧GLeaf.wf l∧l.bk≤1048576∧((b=true∧GRow.mk p l ∈ ya [] t) ∨ (b=false∧l=newLf k∧∀ r ∈ ya [] t,qz r ≠ (p,k))):=by
 have h4:=hf.len;have hs:=hf.small;have ht:=hf.tree;have hok:=fun r hr=>rows_ok t 0 [] hs ht rfl rfl r hr;rcases treeLeaf_is ht (fun r hr=>(hok r hr).ok) hp hk with ⟨l,h1,h2,h3⟩ | ⟨h1,v,h2⟩ <;> rcases leaf7_is ht (by omega) hp hk with ⟨l',g1,g2,g3⟩ | ⟨g1,g2⟩
 ·have e:=sorted_key (key:=qz) (rows_sorted ht []) h1 g1 (by simp only [qz];rw [h2,g2]);injection e with _ e;subst e;have hr:=hok _ h1;refine ⟨l,true,h3,g3,h2,hr.leaf,hr.ok,rows_wf t [] hs.1 _ h1,?_,.inl ⟨rfl,h1⟩⟩;exact hf.leaf _ h1
 ·exact absurd (by simp only [qz];rw [h2]) (g1 _ h1)
 ·exact absurd (by simp only [qz];rw [g2]) (h1 _ g1)
 ·have e:=treeLeaf_false hp hk h2;subst e;exact ⟨newLf k,false,h2,g2,rfl,newLf_may hk,newLf_ok k,newLf_wf hk,(by simp [newLf,GLeaf.bk,GDot.bk,GActor.bk]),.inr ⟨rfl,rfl,h1⟩⟩
theorem put_all {l:GLeaf} (hl:leafB l=true) (ho:LeafOk l) {p:List zY} {t u:List GNode} (hp:pathB p=true) (ht:treeB 0 t=true) (hw:(ya [] t).length≤8388606) (hu:treeB 0 u=true) (hr:∀ r,r ∈ ya [] u ↔ (r ∈ ya [] t∧qz r ≠ (p,l.typ)) ∨ (true=true∧r=⟨p,l⟩)) :
  treeXput t p l=some u∧ref07Lay t p l=some u:=by
 obtain ⟨p1,p2,p3⟩:=pathB_parts hp;have key:∀ n,p.length+1≤n→vF n t p l.typ l true=some u:=fun n hn=>by
  obtain ⟨u',f1,f2,_,f4⟩:=lay_is (k:=l.typ) (l:=l) (there:=true) (fun _=>⟨rfl,hl,ho⟩) p t 0 n p1 p3 (by omega) ht (by omega) (by omega);have f4:=f4 [];simp only [List.nil_append] at f4;rw [f1,rows_ext f2 hu fun r=>by rw [f4,hr];simp]
 refine ⟨anyN_of (p.length+1) fun n hn=>?_,anyN_of (p.length+1) fun n hn=>?_⟩
 ·rw [put_lay hl ho p t 0 n p1 p3 (by omega) ht (by omega) (by omega)];exact key n hn
 ·rw [lay7_lay hl ho p t 0 n p1 p3 (by omega) ht (by omega) (by omega)];exact key n hn
theorem apply_is {t:List GNode} {e:GEvent} (hf:Fine t) (he:qR e=true) (hw:GEvent.wf e) :
  ∃ u l b,treeApply t e=some (u,0)∧ref07Apply t e=some (u,0)∧Small u∧treeB 0 u=true∧qq t e.op.path (qT e.op.kind)=some (l,b)∧l.typ=qT e.op.kind∧leafB (vj l e)=true∧LeafOk (vj l e) ∧
   ∀ r,r ∈ ya [] u ↔ (r ∈ ya [] t∧qz r ≠ (e.op.path,qT e.op.kind)) ∨ r=⟨e.op.path,vj l e⟩:=by
 have d:=evOk he;have hs:=hf.small;have ht:=hf.tree;have hk:=type_range d.kind;obtain ⟨p1,p2,p3⟩:=pathB_parts d.path;obtain ⟨l,b,h1,h2,h3,h4,h5,h6,h7,_⟩:=leaf_both hf p1 hk;have hlen:=leaf_lens l;have hA:=applyP_may h4 he h3.symm;have hT:(vj l e).typ=qT e.op.kind:=by rw [applyP_typ,h3]
 obtain ⟨hO,_⟩:=applyP_ok h5 he (by omega) (by omega);have hrows:=hf.len;obtain ⟨u,_,u1,_,u2⟩:=lay_all (k:=(vj l e).typ) (l:=vj l e) (there:=true) (fun _=>⟨rfl,hA,hO⟩) d.path ht (by omega);obtain ⟨q1,q2⟩:=put_all hA hO d.path ht (by omega) u1 u2;have hS:Small u:=small_put hf u1 (Nat.le_trans (applyP_bk he) (by omega)) (applyP_wf h6 he hw (by omega) (by omega)) p2 fun r hr=>by
  rcases (u2 r).1 hr with h | h
  ·exact .inl h.1
  ·exact .inr h.2
 have hi1:l.items.length≤1048576:=by omega
 have hi2:l.tombs.length≤1048576:=by omega
 have hW:applyW l e=(vj l e,0):=by
  unfold applyW;rw [if_neg (by rw [h4,he];decide),if_neg (by rw [h3];simp)]
 refine ⟨u,l,b,?_,?_,hS,u1,h1,h3,hA,hO,fun r=>by rw [u2,hT];simp⟩
 ·unfold treeApply;rw [treeMay_is hs,opMayEvent_is,ht,he];simp only [Option.bind_some,Bool.not_true,beq_self_eq_true,if_true,Bool.or_self,Bool.false_eq_true,if_false];rw [opType_is,Option.bind_some,h1,Option.bind_some,leafApply_is e hi1 hi2,hW,Option.bind_some];simp only [bne_self_eq_false,Bool.false_eq_true,if_false];rw [q1,Option.bind_some,own7_is hS,Option.bind_some]
 ·unfold ref07Apply;rw [ref07May_is hs,ref04MayEvent_is,ht,he];simp only [Option.bind_some,Bool.not_true,beq_self_eq_true,if_true,Bool.or_self,Bool.false_eq_true,if_false];rw [ref04Type_is,Option.bind_some,h2,Option.bind_some,refApply_is e hi1 hi2 h5.time,hW,Option.bind_some];simp only [bne_self_eq_false,Bool.false_eq_true,if_false];rw [q2,Option.bind_some]
end Go.Vv
