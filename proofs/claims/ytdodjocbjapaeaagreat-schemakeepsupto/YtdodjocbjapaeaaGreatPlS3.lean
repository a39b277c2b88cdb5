/- The program's put, and the document's Lay, are layer 31's lay. -/
import Derived.Test.YtdodjocbjapaeaaGreatPlS0
namespace Go.Vv
open Go
theorem bsf_loop {cmp:GLeaf→Int→Option Int} {x:List GLeaf} {s:Int} {c:Nat} (hx:x.length≤16777216) (h1:∀ i n,x[i]?=some n→∃ v,cmp n s=some v∧(i < c→v < 0)∧(c≤i→0≤v)) :
  ∀ (k lo hi:Nat),hi - lo≤k→lo≤c→c≤hi→hi≤x.length→yr (ρ:=Int×Bool) (fun (s1:Int×Int)=>((if (decide (s1.1 < s1.2))=true then ((yo x (IntKind.wrap .i64 ((Int.fdiv (IntKind.wrap .u64 ((IntKind.wrap .i64 (s1.1+s1.2)))) (2 ^ (min (1:Int).toNat (IntKind.bits .u64))))))).bind fun y9=>((cmp y9 s).bind fun v10=>(if (decide (v10 < (0:Int)))=true then some (.nxt ((IntKind.wrap .i64 ((IntKind.wrap .i64 ((Int.fdiv (IntKind.wrap .u64 ((IntKind.wrap .i64 (s1.1+s1.2)))) (2 ^ (min (1:Int).toNat (IntKind.bits .u64))))))+(1:Int))),s1.2)) else some (.nxt (s1.1,(IntKind.wrap .i64 ((Int.fdiv (IntKind.wrap .u64 ((IntKind.wrap .i64 (s1.1+s1.2)))) (2 ^ (min (1:Int).toNat (IntKind.bits .u64))))))))))) else some (.brk (s1.1,s1.2))):Option (Out _ (Int×Int)))) ((lo:Int),(hi:Int))=some (.inr ((c:Int),(c:Int))):=by
 intro k
 induction k with
 | zero =>
  intro lo hi hk hl hc hh;obtain rfl:lo=hi:=by omega
  obtain rfl:lo=c:=by omega
  rw [yS];simp
 | succ k ih =>
  intro lo hi hk hl hc hh;rw [yS];by_cases hlt:lo < hi
  ·have hd:decide ((lo:Int) < (hi:Int))=true:=decide_eq_true (by omega);simp only [hd,if_true,half_mid hlt (by omega)];have hm:(lo+hi) / 2 < x.length:=by omega
   rw [qv hm,Option.bind_some];obtain ⟨v,hv,h2,h3⟩:=h1 ((lo+hi) / 2) _ (List.getElem?_eq_getElem hm);rw [hv,Option.bind_some];by_cases hcm:(lo+hi) / 2 < c
   ·rw [decide_eq_true (h2 hcm),if_pos rfl];simp only;have e:IntKind.wrap .i64 ((((lo+hi) / 2:Nat):Int)+1)=(((lo+hi) / 2+1:Nat):Int):=by rw [w64n (by omega)];omega
    rw [e];exact ih _ _ (by omega) (by omega) hc hh
   ·rw [decide_eq_false (by have:=h3 (by omega);omega)];simp only [Bool.false_eq_true,if_false];exact ih _ _ (by omega) hl (by omega) (by omega)
  ·obtain rfl:lo=hi:=by omega
   obtain rfl:lo=c:=by omega
   simp
theorem bsf_is {cmp:GLeaf→Int→Option Int} {x:List GLeaf} {s:Int} {c:Nat} (hx:x.length≤16777216) (hc:c≤x.length) (h1:∀ i n,x[i]?=some n→∃ v,cmp n s=some v∧(i < c→v < 0)∧(c≤i→0≤v)) :
  zD x s cmp=(if c < x.length then cmp (x.getD c default) s else some 1).bind fun v=>some ((c:Int),(decide (c < x.length)&&(v==0))):=by
 unfold zD;have:=bsf_loop hx h1 x.length 0 x.length (by omega) (Nat.zero_le _) hc (Nat.le_refl _);simp only [Int.natCast_zero] at this;rw [show ((0:Int),(x.length:Int))=(((0:Nat):Int),(x.length:Int)) from rfl] at *;rw [this];simp only [lp];by_cases h:c < x.length
 ·have hd:decide ((c:Int) < (x.length:Int))=true:=decide_eq_true (by omega);simp only [hd,h,if_true,Int.toNat_natCast,beq_self_eq_true,decide_true,Bool.true_and];rw [zo (by intro _;omega)]
 ·have hd:decide ((c:Int) < (x.length:Int))=false:=decide_eq_false (by omega);simp only [hd,h,if_false,decide_false,Bool.false_and,Option.bind_some];rw [zo (by intro hh;cases hh)];simp

theorem putC_is (x:GLeaf) (k:Int):wm x k=some (cmpI x.typ k):=by unfold wm;rw [cmpU8is];rfl
theorem cmpI_neg {a b:Int}:cmpI a b < 0 ↔ a < b:=by unfold cmpI;split <;> (try split) <;> omega
theorem cmpI_zero {a b:Int}:cmpI a b=0 ↔ a=b:=by unfold cmpI;split <;> (try split) <;> omega
theorem split_typ {ls:List GLeaf} (k:Int) (h:ls.Pairwise fun x y=>x.typ < y.typ):(∃ A B,ls=A++B∧(∀ y ∈ A,y.typ < k)∧∀ y ∈ B,k < y.typ) ∨ ∃ A x B,ls=A++x::B∧x.typ=k∧(∀ y ∈ A,y.typ < k)∧∀ y ∈ B,k < y.typ:=by
 induction ls with
 | nil=>exact .inl ⟨[],[],rfl,fun _ h=>by simp at h,fun _ h=>by simp at h⟩
 | cons x t ih =>
  obtain ⟨h1,h2⟩:=List.pairwise_cons.1 h;rcases Int.lt_trichotomy x.typ k with e | e | e
  ·rcases ih h2 with ⟨A,B,rfl,ha,hb⟩ | ⟨A,z,B,rfl,hz,ha,hb⟩
   ·refine .inl ⟨x::A,B,rfl,fun y hy=>?_,hb⟩;rcases List.mem_cons.1 hy with rfl | hy
    ·exact e
    ·exact ha y hy
   ·refine .inr ⟨x::A,z,B,rfl,hz,fun y hy=>?_,hb⟩;rcases List.mem_cons.1 hy with rfl | hy
    ·exact e
    ·exact ha y hy
  ·exact .inr ⟨[],x,t,rfl,e,fun _ h=>by simp at h,fun y hy=>by rw [← e];exact h1 y hy⟩
  ·refine .inl ⟨[],x::t,rfl,fun _ h=>by simp at h,fun y hy=>?_⟩;rcases List.mem_cons.1 hy with rfl | hy
   ·exact e
   ·exact Int.lt_trans e (h1 y hy)
theorem layLs_none {l:GLeaf} {A B:List GLeaf} (ha:∀ y ∈ A,y.typ < l.typ) (hb:∀ y ∈ B,l.typ < y.typ):qb l.typ l true (A++B)=A++l::B:=by
 unfold qb;rw [if_pos rfl,List.filter_append,List.filter_append];rw [List.filter_eq_self.2 (fun y hy=>decide_eq_true (ha y hy)),List.filter_eq_nil_iff.2 (fun y hy=>by have:=hb y hy;simp;omega),
  List.filter_eq_nil_iff.2 (fun y hy=>by have:=ha y hy;simp;omega),List.filter_eq_self.2 (fun y hy=>decide_eq_true (hb y hy))]
 simp
theorem layLs_some {l x:GLeaf} {A B:List GLeaf} (hx:x.typ=l.typ) (ha:∀ y ∈ A,y.typ < l.typ) (hb:∀ y ∈ B,l.typ < y.typ):qb l.typ l true (A++x::B)=A++l::B:=by
 unfold qb;rw [if_pos rfl,List.filter_append,List.filter_append,List.filter_cons,List.filter_cons];rw [if_neg (by simp;omega),if_neg (by simp;omega)];rw [List.filter_eq_self.2 (fun y hy=>decide_eq_true (ha y hy)),List.filter_eq_nil_iff.2 (fun y hy=>by have:=hb y hy;simp;omega),
  List.filter_eq_nil_iff.2 (fun y hy=>by have:=ha y hy;simp;omega),List.filter_eq_self.2 (fun y hy=>decide_eq_true (hb y hy))]
 simp
theorem bsf_none {A B:List GLeaf} {k:Int} (hx:(A++B).length≤16777216) (ha:∀ y ∈ A,y.typ < k) (hb:∀ y ∈ B,k < y.typ):zD (A++B) k (fun x0 x1=>wm x0 x1)=some ((A.length:Int),false):=by
 rw [bsf_is (c:=A.length) hx (by simp) fun i m hi=>⟨_,putC_is m k,fun hc=>by
   rw [List.getElem?_append_left hc] at hi;exact cmpI_neg.2 (ha m (List.mem_of_getElem? hi)),fun hc=>by
   rw [List.getElem?_append_right hc] at hi;have:=hb m (List.mem_of_getElem? hi);have h2:¬ cmpI m.typ k < 0:=fun h=>by rw [cmpI_neg] at h;omega
   omega⟩]
 cases B with
 | nil=>simp
 | cons y B =>
  have e:(A++y::B).getD A.length default=y:=by simp
  have:=hb y (by simp);rw [if_pos (by simp),e,putC_is];have e2:(cmpI y.typ k==0)=false:=by
   rw [beq_eq_false_iff_ne,Ne,cmpI_zero];omega
  simp [e2]
theorem bsf_some {A B:List GLeaf} {x:GLeaf} {k:Int} (hx:(A++x::B).length≤16777216) (hs:x.typ=k) (ha:∀ y ∈ A,y.typ < k) (hb:∀ y ∈ B,k < y.typ):zD (A++x::B) k (fun x0 x1=>wm x0 x1)=some ((A.length:Int),true):=by
 rw [bsf_is (c:=A.length) hx (by simp) fun i m hi=>⟨_,putC_is m k,fun hc=>by
   rw [List.getElem?_append_left hc] at hi;exact cmpI_neg.2 (ha m (List.mem_of_getElem? hi)),fun hc=>by
   rw [List.getElem?_append_right hc] at hi;have h3:¬ m.typ < k:=by
    rcases List.mem_cons.1 (List.mem_of_getElem? hi) with rfl | hm
    ·omega
    ·have:=hb m hm;omega
   have h2:¬ cmpI m.typ k < 0:=fun h=>by rw [cmpI_neg] at h;omega
   omega⟩]
 have e:(A++x::B).getD A.length default=x:=by simp
 rw [if_pos (by simp),e,putC_is,cmpI_zero.2 hs];simp
theorem insO_at {α:Type} {A B:List α} (x:α) (h:(A++B).length≤16777216):insO (A++B) (A.length:Int) [x]=some (A++x::B):=by
 unfold insO;rw [if_pos ⟨⟨by omega,by simp;omega⟩,by simp,yG (by simp at h ⊢;omega)⟩];simp
noncomputable def putX (n:Nat) (p:List zk) (l2:GLeaf) (y7:GNode) (v6:List GNode) (i:Int):Option (List GNode) :=
 (if (decide (((p).length:Int) > (1:Int)))=true then ((slc p (1:Int) ((p).length:Int)).bind fun m10=>((xy n y7.subs m10 l2).bind fun v11=>((yo v6 i).bind fun y12=>some (v6.set i.toNat (GNode.mk y7.name y7.leaves v11))))) else ((yU y7.leaves).bind fun v13=>((zD v13 l2.typ (fun x0 x1=>wm x0 x1)).bind fun v14=>(if (!v14.2)=true then ((insO v13 v14.1 ([l2]:List GLeaf)).bind fun v16=>((yo v16 v14.1).bind fun y17=>((yo v6 i).bind fun y18=>some (v6.set i.toNat (GNode.mk y7.name (v16.set v14.1.toNat l2) y7.subs))))) else ((yo v13 v14.1).bind fun y19=>((yo v6 i).bind fun y20=>some (v6.set i.toNat (GNode.mk y7.name (v13.set v14.1.toNat l2) y7.subs))))))))
theorem putN_eq (n:Nat) (t0:List GNode) (path1:List zk) (l2:GLeaf):xy (n+1) t0 path1 l2=((yg t0).bind fun v1=>((yo path1 (0:Int)).bind fun y2=>((treeXfind v1 y2).bind fun v3=>(if (!v3.2)=true then ((yo path1 (0:Int)).bind fun y5=>((insO v1 v3.1 ([(GNode.mk y5 ([]:List GLeaf) ([]:List GNode))]:List GNode)).bind fun v6=>((yo v6 v3.1).bind fun y7=>putX n path1 l2 y7 v6 v3.1))) else ((yo v1 v3.1).bind fun y21=>putX n path1 l2 y21 v1 v3.1))))):=rfl
theorem putX_leaf {n:Nat} {s:zk} {l:GLeaf} {A B:List GNode} {x:GNode} (hl:x.leaves.length≤16777215) (h:x.leaves.Pairwise fun x y=>x.typ < y.typ):putX n [s] l x (A++x::B) (A.length:Int)=some (A++⟨x.name,qb l.typ l true x.leaves,x.subs⟩::B):=by
 unfold putX;have d1:decide (((([s]:List zk).length:Int)) > 1)=false:=rfl;have i1:yo (A++x::B) (A.length:Int)=some x:=zz (by simp);simp only [d1,Bool.false_eq_true,if_false];rw [cloneLeaf_is (yG (by omega)),Option.bind_some];rcases split_typ l.typ h with ⟨C,D,e,hc,hd⟩ | ⟨C,z,D,e,hz,hc,hd⟩
 ·rw [e,bsf_none (by rw [← e];omega) hc hd,Option.bind_some];simp only [Bool.not_false,if_true];rw [insO_at _ (by rw [← e];omega),Option.bind_some,zz (x:=l) (by simp),Option.bind_some,i1,Option.bind_some,layLs_none hc hd];simp
 ·rw [e,bsf_some (by rw [← e];omega) hz hc hd,Option.bind_some];simp only [Bool.not_true,Bool.false_eq_true,if_false];rw [zz (x:=z) (by simp),Option.bind_some,i1,Option.bind_some,layLs_some hz hc hd];simp
theorem putX_sub {n:Nat} {s a:zk} {r:List zk} {l:GLeaf} {A B:List GNode} {x:GNode} {sb':List GNode} (hr:(s::a::r).length≤16777216) (h:xy n x.subs (a::r) l=some sb'):putX n (s::a::r) l x (A++x::B) (A.length:Int)=some (A++⟨x.name,x.leaves,sb'⟩::B):=by
 unfold putX;have e1:decide ((((s::a::r).length:Int)) > 1)=true:=decide_eq_true (by simp only [List.length_cons];omega);have i1:yo (A++x::B) (A.length:Int)=some x:=zz (by simp);simp only [e1,if_true];rw [slc_at ⟨by omega,by simp only [List.length_cons];omega,Int.le_refl _⟩,Option.bind_some];have e2:((s::a::r).take (((s::a::r).length:Int)).toNat).drop (1:Int).toNat=a::r:=by rw [Int.toNat_natCast,List.take_length];rfl
 rw [e2,h,Option.bind_some,i1,Option.bind_some];simp
theorem find_eq (t:List GNode) (s:zk):treeXfind t s=(zj t s (fun x0 x1=>yO x0 x1)).bind fun v1=>some (v1.1,v1.2):=rfl
end Go.Vv
namespace Go.Vv
open Go
theorem layLs_len {k:Int} {l:GLeaf} {there:Bool} {ls:List GLeaf}:(qb k l there ls).length≤ls.length+1:=by
 unfold qb;split
 ·have h1:=List.filter_append_perm (fun x:GLeaf=>decide (x.typ < k)) ls;have h2:=h1.length_eq;have h3:(ls.filter fun x=>decide (k < x.typ)).length≤(ls.filter fun x=>!decide (x.typ < k)).length:=by
   have:(ls.filter fun x=>decide (k < x.typ))=(ls.filter fun x=>!decide (x.typ < k)).filter (fun x=>decide (k < x.typ)):=by
    rw [List.filter_filter];refine List.filter_congr fun x _=>?_;rw [Bool.eq_iff_iff];simp;omega
   rw [this];exact List.length_filter_le _ _
  simp only [List.length_append,List.length_cons,List.length_nil] at h2 ⊢;omega
 ·exact Nat.le_succ_of_le (List.length_filter_le _ _)
theorem lay_leaf {n:Nat} {s:zk} {l:GLeaf} {A m B:List GNode} {ls:List GLeaf} {sb:List GNode} {f:Bool} (ho:LeafOk l) (hm:m.length=if f=true then 1 else 0) (hbs:zj (A++m++B) s (fun x0 x1=>yO x0 x1)=some ((A.length:Int),f))
  (hst:((if f=true then ((yo (A++m++B) (A.length:Int)).bind fun y7=>some (.inr (y7.name,y7.leaves,y7.subs))) else some (.inr (s,([]:List GLeaf),([]:List GNode)))):Option (List GNode ⊕ (zk×(List GLeaf)×(List GNode))))=some (.inr (s,ls,sb)))
  (ht:(A++m++B).length≤16777216) (h1:ls.length≤16777215) (h2:sb.length≤16777217) (hup:ls.Pairwise fun x y=>x.typ < y.typ) :
  yQ (n+1) (A++m++B) [s] l.typ l true=some (A++fitN s (qb l.typ l true ls) sb++B):=by
 have hix:yo [s] (0:Int)=some s:=rfl;have:=layLs_len (k:=l.typ) (l:=l) (there:=true) (ls:=ls);rw [layN_eq,hix,Option.bind_some,hbs,Option.bind_some,Option.bind_some];simp only [];rw [hst,xd,layIn_leaf (fun _=>⟨rfl,ho⟩) (by omega) hup,xd,layRest_is hm (by omega) (by omega) (by omega)]
theorem lay_sub {n:Nat} {s a:zk} {r:List zk} {k:Int} {l:GLeaf} {there:Bool} {A m B:List GNode} {ls:List GLeaf} {sb sb':List GNode} {f:Bool} (hm:m.length=if f=true then 1 else 0) (hbs:zj (A++m++B) s (fun x0 x1=>yO x0 x1)=some ((A.length:Int),f))
  (hst:((if f=true then ((yo (A++m++B) (A.length:Int)).bind fun y7=>some (.inr (y7.name,y7.leaves,y7.subs))) else some (.inr (s,([]:List GLeaf),([]:List GNode)))):Option (List GNode ⊕ (zk×(List GLeaf)×(List GNode))))=some (.inr (s,ls,sb)))
  (ht:(A++m++B).length≤16777216) (h1:ls.length≤16777215) (h2:sb'.length≤16777217) (hr:(s::a::r).length≤16777216) (h:yQ n sb (a::r) k l there=some sb') :
  yQ (n+1) (A++m++B) (s::a::r) k l there=some (A++fitN s ls sb'++B):=by
 have hix:yo (s::a::r) (0:Int)=some s:=rfl;rw [layN_eq,hix,Option.bind_some,hbs,Option.bind_some,Option.bind_some];simp only [];rw [hst,xd,layIn_sub hr h,xd,layRest_is hm (by omega) (by omega) (by omega)]
theorem fit_one {nm:zk} {ls:List GLeaf} {sb:List GNode} (h:ls ≠ [] ∨ sb ≠ []):fitN nm ls sb=[⟨nm,ls,sb⟩]:=by
 unfold fitN;rw [if_neg];rcases h with h | h
 ·have:=List.length_pos_iff.2 h;omega
 ·have:=List.length_pos_iff.2 h;omega
theorem layLs_ne {l:GLeaf} {ls:List GLeaf}:qb l.typ l true ls ≠ []:=List.ne_nil_of_mem (layLs_mem.2 (.inr ⟨rfl,rfl⟩))
theorem put_lay {l:GLeaf} (hb:leafB l=true) (ho:LeafOk l):∀ (p:List zk) (t:List GNode) (d n:Nat),p ≠ []→p.all nameB=true→d+p.length≤3→treeB d t=true→(zn [] t).length≤16777214→p.length < n →
  xy n t p l=yQ n t p l.typ l true
 | [],_,_,_,h,_,_,_,_,_=>absurd rfl h
 | _::_,_,_,0,_,_,_,_,_,h=>by omega
 | s::q,t,d,n+1,_,hp,hd,ht,hw,hn=>by
  simp only [List.all_cons,Bool.and_eq_true,List.length_cons] at hp hd hn;obtain ⟨h1,h2⟩:=zK ht;have hl3:t.length≤16777214:=Nat.le_trans (wy _ d (by rw [yN];exact List.all_eq_true.2 h2)) hw;have hix:yo (s::q) (0:Int)=some s:=rfl
  -- what is below
  have below:∀ (sb:List GNode) (c:zk) (q':List zk),q=c::q'→treeB (d+1) sb=true→(zn [] sb).length≤16777214→∃ sb',xy n sb q l=some sb'∧yQ n sb q l.typ l true=some sb'∧sb' ≠ []∧sb'.length≤16777215:=by
   intro sb c q' hq hsb hw2;subst hq;obtain ⟨sb',e1,e2,e3,e4⟩:=lay_is (k:=l.typ) (l:=l) (there:=true) (fun _=>⟨rfl,hb,ho⟩) (c::q') sb (d+1) n (by simp) hp.2 (by simp only [List.length_cons] at hd ⊢;omega) hsb (by omega) (by omega);have hsl:=wy sb (d+1) (by rw [yN];exact List.all_eq_true.2 (zK hsb).2);refine ⟨sb',?_,e1,?_,by omega⟩
   ·rw [← e1];exact put_lay hb ho (c::q') sb (d+1) n (by simp) hp.2 (by simp only [List.length_cons] at hd ⊢;omega) hsb hw2 (by omega)
   ·intro e;have:=(e4 [] ⟨[]++(c::q'),l⟩).2 (.inr ⟨rfl,rfl⟩);rw [e] at this;simp [zn] at this
  rcases split_up s h1 with ⟨A,B,e,ha,hb2⟩ | ⟨A,x,B,e,hx,ha,hb2⟩
  ·have hAB:(A++B).length≤16777214:=by rw [← e];exact hl3
   have hbs:=bs_none (by omega) ha hb2;have hbs2:zj (A++[]++B) s (fun x0 x1=>yO x0 x1)=some ((A.length:Int),false):=by rw [List.append_nil];exact hbs
   have e0:A++B=A++[]++B:=by simp
   have L:xy (n+1) t (s::q) l=putX n (s::q) l ⟨s,[],[]⟩ (A++⟨s,[],[]⟩::B) (A.length:Int):=by
    rw [putN_eq,cloneNode_is (yG (by omega)),Option.bind_some,hix,Option.bind_some,find_eq,e,hbs,Option.bind_some,Option.bind_some];simp only [Bool.not_false,if_true,Option.bind_some];rw [insO_at _ (by omega),Option.bind_some,zz (x:=⟨s,[],[]⟩) (by simp),Option.bind_some]
   rw [L];cases hq:q with
   | nil =>
    rw [putX_leaf (x:=⟨s,[],[]⟩) (by simp) (by simp),e,e0,lay_leaf (ls:=[]) (sb:=[]) ho (by simp) hbs2 rfl (by rw [← e0];omega) (by simp) (by simp) (by simp),fit_one (.inl layLs_ne)];simp
   | cons c q' =>
    obtain ⟨sb',b1,b2,b3,b4⟩:=below [] c q' hq (tree_nil _) (by simp [zn]);rw [hq] at b1 b2;rw [putX_sub (x:=⟨s,[],[]⟩) (by rw [hq] at hd;simp only [List.length_cons] at hd ⊢;omega) b1,e,e0,lay_sub (ls:=[]) (sb:=[]) (f:=false) (by simp) hbs2 rfl (by rw [← e0];omega) (by simp) (by omega) (by rw [hq] at hd;simp only [List.length_cons] at hd ⊢;omega) b2,fit_one (.inr b3)];simp
  ·have hAB:(A++x::B).length≤16777214:=by rw [← e];exact hl3
   have hbs:=bs_some (by omega) hx ha hb2;have hbs2:zj (A++[x]++B) s (fun x0 x1=>yO x0 x1)=some ((A.length:Int),true):=by rw [List.append_assoc];exact hbs
   have e0:A++x::B=A++[x]++B:=by simp
   have hxt:x ∈ t:=by rw [e];simp
   obtain ⟨n1,n2,n3⟩:=xT (h2 x hxt);have hml:=qr hxt;have hsl:=wy x.subs (d+1) (by rw [yN];exact List.all_eq_true.2 (zK n2).2);have hst:((if true=true then ((yo (A++[x]++B) (A.length:Int)).bind fun y7=>some (.inr (y7.name,y7.leaves,y7.subs))) else some (.inr (s,([]:List GLeaf),([]:List GNode)))):Option (List GNode ⊕ (zk×(List GLeaf)×(List GNode))))=some (.inr (s,x.leaves,x.subs)):=by
    rw [if_pos rfl,zz (x:=x) (by simp),Option.bind_some,hx]
   have L:xy (n+1) t (s::q) l=putX n (s::q) l x (A++x::B) (A.length:Int):=by
    rw [putN_eq,cloneNode_is (yG (by omega)),Option.bind_some,hix,Option.bind_some,find_eq,e,hbs,Option.bind_some,Option.bind_some];simp only [Bool.not_true,Bool.false_eq_true,if_false];rw [zz (x:=x) (by simp),Option.bind_some]
   rw [L];cases hq:q with
   | nil =>
    rw [putX_leaf (x:=x) (by omega) (qR n3).1,e,e0,lay_leaf (ls:=x.leaves) (sb:=x.subs) ho (by simp) hbs2 hst (by rw [← e0];omega) (by omega) (by omega) (qR n3).1,fit_one (.inl layLs_ne),hx];simp
   | cons c q' =>
    obtain ⟨sb',b1,b2,b3,b4⟩:=below x.subs c q' hq n2 (by omega);rw [hq] at b1 b2;rw [putX_sub (x:=x) (by rw [hq] at hd;simp only [List.length_cons] at hd ⊢;omega) b1,e,e0,lay_sub (ls:=x.leaves) (sb:=x.subs) (f:=true) (by simp) hbs2 hst (by rw [← e0];omega) (by omega) (by omega) (by rw [hq] at hd;simp only [List.length_cons] at hd ⊢;omega) b2,fit_one (.inr b3),hx];simp
end Go.Vv
namespace Go.Vv
open Go
noncomputable def l7A (t0:List GNode) (path1:List zk):(List GNode)×Int→Option (Out (List GNode) ((List GNode)×Int)):=(fun (s1:(List GNode)×Int)=>((yv (((decide (s1.2 < ((t0).length:Int)))==true)=true→0≤s1.2∧s1.2 < ((t0).length:Int)) ((yv (((decide (s1.2 < ((t0).length:Int)))==true)=true→0≤(0:Int)∧(0:Int) < ((path1).length:Int)) ((if ((decide (s1.2 < ((t0).length:Int)))&&(Op.bytesLess (((t0).getD s1.2.toNat default).name) ((path1).getD (0:Int).toNat default)))=true then ((yo t0 s1.2).bind fun y22=>(yv ((s1.1).length+(([y22]:List GNode)).length≤yM) (some (.nxt ((s1.1++([y22]:List GNode)),(IntKind.wrap .i64 (s1.2+(1:Int)))))))) else some (.brk (s1.1,s1.2))))))):Option (Out _ ((List GNode)×Int))))
noncomputable def l7B (ls:List GLeaf) (l2:GLeaf):(List GLeaf)×Int→Option (Out (List GNode) ((List GLeaf)×Int)):=(fun (sd62:(List GLeaf)×Int)=>((yv (((decide (sd62.2 < ((ls).length:Int)))==true)=true→0≤sd62.2∧sd62.2 < ((ls).length:Int)) ((if ((decide (sd62.2 < ((ls).length:Int)))&&(decide (((ls).getD sd62.2.toNat default).typ < l2.typ)))=true then ((yo ls sd62.2).bind fun y66=>(yv ((sd62.1).length+(([y66]:List GLeaf)).length≤yM) (some (.nxt ((sd62.1++([y66]:List GLeaf)),(IntKind.wrap .i64 (sd62.2+(1:Int)))))))) else some (.brk (sd62.1,sd62.2))))):Option (Out _ ((List GLeaf)×Int))))
theorem l7A_is {t:List GNode} {s:zk} {q:List zk} (ht:t.length≤16777216) (a b:List GNode) (e:t=a++b) (ha:∀ y ∈ a,Op.bytesLess y.name s=true) (hb:∀ y r,b=y::r→Op.bytesLess y.name s=false) :
  ∀ (k i:Nat),a.length - i≤k→i≤a.length→yr (l7A t (s::q)) (a.take i,(i:Int))=some (.inr (a,(a.length:Int))):=by
 have hl:t.length=a.length+b.length:=by rw [e];simp
 intro k
 induction k with
 | zero =>
  intro i hk hi;obtain rfl:i=a.length:=by omega
  rw [yS];have:l7A t (s::q) (a.take a.length,(a.length:Int))=some (.brk (a,(a.length:Int))):=by
   unfold l7A;simp only [List.take_length];rw [zo (by intro h;simp at h;omega),zo (by intro h;simp)];cases hbb:b with
   | nil =>
    rw [hbb] at hl;rw [decide_eq_false (by simp at hl;omega)];rfl
   | cons y r =>
    have hy:t.getD a.length default=y:=by rw [e,hbb];simp
    have:=hb y r hbb;simp only [Int.toNat_natCast,hy];have e2:(s::q).getD (0:Int).toNat default=s:=rfl;rw [e2,this,Bool.and_false];rfl
  rw [this]
 | succ k ih =>
  intro i hk hi;rcases Nat.lt_or_ge i a.length with h | h
  ·rw [yS];have hy:t[i]?=some a[i]:=by rw [e,List.getElem?_append_left h,List.getElem?_eq_getElem h]
   have hd:t.getD i default=a[i]:=by rw [List.getD_eq_getElem?_getD,hy];rfl
   have:l7A t (s::q) (a.take i,(i:Int))=some (.nxt (a.take (i+1),((i+1:Nat):Int))):=by
    unfold l7A;simp only;rw [zo (by intro h;simp at h;omega),zo (by intro h;simp)];have e2:(s::q).getD (0:Int).toNat default=s:=rfl;have e3:IntKind.wrap .i64 ((i:Int)+1)=((i+1:Nat):Int):=by rw [w64n (by omega)];omega
    rw [Int.toNat_natCast,hd,e2,ha _ (List.getElem_mem h),decide_eq_true (by omega:(i:Int) < (t.length:Int)),Bool.and_self,if_pos rfl,zz hy,Option.bind_some,zo (yG (by simp;omega)),e3];rw [List.take_succ_eq_append_getElem h]
   rw [this];exact ih (i+1) (by omega) h
  ·exact ih i (by omega) hi

theorem l7B_at {ls:List GLeaf} {l:GLeaf} (hl:ls.length≤16777216) (a b:List GLeaf) (e:ls=a++b) (ha:∀ y ∈ a,y.typ < l.typ) (hb:∀ y r,b=y::r→¬ y.typ < l.typ) :
  ∀ (k i:Nat),a.length - i≤k→i≤a.length→yr (l7B ls l) (a.take i,(i:Int))=some (.inr (a,(a.length:Int))):=by
 have hlb:ls.length=a.length+b.length:=by rw [e];simp
 intro k
 induction k with
 | zero =>
  intro i hk hi;obtain rfl:i=a.length:=by omega
  rw [yS];have:l7B ls l (a.take a.length,(a.length:Int))=some (.brk (a,(a.length:Int))):=by
   unfold l7B;simp only [List.take_length];rw [zo (by intro h;simp at h;omega)];cases hbb:b with
   | nil =>
    rw [hbb] at hlb;rw [decide_eq_false (by simp at hlb;omega)];rfl
   | cons y r =>
    have hy:ls.getD a.length default=y:=by rw [e,hbb];simp
    have:=hb y r hbb;simp only [Int.toNat_natCast,hy];rw [decide_eq_false this,Bool.and_false];rfl
  rw [this]
 | succ k ih =>
  intro i hk hi;rcases Nat.lt_or_ge i a.length with h | h
  ·rw [yS];have hy:ls[i]?=some a[i]:=by rw [e,List.getElem?_append_left h,List.getElem?_eq_getElem h]
   have hd:ls.getD i default=a[i]:=by rw [List.getD_eq_getElem?_getD,hy];rfl
   have:l7B ls l (a.take i,(i:Int))=some (.nxt (a.take (i+1),((i+1:Nat):Int))):=by
    unfold l7B;simp only;have e3:IntKind.wrap .i64 ((i:Int)+1)=((i+1:Nat):Int):=by rw [w64n (by omega)];omega
    rw [zo (by intro h;simp at h;omega),Int.toNat_natCast,hd,decide_eq_true (ha _ (List.getElem_mem h)),decide_eq_true (by omega:(i:Int) < (ls.length:Int)),Bool.and_self,if_pos rfl,zz hy,Option.bind_some,zo (yG (by simp;omega)),e3];rw [List.take_succ_eq_append_getElem h]
   rw [this];exact ih (i+1) (by omega) h
  ·exact ih i (by omega) hi
end Go.Vv
namespace Go.Vv
open Go
noncomputable def l7R (n:Nat) (t0:List GNode) (path1:List zk) (l2:GLeaf) (A:List GNode) (sd30:Int×zk×(List GLeaf)×(List GNode)):Option (List GNode):=(if (decide (((path1).length:Int) > (1:Int)))=true then ((slc path1 (1:Int) ((path1).length:Int)).bind fun m38=>((xL n sd30.2.2.2 m38 l2).bind fun v39=>(yv ((A).length+(([(GNode.mk sd30.2.1 sd30.2.2.1 v39)]:List GNode)).length≤yM) (((slc t0 sd30.1 ((t0).length:Int)).bind fun m41=>(yv (((A++([(GNode.mk sd30.2.1 sd30.2.2.1 v39)]:List GNode))).length+(m41).length≤yM) (some ((A++([(GNode.mk sd30.2.1 sd30.2.2.1 v39)]:List GNode))++m41)))))))) else (lp (yr (l7B sd30.2.2.1 l2) (([]:List GLeaf),(0:Int))) fun (sd62:(List GLeaf)×Int)=>(yv (((decide (sd62.2 < ((sd30.2.2.1).length:Int)))==true)=true→0≤sd62.2∧sd62.2 < ((sd30.2.2.1).length:Int)) ((if ((decide (sd62.2 < ((sd30.2.2.1).length:Int)))&&(((sd30.2.2.1).getD sd62.2.toNat default).typ==l2.typ))=true then (yv ((sd62.1).length+(([l2]:List GLeaf)).length≤yM) (((slc sd30.2.2.1 (IntKind.wrap .i64 (sd62.2+(1:Int))) ((sd30.2.2.1).length:Int)).bind fun m72=>(yv (((sd62.1++([l2]:List GLeaf))).length+(m72).length≤yM) ((yv ((A).length+(([(GNode.mk sd30.2.1 ((sd62.1++([l2]:List GLeaf))++m72) sd30.2.2.2)]:List GNode)).length≤yM) (((slc t0 sd30.1 ((t0).length:Int)).bind fun m75=>(yv (((A++([(GNode.mk sd30.2.1 ((sd62.1++([l2]:List GLeaf))++m72) sd30.2.2.2)]:List GNode))).length+(m75).length≤yM) (some ((A++([(GNode.mk sd30.2.1 ((sd62.1++([l2]:List GLeaf))++m72) sd30.2.2.2)]:List GNode))++m75))))))))))) else (yv ((sd62.1).length+(([l2]:List GLeaf)).length≤yM) (((slc sd30.2.2.1 sd62.2 ((sd30.2.2.1).length:Int)).bind fun m78=>(yv (((sd62.1++([l2]:List GLeaf))).length+(m78).length≤yM) ((yv ((A).length+(([(GNode.mk sd30.2.1 ((sd62.1++([l2]:List GLeaf))++m78) sd30.2.2.2)]:List GNode)).length≤yM) (((slc t0 sd30.1 ((t0).length:Int)).bind fun m81=>(yv (((A++([(GNode.mk sd30.2.1 ((sd62.1++([l2]:List GLeaf))++m78) sd30.2.2.2)]:List GNode))).length+(m81).length≤yM) (some ((A++([(GNode.mk sd30.2.1 ((sd62.1++([l2]:List GLeaf))++m78) sd30.2.2.2)]:List GNode))++m81))))))))))))))))
theorem lay7_eq2 (n:Nat) (t0:List GNode) (path1:List zk) (l2:GLeaf):xL (n+1) t0 path1 l2=(lp (yr (l7A t0 path1) (([]:List GNode),(0:Int))) fun (s1:(List GNode)×Int)=>((yo path1 (0:Int)).bind fun y24=>(lp ((yv (((decide (s1.2 < ((t0).length:Int)))==true)=true→0≤s1.2∧s1.2 < ((t0).length:Int)) ((yv (((decide (s1.2 < ((t0).length:Int)))==true)=true→0≤(0:Int)∧(0:Int) < ((path1).length:Int)) ((if ((decide (s1.2 < ((t0).length:Int)))&&(((t0).getD s1.2.toNat default).name==((path1).getD (0:Int).toNat default)))=true then ((yo t0 s1.2).bind fun y35=>some (.inr ((IntKind.wrap .i64 (s1.2+(1:Int))),y35.name,y35.leaves,y35.subs))) else some (.inr (s1.2,y24,([]:List GLeaf),([]:List GNode)))))))):Option (_ ⊕ (Int×zk×(List GLeaf)×(List GNode)))) fun sd30=>l7R n t0 path1 l2 s1.1 sd30))):=rfl

theorem vk {α:Type} (L:List α) (i:Nat):((L.take ((L.length:Int)).toNat).drop ((i:Int)).toNat)=L.drop i:=by simp
theorem l7R_sub {n:Nat} {t A:List GNode} {s a:zk} {r:List zk} {l:GLeaf} {i:Nat} {nm:zk} {ls:List GLeaf} {sb u:List GNode} (hi:i≤t.length) (ht:t.length≤16777215) (hA:A.length≤8388608) (ht2:t.length≤8388607) (hq:(s::a::r).length≤16777216) (h:xL n sb (a::r) l=some u) :
  l7R n t (s::a::r) l A ((i:Int),nm,ls,sb)=some (A++[⟨nm,ls,u⟩]++t.drop i):=by
 unfold l7R;have d1:decide ((((s::a::r).length:Int)) > 1)=true:=decide_eq_true (by simp only [List.length_cons];omega);simp only [d1,if_true];rw [slc_at ⟨by omega,by simp only [List.length_cons];omega,Int.le_refl _⟩,Option.bind_some];have e2:((s::a::r).take (((s::a::r).length:Int)).toNat).drop (1:Int).toNat=a::r:=by rw [Int.toNat_natCast,List.take_length];rfl
 rw [e2,h,Option.bind_some,zo (yG (by simp;omega)),slc_at ⟨by omega,by omega,Int.le_refl _⟩,Option.bind_some,vk,zo (yG (by simp;omega))]
theorem l7R_leaf {n:Nat} {t A:List GNode} {s:zk} {l:GLeaf} {i:Nat} {nm:zk} {ls:List GLeaf} {sb:List GNode} (hi:i≤t.length) (hA:A.length≤8388608) (ht2:t.length≤8388607) (hl:ls.length≤8388607) (hup:ls.Pairwise fun x y=>x.typ < y.typ) :
  l7R n t [s] l A ((i:Int),nm,ls,sb)=some (A++[⟨nm,qb l.typ l true ls,sb⟩]++t.drop i):=by
 unfold l7R;have d1:decide (((([s]:List zk).length:Int)) > 1)=false:=rfl;simp only [d1,Bool.false_eq_true,if_false];rcases split_typ l.typ hup with ⟨C,D,e,hc,hd⟩ | ⟨C,z,D,e,hz,hc,hd⟩
 ·have hB:=l7B_at (ls:=ls) (l:=l) (by omega) C D e hc (fun y r h=>by have:=hd y (by rw [h];simp);omega) C.length 0 (by omega) (by omega);rw [show (([]:List GLeaf),(0:Int))=(C.take 0,((0:Nat):Int)) from rfl,hB,xd,e,layLs_none hc hd];rw [e] at hl;simp only [List.length_append] at hl;simp only [];rw [zo (by intro h;simp at h ⊢;omega)];have hcond:((decide (((C.length:Nat):Int) < ((C++D).length:Int)))&&(((C++D).getD ((C.length:Nat):Int).toNat default).typ==l.typ))=false:=by
   cases D with
   | nil=>simp
   | cons y D=>have:=hd y (by simp);simp;omega
  rw [hcond];simp only [Bool.false_eq_true,if_false];rw [zo (yG (by simp;omega)),slc_at ⟨by omega,by simp <;> omega,Int.le_refl _⟩,Option.bind_some,vk,List.drop_left,zo (yG (by simp;omega)),zo (yG (by simp;omega)),slc_at ⟨by omega,by omega,Int.le_refl _⟩,Option.bind_some,vk,zo (yG (by simp;omega))];simp
 ·have hB:=l7B_at (ls:=ls) (l:=l) (by omega) C (z::D) e hc (fun y r h=>by injection h with h1 _;rw [← h1];omega) C.length 0 (by omega) (by omega);rw [show (([]:List GLeaf),(0:Int))=(C.take 0,((0:Nat):Int)) from rfl,hB,xd,e,layLs_some hz hc hd];rw [e] at hl;simp only [List.length_append,List.length_cons] at hl;simp only [];rw [zo (by intro h;simp at h ⊢;omega)];have hcond:((decide (((C.length:Nat):Int) < ((C++z::D).length:Int)))&&(((C++z::D).getD ((C.length:Nat):Int).toNat default).typ==l.typ))=true:=by
   simp [hz];omega
  rw [hcond];simp only [if_true];have e3:IntKind.wrap .i64 ((C.length:Int)+1)=((C.length+1:Nat):Int):=by rw [w64n (by omega)];omega
  have e4:(C++z::D).drop (C.length+1)=D:=by
   rw [← List.drop_drop,List.drop_left];rfl
  rw [zo (yG (by simp;omega)),e3,slc_at ⟨by omega,by simp <;> omega,Int.le_refl _⟩,Option.bind_some,vk,e4,zo (yG (by simp;omega)),zo (yG (by simp;omega)),slc_at ⟨by omega,by omega,Int.le_refl _⟩,Option.bind_some,vk,zo (yG (by simp;omega))];simp
theorem lay7_none {n:Nat} {s:zk} {q:List zk} {l:GLeaf} {A B:List GNode} (h:(A++B).length≤16777215) (ha:NLt s A) (hb:NGt s B):xL (n+1) (A++B) (s::q) l=l7R n (A++B) (s::q) l A ((A.length:Int),s,[],[]):=by
 have hA:=l7A_is (t:=A++B) (s:=s) (q:=q) (by omega) A B rfl ha (fun y r hh=>by
  have:=hb y (by rw [hh];simp);rcases hx:Op.bytesLess y.name s with _ | _
  ·rfl
  ·have:=vH this hx;rw [less_irr] at this;cases this) A.length 0 (by omega) (by omega)
 rw [lay7_eq2,show (([]:List GNode),(0:Int))=(A.take 0,((0:Nat):Int)) from rfl,hA,xd];have i0:yo (s::q) (0:Int)=some s:=rfl;simp only [i0,Option.bind_some];rw [zo (by intro h;simp at h ⊢;omega),zo (by intro h;simp)];have hcond:((decide (((A.length:Nat):Int) < ((A++B).length:Int)))&&(((A++B).getD ((A.length:Nat):Int).toNat default).name==((s::q).getD (0:Int).toNat default)))=false:=by
  cases B with
  | nil=>simp
  | cons y B =>
   have:=less_ne (hb y (by simp));simp;intro _ e;exact this e.symm
 rw [hcond];simp only [Bool.false_eq_true,if_false,xd]
theorem lay7_some {n:Nat} {s:zk} {q:List zk} {l:GLeaf} {A B:List GNode} {x:GNode} (hx:x.name=s) (h:(A++x::B).length≤16777215) (ha:NLt s A) (hb:NGt s B):xL (n+1) (A++x::B) (s::q) l=l7R n (A++x::B) (s::q) l A (((A.length+1:Nat):Int),s,x.leaves,x.subs):=by
 have hA:=l7A_is (t:=A++x::B) (s:=s) (q:=q) (by omega) A (x::B) rfl ha (fun y r hh=>by
  injection hh with h1 _;rw [← h1,hx,less_irr]) A.length 0 (by omega) (by omega)
 rw [lay7_eq2,show (([]:List GNode),(0:Int))=(A.take 0,((0:Nat):Int)) from rfl,hA,xd];have i0:yo (s::q) (0:Int)=some s:=rfl;simp only [i0,Option.bind_some];rw [zo (by intro h;simp at h ⊢;omega),zo (by intro h;simp)];have hcond:((decide (((A.length:Nat):Int) < ((A++x::B).length:Int)))&&(((A++x::B).getD ((A.length:Nat):Int).toNat default).name==((s::q).getD (0:Int).toNat default)))=true:=by
  simp [hx];omega
 rw [hcond];simp only [List.length_append,List.length_cons] at h;have e3:IntKind.wrap .i64 ((A.length:Int)+1)=((A.length+1:Nat):Int):=by rw [w64n (by omega)];omega
 simp only [if_true];rw [zz (x:=x) (by simp),Option.bind_some,xd,e3,hx]
end Go.Vv
namespace Go.Vv
open Go
theorem lay7_lay {l:GLeaf} (hb:leafB l=true) (ho:LeafOk l):∀ (p:List zk) (t:List GNode) (d n:Nat),p ≠ []→p.all nameB=true→d+p.length≤3→treeB d t=true→(zn [] t).length≤8388606→p.length < n →
  xL n t p l=yQ n t p l.typ l true
 | [],_,_,_,h,_,_,_,_,_=>absurd rfl h
 | _::_,_,_,0,_,_,_,_,_,h=>by omega
 | s::q,t,d,n+1,_,hp,hd,ht,hw,hn=>by
  simp only [List.all_cons,Bool.and_eq_true,List.length_cons] at hp hd hn;obtain ⟨h1,h2⟩:=zK ht;have hl3:t.length≤8388606:=Nat.le_trans (wy _ d (by rw [yN];exact List.all_eq_true.2 h2)) hw;have below:∀ (sb:List GNode) (c:zk) (q':List zk),q=c::q'→treeB (d+1) sb=true→(zn [] sb).length≤8388606→∃ sb',xL n sb q l=some sb'∧yQ n sb q l.typ l true=some sb'∧sb' ≠ []∧sb'.length≤16777215:=by
   intro sb c q' hq hsb hw2;subst hq;obtain ⟨sb',e1,e2,e3,e4⟩:=lay_is (k:=l.typ) (l:=l) (there:=true) (fun _=>⟨rfl,hb,ho⟩) (c::q') sb (d+1) n (by simp) hp.2 (by simp only [List.length_cons] at hd ⊢;omega) hsb (by omega) (by omega);have hsl:=wy sb (d+1) (by rw [yN];exact List.all_eq_true.2 (zK hsb).2);refine ⟨sb',?_,e1,?_,by omega⟩
   ·rw [← e1];exact lay7_lay hb ho (c::q') sb (d+1) n (by simp) hp.2 (by simp only [List.length_cons] at hd ⊢;omega) hsb hw2 (by omega)
   ·intro e;have:=(e4 [] ⟨[]++(c::q'),l⟩).2 (.inr ⟨rfl,rfl⟩);rw [e] at this;simp [zn] at this
  rcases split_up s h1 with ⟨A,B,e,ha,hb2⟩ | ⟨A,x,B,e,hx,ha,hb2⟩
  ·have hAB:(A++B).length≤8388606:=by rw [← e];exact hl3
   have hA2:A.length≤8388606:=by simp only [List.length_append] at hAB;omega
   have hbs:=bs_none (by omega) ha hb2;have hbs2:zj (A++[]++B) s (fun x0 x1=>yO x0 x1)=some ((A.length:Int),false):=by rw [List.append_nil];exact hbs
   have e0:A++B=A++[]++B:=by simp
   rw [e,lay7_none (by omega) ha hb2];cases hq:q with
   | nil =>
    rw [l7R_leaf (by simp) (by omega) (by omega) (by simp) (by simp),e0,lay_leaf (ls:=[]) (sb:=[]) ho (by simp) hbs2 rfl (by rw [← e0];omega) (by simp) (by simp) (by simp),fit_one (.inl layLs_ne)];simp
   | cons c q' =>
    obtain ⟨sb',b1,b2,b3,b4⟩:=below [] c q' hq (tree_nil _) (by simp [zn]);rw [hq] at b1 b2;rw [l7R_sub (by simp) (by omega) (by omega) (by omega) (by rw [hq] at hd;simp only [List.length_cons] at hd ⊢;omega) b1,e0,lay_sub (ls:=[]) (sb:=[]) (f:=false) (by simp) hbs2 rfl (by rw [← e0];omega) (by simp) (by omega) (by rw [hq] at hd;simp only [List.length_cons] at hd ⊢;omega) b2,fit_one (.inr b3)];simp
  ·have hAB:(A++x::B).length≤8388606:=by rw [← e];exact hl3
   have hA2:A.length+1≤8388606:=by simp only [List.length_append,List.length_cons] at hAB;omega
   have hbs:=bs_some (by omega) hx ha hb2;have hbs2:zj (A++[x]++B) s (fun x0 x1=>yO x0 x1)=some ((A.length:Int),true):=by rw [List.append_assoc];exact hbs
   have e0:A++x::B=A++[x]++B:=by simp
   have hxt:x ∈ t:=by rw [e];simp
   obtain ⟨n1,n2,n3⟩:=xT (h2 x hxt);have hml:=qr hxt;have hsl:=wy x.subs (d+1) (by rw [yN];exact List.all_eq_true.2 (zK n2).2);have hst:((if true=true then ((yo (A++[x]++B) (A.length:Int)).bind fun y7=>some (.inr (y7.name,y7.leaves,y7.subs))) else some (.inr (s,([]:List GLeaf),([]:List GNode)))):Option (List GNode ⊕ (zk×(List GLeaf)×(List GNode))))=some (.inr (s,x.leaves,x.subs)):=by
    rw [if_pos rfl,zz (x:=x) (by simp),Option.bind_some,hx]
   have ed:(A++x::B).drop (A.length+1)=B:=by rw [← List.drop_drop,List.drop_left];rfl
   rw [e,lay7_some hx (by omega) ha hb2];cases hq:q with
   | nil =>
    rw [l7R_leaf (by simp) (by omega) (by omega) (by omega) (qR n3).1,ed,e0,lay_leaf (ls:=x.leaves) (sb:=x.subs) ho (by simp) hbs2 hst (by rw [← e0];omega) (by omega) (by omega) (qR n3).1,fit_one (.inl layLs_ne)]
   | cons c q' =>
    obtain ⟨sb',b1,b2,b3,b4⟩:=below x.subs c q' hq n2 (by omega);rw [hq] at b1 b2;rw [l7R_sub (by simp) (by omega) (by omega) (by omega) (by rw [hq] at hd;simp only [List.length_cons] at hd ⊢;omega) b1,ed,e0,lay_sub (ls:=x.leaves) (sb:=x.subs) (f:=true) (by simp) hbs2 hst (by rw [← e0];omega) (by omega) (by omega) (by rw [hq] at hd;simp only [List.length_cons] at hd ⊢;omega) b2,fit_one (.inr b3)]
end Go.Vv
namespace Go.Vv
open Go
theorem ilt_tot {a b:GItem} (h:a.dot ≠ b.dot):aheadI a b=true ∨ aheadI b a=true:=by
 unfold aheadI;rcases dlt_tot a.dot b.dot with e | e | e
 ·exact absurd e h
 ·by_cases ht:a.time=b.time
  ·left;simp [ht,e]
  ·rcases Int.lt_or_gt_of_ne ht with h2 | h2
   ·left;simp [ht,h2]
   ·right;rw [if_pos (fun e=>ht e.symm)];simp;omega
 ·by_cases ht:a.time=b.time
  ·right;simp [ht,e]
  ·rcases Int.lt_or_gt_of_ne ht with h2 | h2
   ·left;simp [ht,h2]
   ·right;rw [if_pos (fun e=>ht e.symm)];simp;omega
theorem pw_next {α:Type} [Inhabited α] {lt:α→α→Prop} {L:List α} (h:L.Pairwise lt) {i:Nat} {x:α} (hi:L[i]?=some x) (h0:i ≠ 0):lt (L.getD (i - 1) default) x:=by
 obtain ⟨hl,rfl⟩:=List.getElem?_eq_some_iff.1 hi;have e:L.getD (i - 1) default=L[i - 1]:=by rw [List.getD_eq_getElem?_getD,List.getElem?_eq_getElem (by omega)];rfl
 rw [e];exact List.pairwise_iff_getElem.1 h _ _ _ _ (by omega)
theorem riseB_pw {L:List GItem} (h:L.Pairwise fun a b=>aheadI a b=true):riseB L=true:=by
 refine allI_iff.2 fun i x hi=>?_;by_cases h0:i=0
 ·simp [h0]
 ·simp only [h0,decide_false,Bool.false_or,prevI];exact pw_next (lt:=fun a b=>aheadI a b=true) h hi h0
theorem rising_of_pw {L:List GDot} (h:L.Pairwise fun a b=>dotLt a b=true):rising L=true:=by
 rw [rising_allI];refine allI_iff.2 fun i x hi=>?_;unfold yW;by_cases h0:i=0
 ·simp [h0]
 ·simp only [h0,decide_false,Bool.false_or];exact pw_next (lt:=fun a b=>dotLt a b=true) h hi h0
theorem layP_mem {L:List GItem} {x y:GItem} (h:y ∈ layP L x):y ∈ L ∨ y=x:=by
 unfold layP at h;split at h
 ·exact .inl h
 ·rcases List.mem_append.1 h with h | h
  ·exact .inl ((List.takeWhile_sublist _).mem h)
  ·rcases List.mem_append.1 h with h | h
   ·exact .inr (List.mem_singleton.1 h)
   ·exact .inl ((List.dropWhile_sublist _).mem h)
theorem layP_pw {L:List GItem} (x:GItem) (h:L.Pairwise fun a b=>aheadI a b=true):(layP L x).Pairwise fun a b=>aheadI a b=true:=by
 unfold layP;split
 ·exact h
 ·rename_i hn;simp only [Bool.not_eq_true,List.any_eq_false,decide_eq_true_eq] at hn;exact ins_pw (lt:=aheadI) (fun _ _ _=>ilt_tr) h fun y hy=>ilt_tot (a:=y) (b:=x) (hn y hy)
theorem layP_once {L:List GItem} (x:GItem) (h:onceB L=true):onceB (layP L x)=true:=by
 unfold layP;split
 ·exact h
 ·rename_i hn;simp only [Bool.not_eq_true,List.any_eq_false,decide_eq_true_eq] at hn;unfold onceB at h ⊢;rw [decide_eq_true_eq] at h ⊢;have hp:(L.takeWhile (fun y=>aheadI y x)++([x]++L.dropWhile fun y=>aheadI y x)).Perm (x::L):=by
   have e:=List.takeWhile_append_dropWhile (p:=fun y=>aheadI y x) (l:=L);have:(x::(L.takeWhile (fun y=>aheadI y x)++L.dropWhile fun y=>aheadI y x)).Perm (x::L):=by rw [e]
   exact List.perm_middle.trans this
  rw [(hp.map (·.dot)).nodup_iff,List.map_cons,List.nodup_cons];refine ⟨fun hm=>?_,h⟩;obtain ⟨y,hy,e⟩:=List.mem_map.1 hm;exact hn y hy e
theorem layP_len (L:List GItem) (x:GItem):(layP L x).length≤L.length+1:=by
 unfold layP;split
 ·omega
 ·have e:=congrArg List.length (List.takeWhile_append_dropWhile (p:=fun y=>aheadI y x) (l:=L));simp only [List.length_append,List.length_cons,List.length_nil] at e ⊢;omega
theorem all_layP {q:GItem→Bool} {L:List GItem} {x:GItem} (h:L.all q=true) (hx:q x=true):(layP L x).all q=true :=
 List.all_eq_true.2 fun y hy=>by
  rcases layP_mem hy with h1 | h1
  ·exact List.all_eq_true.1 h y h1
  ·rw [h1];exact hx
structure EvOk (e:GEvent):Prop where
 dot:xU e.dot=true
 time:qf e.time=true
 kind:1≤e.op.kind∧e.op.kind≤5
 path:vm e.op.path=true
 text:e.op.text.length≤40
 dots:e.op.kind=4→e.op.dots.all xU=true
 dlen:e.op.dots.length≤64
theorem evOk {e:GEvent} (h:xZ e=true):EvOk e:=by
 have hk:=kind_of h;have hd:=dots_of h;simp only [xZ,opB,Bool.and_eq_true,decide_eq_true_eq] at h;obtain ⟨⟨⟨h1,h2⟩,h3⟩,⟨⟨⟨⟨_,h6⟩,h7⟩,_⟩,h8⟩⟩:=h;refine ⟨h1,?_,hk,h6,h7,fun h4=>?_,hd⟩
 ·simp [qf,h2,h3]
 ·rw [if_neg (by omega)] at h8;simp only [Bool.and_eq_true] at h8;exact h8.2.1
theorem type_range {k:Int} (h:1≤k∧k≤5):1≤x6 k∧x6 k≤4:=by
 unfold x6;split
 ·omega
 split
 ·omega
 split
 ·omega
 split
 ·omega
 ·omega
theorem applyP_typ (l:GLeaf) (e:GEvent):(yE l e).typ=l.typ:=by
 unfold yE;generalize (decide (l.time=0) || (if l.time ≠ e.time then decide (l.time < e.time) else dotLt l.dot e.dot))=b;cases b <;> simp only [Bool.false_eq_true,if_false,if_true] <;> (repeat' split) <;> rfl
theorem applyP_may {l:GLeaf} {e:GEvent} (hl:leafB l=true) (he:xZ e=true) (ht:x6 e.op.kind=l.typ):leafB (yE l e)=true:=by
 have hrise:=riseB_of hl;have htm:=tombs_of hl;have hap:=apart_of_leaf hl;obtain ⟨d1,d2,d3,d4,d5,d6,d7⟩:=evOk he;have hty:=applyP_typ l e;by_cases k1:e.op.kind=1
 ·have t1:l.typ=1:=by rw [← ht,k1];rfl
  unfold yE;rw [if_pos k1];unfold leafB at hl ⊢;rw [if_pos t1] at hl;simp only [t1,if_true];exact hl
 by_cases k2:e.op.kind=2
 ·have t2:l.typ=2:=by rw [← ht,k2];rfl
  unfold yE;rw [if_neg k1,if_pos k2];generalize (decide (l.time=0) || (if l.time ≠ e.time then decide (l.time < e.time) else dotLt l.dot e.dot))=b;cases b
  case false=>exact hl
  case true =>
   simp only [if_true];unfold leafB at hl ⊢;rw [if_neg (by omega),if_pos t2] at hl;simp only [t2];rw [if_neg (by omega),if_pos trivial];simp only [Bool.and_eq_true,decide_eq_true_eq] at hl ⊢;refine ⟨hl.1,?_⟩;have:¬ e.time=0:=by
    simp only [qf,Bool.and_eq_true,decide_eq_true_eq] at d2;omega
   rw [if_neg this];simp [d1,d2,d5]
 by_cases k3:e.op.kind=3
 ·have t3:l.typ=3:=by rw [← ht,k3];rfl
  unfold yE;rw [if_neg k1,if_neg k2,if_pos k3];split
  ·exact hl
  ·rename_i hn;simp only [Bool.not_eq_true,List.any_eq_false,decide_eq_true_eq] at hn;unfold leafB at hl ⊢;rw [if_neg (by omega),if_neg (by omega),if_pos t3] at hl;simp only [t3];rw [if_neg (by omega),if_neg (by omega),if_pos trivial];simp only [Bool.and_eq_true,decide_eq_true_eq] at hl ⊢;obtain ⟨⟨⟨h1,h2⟩,⟨⟨h3,h4⟩,h5⟩⟩,h6⟩:=hl;refine ⟨⟨⟨h1,by simpa [zeroB] using h2⟩,⟨⟨all_layP h3 ?_,riseB_pw (layP_pw _ hrise)⟩,layP_once _ h5⟩⟩,?_⟩
   ·simp [wV,d1,d5]
   ·simp only [tombsB,Bool.and_eq_true] at h6 ⊢;refine ⟨h6.1,List.all_eq_true.2 fun d hd=>?_⟩;simp only [Bool.not_eq_true',List.any_eq_false,decide_eq_true_eq];intro x hx e2;rcases layP_mem hx with h7 | h7
    ·exact hap x h7 d hd e2.symm
    ·rw [h7] at e2;exact hn d hd e2.symm
 by_cases k4:e.op.kind=4
 ·have t3:l.typ=3:=by rw [← ht,k4];rfl
  have hd:=d6 k4;unfold yE;rw [if_neg k1,if_neg k2,if_neg k3,if_pos k4];unfold leafB at hl ⊢;rw [if_neg (by omega),if_neg (by omega),if_pos t3] at hl;simp only [t3];rw [if_neg (by omega),if_neg (by omega),if_pos trivial];simp only [Bool.and_eq_true,decide_eq_true_eq] at hl ⊢;obtain ⟨⟨⟨h1,h2⟩,⟨⟨h3,h4⟩,h5⟩⟩,h6⟩:=hl;refine ⟨⟨⟨h1,by simpa [zeroB] using h2⟩,⟨⟨List.all_eq_true.2 fun x hx=>List.all_eq_true.1 h3 x (List.mem_filter.1 hx).1,riseB_pw (hrise.filter _)⟩,?_⟩⟩,?_⟩
  ·unfold onceB at h5 ⊢;rw [decide_eq_true_eq] at h5 ⊢;exact h5.sublist ((List.filter_sublist).map _)
  ·simp only [tombsB,Bool.and_eq_true] at h6 ⊢;refine ⟨⟨List.all_eq_true.2 fun d hm=>?_,rising_of_pw (burs_pw _ htm)⟩,List.all_eq_true.2 fun d hm=>?_⟩
   ·rcases (burs_mem _ _ _).1 hm with h7 | h7
    ·exact List.all_eq_true.1 hd d h7
    ·exact List.all_eq_true.1 h6.1.1 d h7
   ·simp only [Bool.not_eq_true',List.any_eq_false,decide_eq_true_eq];intro x hx e2;obtain ⟨h8,h9⟩:=List.mem_filter.1 hx;simp only [Bool.not_eq_true',List.any_eq_false,decide_eq_true_eq] at h9;rcases (burs_mem _ _ _).1 hm with h7 | h7
    ·exact h9 d h7 e2.symm
    ·exact hap x h8 d h7 e2.symm
 ·have k5:e.op.kind=5:=by omega
  have t4:l.typ=4:=by rw [← ht,k5];rfl
  unfold yE;rw [if_neg k1,if_neg k2,if_neg k3,if_neg k4];unfold leafB at hl ⊢;rw [if_neg (by omega),if_neg (by omega),if_neg (by omega),if_pos t4] at hl;simp only [t4];rw [if_neg (by omega),if_neg (by omega),if_neg (by omega),if_pos trivial];simp only [Bool.and_eq_true,decide_eq_true_eq] at hl ⊢;obtain ⟨⟨⟨h1,h2⟩,h6⟩,⟨⟨h3,h4⟩,h5⟩⟩:=hl;refine ⟨⟨⟨h1,by simpa [zeroB] using h2⟩,h6⟩,⟨⟨all_layP h3 ?_,riseB_pw (layP_pw _ hrise)⟩,layP_once _ h5⟩⟩;simp [wV,d1,d2,d5]
theorem applyP_ok {l:GLeaf} {e:GEvent} (hl:LeafOk l) (he:xZ e=true) (hi:l.items.length≤1048576) (ht:l.tombs.length≤1048576):LeafOk (yE l e)∧(yE l e).items.length≤l.items.length+1∧(yE l e).tombs.length≤l.tombs.length+64:=by
 have d:=evOk he;have dt:0≤e.time:=by have:=d.time;simp only [qf,Bool.and_eq_true,decide_eq_true_eq] at this;omega
 have h1:=fun x=>layP_len l.items x;have h2:=burs_len e.op.dots l.tombs;have h3:=List.length_filter_le (fun x:GItem=>!(e.op.dots.any fun y=>decide (y=x.dot))) l.items;have hd:=d.dlen;have key:(yE l e).items.length≤l.items.length+1∧(yE l e).tombs.length≤l.tombs.length+64∧0≤(yE l e).time:=by
  unfold yE;split
  ·exact ⟨by simp,by simp,hl.time⟩
  split
  ·generalize (decide (l.time=0) || (if l.time ≠ e.time then decide (l.time < e.time) else dotLt l.dot e.dot))=b;cases b
   ·exact ⟨by simp,by simp,hl.time⟩
   ·exact ⟨by simp,by simp,dt⟩
  split
  ·split
   ·exact ⟨by simp,by simp,hl.time⟩
   ·exact ⟨h1 _,by simp,hl.time⟩
  split
  ·exact ⟨by simp only [];omega,by simp only [];omega,hl.time⟩
  ·exact ⟨h1 _,by simp,hl.time⟩
 exact ⟨⟨by omega,by omega,key.2.2⟩,key.1,key.2.1⟩
end Go.Vv
namespace Go.Vv
open Go
def wT (k:Int):GLeaf:=GLeaf.mk k (0:Int) (0:Int) (GDot.mk (GActor.mk (0:Int) (0:Int)) (0:Int)) ([]:zk) ([]:List GItem) ([]:List GDot)
theorem leafNew_is {k:Int} (h:1≤k∧k≤4):vC k=some (wT k):=by
 unfold vC;rw [if_neg (by simp;omega)];rfl
theorem refNew_is {k:Int} (h:1≤k∧k≤4):ref05New k=some (wT k):=by
 unfold ref05New;rw [if_pos (by simp;omega)];rfl
theorem newLf_may {k:Int} (h:1≤k∧k≤4):leafB (wT k)=true:=by
 have:k=1 ∨ k=2 ∨ k=3 ∨ k=4:=by omega
 rcases this with rfl | rfl | rfl | rfl <;> decide
theorem newLf_ok (k:Int):LeafOk (wT k):=⟨by simp [wT],by simp [wT],Int.le_refl _⟩
theorem node7_is (t:List GNode) (s:zk):qH t s=some (match nodeOf t s with | some x=>(x,true) | none=>(node0,false)):=by
 unfold qH;have key:∀ (L:List GNode) (i:Nat),zr (ρ:=GNode×Bool) (fun (n1:Nat) (x1:GNode) (s1:Unit)=>((if (x1.name==s)=true then some (.ret (x1,true)) else some (.nxt ())):Option (Out _ Unit))) L i ()=some (match nodeOf L s with | some x=>.inl (x,true) | none=>.inr ()):=by
  intro L
  induction L with
  | nil=>intro i;rfl
  | cons y r ih =>
   intro i;rw [zr];unfold nodeOf;rw [List.find?_cons];cases h:(y.name==s)
   ·simp only [Bool.false_eq_true,if_false];exact ih (i+1)
   ·simp only [if_true]
 rw [key];cases nodeOf t s <;> rfl
noncomputable def l7F (v1:GLeaf):Nat→zk→(List GNode)×zk×(List GLeaf)×(List GNode)→Option (Out (GLeaf×Bool) ((List GNode)×zk×(List GLeaf)×(List GNode))):=(fun (n1:Nat) (x1:zk) (s1:(List GNode)×zk×(List GLeaf)×(List GNode))=>(((qH s1.1 x1).bind fun v32=>(if (!v32.2)=true then some (.ret (v1,false)) else some (.nxt (v32.1.subs,v32.1.name,v32.1.leaves,v32.1.subs))))))
noncomputable def l7S (ls:List GLeaf) (kind2:Int):Int→Option (Out (GLeaf×Bool) Int):=(fun (s2:Int)=>((if (((decide (s2 < ((ls).length:Int)))&&(decide (kind2 ≥ (1:Int))))&&(decide (kind2≤(4:Int))))=true then ((yo ls s2).bind fun y63=>(if (y63.typ==kind2)=true then ((yo ls s2).bind fun y65=>some (.ret (y65,true))) else some (.nxt (IntKind.wrap .i64 (s2+(1:Int)))))) else some (.brk s2))))
theorem leaf7_eq (t0:List GNode) (path1:List zk) (kind2:Int):qI t0 path1 kind2=((ref05New kind2).bind fun v1=>(lp (zr (l7F v1) path1 0 (t0,([]:zk),([]:List GLeaf),([]:List GNode))) fun (s1:(List GNode)×zk×(List GLeaf)×(List GNode))=>(lp (yr (l7S s1.2.2.1 kind2) (0:Int)) fun (s2:Int)=>some (v1,false)))):=rfl
theorem l7_walk (v:GLeaf):∀ (p:List zk) (n:Nat) (t:List GNode) (z:zk×(List GLeaf)×(List GNode)),p ≠ [] →
  zr (l7F v) p n (t,z)=some (match wq t p with | some x=>.inr (x.subs,x.name,x.leaves,x.subs) | none=>.inl (v,false))
 | [],_,_,_,h=>absurd rfl h
 | [s],n,t,z,_=>by
  simp only [wq,zr,l7F,node7_is,Option.bind_some];cases nodeOf t s with
  | none=>rfl
  | some x=>rfl
 | s::c::q,n,t,z,_=>by
  have ih:=fun u z=>l7_walk v (c::q) (n+1) u z (by simp);simp only [wq];cases e:nodeOf t s with
  | none=>rw [zr];simp only [l7F,node7_is,e,Option.bind_some];rfl
  | some x =>
   have e2:l7F v n s (t,z)=some (.nxt (x.subs,x.name,x.leaves,x.subs)):=by simp only [l7F,node7_is,e,Option.bind_some];rfl
   rw [zr,e2,Option.bind_some];exact ih x.subs (x.name,x.leaves,x.subs)
theorem l7_scan {ls:List GLeaf} {k:Int} (hk:1≤k∧k≤4) (hl:ls.length≤16777216):∀ (m i:Nat),ls.length - i=m→i≤ls.length→yr (l7S ls k) (i:Int)=some (match (ls.drop i).find? (fun y=>y.typ==k) with | some y=>.inl (y,true) | none=>.inr (ls.length:Int)):=by
 intro m
 induction m with
 | zero =>
  intro i h hi;obtain rfl:i=ls.length:=by omega
  rw [yS];unfold l7S;simp
 | succ m ih =>
  intro i h hi;have hlt:i < ls.length:=by omega
  rw [yS];have hd:ls.drop i=ls[i]::ls.drop (i+1):=List.drop_eq_getElem_cons hlt;have hc:((decide ((i:Int) < (ls.length:Int))&&decide (k ≥ 1))&&decide (k≤4))=true:=by simp;omega
  rw [hd,List.find?_cons];cases e:(ls[i].typ==k)
  ·have:l7S ls k (i:Int)=some (.nxt ((i+1:Nat):Int)):=by
    unfold l7S;rw [if_pos hc,qv hlt,Option.bind_some,e];simp only [Bool.false_eq_true,if_false];rw [w64n (by omega)];rfl
   rw [this];exact ih (i+1) (by omega) (by omega)
  ·have:l7S ls k (i:Int)=some (.ret (ls[i],true)):=by
    unfold l7S;rw [if_pos hc,qv hlt,Option.bind_some,e];simp
   rw [this]
theorem leaves_len:∀ {p:List zk} {t:List GNode} {d:Nat} {x:GNode},treeB d t=true→p ≠ []→wq t p=some x→x.leaves.length≤(zn [] t).length
 | [],_,_,_,_,h,_=>absurd rfl h
 | [s],t,d,x,h,_,e=>by
  have hx:x ∈ t:=List.mem_of_find?_eq_some (show nodeOf t s=some x from e);have:=qr hx;omega
 | s::c::q,t,d,x,h,_,e=>by
  simp only [wq] at e;cases hn:nodeOf t s with
  | none=>rw [hn] at e;cases e
  | some y =>
   rw [hn,Option.bind_some] at e;have hy:y ∈ t:=List.mem_of_find?_eq_some (show nodeOf t s=some y from hn);have h1:=leaves_len (xT ((zK h).2 y hy)).2.1 (by simp) e;have h2:=qr hy;omega
theorem leaf7_is {t:List GNode} (h:treeB 0 t=true) (hw:(zn [] t).length≤16777215) {p:List zk} (hp:p ≠ []) {k:Int} (hk:1≤k∧k≤4) :
  (∃ l,GRow.mk p l ∈ zn [] t∧l.typ=k∧qI t p k=some (l,true)) ∨ ((∀ r ∈ zn [] t,xI r ≠ (p,k))∧qI t p k=some (wT k,false)):=by
 have hra:=fun l=>row_at p t 0 [] l hp h;simp only [List.nil_append] at hra;have hno:(∀ l,¬ (GRow.mk p l ∈ zn [] t∧l.typ=k))→∀ r ∈ zn [] t,xI r ≠ (p,k):=fun hn r hr e=>by
  have:=row_mk e;simp only [List.nil_append] at this;exact hn r.leaf ⟨by rw [← this];exact hr,congrArg Prod.snd e⟩
 rw [leaf7_eq,refNew_is hk,Option.bind_some,l7_walk _ p 0 t _ hp];cases e:wq t p with
 | none =>
  right;refine ⟨hno fun l hh=>?_,rfl⟩;obtain ⟨x,hx,_⟩:=(hra l).1 hh.1;rw [e] at hx;cases hx
 | some x =>
  simp only [lp];have hlen:x.leaves.length≤16777215:=by
   exact Nat.le_trans (leaves_len h hp e) hw
  have hs:=l7_scan hk (by omega:x.leaves.length≤16777216) x.leaves.length 0 (by omega) (Nat.zero_le _);simp only [List.drop_zero,Int.natCast_zero] at hs;have hs':yr (l7S x.leaves k) (0:Int)=_:=hs;rw [hs'];cases hf:x.leaves.find? (fun y=>y.typ==k) with
  | some y =>
   left;refine ⟨y,(hra y).2 ⟨x,e,List.mem_of_find?_eq_some hf⟩,?_,rfl⟩;have:=List.find?_some hf;simpa using this
  | none =>
   right;refine ⟨hno fun l hh=>?_,rfl⟩;obtain ⟨x',hx,hl⟩:=(hra l).1 hh.1;rw [e] at hx;injection hx with hx;subst hx;have:=List.find?_eq_none.1 hf l hl;simp [hh.2] at this
end Go.Vv
namespace Go.Vv
open Go
theorem name_len {s:zk} (h:nameB s=true):s.length≤12∧∀ b ∈ s,b ≠ 0:=by
 simp only [nameB,Bool.and_eq_true,decide_eq_true_eq,List.all_eq_true] at h;refine ⟨h.1.2,fun b hb e=>?_⟩;have:=h.2 b hb;rw [e] at this;revert this;decide
theorem leaf_bk (l:GLeaf):4≤GLeaf.bk l:=by unfold GLeaf.bk;omega
theorem leaves_bk:∀ ls:List GLeaf,4 * ls.length≤(ls.map GLeaf.bk).sum
 | []=>by simp
 | l::ls=>by
  have:=leaves_bk ls;have:=leaf_bk l;simp only [List.length_cons,List.map_cons,List.sum_cons];omega
theorem rows4:∀ (t:List GNode),4 * (zn [] t).length≤GNode.bks t:=by
 refine xO (by simp [zn]) ?_;intro x r hx hr;have h1:=leaves_bk x.leaves;have h2:=bk_node x;rw [show x::r=[x]++r from rfl,vU,qj,yL];simp only [List.length_append,List.length_map];rw [len_rows x.subs ([]++[x.name]) []];show _≤x.bk+GNode.bks r;omega
def wS (n:Nat):List GRow→Nat
 | []=>0
 | r::L=>r.leaf.bk+17 * (r.path.length - n)+wS n L
theorem wS_app (n:Nat):∀ A B:List GRow,wS n (A++B)=wS n A+wS n B
 | [],B=>by simp [wS]
 | r::A,B=>by simp only [List.cons_append,wS,wS_app n A B];omega
theorem wS_leaves (a:List zk) (s:zk):∀ ls:List GLeaf,wS a.length (ls.map fun l=>GRow.mk (a++[s]) l)=(ls.map GLeaf.bk).sum+17 * ls.length
 | []=>rfl
 | l::ls=>by
  simp only [List.map_cons,wS,wS_leaves a s ls,List.sum_cons,List.length_cons,List.length_append,List.length_nil];omega
theorem wS_up (n:Nat):∀ L:List GRow,(∀ r ∈ L,n+1≤r.path.length)→wS n L=wS (n+1) L+17 * L.length
 | [],_=>rfl
 | r::L,h=>by
  have h1:=h r (by simp);simp only [wS,wS_up n L (fun q hq=>h q (by simp [hq])),List.length_cons];omega
theorem bk_is (x:GNode):x.bk=(x.name.length+1)+(((x.leaves.map GLeaf.bk).sum+1)+((GNode.bks x.subs+1)+0))+1:=by cases x;simp only [GNode.bk]
theorem bks_rows:∀ (t:List GNode) (d:Nat) (a:List zk),(∀ x ∈ t,nodeB d x=true)→GNode.bks t≤wS a.length (zn a t):=by
 refine xO (fun _ _ _=>by simp [GNode.bks]) ?_;intro x r hx hr d a hn;have h1:=hr d a fun y hy=>hn y (by simp [hy]);have h2:=hn x (by simp);obtain ⟨n1,n2,_⟩:=xT h2;have h3:=hx (d+1) (a++[x.name]) (zK n2).2;have h4:=(name_len n1).1;have h5:=wy [x] d (by simp [xE,h2]);rw [qj,yL] at h5;simp only [List.length_append,List.length_map,List.length_cons,List.length_nil,Nat.zero_add] at h3 h5;rw [len_rows x.subs ([]++[x.name]) (a++[x.name])] at h5;show x.bk+GNode.bks r≤wS a.length (qk a x++zn a r);rw [wS_app,yL,wS_app,wS_leaves,wS_up a.length _ fun q hq=>by
  have:=(rows_path _ _ q hq).1;simp at this;omega]
 have h6:=bk_is x;omega
theorem wS_sub {lt:GRow→GRow→Prop} (irr:∀ x,¬ lt x x) (n:Nat):∀ (L M:List GRow),L.Pairwise lt→(∀ x ∈ L,x ∈ M)→wS n L≤wS n M
 | [],_,_,_=>Nat.zero_le _
 | x::L,M,h,hs=>by
  obtain ⟨h1,h2⟩:=List.pairwise_cons.1 h;obtain ⟨A,B,rfl⟩:=List.append_of_mem (hs x (by simp));have:=wS_sub irr n L (A++B) h2 fun y hy=>by
   have hy2:=hs y (by simp [hy]);have hne:y ≠ x:=fun e=>irr x (by have:=h1 y hy;rwa [e] at this);simp only [List.mem_append,List.mem_cons] at hy2 ⊢;rcases hy2 with h | h | h
   ·exact .inl h
   ·exact (hne h).elim
   ·exact .inr h
  rw [wS_app] at this;rw [wS_app];simp only [wS];omega
def lS:List GRow→Nat
 | []=>0
 | r::L=>r.leaf.bk+lS L
theorem lS_app:∀ A B:List GRow,lS (A++B)=lS A+lS B
 | [],B=>by simp [lS]
 | r::A,B=>by simp only [List.cons_append,lS,lS_app A B];omega
theorem lS_leaves (p:List zk):∀ ls:List GLeaf,lS (ls.map fun l=>GRow.mk p l)=(ls.map GLeaf.bk).sum
 | []=>rfl
 | l::ls=>by simp only [List.map_cons,lS,lS_leaves p ls,List.sum_cons]
theorem wS_le:∀ L:List GRow,(∀ r ∈ L,r.path.length≤3)→wS 0 L≤lS L+51 * L.length
 | [],_=>Nat.le_refl _
 | r::L,h=>by
  have h1:=h r (by simp);have h2:=wS_le L fun q hq=>h q (by simp [hq]);simp only [wS,lS,List.length_cons];omega
theorem lS_le:∀ (t:List GNode) (a:List zk),lS (zn a t)≤GNode.bks t:=by
 refine xO (fun _=>Nat.zero_le _) ?_;intro x r hx hr a;have h1:=hr a;have h2:=hx (a++[x.name]);have h3:=bk_is x;show lS (qk a x++zn a r)≤x.bk+GNode.bks r;rw [lS_app,yL,lS_app,lS_leaves];omega
theorem rows_wf:∀ (t:List GNode) (a:List zk),GNode.wfs t→∀ r ∈ zn a t,GLeaf.wf r.leaf:=by
 refine xO (fun _ _ _ h=>by simp [zn] at h) ?_;intro x r hx hr a h q hq;simp only [GNode.wfs] at h;have hq:q ∈ qk a x++zn a r:=hq;rcases List.mem_append.1 hq with hq | hq
 ·have hw:x.name.length≤maxLen∧(x.leaves.length≤maxLen∧∀ y ∈ x.leaves,GLeaf.wf y)∧GNode.wfs x.subs:=by
   have:=h.1;cases x;simpa only [GNode.wf] using this
  rcases rowsN_mem.1 hq with ⟨l,hl,rfl⟩ | hq
  ·exact hw.2.1.2 l hl
  ·exact hx _ hw.2.2 q hq
 ·exact hr a h.2 q hq
theorem wf_rows:∀ (t:List GNode) (d:Nat) (a:List zk),(∀ x ∈ t,nodeB d x=true)→(zn a t).length≤maxLen→(∀ r ∈ zn a t,GLeaf.wf r.leaf)→GNode.wfs t:=by
 refine xO (fun _ _ _ _ _=>by simp [GNode.wfs]) ?_;intro x r hx hr d a hn hl hw;have hl:(qk a x++zn a r).length≤maxLen:=hl;have hw:∀ q ∈ qk a x++zn a r,GLeaf.wf q.leaf:=hw;rw [yL] at hl;simp only [List.length_append,List.length_map] at hl;obtain ⟨n1,n2,_⟩:=xT (hn x (by simp));have h1:=hr d a (fun y hy=>hn y (by simp [hy])) (by omega) (fun q hq=>hw q (by simp [hq]));have h2:=hx (d+1) (a++[x.name]) (zK n2).2 (by omega) (fun q hq=>hw q (List.mem_append.2 (.inl (rowsN_mem.2 (.inr hq)))));have h3:=(name_len n1).1;have hnl:x.name.length≤maxLen:=Nat.le_trans h3 (by decide);have h4:∀ y ∈ x.leaves,GLeaf.wf y:=fun y hy=>hw ⟨a++[x.name],y⟩ (List.mem_append.2 (.inl (rowsN_mem.2 (.inl ⟨y,hy,rfl⟩))));have h5:x.leaves.length≤maxLen:=by omega
 simp only [GNode.wfs];refine ⟨?_,h1⟩;revert hnl h4 h5 h2;cases x;intro h2 hnl h4 h5;simp only [GNode.wf];exact ⟨hnl,⟨h5,h4⟩,h2⟩
end Go.Vv
namespace Go.Vv
open Go
theorem ownC_is {l:GLeaf} (h:LeafOk l):vD l=some l:=by
 unfold vD;rw [qz (yG (by have:=h.items;omega)),Option.bind_some,cloneDot_is (yG (by have:=h.tombs;omega)),Option.bind_some]
theorem changed_is:∀ (n:Nat) (t:List GNode),GNode.deps t < n→Small t→xW n t (fun x0=>vD x0)=some t
 | 0,_,h,_=>by omega
 | n+1,t,h,hs=>by
  unfold xW;have hl:=hs.len;rw [qQ (fun _=>true) (fun x=>x) t 0 [] (yG (by simp;omega))]
  ·simp
  ·intro i x s hx hsl;have hdp:=dep_mem hx;have hds:=xV x;have hll:=hs.leaves hx;rw [changed_is n x.subs (by omega) (hs.subs hx),Option.bind_some];rw [qQ (fun _=>true) (fun l=>l) x.leaves 0 [] (yG (by simp;omega))]
   ·have hft:(x.leaves.filter fun _=>true)=x.leaves:=by simp
    simp only [xd,List.nil_append,List.map_id_fun',id,hft,if_true];rw [zo (by simpa using hsl)];cases x;simp
   ·intro j l s2 hl2 hs2;show ((vD l).bind _)=_;rw [ownC_is (hs.leaf hx hl2),Option.bind_some,zo (by simpa using hs2)];simp
theorem own7_is {t:List GNode} (h:Small t):treeXown t=some t:=by
 unfold treeXown treeXchanged;rw [anyN_of (GNode.deps t+1) fun n hn=>changed_is n t (by omega) h,Option.bind_some]
theorem wS_len:∀ L:List GRow,(∀ r ∈ L,1≤r.path.length)→17 * L.length≤wS 0 L
 | [],_=>Nat.le_refl _
 | r::L,h=>by
  have h1:=h r (by simp);have h2:=wS_len L fun q hq=>h q (by simp [hq]);simp only [wS,List.length_cons];omega
structure Fine (t:List GNode):Prop where
 small:Small t
 tree:treeB 0 t=true
 ws:wS 0 (zn [] t)≤14680064
 leaf:∀ r ∈ zn [] t,r.leaf.bk≤1048576
theorem lS_mem:∀ {L:List GRow} {r:GRow},r ∈ L→r.leaf.bk≤lS L
 | q::L,r,h=>by
  rcases List.mem_cons.1 h with rfl | h
  ·simp only [lS];omega
  ·have:=lS_mem h;simp only [lS];omega
theorem fine_of {t:List GNode} (hs:Small t) (ht:treeB 0 t=true) (hb:GNode.bks t≤1048576):Fine t:=by
 have h4:=wS_le (zn [] t) fun r hr=>(wR (rows_ok t 0 [] hs ht rfl rfl r hr).path).2.1;have h6:=lS_le t [];have h8:=rows4 t;exact ⟨hs,ht,by omega,fun r hr=>Nat.le_trans (lS_mem hr) (by omega)⟩
theorem Fine.row {t:List GNode} (h:Fine t) {r:GRow} (hr:r ∈ zn [] t):RowOk' r:=rows_ok t 0 [] h.small h.tree rfl rfl r hr
theorem Fine.len {t:List GNode} (h:Fine t):(zn [] t).length≤863533:=by
 have h1:=wS_len (zn [] t) fun r hr=>by
  have:=(wR (h.row hr).path).1;exact List.length_pos_iff.2 this
 have:=h.ws;omega
theorem rows_small {u:List GNode} {M:List GRow} (hu:treeB 0 u=true) (hw:wS 0 M≤16777216) (hn:M.length≤1048576) (hwf:∀ r ∈ M,GLeaf.wf r.leaf) (h:∀ r ∈ zn [] u,r ∈ M):Small u∧wS 0 (zn [] u)≤wS 0 M:=by
 have irr:∀ x:GRow,¬ kltB (xI x) (xI x)=true:=fun x h=>by rw [klt_irr] at h;cases h
 have hsd:=wl hu [];have h1:=bks_rows u 0 [] (zK hu).2;have h2:=wS_sub irr 0 _ _ hsd h;have h3:=sub_len irr _ _ hsd h;simp only [List.length_nil] at h1;exact ⟨⟨wf_rows u 0 [] (zK hu).2 (Nat.le_trans (Nat.le_trans h3 hn) (by decide)) fun r hr=>hwf r (h r hr),by omega⟩,h2⟩
theorem fine_sub {t u:List GNode} (ht:Fine t) (hu:treeB 0 u=true) (h:∀ r ∈ zn [] u,r ∈ zn [] t):Fine u:=by
 have h1:=ht.ws;have h2:=ht.len;obtain ⟨a,b⟩:=rows_small hu (by omega) (by omega) (fun r hr=>rows_wf t [] ht.small.1 r hr) h;exact ⟨a,hu,by omega,fun r hr=>ht.leaf r (h r hr)⟩
theorem small_put {t u:List GNode} {p:List zk} {l:GLeaf} (ht:Fine t) (hu:treeB 0 u=true) (hl:l.bk≤1100000) (hw:GLeaf.wf l) (hp:p.length≤3) (h:∀ r ∈ zn [] u,r ∈ zn [] t ∨ r=⟨p,l⟩):Small u:=by
 have h1:=ht.ws;have h2:=ht.len;refine (rows_small (M:=zn [] t++[⟨p,l⟩]) hu (by rw [wS_app];simp only [wS];omega) (by simp;omega) (fun r hr=>?_) fun r hr=>?_).1
 ·rcases List.mem_append.1 hr with h | h
  ·exact rows_wf t [] ht.small.1 r h
  ·rw [List.mem_singleton.1 h];exact hw
 ·rcases h r hr with h | h
  ·simp [h]
  ·simp [h]
theorem dots_bk (L:List GDot):(L.map GDot.bk).sum=5 * L.length:=by
 induction L with
 | nil=>rfl
 | cons d r ih =>
  have:GDot.bk d=5:=rfl;rw [List.map_cons,List.sum_cons,ih,this,List.length_cons];omega
theorem sum_filter_le {α:Type} (f:α→Nat) (q:α→Bool):∀ L:List α,((L.filter q).map f).sum≤(L.map f).sum
 | []=>by simp
 | x::r=>by
  have:=sum_filter_le f q r;rw [List.filter_cons];split <;> simp only [List.map_cons,List.sum_cons] <;> omega
theorem lay_bk (L:List GItem) (x:GItem):((layP L x).map GItem.bk).sum≤(L.map GItem.bk).sum+x.bk:=by
 unfold layP;split
 ·omega
 ·have e:=List.takeWhile_append_dropWhile (p:=fun y=>aheadI y x) (l:=L);have e2:(L.map GItem.bk).sum=(((L.takeWhile (fun y=>aheadI y x))++L.dropWhile fun y=>aheadI y x).map GItem.bk).sum:=by rw [e]
  rw [e2];simp only [List.map_append,List.sum_append,List.map_cons,List.map_nil,List.sum_cons,List.sum_nil];omega
theorem applyP_bk {l:GLeaf} {e:GEvent} (he:xZ e=true):(yE l e).bk≤l.bk+1000:=by
 have d:=evOk he;have h1:=lay_bk l.items ⟨0,e.dot,e.op.text⟩;have h2:=lay_bk l.items ⟨e.time,e.dot,e.op.text⟩;have h3:=burs_len e.op.dots l.tombs;have h4:=sum_filter_le GItem.bk (fun x:GItem=>!(e.op.dots.any fun y=>decide (y=x.dot))) l.items;have hd:=d.dlen;have ht:=d.text;have b0:∀ x:GDot,GDot.bk x=5:=fun _=>rfl;have i1:GItem.bk ⟨0,e.dot,e.op.text⟩≤60:=by simp only [GItem.bk,b0];omega
 have i2:GItem.bk ⟨e.time,e.dot,e.op.text⟩≤60:=by simp only [GItem.bk,b0];omega
 unfold yE;split
 ·simp only [GLeaf.bk];omega
 split
 ·generalize (decide (l.time=0) || (if l.time ≠ e.time then decide (l.time < e.time) else dotLt l.dot e.dot))=b;cases b
  ·simp only [Bool.false_eq_true,if_false];omega
  ·simp only [if_true,GLeaf.bk,b0];omega
 split
 ·split
  ·omega
  ·simp only [GLeaf.bk];omega
 split
 ·simp only [GLeaf.bk,dots_bk];omega
 ·simp only [GLeaf.bk];omega
theorem inK_wrap64 (n:Int):InK .i64 (IntKind.wrap .i64 n):=by
 unfold InK;rw [IntKind.wrap_i64];constructor
 ·show (-9223372036854775808:Int)≤_;omega
 ·show _≤(9223372036854775807:Int);omega
theorem all_lay {q:GItem→Prop} {L:List GItem} {x:GItem} (h:∀ y ∈ L,q y) (hx:q x):∀ y ∈ layP L x,q y:=fun y hy=>by
 rcases layP_mem hy with h1 | h1
 ·exact h y h1
 ·rw [h1];exact hx
theorem applyP_wf {l:GLeaf} {e:GEvent} (hl:GLeaf.wf l) (he:xZ e=true) (hw:GEvent.wf e) (hi:l.items.length≤1048576) (hto:l.tombs.length≤1048576):GLeaf.wf (yE l e):=by
 have d:=evOk he;obtain ⟨w1,w2,w3,w4,w5,w6,w7⟩:=hl;obtain ⟨e1,e2,e3⟩:=hw;obtain ⟨o1,o2,o3,o4,o5⟩:=e3;have hm:∀ n,n≤1048700→n≤maxLen:=fun n h=>Nat.le_trans h (by decide);have l1:=fun x=>layP_len l.items x;have l2:=burs_len e.op.dots l.tombs;have l3:=List.length_filter_le (fun x:GItem=>!(e.op.dots.any fun y=>decide (y=x.dot))) l.items;have hd:=d.dlen;have z:InK .u64 0:=⟨Int.le_refl _,by decide⟩
 unfold yE;split
 ·exact ⟨w1,inK_wrap64 _,w3,w4,w5,w6,w7⟩
 split
 ·generalize (decide (l.time=0) || (if l.time ≠ e.time then decide (l.time < e.time) else dotLt l.dot e.dot))=b;cases b
  ·exact ⟨w1,w2,w3,w4,w5,w6,w7⟩
  ·exact ⟨w1,w2,e2,e1,o4,w6,w7⟩
 split
 ·split
  ·exact ⟨w1,w2,w3,w4,w5,w6,w7⟩
  ·exact ⟨w1,w2,w3,w4,w5,⟨hm _ (by have:=l1 ⟨0,e.dot,e.op.text⟩;simp only [];omega),all_lay w6.2 ⟨z,e1,o4⟩⟩,w7⟩
 split
 ·refine ⟨w1,w2,w3,w4,w5,⟨hm _ (by simp only [];omega),fun y hy=>w6.2 y (List.mem_filter.1 hy).1⟩,⟨hm _ (by simp only [];omega),fun y hy=>?_⟩⟩;rcases (burs_mem _ _ _).1 hy with h | h
  ·exact o5.2 y h
  ·exact w7.2 y h
 ·exact ⟨w1,w2,w3,w4,w5,⟨hm _ (by have:=l1 ⟨e.time,e.dot,e.op.text⟩;simp only [];omega),all_lay w6.2 ⟨e2,e1,o4⟩⟩,w7⟩
theorem newLf_wf {k:Int} (h:1≤k∧k≤4):GLeaf.wf (wT k):=by
 have z:InK .u64 0:=⟨Int.le_refl _,by decide⟩
 have z8:InK .u8 0:=⟨Int.le_refl _,by decide⟩
 have z32:InK .u32 0:=⟨Int.le_refl _,by decide⟩
 have zi:InK .i64 0:=⟨by decide,by decide⟩
 refine ⟨⟨by show (0:Int)≤k;omega,by show k≤255;omega⟩,zi,z,⟨⟨z8,z32⟩,z⟩,by simp [wT],⟨by simp [wT],by simp [wT]⟩,⟨by simp [wT],by simp [wT]⟩⟩
end Go.Vv
namespace Go.Vv
open Go
theorem tlR_false {k:Int} (hk:1≤k∧k≤4) {s1:Bool×zk×(List GLeaf)×(List GNode)} {v:GLeaf} (h:tlR k s1=some (v,false)):v=wT k:=by
 unfold tlR at h;obtain ⟨v49,_,h⟩:=Option.bind_eq_some_iff.1 h;obtain ⟨v50,_,h⟩:=Option.bind_eq_some_iff.1 h;split at h
 ·rw [leafNew_is hk,Option.bind_some] at h;injection h with h;injection h with h _;exact h.symm
 ·obtain ⟨y,_,h⟩:=Option.bind_eq_some_iff.1 h;obtain ⟨a,_,h⟩:=Option.bind_eq_some_iff.1 h;obtain ⟨b,_,h⟩:=Option.bind_eq_some_iff.1 h;injection h with h;injection h with _ h;cases h
theorem treeLeaf_false {t:List GNode} {p:List zk} (hp:p ≠ []) {k:Int} (hk:1≤k∧k≤4) {v:GLeaf} (h:xA t p k=some (v,false)):v=wT k:=by
 have hw:=tl_walk p 0 t (decide ((p.length:Int) > 0),([]:zk),([]:List GLeaf),([]:List GNode)) hp;rw [tl_eq] at h;cases e:wq t p with
 | none =>
  rw [e] at hw;obtain ⟨u,hw⟩:=hw;rw [hw] at h;simp only [xd] at h;exact tlR_false hk h
 | some x =>
  rw [e] at hw;simp only at hw;rw [hw] at h;simp only [xd] at h;exact tlR_false hk h
theorem leaf_lens (l:GLeaf):l.items.length≤l.bk∧l.tombs.length≤l.bk:=by
 have h1:=sum_len (f:=GItem.bk) (fun x=>by simp only [GItem.bk];omega) l.items;have h2:=dots_bk l.tombs;simp only [GLeaf.bk];omega
theorem leaf_both {t:List GNode} (hf:Fine t) {p:List zk} (hp:p ≠ []) {k:Int} (hk:1≤k∧k≤4) :
  ∃ l b,xA t p k=some (l,b)∧qI t p k=some (l,b)∧l.typ=k∧leafB l=true∧LeafOk l∧GLeaf.wf l∧l.bk≤1048576∧((b=true∧GRow.mk p l ∈ zn [] t) ∨ (b=false∧l=wT k∧∀ r ∈ zn [] t,xI r ≠ (p,k))):=by
 have h4:=hf.len;have hs:=hf.small;have ht:=hf.tree;have hok:=fun r hr=>rows_ok t 0 [] hs ht rfl rfl r hr;rcases treeLeaf_is ht (fun r hr=>(hok r hr).ok) hp hk with ⟨l,h1,h2,h3⟩ | ⟨h1,v,h2⟩ <;> rcases leaf7_is ht (by omega) hp hk with ⟨l',g1,g2,g3⟩ | ⟨g1,g2⟩
 ·have e:=sorted_key (key:=xI) (wl ht []) h1 g1 (by simp only [xI];rw [h2,g2]);injection e with _ e;subst e;have hr:=hok _ h1;refine ⟨l,true,h3,g3,h2,hr.leaf,hr.ok,rows_wf t [] hs.1 _ h1,?_,.inl ⟨rfl,h1⟩⟩;exact hf.leaf _ h1
 ·exact absurd (by simp only [xI];rw [h2]) (g1 _ h1)
 ·exact absurd (by simp only [xI];rw [g2]) (h1 _ g1)
 ·have e:=treeLeaf_false hp hk h2;subst e;exact ⟨wT k,false,h2,g2,rfl,newLf_may hk,newLf_ok k,newLf_wf hk,(by simp [wT,GLeaf.bk,GDot.bk,GActor.bk]),.inr ⟨rfl,rfl,h1⟩⟩
theorem put_all {l:GLeaf} (hl:leafB l=true) (ho:LeafOk l) {p:List zk} {t u:List GNode} (hp:vm p=true) (ht:treeB 0 t=true) (hw:(zn [] t).length≤8388606) (hu:treeB 0 u=true) (hr:∀ r,r ∈ zn [] u ↔ (r ∈ zn [] t∧xI r ≠ (p,l.typ)) ∨ (true=true∧r=⟨p,l⟩)) :
  treeXput t p l=some u∧ref07Lay t p l=some u:=by
 obtain ⟨p1,p2,p3⟩:=wR hp;have key:∀ n,p.length+1≤n→yQ n t p l.typ l true=some u:=fun n hn=>by
  obtain ⟨u',f1,f2,_,f4⟩:=lay_is (k:=l.typ) (l:=l) (there:=true) (fun _=>⟨rfl,hl,ho⟩) p t 0 n p1 p3 (by omega) ht (by omega) (by omega);have f4:=f4 [];simp only [List.nil_append] at f4;rw [f1,rows_ext f2 hu fun r=>by rw [f4,hr];simp]
 refine ⟨anyN_of (p.length+1) fun n hn=>?_,anyN_of (p.length+1) fun n hn=>?_⟩
 ·rw [put_lay hl ho p t 0 n p1 p3 (by omega) ht (by omega) (by omega)];exact key n hn
 ·rw [lay7_lay hl ho p t 0 n p1 p3 (by omega) ht (by omega) (by omega)];exact key n hn
theorem apply_is {t:List GNode} {e:GEvent} (hf:Fine t) (he:xZ e=true) (hw:GEvent.wf e) :
  ∃ u l b,treeApply t e=some (u,0)∧qJ t e=some (u,0)∧Small u∧treeB 0 u=true∧xA t e.op.path (x6 e.op.kind)=some (l,b)∧l.typ=x6 e.op.kind∧leafB (yE l e)=true∧LeafOk (yE l e) ∧
   ∀ r,r ∈ zn [] u ↔ (r ∈ zn [] t∧xI r ≠ (e.op.path,x6 e.op.kind)) ∨ r=⟨e.op.path,yE l e⟩:=by
 have d:=evOk he;have hs:=hf.small;have ht:=hf.tree;have hk:=type_range d.kind;obtain ⟨p1,p2,p3⟩:=wR d.path;obtain ⟨l,b,h1,h2,h3,h4,h5,h6,h7,_⟩:=leaf_both hf p1 hk;have hlen:=leaf_lens l;have hA:=applyP_may h4 he h3.symm;have hT:(yE l e).typ=x6 e.op.kind:=by rw [applyP_typ,h3]
 obtain ⟨hO,_⟩:=applyP_ok h5 he (by omega) (by omega);have hrows:=hf.len;obtain ⟨u,_,u1,_,u2⟩:=lay_all (k:=(yE l e).typ) (l:=yE l e) (there:=true) (fun _=>⟨rfl,hA,hO⟩) d.path ht (by omega);obtain ⟨q1,q2⟩:=put_all hA hO d.path ht (by omega) u1 u2;have hS:Small u:=small_put hf u1 (Nat.le_trans (applyP_bk he) (by omega)) (applyP_wf h6 he hw (by omega) (by omega)) p2 fun r hr=>by
  rcases (u2 r).1 hr with h | h
  ·exact .inl h.1
  ·exact .inr h.2
 have hi1:l.items.length≤1048576:=by omega
 have hi2:l.tombs.length≤1048576:=by omega
 have hW:applyW l e=(yE l e,0):=by
  unfold applyW;rw [if_neg (by rw [h4,he];decide),if_neg (by rw [h3];simp)]
 refine ⟨u,l,b,?_,?_,hS,u1,h1,h3,hA,hO,fun r=>by rw [u2,hT];simp⟩
 ·unfold treeApply;rw [wJ hs,opMayEvent_is,ht,he];simp only [Option.bind_some,Bool.not_true,beq_self_eq_true,if_true,Bool.or_self,Bool.false_eq_true,if_false];rw [opType_is,Option.bind_some,h1,Option.bind_some,leafApply_is e hi1 hi2,hW,Option.bind_some];simp only [bne_self_eq_false,Bool.false_eq_true,if_false];rw [q1,Option.bind_some,own7_is hS,Option.bind_some]
 ·unfold qJ;rw [ref07May_is hs,ref04MayEvent_is,ht,he];simp only [Option.bind_some,Bool.not_true,beq_self_eq_true,if_true,Bool.or_self,Bool.false_eq_true,if_false];rw [ref04Type_is,Option.bind_some,h2,Option.bind_some,refApply_is e hi1 hi2 h5.time,hW,Option.bind_some];simp only [bne_self_eq_false,Bool.false_eq_true,if_false];rw [q2,Option.bind_some]
end Go.Vv
namespace Go.Vv
open Go
theorem idxField_is {q:GField→Bool} {del:GField→Option Bool} (L:List GField) (h:∀ x ∈ L,del x=some (q x)) :
  (yy L del=some (-1)∧∀ x ∈ L,q x=false) ∨ ∃ A x B,L=A++x::B∧q x=true∧(∀ y ∈ A,q y=false)∧yy L del=some (A.length:Int):=by
 unfold yy;rcases first_is L 0 h with ⟨e,h1⟩ | ⟨A,x,B,e0,h1,h2,e⟩
 ·left;exact ⟨by rw [e];rfl,h1⟩
 ·right;exact ⟨A,x,B,e0,h1,h2,by rw [e];simp [lp]⟩
def oneB (f:GField):Bool:=((((patB f.path&&((IntKind.wrap .u8 (((BitVec.ofInt (IntKind.bits .u8) f.types &&& ~~~(BitVec.ofInt (IntKind.bits .u8) (30:Int))).toNat:Int)))==(0:Int)))&&(decide (f.min≤f.max)))&&(decide (f.items ≥ (0:Int))))&&(decide (f.items≤(1000:Int))))
def schB (L:List GField):Bool:=decide ((L.length:Int)≤64)&&!(L.any fun f=>!oneB f)
def Paths (L:List GField):Prop:=∀ f ∈ L,f.path.length≤maxLen
theorem qi {L:List GField} (h:Paths L):vS L=some (schB L):=by
 unfold vS;have hc:yP L (fun x0=>vR x0)=some (L.any fun f=>!oneB f):=by
  unfold yP;rcases idxField_is (q:=fun f=>!oneB f) (del:=fun x0=>vR x0) L (fun f hf=>by unfold vR qZ;rw [vF (h f hf)];rfl) with ⟨e,h1⟩ | ⟨A,x,B,e0,h1,h2,e⟩
  ·rw [e,Option.bind_some];have:(L.any fun f=>!oneB f)=false:=List.any_eq_false.2 fun x hx=>by rw [h1 x hx];simp
   rw [this];rfl
  ·rw [e,Option.bind_some];have:(L.any fun f=>!oneB f)=true:=List.any_eq_true.2 ⟨x,by rw [e0];simp,h1⟩;rw [this];simp
 unfold schB;cases hd:decide ((L.length:Int)≤64)
 ·simp
 ·simp [hc]
def fieldOf (L:List GField) (p:List zk):Option GField:=L.find? fun f=>matchB f.path p
def kindOut (f:GField) (x:GLeaf):Bool:=((IntKind.wrap .u8 (((BitVec.ofInt (IntKind.bits .u8) (Int.fdiv f.types (2 ^ (min x.typ.toNat (IntKind.bits .u8)))) &&& BitVec.ofInt (IntKind.bits .u8) (1:Int)).toNat:Int)))==(0:Int))
def fitsB (f:GField) (x:GLeaf):Bool:=if x.typ=1 then decide (x.n ≥ f.min)&&decide (x.n≤f.max) else if x.typ=2 then true else decide ((x.items.length:Int)≤f.items)
def brB (L:List GField) (p:List zk) (x:GLeaf):Int :=
 match fieldOf L p with
 | none=>7
 | some f=>if kindOut f x=true then 15 else if fitsB f x=true then 0 else 14
theorem field_is {L:List GField} (h:Paths L) (p:List zk):qh L p=some (match fieldOf L p with | some f=>(f,true) | none=>(GField.mk ([]:List zk) (0:Int) (0:Int) (0:Int) (0:Int),false)):=by
 unfold qh;rcases idxField_is (q:=fun f=>matchB f.path p) (del:=fun x0=>wL x0 p) L (fun f hf=>by unfold wL;rw [pathsMatch_is (h f hf)];rfl) with ⟨e,h1⟩ | ⟨A,x,B,rfl,h1,h2,e⟩
 ·rw [e,Option.bind_some];have:fieldOf L p=none:=List.find?_eq_none.2 fun x hx=>by rw [h1 x hx];simp
  rw [this];rfl
 ·rw [e,Option.bind_some];have:fieldOf (A++x::B) p=some x:=by
   unfold fieldOf;rw [List.find?_append,List.find?_eq_none.2 (fun y hy=>by rw [h2 y hy];simp),List.find?_cons,h1];rfl
  rw [this,if_neg (by simp),zz (x:=x) (by simp),Option.bind_some]
theorem breach_is {L:List GField} (h:Paths L) (p:List zk) {x:GLeaf} (ht:1≤x.typ∧x.typ≤4):xu L p x=some (brB L p x):=by
 unfold xu brB;rw [field_is h,Option.bind_some];cases fieldOf L p with
 | none=>rfl
 | some f =>
  simp only [Bool.not_true,Bool.false_eq_true,if_false];rw [zo (by omega)];show (if kindOut f x=true then _ else _)=_;split
  ·rfl
  ·unfold fitsB wx vB vA;split
   ·simp only [Option.bind_some];cases (decide (x.n ≥ f.min)&&decide (x.n≤f.max)) <;> rfl
   ·split
    ·rfl
    ·split
     ·simp only [Option.bind_some];cases decide ((x.items.length:Int)≤f.items) <;> rfl
     ·split
      ·simp only [Option.bind_some];cases decide ((x.items.length:Int)≤f.items) <;> rfl
      ·omega
def badR (L:List GField) (r:GRow):Bool:=brB L r.path r.leaf != 0
theorem check_is {L:List GField} (h:Paths L) (hm:schB L=true) {t:List GNode} (hs:Small t) (ht:treeB 0 t=true) :
  xQ L t=some (((zn [] t).filter (badR L)).map fun r=>GBreach.mk r.path r.leaf.typ (brB L r.path r.leaf),0):=by
 unfold xQ;have hb:=hs.2;have hl:=rows_len (GNode.deps t) t [] (Nat.le_refl _);rw [qi h,wJ hs,pathsRows_is hs,hm,ht];simp only [Option.bind_some,Bool.not_true,beq_self_eq_true,if_true,Bool.or_self,Bool.false_eq_true,if_false];rw [qQ (badR L) (fun r=>GBreach.mk r.path r.leaf.typ (brB L r.path r.leaf)) (zn [] t) 0 [] (yG (by simp;omega))]
 ·simp only [xd,List.nil_append]
 ·intro i x s hx hsl;rw [breach_is h _ (leaf_typ (rows_ok t 0 [] hs ht rfl rfl x hx).leaf),Option.bind_some];unfold badR;cases hbr:(brB L x.path x.leaf != 0)
  ·simp
  ·simp only [if_true];rw [zo (by simpa using hsl)]
def edF (r:GRow):GEdit:=GEdit.mk r.path r.leaf.typ false true zLf r.leaf
theorem fit_is {L:List GField} (h:Paths L) (hm:schB L=true) {t:List GNode} (hf:Fine t) :
  ∃ u,schemaFit L t=some (u,0)∧treeB 0 u=true∧∀ r,r ∈ zn [] u ↔ r ∈ zn [] t∧badR L r=false:=by
 have hs:=hf.small;have ht:=hf.tree;have hl:=hf.len;have hok:=fun r hr=>rows_ok t 0 [] hs ht rfl rfl r hr;have hloop:zr (ρ:=List GNode×Int) (fun (n1:Nat) (x1:GRow) (s1:(List GEdit))=>(((xu L x1.path x1.leaf).bind fun v13=>(if (v13==(0:Int))=true then (yv ((s1).length+(([(GEdit.mk x1.path x1.leaf.typ false true zLf x1.leaf)]:List GEdit)).length≤yM) (some (.nxt (s1++([(GEdit.mk x1.path x1.leaf.typ false true zLf x1.leaf)]:List GEdit))))) else some (.nxt s1))):Option (Out _ (List GEdit)))) (zn [] t) 0 ([]:List GEdit)=some (.inr (((zn [] t).filter fun r=>!badR L r).map edF)):=by
  rw [qQ (fun r=>!badR L r) edF (zn [] t) 0 [] (yG (by simp;omega))]
  ·simp
  ·intro i x s hx hsl;rw [breach_is h _ (leaf_typ (hok x hx).leaf),Option.bind_some];unfold badR bne;cases hbr:(brB L x.path x.leaf==0)
   ·simp
   ·simp only [if_true,Bool.not_true,Bool.not_false];rw [zo (by simpa using hsl)];rfl
 have hes:∀ e ∈ ((zn [] t).filter fun r=>!badR L r).map edF,EOk e∧EFits [] e:=fun e he=>by
  obtain ⟨r,hr,rfl⟩:=List.mem_map.1 he;have hr:=(List.mem_filter.1 hr).1;have ho:=hok r hr;refine ⟨⟨ho.path,leaf_typ ho.leaf,.inr rfl,fun h=>(by cases h),fun h=>(by cases h),fun _=>rfl,fun _=>⟨ho.leaf,ho.ok,rfl⟩,fun h=>(by cases h)⟩,⟨fun h=>(by cases h),fun _ r hr=>by simp [zn] at hr⟩⟩
 have hpw:(((zn [] t).filter fun r=>!badR L r).map edF).Pairwise eLt:=by
  rw [List.pairwise_map];exact (wl ht []).filter _
 have hlen:(((zn [] t).filter fun r=>!badR L r).map edF).length≤863533:=by
  rw [List.length_map];exact Nat.le_trans (List.length_filter_le _ _) hl
 obtain ⟨u,e1,e2,e3⟩:=patch_is small_nil (tree_nil 0) (by have:(zn [] ([]:List GNode)).length=0:=rfl;omega) hes hpw;refine ⟨u,?_,e2,fun r=>?_⟩
 ·unfold schemaFit;rw [qi h,wJ hs,pathsRows_is hs,hm,ht];simp only [Option.bind_some,Bool.not_true,beq_self_eq_true,if_true,Bool.or_self,Bool.false_eq_true,if_false];rw [hloop,xd,e1,Option.bind_some]
 ·rw [e3];constructor
  ·rintro (h | ⟨e,he,_,rfl⟩)
   ·have:=h.1;simp [zn] at this
   ·obtain ⟨q,hq,rfl⟩:=List.mem_map.1 he;obtain ⟨h1,h2⟩:=List.mem_filter.1 hq;exact ⟨h1,by simpa [edF] using h2⟩
  ·rintro ⟨h1,h2⟩
   exact .inr ⟨edF r,List.mem_map.2 ⟨r,List.mem_filter.2 ⟨h1,by rw [h2];rfl⟩,rfl⟩,rfl,rfl⟩
end Go.Vv
namespace Go.Vv
open Go
theorem leaf_behind {u:List GNode} {p:List zk} {k:Int} {l:GLeaf} (hu:treeB 0 u=true) (hs:Small u) (hp:p ≠ []) (hk:1≤k∧k≤4) (hl:l.typ=k) (hr:GRow.mk p l ∈ zn [] u):xA u p k=some (l,true):=by
 rcases treeLeaf_is hu (fun r hr=>(rows_ok u 0 [] hs hu rfl rfl r hr).ok) hp hk with ⟨l',h1,h2,h3⟩ | ⟨h1,_⟩
 ·have e:=sorted_key (key:=xI) (wl hu []) h1 hr (by simp only [xI];rw [h2,hl]);injection e with _ e;subst e;exact h3
 ·exact absurd (by simp only [xI];rw [hl]) (h1 _ hr)
theorem allows_is {L:List GField} (h:Paths L) (hm:schB L=true) {t:List GNode} {e:GEvent} (hf:Fine t) (he:xZ e=true) (hw:GEvent.wf e) :
  ∃ u l b,xp L t e=some (brB L e.op.path (yE l e))∧qJ t e=some (u,0)∧Small u∧treeB 0 u=true∧xA t e.op.path (x6 e.op.kind)=some (l,b) ∧
   ∀ r,r ∈ zn [] u ↔ (r ∈ zn [] t∧xI r ≠ (e.op.path,x6 e.op.kind)) ∨ r=⟨e.op.path,yE l e⟩:=by
 obtain ⟨u,l,b,h1,h2,h3,h4,h5,h6,h7,h8,h9⟩:=apply_is hf he hw;have d:=evOk he;have hk:=type_range d.kind;have hT:(yE l e).typ=x6 e.op.kind:=by rw [applyP_typ,h6]
 have hb:=leaf_behind h4 h3 (wR d.path).1 hk hT ((h9 _).2 (.inr rfl));refine ⟨u,l,b,?_,h2,h3,h4,h5,h9⟩;unfold xp;rw [qi h,wJ hf.small,opMayEvent_is,hm,hf.tree,he];simp only [Option.bind_some,Bool.not_true,beq_self_eq_true,if_true,Bool.or_self,Bool.false_eq_true,if_false];rw [h1,Option.bind_some,opType_is,Option.bind_some,hb,Option.bind_some,breach_is h _ (by rw [hT];exact hk),Option.bind_some]
theorem ref43Great_tot (L:List GField):∃ b,ref43Great L=some b:=by
 unfold ref43Great
 refine lp_totL (fun i x s _=>?_) fun _=>⟨_,rfl⟩
 split
 ·exact ⟨_,rfl⟩
 ·exact lp_totL (fun j y s2 _=>by split <;> exact ⟨_,rfl⟩) fun _=>⟨_,rfl⟩
theorem great43_tot {L:List GField} {t:List GNode} (h:Small t) (o:GOp):∃ b,law43Xgreat L t o=some b:=by
 unfold law43Xgreat
 obtain ⟨a,ha⟩:=ref43Great_tot L;obtain ⟨b,hb⟩:=ref07Great_tot h;rw [ha,Option.bind_some,hb];cases a <;> exact ⟨_,rfl⟩
def tab (x:GLeaf):List GNode:=[⟨[97],[],[⟨[98],[x],[]⟩]⟩]
def fab:List GField:=[GField.mk ([([97]:zk),([42]:zk)]:List zk) (2:Int) (0:Int) (10:Int) (0:Int)]
def leaf9:GLeaf:=GLeaf.mk (1:Int) (9:Int) (0:Int) (GDot.mk (GActor.mk (0:Int) (0:Int)) (0:Int)) ([]:zk) ([]:List GItem) ([]:List GDot)
def evA:GEvent:=GEvent.mk (GDot.mk (GActor.mk (0:Int) (1:Int)) (1:Int)) (1:Int) (GOp.mk (1:Int) ([([97]:zk),([98]:zk)]:List zk) (2:Int) ([]:zk) ([]:List GDot))
theorem tab_rows (x:GLeaf):zn [] (tab x)=[⟨[[97],[98]],x⟩]:=by simp [tab,zn,qk]
theorem tab_tree {x:GLeaf} (h:leafB x=true):treeB 0 (tab x)=true:=by
 simp [treeB,tab,xE,nodeB,upB,leavesB,allI,h];decide
theorem tab_fine {x:GLeaf} (h:leafB x=true) (hw:GLeaf.wf x) (hb:x.bk≤1000):Fine (tab x):=by
 have b1:GNode.bks (tab x)≤2000:=by simp only [tab,GNode.bks,GNode.bk,List.map_cons,List.map_nil,List.sum_cons,List.sum_nil,List.length_cons,List.length_nil];omega
 refine fine_of ⟨?_,by omega⟩ (tab_tree h) (by omega);have m1:1≤maxLen:=by decide
 simp only [tab,GNode.wfs,GNode.wf];refine ⟨⟨m1,⟨Nat.zero_le _,fun y hy=>by cases hy⟩,⟨m1,⟨m1,fun y hy=>?_⟩,trivial⟩,trivial⟩,trivial⟩;rw [List.mem_singleton.1 hy];exact hw
theorem fab_paths:Paths fab:=fun f hf=>by
 rw [List.mem_singleton.1 hf];show 2≤maxLen;decide
theorem fab_may:schB fab=true:=by decide
theorem evA_may:xZ evA=true:=by decide
theorem ik {k:IntKind} {n:Int} (h:decide (k.min≤n∧n≤k.max)=true):InK k n:=by unfold InK;exact of_decide_eq_true h
theorem evA_wf:GEvent.wf evA:=by
 have m1:1≤maxLen:=by decide
 refine ⟨⟨⟨ik rfl,ik rfl⟩,ik rfl⟩,ik rfl,⟨ik rfl,⟨(by decide:2≤maxLen),fun y hy=>?_⟩,ik rfl,Nat.zero_le _,⟨Nat.zero_le _,fun y hy=>by cases hy⟩⟩⟩;simp [evA] at hy;rcases hy with rfl | rfl <;> exact m1
theorem leaf9_wf:GLeaf.wf leaf9:=⟨ik rfl,ik rfl,ik rfl,⟨⟨ik rfl,ik rfl⟩,ik rfl⟩,Nat.zero_le _,⟨Nat.zero_le _,fun y hy=>by cases hy⟩,⟨Nat.zero_le _,fun y hy=>by cases hy⟩⟩
theorem known43:wU=some true:=by
 have f3:=tab_fine (x:=wT 3) (newLf_may (by omega)) (newLf_wf (by omega)) (by simp [wT,GLeaf.bk,GDot.bk,GActor.bk]);have f9:=tab_fine (x:=leaf9) (by decide) leaf9_wf (by simp [leaf9,GLeaf.bk,GDot.bk,GActor.bk]);have hc:=check_is fab_paths fab_may f3.small f3.tree;obtain ⟨u,l,b,a1,_,_,_,a5,_⟩:=allows_is fab_paths fab_may (t:=tab leaf9) (e:=evA) f9 evA_may evA_wf;have hl:=leaf_behind (p:=[[97],[98]]) (k:=1) (l:=leaf9) f9.tree f9.small (by simp) (by omega) rfl (by rw [tab_rows];simp);have a5:xA (tab leaf9) [[97],[98]] 1=some (l,b):=a5;rw [hl] at a5;injection a5 with a5;injection a5 with a5 _;subst a5;have b14:brB fab evA.op.path (yE leaf9 evA)=14:=by decide
 rw [b14] at a1;rw [tab_rows] at hc;have b15:brB fab [[97],[98]] (wT 3)=15:=by decide
 have hc:xQ fab (tab (wT 3))=some ([GBreach.mk [[97],[98]] 3 15],0):=by
  rw [hc,List.filter_cons_of_pos (by unfold badR;rw [b15];rfl)];simp only [List.filter_nil,List.map_cons,List.map_nil,b15];rfl
 unfold wU vp;rw [Option.bind_some];show ((xQ fab (tab (wT 3))).bind _)=_;rw [hc,Option.bind_some,Option.bind_some];show ((xp fab (tab leaf9) evA).bind _)=_;rw [a1,Option.bind_some];rfl
theorem law43SchemaKeeps_is {L:List GField} {t:List GNode} {e:GEvent} (hp:Paths L) (hs:Small t) (hb:GNode.bks t≤1048576) (hw:GEvent.wf e):we L t e=some true:=by
 obtain ⟨g,hg⟩:=great43_tot (L:=L) hs e.op;unfold we;rw [hg,Option.bind_some,qi hp,ref07May_is hs];cases g with
 | true=>simp [known43]
 | false =>
  cases hm:schB L with
  | false=>simp [known43]
  | true =>
   cases ht:treeB 0 t with
   | false=>simp [known43]
   | true =>
    have hf:=fine_of hs ht hb;obtain ⟨u,u1,u2,u3⟩:=fit_is hp hm hf;have fu:=fine_sub hf u2 fun r hr=>((u3 r).1 hr).1;obtain ⟨u',v1,v2,v3⟩:=fit_is hp hm fu;have hnb:∀ r ∈ zn [] u,badR L r=false:=fun r hr=>((u3 r).1 hr).2;obtain rfl:u'=u:=rows_ext v2 u2 fun r=>by
     rw [v3];exact ⟨fun h=>h.1,fun h=>⟨h,hnb r h⟩⟩
    have hc:=check_is hp hm fu.small u2;have hnil:(zn [] u').filter (badR L)=[]:=List.filter_eq_nil_iff.2 fun r hr=>by rw [hnb r hr];simp
    rw [hnil] at hc;simp only [Option.bind_some,Bool.not_true,beq_self_eq_true,if_true,Bool.or_self,Bool.false_eq_true,if_false];rw [u1,Option.bind_some];simp only [];rw [hc,Option.bind_some,v1,Option.bind_some];simp only [List.map_nil,List.length_nil,Int.natCast_zero,bne_self_eq_false,Bool.or_self,beq_self_eq_true,if_true];rw [ref07Same_refl,Option.bind_some];simp only [Bool.not_true,Bool.false_eq_true,if_false];cases he:xZ e with
    | false =>
     have:xp L u' e=some 2:=by
      unfold xp;rw [qi hp,wJ fu.small,opMayEvent_is,hm,u2,he];rfl
     rw [this,Option.bind_some];simp [known43]
    | true =>
     obtain ⟨w,l,b,a1,a2,a3,a4,a5,a6⟩:=allows_is hp hm fu he hw;rw [a1,Option.bind_some];cases hbr:(brB L e.op.path (yE l e) != 0) with
     | true=>simp [known43]
     | false =>
      simp only [Bool.false_eq_true,if_false];rw [a2,Option.bind_some];simp only [];have hnil2:(zn [] w).filter (badR L)=[]:=List.filter_eq_nil_iff.2 fun r hr=>by
       rcases (a6 r).1 hr with h | h
       ·rw [hnb r h.1];simp
       ·rw [h];unfold badR;rw [hbr];simp
      rw [check_is hp hm a3 a4,hnil2,Option.bind_some];simp [known43]
theorem law43SchemaKeeps_top (l:List GField) (t:List GNode) (e:GEvent) (h1:l.length≤maxLen∧∀ y ∈ l,GField.wf y) (h2:t.length≤maxLen∧∀ y ∈ t,GNode.wf y) (h3:GEvent.wf e) (hb:((l.map GField.bk).sum+1)+((t.map GNode.bk).sum+1)+GEvent.bk e≤1048576):we l t e=some true:=by
 refine law43SchemaKeeps_is (fun f hf=>(h1.2 f hf).1.1) (small_of h2 (by omega)) ?_ h3;rw [GNode.bks_eq];omega
end Go.Vv
