/- The program's put, and the document's Lay, are layer 31's lay. -/
import Derived.Test.YtcociipjgndnaaaGreatPlX0
set_option linter.all false
namespace Go.Vv
open Go
variable {cmp:GC->Int->Option Int} {x:GA} {a b n m i q j:Int} {ls:List GC} {l:GC} {A B sb' sb t u:List GA} {there:Bool} {L:List GI} {e:GJ} {d:Nat} {r:List UInt8} {ρ β σ:Type} {E D:List GE}
section
theorem bsf_loop {x:List GC} {s:Int} {c:Nat} (G:x.length<=16777216) (y:∀i n,x[i]?=some n->∃v,cmp n s=some v/\(i < c->v < 0)/\(c<=i->0<=v)) :
  ∀(k lo hi:Nat),hi - lo<=k->lo<=c->c<=hi->hi<=x.length->ye (ρ:=Int×Bool) (λ(s1:Int×Int)=>((if (decide (s1.1 < s1.2))=true then ((yw x (IntKind.wrap .i64 ((Int.fdiv (IntKind.wrap .u64 ((IntKind.wrap .i64 (s1.1+s1.2)))) (2 ^ (min (1:Int).toNat (IntKind.bits .u64))))))).bind λz=>((cmp z s).bind λf=>(if (decide (f < (0:Int)))=true then some (.nxt ((IntKind.wrap .i64 ((IntKind.wrap .i64 ((Int.fdiv (IntKind.wrap .u64 ((IntKind.wrap .i64 (s1.1+s1.2)))) (2 ^ (min (1:Int).toNat (IntKind.bits .u64))))))+(1:Int))),s1.2)) else some (.nxt (s1.1,(IntKind.wrap .i64 ((Int.fdiv (IntKind.wrap .u64 ((IntKind.wrap .i64 (s1.1+s1.2)))) (2 ^ (min (1:Int).toNat (IntKind.bits .u64))))))))))) else some (.brk (s1.1,s1.2))):Option (Out _ (Int×Int)))) ((lo:Int),(hi:Int))=some (.inr ((c:Int),(c:Int))):=by
 intro k
 induction k with
 | zero =>
  intro lo hi w g o hh;obtain rfl:lo=hi:=by omega
  obtain rfl:lo=c:=by omega
  rw [xA];simp
 | succ k ih =>
  intro lo hi w g o hh;rw [xA];by_cases hlt:lo < hi
  ·have hd:decide ((lo:Int) < (hi:Int))=true:=uA (by omega);simp only [hd,up,half_mid hlt (by omega)];have h:(lo+hi) / 2 < x.length:=by omega
   rw [wP h,ua];obtain ⟨v,C,p,F⟩:=y ((lo+hi) / 2) _ (ui h);rw [C,ua];by_cases hcm:(lo+hi) / 2 < c
   ·rw [uA (p hcm),ur rfl];simp only;have e:IntKind.wrap .i64 ((((lo+hi) / 2:Nat):Int)+1)=(((lo+hi) / 2+1:Nat):Int):=by rw [yY (by omega)];omega
    rw [e];exact ih _ _ (by omega) (by omega) o hh
   ·rw [uU (by omega)];simp only [uh,uz];exact ih _ _ (by omega) g (by omega) (by omega)
  ·grind
theorem bsf_is {x:List GC} {s:Int} {c:Nat} (o:x.length<=16777216) (g:c<=x.length) (f:∀i n,x[i]?=some n->∃v,cmp n s=some v/\(i < c->v < 0)/\(c<=i->0<=v)) :
  zK x s cmp=(if c < x.length then cmp (x.getD c default) s else some 1).bind λv=>some ((c:Int),(decide (c < x.length)&&(v==0))):=by
 unfold zK;have:=bsf_loop o f x.length 0 x.length (by omega) (tu _) g (ug _);simp only [rP] at this;rw [show ((0:Int),(x.length:Int))=(((0:Nat):Int),(x.length:Int)) from rfl] at *;rw [this];simp only [lp];by_cases h:c < x.length
 ·have hd:decide ((c:Int) < (x.length:Int))=true:=uA (by omega);simp only [hd,h,up,uw,uX,sG,uS];rw [zk (by omega)]
 ·have hd:decide ((c:Int) < (x.length:Int))=false:=uU (by omega);simp only [hd,h,uz,sF,rd,ua];rfl

theorem putC_is (x:GC) (k:Int):vf x k=some (cmpI x.typ k):=by unfold vf;rw [cmpU8is];rfl
theorem cmpI_neg:cmpI a b < 0 ↔ a < b:=by unfold cmpI;split <;> (try split) <;> omega
theorem cmpI_zero:cmpI a b=0 ↔ a=b:=by unfold cmpI;split <;> (try split) <;> omega
theorem split_typ (k:Int) (h:ls.Pairwise λx y=>x.typ < y.typ):(∃A B,ls=A++B/\(∀y ∈ A,y.typ < k)/\∀y ∈ B,k < y.typ) \/ ∃A x B,ls=A++x::B/\x.typ=k/\(∀y ∈ A,y.typ < k)/\∀y ∈ B,k < y.typ:=by
 induction ls with
 | nil=>exact .inl ⟨[],[],rfl,λ_ h=>by simp at h,λ_ h=>by simp at h⟩
 | cons x t ih =>
  obtain ⟨o,g⟩:=uC.1 h;rcases Int.lt_trichotomy x.typ k with e | e | e
  ·grind
  ·exact .inr ⟨[],x,t,rfl,e,λ_ h=>by simp at h,λy f=>by simp_all⟩
  ·refine .inl ⟨[],x::t,rfl,λ_ h=>by simp at h,λy f=>?_⟩
   grind
theorem layLs_none {A B:List GC} (g:∀y ∈ A,y.typ < l.typ) (h:∀y ∈ B,l.typ < y.typ):qP l.typ l true (A++B)=A++l::B:=by
 unfold qP;rw [ur rfl,th,th];rw [tx.2 (λy f=>uA (g y f)),tp.2 (λy f=>by grind),
  tp.2 (λy f=>by grind),tx.2 (λy f=>uA (h y f))]
 simp
theorem layLs_some {x:GC} {A B:List GC} (o:x.typ=l.typ) (g:∀y ∈ A,y.typ < l.typ) (h:∀y ∈ B,l.typ < y.typ):qP l.typ l true (A++x::B)=A++l::B:=by
 unfold qP;rw [ur rfl,th,th,tS,tS];rw [uu (by simp;omega),uu (by simp;omega)];rw [tx.2 (λy f=>uA (g y f)),tp.2 (λy f=>by grind),
  tp.2 (λy f=>by grind),tx.2 (λy f=>uA (h y f))]
 simp
theorem bsf_none {A B:List GC} {k:Int} (w:(A++B).length<=16777216) (p:∀y ∈ A,y.typ < k) (g:∀y ∈ B,k < y.typ):zK (A++B) k (λo v=>vf o v)=some ((A.length:Int),false):=by
 rw [bsf_is (c:=A.length) w (by simp) λi m hi=>⟨_,putC_is m k,λf=>by
   rw [um f] at hi;exact cmpI_neg.2 (p m (uQ hi)),λf=>by
   rw [uk f] at hi;have:=g m (uQ hi);have z:¬ cmpI m.typ k < 0:=λh=>by rw [cmpI_neg] at h;omega
   omega⟩]
 cases B with
 | nil=>simp
 | cons y B =>
  have e:(A++y::B).getD A.length default=y:=by simp
  have:=g y (by simp);rw [ur (by simp),e,putC_is];have s:(cmpI y.typ k==0)=false:=by
   rw [beq_eq_false_iff_ne,Ne,cmpI_zero];omega
  simp [s]
theorem bsf_some {A B:List GC} {x:GC} {k:Int} (s:(A++x::B).length<=16777216) (hs:x.typ=k) (o:∀y ∈ A,y.typ < k) (z:∀y ∈ B,k < y.typ):zK (A++x::B) k (λg p=>vf g p)=some ((A.length:Int),true):=by
 rw [bsf_is (c:=A.length) s (by simp) λi m hi=>⟨_,putC_is m k,λf=>by
   rw [um f] at hi;exact cmpI_neg.2 (o m (uQ hi)),λf=>by
   rw [uk f] at hi;have w:¬ m.typ < k:=by
    grind
   have v:¬ cmpI m.typ k < 0:=λh=>by rw [cmpI_neg] at h;omega
   omega⟩]
 have e:(A++x::B).getD A.length default=x:=by simp
 rw [ur (by simp),e,putC_is,cmpI_zero.2 hs];simp
theorem insO_at {α:Type} {A B:List α} (x:α) (h:(A++B).length<=16777216):insO (A++B) (A.length:Int) [x]=some (A++x::B):=by
 unfold insO;rw [ur ⟨⟨by omega,by simp;omega⟩,by simp,xd (by simp_all)⟩];simp
noncomputable def putX (n:Nat) (p:List zx) (l2:GC) (y7:GA) (v6:List GA) (i:Int):Option (List GA) :=
 (if (decide (((p).length:Int) > (1:Int)))=true then ((slc p (1:Int) ((p).length:Int)).bind λm10=>((wo n y7.subs m10 l2).bind λv11=>((yw v6 i).bind λy12=>some (v6.set i.toNat (GA.mk y7.name y7.leaves v11))))) else ((xJ y7.leaves).bind λv13=>((zK v13 l2.typ (λx0 x1=>vf x0 x1)).bind λv14=>(if (!v14.2)=true then ((insO v13 v14.1 ([l2]:List GC)).bind λv16=>((yw v16 v14.1).bind λy17=>((yw v6 i).bind λy18=>some (v6.set i.toNat (GA.mk y7.name (v16.set v14.1.toNat l2) y7.subs))))) else ((yw v13 v14.1).bind λy19=>((yw v6 i).bind λy20=>some (v6.set i.toNat (GA.mk y7.name (v13.set v14.1.toNat l2) y7.subs))))))))
theorem putN_eq (n:Nat) (t0:List GA) (f:List zx) (o:GC):wo (n+1) t0 f o=((xi t0).bind λg=>((yw f (0:Int)).bind λv=>((treeXfind g v).bind λv3=>(if (!v3.2)=true then ((yw f (0:Int)).bind λw=>((insO g v3.1 ([(GA.mk w ([]:List GC) ([]:List GA))]:List GA)).bind λp=>((yw p v3.1).bind λs=>putX n f o s p v3.1))) else ((yw g v3.1).bind λh=>putX n f o h g v3.1))))):=rfl
theorem putX_leaf {n:Nat} {s:zx} (v:x.leaves.length<=16777215) (h:x.leaves.Pairwise λx y=>x.typ < y.typ):putX n [s] l x (A++x::B) (A.length:Int)=some (A++⟨x.name,qP l.typ l true x.leaves,x.subs⟩::B):=by
 unfold putX;have p:decide (((([s]:List zx).length:Int)) > 1)=false:=rfl;have g:yw (A++x::B) (A.length:Int)=some x:=zB (by simp);simp only [p,uh,uz];rw [cloneLeaf_is (xd (by omega)),ua];rcases split_typ l.typ h with ⟨C,D,e,f,hd⟩ | ⟨C,z,D,e,o,f,hd⟩
 ·rw [e,bsf_none (by grind) f hd,ua];simp only [sx,up];rw [insO_at _ (by grind),ua,zB (x:=l) (by simp),ua,g,ua,layLs_none f hd];simp
 ·rw [e,bsf_some (by grind) o f hd,ua];simp only [tg,uh,uz];rw [zB (x:=z) (by simp),ua,g,ua,layLs_some o f hd];simp
theorem putX_sub {n:Nat} {s a:zx} {r:List zx} (o:(s::a::r).length<=16777216) (h:wo n x.subs (a::r) l=some sb'):putX n (s::a::r) l x (A++x::B) (A.length:Int)=some (A++⟨x.name,x.leaves,sb'⟩::B):=by
 unfold putX;have f:decide ((((s::a::r).length:Int)) > 1)=true:=uA (by grind);have g:yw (A++x::B) (A.length:Int)=some x:=zB (by simp);simp only [f,up];rw [vI ⟨by omega,by grind,uF _⟩,ua];have p:((s::a::r).take (((s::a::r).length:Int)).toNat).drop (1:Int).toNat=a::r:=by rw [uw,sW];rfl
 simp_all
theorem find_eq (t:List GA) (s:zx):treeXfind t s=(zp t s (λg h=>xQ g h)).bind λf=>some (f.1,f.2):=rfl
end
section
theorem layLs_len {k:Int}:(qP k l there ls).length<=ls.length+1:=by
 unfold qP;split
 ·have f:=rE (λx:GC=>decide (x.typ < k)) ls;have g:=f.length_eq;have h:(ls.filter λx=>decide (k < x.typ)).length<=(ls.filter λx=>!decide (x.typ < k)).length:=by
   have:(ls.filter λx=>decide (k < x.typ))=(ls.filter λx=>!decide (x.typ < k)).filter (λx=>decide (k < x.typ)):=by
    rw [rz];refine rJ λx _=>?_;rw [tw];simp;omega
   grind
  grind
 ·grind
theorem lay_leaf {n:Nat} {s:zx} {m:List GA} {f:Bool} (z:LeafOk l) (C:m.length=if f=true then 1 else 0) (o:zp (A++m++B) s (λw F=>xQ w F)=some ((A.length:Int),f))
  (p:((if f=true then ((yw (A++m++B) (A.length:Int)).bind λh=>some (.inr (h.name,h.leaves,h.subs))) else some (.inr (s,([]:List GC),([]:List GA)))):Option (List GA ⊕ (zx×(List GC)×(List GA))))=some (.inr (s,ls,sb)))
  (H:(A++m++B).length<=16777216) (I:ls.length<=16777215) (G:sb.length<=16777217) (v:ls.Pairwise λx y=>x.typ < y.typ) :
  x9 (n+1) (A++m++B) [s] l.typ l true=some (A++fitN s (qP l.typ l true ls) sb++B):=by
 have g:yw [s] (0:Int)=some s:=rfl;have:=layLs_len (k:=l.typ) (l:=l) (there:=true) (ls:=ls);rw [layN_eq,g,ua,o,ua,ua];simp only [];rw [p,yJ,layIn_leaf (λ_=>⟨rfl,z⟩) (by omega) v,yJ,layRest_is C (by omega) (by omega) (by omega)]
theorem lay_sub {n:Nat} {s a:zx} {r:List zx} {k:Int} {m:List GA} {f:Bool} (z:m.length=if f=true then 1 else 0) (p:zp (A++m++B) s (λw C=>xQ w C)=some ((A.length:Int),f))
  (v:((if f=true then ((yw (A++m++B) (A.length:Int)).bind λo=>some (.inr (o.name,o.leaves,o.subs))) else some (.inr (s,([]:List GC),([]:List GA)))):Option (List GA ⊕ (zx×(List GC)×(List GA))))=some (.inr (s,ls,sb)))
  (G:(A++m++B).length<=16777216) (H:ls.length<=16777215) (F:sb'.length<=16777217) (y:(s::a::r).length<=16777216) (h:x9 n sb (a::r) k l there=some sb') :
  x9 (n+1) (A++m++B) (s::a::r) k l there=some (A++fitN s ls sb'++B):=by
 have g:yw (s::a::r) (0:Int)=some s:=rfl;rw [layN_eq,g,ua,p,ua,ua];simp only [];rw [v,yJ,layIn_sub y h,yJ,layRest_is z (by omega) (by omega) (by omega)]
theorem fit_one {f:zx} (h:ls ≠ [] \/ sb ≠ []):fitN f ls sb=[⟨f,ls,sb⟩]:=by
 unfold fitN;rw [uu];rcases h with h | h
 ·simp_all
 ·simp_all
theorem layLs_ne:qP l.typ l true ls ≠ []:=List.ne_nil_of_mem (layLs_mem.2 (.inr ⟨rfl,rfl⟩))
theorem put_lay {l:GC} (X:leafB l=true) (M:LeafOk l):∀(p:List zx) (t:List GA) (d n:Nat),p ≠ []->p.all nameB=true->d+p.length<=3->treeB d t=true->(zu [] t).length<=16777214->p.length < n ->
  wo n t p l=x9 n t p l.typ l true
 | [],_,_,_,h,_,_,_,_,_=>absurd rfl h
 | _::_,_,_,0,_,_,_,_,_,h=>by omega
 | s::q,t,d,n+1,_,hp,hd,ht,hw,hn=>by
  simp only [u7,ud,un] at hp hd hn;obtain ⟨h1,W⟩:=zN ht;have I:t.length<=16777214:=uB (vt _ d (by rw [xu];exact ut.2 W)) hw;have C:yw (s::q) (0:Int)=some s:=rfl
  -- what is below
  have below:∀(sb:List GA) (c:zx) (o:List zx),q=c::o->treeB (d+1) sb=true->(zu [] sb).length<=16777214->∃sb',wo n sb q l=some sb'/\x9 n sb q l.typ l true=some sb'/\sb' ≠ []/\sb'.length<=16777215:=by
   intro sb c o w y R;subst w;obtain ⟨sb',Z,e2,e3,e4⟩:=lay_is (k:=l.typ) (l:=l) (there:=true) (λ_=>⟨rfl,X,M⟩) (c::o) sb (d+1) n (by simp) hp.2 (by omega) y (by omega) (by omega);have S:=vt sb (d+1) (by rw [xu];exact ut.2 (zN y).2);refine ⟨sb',?_,Z,?_,by omega⟩
   ·rw [<- Z];exact put_lay X M (c::o) sb (d+1) n (by simp) hp.2 (by omega) y R (by omega)
   ·intro e;have:=(e4 [] ⟨[]++(c::o),l⟩).2 (.inr ⟨rfl,rfl⟩);rw [e] at this;simp [zu] at this
  rcases split_up s h1 with ⟨A,B,e,U,z⟩ | ⟨A,x,B,e,N,U,z⟩
  ·have T:(A++B).length<=16777214:=by rw [<- e];exact I
   have v:=bs_none (by omega) U z;have g:zp (A++[]++B) s (λO V=>xQ O V)=some ((A.length:Int),false):=by simp_all
   have F:A++B=A++[]++B:=by simp
   have L:wo (n+1) t (s::q) l=putX n (s::q) l ⟨s,[],[]⟩ (A++⟨s,[],[]⟩::B) (A.length:Int):=by
    rw [putN_eq,cloneNode_is (xd (by omega)),ua,C,ua,find_eq,e,v,ua,ua];simp only [sx,up,ua];rw [insO_at _ (by omega),ua,zB (x:=⟨s,[],[]⟩) (by simp),ua]
   rw [L];cases w:q with
   | nil =>
    rw [putX_leaf (x:=⟨s,[],[]⟩) (by simp) (by simp),e,F,lay_leaf (ls:=[]) (sb:=[]) M (by simp) g rfl (by grind) (by simp) (by simp) (by simp),fit_one (.inl layLs_ne)];simp
   | cons c o =>
    obtain ⟨sb',G,J,Q,b4⟩:=below [] c o w (tree_nil _) (by simp [zu]);rw [w] at G J;rw [putX_sub (x:=⟨s,[],[]⟩) (by grind) G,e,F,lay_sub (ls:=[]) (sb:=[]) (f:=false) (by simp) g rfl (by grind) (by simp) (by omega) (by grind) J,fit_one (.inr Q)];simp
  ·have T:(A++x::B).length<=16777214:=by rw [<- e];exact I
   have v:=bs_some (by omega) N U z;have g:zp (A++[x]++B) s (λO V=>xQ O V)=some ((A.length:Int),true):=by simp_all
   have F:A++x::B=A++[x]++B:=by simp
   have K:x ∈ t:=by rw [e];simp
   obtain ⟨n1,n2,Y⟩:=wI (W x K);have hml:=mem_rows_len K;have S:=vt x.subs (d+1) (by rw [xu];exact ut.2 (zN n2).2);have H:((if true=true then ((yw (A++[x]++B) (A.length:Int)).bind λP=>some (.inr (P.name,P.leaves,P.subs))) else some (.inr (s,([]:List GC),([]:List GA)))):Option (List GA ⊕ (zx×(List GC)×(List GA))))=some (.inr (s,x.leaves,x.subs)):=by
    rw [ur rfl,zB (x:=x) (by simp),ua,N]
   have L:wo (n+1) t (s::q) l=putX n (s::q) l x (A++x::B) (A.length:Int):=by
    rw [putN_eq,cloneNode_is (xd (by omega)),ua,C,ua,find_eq,e,v,ua,ua];simp only [tg,uh,uz];rw [zB (x:=x) (by simp),ua]
   rw [L];cases w:q with
   | nil =>
    rw [putX_leaf (x:=x) (by omega) (leaves_up Y).1,e,F,lay_leaf (ls:=x.leaves) (sb:=x.subs) M (by simp) g H (by grind) (by omega) (by omega) (leaves_up Y).1,fit_one (.inl layLs_ne),N];simp
   | cons c o =>
    obtain ⟨sb',G,J,Q,b4⟩:=below x.subs c o w n2 (by omega);rw [w] at G J;rw [putX_sub (x:=x) (by grind) G,e,F,lay_sub (ls:=x.leaves) (sb:=x.subs) (f:=true) (by simp) g H (by grind) (by omega) (by omega) (by grind) J,fit_one (.inr Q),N];simp
end
section
noncomputable def l7A (t0:List GA) (path1:List zx):(List GA)×Int->Option (Out (List GA) ((List GA)×Int)):=(λ(s1:(List GA)×Int)=>((yg (((decide (s1.2 < ((t0).length:Int)))==true)=true->0<=s1.2/\s1.2 < ((t0).length:Int)) ((yg (((decide (s1.2 < ((t0).length:Int)))==true)=true->0<=(0:Int)/\(0:Int) < ((path1).length:Int)) ((if ((decide (s1.2 < ((t0).length:Int)))&&(Op.bytesLess (((t0).getD s1.2.toNat default).name) ((path1).getD (0:Int).toNat default)))=true then ((yw t0 s1.2).bind λy22=>(yg ((s1.1).length+(([y22]:List GA)).length<=yM) (some (.nxt ((s1.1++([y22]:List GA)),(IntKind.wrap .i64 (s1.2+(1:Int)))))))) else some (.brk (s1.1,s1.2))))))):Option (Out _ ((List GA)×Int))))
noncomputable def l7B (ls:List GC) (l2:GC):(List GC)×Int->Option (Out (List GA) ((List GC)×Int)):=(λ(sd62:(List GC)×Int)=>((yg (((decide (sd62.2 < ((ls).length:Int)))==true)=true->0<=sd62.2/\sd62.2 < ((ls).length:Int)) ((if ((decide (sd62.2 < ((ls).length:Int)))&&(decide (((ls).getD sd62.2.toNat default).typ < l2.typ)))=true then ((yw ls sd62.2).bind λy66=>(yg ((sd62.1).length+(([y66]:List GC)).length<=yM) (some (.nxt ((sd62.1++([y66]:List GC)),(IntKind.wrap .i64 (sd62.2+(1:Int)))))))) else some (.brk (sd62.1,sd62.2))))):Option (Out _ ((List GC)×Int))))
theorem l7A_is {s:zx} {q:List zx} (w:t.length<=16777216) (a b:List GA) (e:t=a++b) (v:∀y ∈ a,Op.bytesLess y.name s=true) (z:∀y r,b=y::r->Op.bytesLess y.name s=false) :
  ∀(k i:Nat),a.length - i<=k->i<=a.length->ye (l7A t (s::q)) (a.take i,(i:Int))=some (.inr (a,(a.length:Int))):=by
 have C:t.length=a.length+b.length:=by rw [e];simp
 intro k
 induction k with
 | zero =>
  intro i f hi;obtain rfl:i=a.length:=by omega
  rw [xA];have:l7A t (s::q) (a.take a.length,(a.length:Int))=some (.brk (a,(a.length:Int))):=by
   unfold l7A;simp only [sW];rw [zk (by simp_all),zk (by intro h;simp)];cases hbb:b with
   | nil =>
    simp_all
   | cons y r =>
    simp_all
  rw [this]
 | succ k ih =>
  intro i f hi;rcases tZ i a.length with h | h
  ·rw [xA];have o:t[i]?=some a[i]:=by grind
   have hd:t.getD i default=a[i]:=by simp_all
   have:l7A t (s::q) (a.take i,(i:Int))=some (.nxt (a.take (i+1),((i+1:Nat):Int))):=by
    unfold l7A;simp only;rw [zk (by omega),zk (by intro h;simp)];have g:(s::q).getD (0:Int).toNat default=s:=rfl;have p:IntKind.wrap .i64 ((i:Int)+1)=((i+1:Nat):Int):=by rw [yY (by omega)];omega
    rw [uw,hd,g,v _ (sn h),uA (by omega),uW,ur rfl,zB o,ua,zk (xd (by simp;omega)),p]
    simp_all
   grind
  ·grind

theorem l7B_at (v:ls.length<=16777216) (a b:List GC) (e:ls=a++b) (o:∀y ∈ a,y.typ < l.typ) (w:∀y r,b=y::r->¬ y.typ < l.typ) :
  ∀(k i:Nat),a.length - i<=k->i<=a.length->ye (l7B ls l) (a.take i,(i:Int))=some (.inr (a,(a.length:Int))):=by
 have s:ls.length=a.length+b.length:=by rw [e];simp
 intro k
 induction k with
 | zero =>
  intro i f hi;obtain rfl:i=a.length:=by omega
  rw [xA];have:l7B ls l (a.take a.length,(a.length:Int))=some (.brk (a,(a.length:Int))):=by
   unfold l7B;simp only [sW];rw [zk (by simp_all)];cases hbb:b with
   | nil =>
    simp_all
   | cons y r =>
    grind
  rw [this]
 | succ k ih =>
  intro i f hi;rcases tZ i a.length with h | h
  ·rw [xA];have p:ls[i]?=some a[i]:=by grind
   have hd:ls.getD i default=a[i]:=by simp_all
   have:l7B ls l (a.take i,(i:Int))=some (.nxt (a.take (i+1),((i+1:Nat):Int))):=by
    unfold l7B;simp only;have g:IntKind.wrap .i64 ((i:Int)+1)=((i+1:Nat):Int):=by rw [yY (by omega)];omega
    rw [zk (by omega),uw,hd,uA (o _ (sn h)),uA (by omega),uW,ur rfl,zB p,ua,zk (xd (by simp;omega)),g]
    simp_all
   grind
  ·grind
end
section
noncomputable def l7R (n:Nat) (t0:List GA) (path1:List zx) (l2:GC) (A:List GA) (sd30:Int×zx×(List GC)×(List GA)):Option (List GA):=(if (decide (((path1).length:Int) > (1:Int)))=true then ((slc path1 (1:Int) ((path1).length:Int)).bind λm38=>((wB n sd30.2.2.2 m38 l2).bind λv39=>(yg ((A).length+(([(GA.mk sd30.2.1 sd30.2.2.1 v39)]:List GA)).length<=yM) (((slc t0 sd30.1 ((t0).length:Int)).bind λm41=>(yg (((A++([(GA.mk sd30.2.1 sd30.2.2.1 v39)]:List GA))).length+(m41).length<=yM) (some ((A++([(GA.mk sd30.2.1 sd30.2.2.1 v39)]:List GA))++m41)))))))) else (lp (ye (l7B sd30.2.2.1 l2) (([]:List GC),(0:Int))) λ(sd62:(List GC)×Int)=>(yg (((decide (sd62.2 < ((sd30.2.2.1).length:Int)))==true)=true->0<=sd62.2/\sd62.2 < ((sd30.2.2.1).length:Int)) ((if ((decide (sd62.2 < ((sd30.2.2.1).length:Int)))&&(((sd30.2.2.1).getD sd62.2.toNat default).typ==l2.typ))=true then (yg ((sd62.1).length+(([l2]:List GC)).length<=yM) (((slc sd30.2.2.1 (IntKind.wrap .i64 (sd62.2+(1:Int))) ((sd30.2.2.1).length:Int)).bind λm72=>(yg (((sd62.1++([l2]:List GC))).length+(m72).length<=yM) ((yg ((A).length+(([(GA.mk sd30.2.1 ((sd62.1++([l2]:List GC))++m72) sd30.2.2.2)]:List GA)).length<=yM) (((slc t0 sd30.1 ((t0).length:Int)).bind λm75=>(yg (((A++([(GA.mk sd30.2.1 ((sd62.1++([l2]:List GC))++m72) sd30.2.2.2)]:List GA))).length+(m75).length<=yM) (some ((A++([(GA.mk sd30.2.1 ((sd62.1++([l2]:List GC))++m72) sd30.2.2.2)]:List GA))++m75))))))))))) else (yg ((sd62.1).length+(([l2]:List GC)).length<=yM) (((slc sd30.2.2.1 sd62.2 ((sd30.2.2.1).length:Int)).bind λm78=>(yg (((sd62.1++([l2]:List GC))).length+(m78).length<=yM) ((yg ((A).length+(([(GA.mk sd30.2.1 ((sd62.1++([l2]:List GC))++m78) sd30.2.2.2)]:List GA)).length<=yM) (((slc t0 sd30.1 ((t0).length:Int)).bind λm81=>(yg (((A++([(GA.mk sd30.2.1 ((sd62.1++([l2]:List GC))++m78) sd30.2.2.2)]:List GA))).length+(m81).length<=yM) (some ((A++([(GA.mk sd30.2.1 ((sd62.1++([l2]:List GC))++m78) sd30.2.2.2)]:List GA))++m81))))))))))))))))
theorem lay7_eq2 (n:Nat) (t0:List GA) (f:List zx) (p:GC):wB (n+1) t0 f p=(lp (ye (l7A t0 f) (([]:List GA),(0:Int))) λ(s1:(List GA)×Int)=>((yw f (0:Int)).bind λo=>(lp ((yg (((decide (s1.2 < ((t0).length:Int)))==true)=true->0<=s1.2/\s1.2 < ((t0).length:Int)) ((yg (((decide (s1.2 < ((t0).length:Int)))==true)=true->0<=(0:Int)/\(0:Int) < ((f).length:Int)) ((if ((decide (s1.2 < ((t0).length:Int)))&&(((t0).getD s1.2.toNat default).name==((f).getD (0:Int).toNat default)))=true then ((yw t0 s1.2).bind λg=>some (.inr ((IntKind.wrap .i64 (s1.2+(1:Int))),g.name,g.leaves,g.subs))) else some (.inr (s1.2,o,([]:List GC),([]:List GA)))))))):Option (_ ⊕ (Int×zx×(List GC)×(List GA)))) λh=>l7R n t0 f p s1.1 h))):=rfl

theorem qk {α:Type} (L:List α) (i:Nat):((L.take ((L.length:Int)).toNat).drop ((i:Int)).toNat)=L.drop i:=by simp
theorem l7R_sub {n:Nat} {s a:zx} {r:List zx} {i:Nat} {f:zx} (hi:i<=t.length) (w:t.length<=16777215) (y:A.length<=8388608) (p:t.length<=8388607) (v:(s::a::r).length<=16777216) (h:wB n sb (a::r) l=some u) :
  l7R n t (s::a::r) l A ((i:Int),f,ls,sb)=some (A++[⟨f,ls,u⟩]++t.drop i):=by
 unfold l7R;have g:decide ((((s::a::r).length:Int)) > 1)=true:=uA (by grind);simp only [g,up];rw [vI ⟨by omega,by grind,uF _⟩,ua];have o:((s::a::r).take (((s::a::r).length:Int)).toNat).drop (1:Int).toNat=a::r:=by rw [uw,sW];rfl
 rw [o,h,ua,zk (xd (by simp;omega)),vI ⟨by omega,by omega,uF _⟩,ua,qk,zk (xd (by simp;omega))]
theorem l7R_leaf {n:Nat} {s:zx} {i:Nat} {w:zx} (hi:i<=t.length) (K:A.length<=8388608) (H:t.length<=8388607) (o:ls.length<=8388607) (p:ls.Pairwise λx y=>x.typ < y.typ) :
  l7R n t [s] l A ((i:Int),w,ls,sb)=some (A++[⟨w,qP l.typ l true ls,sb⟩]++t.drop i):=by
 unfold l7R;have F:decide (((([s]:List zx).length:Int)) > 1)=false:=rfl;simp only [F,uh,uz];rcases split_typ l.typ p with ⟨C,D,e,g,hd⟩ | ⟨C,z,D,e,G,g,hd⟩
 ·have v:=l7B_at (ls:=ls) (l:=l) (by omega) C D e g (λy r h=>by grind) C.length 0 (by omega) (by omega);rw [show (([]:List GC),(0:Int))=(C.take 0,((0:Nat):Int)) from rfl,v,yJ,e,layLs_none g hd];rw [e] at o;simp only [uo] at o;simp only [];rw [zk (by simp_all)];have f:((decide (((C.length:Nat):Int) < ((C++D).length:Int)))&&(((C++D).getD ((C.length:Nat):Int).toNat default).typ==l.typ))=false:=by
   grind
  rw [f];simp only [uh,uz];rw [zk (xd (by simp;omega)),vI ⟨by omega,by grind,uF _⟩,ua,qk,sS,zk (xd (by simp;omega)),zk (xd (by simp;omega)),vI ⟨by omega,by omega,uF _⟩,ua,qk,zk (xd (by simp;omega))];simp
 ·have v:=l7B_at (ls:=ls) (l:=l) (by omega) C (z::D) e g (λy r h=>by simp_all) C.length 0 (by omega) (by omega);rw [show (([]:List GC),(0:Int))=(C.take 0,((0:Nat):Int)) from rfl,v,yJ,e,layLs_some G g hd];rw [e] at o;simp only [uo,un] at o;simp only [];rw [zk (by simp_all)];have f:((decide (((C.length:Nat):Int) < ((C++z::D).length:Int)))&&(((C++z::D).getD ((C.length:Nat):Int).toNat default).typ==l.typ))=true:=by
   grind
  rw [f];simp only [up];have I:IntKind.wrap .i64 ((C.length:Int)+1)=((C.length+1:Nat):Int):=by rw [yY (by omega)];omega
  have J:(C++z::D).drop (C.length+1)=D:=by
   simp_all
  rw [zk (xd (by simp;omega)),I,vI ⟨by omega,by grind,uF _⟩,ua,qk,J,zk (xd (by simp;omega)),zk (xd (by simp;omega)),vI ⟨by omega,by omega,uF _⟩,ua,qk,zk (xd (by simp;omega))];simp
theorem lay7_none {n:Nat} {s:zx} {q:List zx} (h:(A++B).length<=16777215) (o:NLt s A) (g:NGt s B):wB (n+1) (A++B) (s::q) l=l7R n (A++B) (s::q) l A ((A.length:Int),s,[],[]):=by
 have p:=l7A_is (t:=A++B) (s:=s) (q:=q) (by omega) A B rfl o (λy r hh=>by
  have:=g y (by rw [hh];simp);rcases hx:Op.bytesLess y.name s with _ | _
  ·rfl
  ·have:=less_trans this hx;rw [less_irr] at this;cases this) A.length 0 (by omega) (by omega)
 rw [lay7_eq2,show (([]:List GA),(0:Int))=(A.take 0,((0:Nat):Int)) from rfl,p,yJ];have i0:yw (s::q) (0:Int)=some s:=rfl;simp only [i0,ua];rw [zk (by simp_all),zk (by intro h;simp)];have f:((decide (((A.length:Nat):Int) < ((A++B).length:Int)))&&(((A++B).getD ((A.length:Nat):Int).toNat default).name==((s::q).getD (0:Int).toNat default)))=false:=by
  cases B with
  | nil=>simp
  | cons y B =>
   have:=less_ne (g y (by simp))
   grind
 rw [f];rfl
theorem lay7_some {n:Nat} {s:zx} {q:List zx} (g:x.name=s) (h:(A++x::B).length<=16777215) (o:NLt s A) (z:NGt s B):wB (n+1) (A++x::B) (s::q) l=l7R n (A++x::B) (s::q) l A (((A.length+1:Nat):Int),s,x.leaves,x.subs):=by
 have w:=l7A_is (t:=A++x::B) (s:=s) (q:=q) (by omega) A (x::B) rfl o (λy r hh=>by
  injection hh with v _;rw [<- v,g,less_irr]) A.length 0 (by omega) (by omega)
 rw [lay7_eq2,show (([]:List GA),(0:Int))=(A.take 0,((0:Nat):Int)) from rfl,w,yJ];have i0:yw (s::q) (0:Int)=some s:=rfl;simp only [i0,ua];rw [zk (by simp_all),zk (by intro h;simp)];have f:((decide (((A.length:Nat):Int) < ((A++x::B).length:Int)))&&(((A++x::B).getD ((A.length:Nat):Int).toNat default).name==((s::q).getD (0:Int).toNat default)))=true:=by
  grind
 rw [f];simp only [uo,un] at h;have p:IntKind.wrap .i64 ((A.length:Int)+1)=((A.length+1:Nat):Int):=by rw [yY (by omega)];omega
 simp only [up];rw [zB (x:=x) (by simp),ua,yJ,p,g]
end
section
theorem lay7_lay {l:GC} (X:leafB l=true) (K:LeafOk l):∀(p:List zx) (t:List GA) (d n:Nat),p ≠ []->p.all nameB=true->d+p.length<=3->treeB d t=true->(zu [] t).length<=8388606->p.length < n ->
  wB n t p l=x9 n t p l.typ l true
 | [],_,_,_,h,_,_,_,_,_=>absurd rfl h
 | _::_,_,_,0,_,_,_,_,_,h=>by omega
 | s::q,t,d,n+1,_,hp,hd,ht,hw,hn=>by
  simp only [u7,ud,un] at hp hd hn;obtain ⟨h1,W⟩:=zN ht;have G:t.length<=8388606:=uB (vt _ d (by rw [xu];exact ut.2 W)) hw;have below:∀(sb:List GA) (c:zx) (v:List zx),q=c::v->treeB (d+1) sb=true->(zu [] sb).length<=8388606->∃sb',wB n sb q l=some sb'/\x9 n sb q l.typ l true=some sb'/\sb' ≠ []/\sb'.length<=16777215:=by
   intro sb c v w y Q;subst w;obtain ⟨sb',e1,e2,e3,e4⟩:=lay_is (k:=l.typ) (l:=l) (there:=true) (λ_=>⟨rfl,X,K⟩) (c::v) sb (d+1) n (by simp) hp.2 (by omega) y (by omega) (by omega);have R:=vt sb (d+1) (by rw [xu];exact ut.2 (zN y).2);refine ⟨sb',?_,e1,?_,by omega⟩
   ·rw [<- e1];exact lay7_lay X K (c::v) sb (d+1) n (by simp) hp.2 (by omega) y Q (by omega)
   ·intro e;have:=(e4 [] ⟨[]++(c::v),l⟩).2 (.inr ⟨rfl,rfl⟩);rw [e] at this;simp [zu] at this
  rcases split_up s h1 with ⟨A,B,e,J,o⟩ | ⟨A,x,B,e,U,J,o⟩
  ·have S:(A++B).length<=8388606:=by rw [<- e];exact G
   have T:A.length<=8388606:=by grind
   have O:=bs_none (by omega) J o;have g:zp (A++[]++B) s (λM V=>xQ M V)=some ((A.length:Int),false):=by simp_all
   have z:A++B=A++[]++B:=by simp
   rw [e,lay7_none (by omega) J o];cases w:q with
   | nil =>
    rw [l7R_leaf (by simp) (by omega) (by omega) (by simp) (by simp),z,lay_leaf (ls:=[]) (sb:=[]) K (by simp) g rfl (by grind) (by simp) (by simp) (by simp),fit_one (.inl layLs_ne)];simp
   | cons c v =>
    obtain ⟨sb',C,H,P,b4⟩:=below [] c v w (tree_nil _) (by simp [zu]);rw [w] at C H;rw [l7R_sub (by simp) (by omega) (by omega) (by omega) (by grind) C,z,lay_sub (ls:=[]) (sb:=[]) (f:=false) (by simp) g rfl (by grind) (by simp) (by omega) (by grind) H,fit_one (.inr P)];simp
  ·have S:(A++x::B).length<=8388606:=by rw [<- e];exact G
   have T:A.length+1<=8388606:=by grind
   have O:=bs_some (by omega) U J o;have g:zp (A++[x]++B) s (λM V=>xQ M V)=some ((A.length:Int),true):=by simp_all
   have z:A++x::B=A++[x]++B:=by simp
   have I:x ∈ t:=by rw [e];simp
   obtain ⟨n1,n2,Y⟩:=wI (W x I);have hml:=mem_rows_len I;have R:=vt x.subs (d+1) (by rw [xu];exact ut.2 (zN n2).2);have F:((if true=true then ((yw (A++[x]++B) (A.length:Int)).bind λN=>some (.inr (N.name,N.leaves,N.subs))) else some (.inr (s,([]:List GC),([]:List GA)))):Option (List GA ⊕ (zx×(List GC)×(List GA))))=some (.inr (s,x.leaves,x.subs)):=by
    rw [ur rfl,zB (x:=x) (by simp),ua,U]
   have Z:(A++x::B).drop (A.length+1)=B:=by rw [<- tm,sS];rfl
   rw [e,lay7_some U (by omega) J o];cases w:q with
   | nil =>
    rw [l7R_leaf (by simp) (by omega) (by omega) (by omega) (leaves_up Y).1,Z,z,lay_leaf (ls:=x.leaves) (sb:=x.subs) K (by simp) g F (by grind) (by omega) (by omega) (leaves_up Y).1,fit_one (.inl layLs_ne)]
   | cons c v =>
    obtain ⟨sb',C,H,P,b4⟩:=below x.subs c v w n2 (by omega);rw [w] at C H;rw [l7R_sub (by simp) (by omega) (by omega) (by omega) (by grind) C,Z,z,lay_sub (ls:=x.leaves) (sb:=x.subs) (f:=true) (by simp) g F (by grind) (by omega) (by omega) (by grind) H,fit_one (.inr P)]
end
section
theorem ilt_tot {a b:GH} (h:a.dot ≠ b.dot):yv a b=true \/ yv b a=true:=by
 unfold yv;rcases dlt_tot a.dot b.dot with e | e | e
 ·simp_all
 ·grind
 ·grind
theorem pw_next {α:Type} [Inhabited α] {lt:α->α->Prop} {L:List α} (h:L.Pairwise lt) {i:Nat} {x:α} (hi:L[i]?=some x) (h0:i ≠ 0):lt (L.getD (i - 1) default) x:=by
 obtain ⟨f,rfl⟩:=uc.1 hi;have e:L.getD (i - 1) default=L[i - 1]:=by grind
 rw [e];exact tj.1 h _ _ _ _ (by omega)
theorem riseB_pw {L:List GH} (h:L.Pairwise λa b=>yv a b=true):riseB L=true:=by
 refine allI_iff.2 λi x hi=>?_;by_cases h0:i=0
 ·simp [h0]
 ·simp only [h0,sF,tv,prevI];exact pw_next (lt:=λa b=>yv a b=true) h hi h0
theorem rising_of_pw {L:List GF} (h:L.Pairwise λa b=>ym a b=true):wc L=true:=by
 rw [rising_allI];refine allI_iff.2 λi x hi=>?_;unfold xY;by_cases h0:i=0
 ·simp [h0]
 ·simp only [h0,sF,tv];exact pw_next (lt:=λa b=>ym a b=true) h hi h0
theorem layP_mem {L:List GH} {x y:GH} (h:y ∈ layP L x):y ∈ L \/ y=x:=by
 unfold layP at h;split at h
 ·simp_all
 ·rcases uL.1 h with h | h
  ·exact .inl ((List.takeWhile_sublist _).mem h)
  ·rcases uL.1 h with h | h
   ·simp_all
   ·exact .inl ((pB _).mem h)
theorem layP_pw {L:List GH} (x:GH) (h:L.Pairwise λa b=>yv a b=true):(layP L x).Pairwise λa b=>yv a b=true:=by
 unfold layP;split
 ·exact h
 ·rename_i f;simp only [ri,sA,ul] at f;exact ins_pw (lt:=yv) (λ_ _ _=>ilt_tr) h λy g=>ilt_tot (a:=y) (b:=x) (f y g)
theorem layP_once {L:List GH} (x:GH) (h:onceB L=true):onceB (layP L x)=true:=by
 unfold layP;split
 ·exact h
 ·rename_i g;simp only [ri,sA,ul] at g;unfold onceB at h ⊢;rw [ul] at h ⊢;have f:(L.takeWhile (λy=>yv y x)++([x]++L.dropWhile λy=>yv y x)).Perm (x::L):=by
   have e:=tz (p:=λy=>yv y x) (l:=L)
   grind
  rw [(f.map (·.dot)).nodup_iff,ux,pF]
  simp_all
theorem layP_len (L:List GH) (x:GH):(layP L x).length<=L.length+1:=by
 unfold layP;split
 ·omega
 ·have e:=congrArg List.length (tz (p:=λy=>yv y x) (l:=L))
  grind
theorem all_layP {q:GH->Bool} {L:List GH} {x:GH} (h:L.all q=true) (o:q x=true):(layP L x).all q=true :=
 ut.2 λy f=>by
  rcases layP_mem f with g | g
  ·simp_all
  ·simp_all
structure EvOk (e:GJ):Prop where
 dot:vk e.dot=true
 time:timeB e.time=true
 kind:1<=e.op.kind/\e.op.kind<=5
 path:pathB e.op.path=true
 text:e.op.text.length<=40
 dots:e.op.kind=4->e.op.dots.all vk=true
 dlen:e.op.dots.length<=64
theorem evOk (h:wZ e=true):EvOk e:=by
 have f:=kind_of h;have hd:=dots_of h;simp only [wZ,opB,ud,ul] at h;obtain ⟨⟨⟨p,o⟩,v⟩,⟨⟨⟨⟨_,g⟩,s⟩,_⟩,w⟩⟩:=h;refine ⟨p,?_,f,g,s,λy=>?_,hd⟩
 ·simp [timeB,o,v]
 ·simp_all
theorem type_range {k:Int} (h:1<=k/\k<=5):1<=vn k/\vn k<=4:=by
 unfold vn;omega
theorem applyP_typ (l:GC) (e:GJ):(xF l e).typ=l.typ:=by
 unfold xF
 grind
theorem applyP_may (f:leafB l=true) (U:wZ e=true) (p:vn e.op.kind=l.typ):leafB (xF l e)=true:=by
 have g:=riseB_of f;have F:=tombs_of f;have N:=apart_of_leaf f;obtain ⟨J,H,V,d4,M,P,W⟩:=evOk U;have R:=applyP_typ l e;by_cases k1:e.op.kind=1
 ·have K:l.typ=1:=by rw [<- p,k1];rfl
  unfold xF;rw [ur k1];unfold leafB at f ⊢;rw [ur K] at f;simp only [K,up];exact f
 by_cases k2:e.op.kind=2
 ·have G:l.typ=2:=by rw [<- p,k2];rfl
  unfold xF;rw [uu k1,ur k2];generalize (decide (l.time=0) || (if l.time ≠ e.time then decide (l.time < e.time) else ym l.dot e.dot))=b;cases b
  case false=>exact f
  case true =>
   simp only [up];unfold leafB at f ⊢;rw [uu (by omega),ur G] at f;simp only [G];rw [uu (by omega),ur trivial];simp only [ud,ul] at f ⊢;refine ⟨f.1,?_⟩;have:¬ e.time=0:=by
    simp only [timeB,ud,ul] at H;omega
   simp_all
 by_cases k3:e.op.kind=3
 ·have t3:l.typ=3:=by rw [<- p,k3];rfl
  unfold xF;rw [uu k1,uu k2,ur k3];split
  ·exact f
  ·rename_i S;simp only [ri,sA,ul] at S;unfold leafB at f ⊢;rw [uu (by omega),uu (by omega),ur t3] at f;simp only [t3];rw [uu (by omega),uu (by omega),ur trivial];simp only [ud,ul] at f ⊢;obtain ⟨⟨⟨s,o⟩,⟨⟨y,I⟩,v⟩⟩,h⟩:=f;refine ⟨⟨⟨s,by simpa [zeroB] using o⟩,⟨⟨all_layP y ?_,riseB_pw (layP_pw _ g)⟩,layP_once _ v⟩⟩,?_⟩
   ·simp [qR,J,M]
   ·simp only [tombsB,ud] at h ⊢;refine ⟨h.1,ut.2 λd hd=>?_⟩;simp only [tT,sA,ul];intro x z Q;rcases layP_mem z with w | w
    ·simp_all
    ·grind
 by_cases k4:e.op.kind=4
 ·have t3:l.typ=3:=by rw [<- p,k4];rfl
  have hd:=P k4;unfold xF;rw [uu k1,uu k2,uu k3,ur k4];unfold leafB at f ⊢;rw [uu (by omega),uu (by omega),ur t3] at f;simp only [t3];rw [uu (by omega),uu (by omega),ur trivial];simp only [ud,ul] at f ⊢;obtain ⟨⟨⟨s,o⟩,⟨⟨y,I⟩,v⟩⟩,h⟩:=f;refine ⟨⟨⟨s,by simpa [zeroB] using o⟩,⟨⟨ut.2 λx z=>ut.1 y x (tL.1 z).1,riseB_pw (g.filter _)⟩,?_⟩⟩,?_⟩
  ·unfold onceB at v ⊢
   grind
  ·simp only [tombsB,ud] at h ⊢;refine ⟨⟨ut.2 λd C=>?_,rising_of_pw (burs_pw _ F)⟩,ut.2 λd C=>?_⟩
   ·rcases (burs_mem _ _ _).1 C with w | w
    ·simp_all
    ·simp_all
   ·simp only [tT,sA,ul];intro x z Q;obtain ⟨X,T⟩:=tL.1 z;simp only [tT,sA,ul] at T;rcases (burs_mem _ _ _).1 C with w | w
    ·grind
    ·simp_all
 ·have O:e.op.kind=5:=by omega
  have t4:l.typ=4:=by rw [<- p,O];rfl
  unfold xF;rw [uu k1,uu k2,uu k3,uu k4];unfold leafB at f ⊢;rw [uu (by omega),uu (by omega),uu (by omega),ur t4] at f;simp only [t4];rw [uu (by omega),uu (by omega),uu (by omega),ur trivial];simp only [ud,ul] at f ⊢;obtain ⟨⟨⟨s,o⟩,h⟩,⟨⟨y,I⟩,v⟩⟩:=f;refine ⟨⟨⟨s,by simpa [zeroB] using o⟩,h⟩,⟨⟨all_layP y ?_,riseB_pw (layP_pw _ g)⟩,layP_once _ v⟩⟩;simp [qR,J,H,M]
theorem applyP_ok (f:LeafOk l) (h:wZ e=true) (hi:l.items.length<=1048576) (p:l.tombs.length<=1048576):LeafOk (xF l e)/\(xF l e).items.length<=l.items.length+1/\(xF l e).tombs.length<=l.tombs.length+64:=by
 have d:=evOk h;have v:0<=e.time:=by have:=d.time;simp only [timeB,ud,ul] at this;omega
 have g:=λx=>layP_len l.items x;have o:=burs_len e.op.dots l.tombs;have s:=s7 (λx:GH=>!(e.op.dots.any λy=>decide (y=x.dot))) l.items;have hd:=d.dlen;have key:(xF l e).items.length<=l.items.length+1/\(xF l e).tombs.length<=l.tombs.length+64/\0<=(xF l e).time:=by
  unfold xF;split
  ·exact ⟨by simp,by simp,f.time⟩
  split
  ·grind
  split
  ·split
   ·exact ⟨by simp,by simp,f.time⟩
   ·exact ⟨g _,by simp,f.time⟩
  split
  ·exact ⟨by grind,by grind,f.time⟩
  ·exact ⟨g _,by simp,f.time⟩
 exact ⟨⟨by omega,by omega,key.2.2⟩,key.1,key.2.1⟩
end
section
def newLf (k:Int):GC:=GC.mk k (0:Int) (0:Int) (GF.mk (GK.mk (0:Int) (0:Int)) (0:Int)) ([]:zx) ([]:List GH) ([]:List GF)
theorem leafNew_is {k:Int} (h:1<=k/\k<=4):qv k=some (newLf k):=by
 unfold qv;rw [uu (by simp;omega)];rfl
theorem refNew_is {k:Int} (h:1<=k/\k<=4):ref05New k=some (newLf k):=by
 unfold ref05New;rw [ur (by simp;omega)];rfl
theorem newLf_may {k:Int} (h:1<=k/\k<=4):leafB (newLf k)=true:=by
 have:k=1 \/ k=2 \/ k=3 \/ k=4:=by omega
 rcases this with rfl | rfl | rfl | rfl <;> decide
theorem newLf_ok (k:Int):LeafOk (newLf k):=⟨by simp [newLf],by simp [newLf],uF _⟩
theorem node7_is (t:List GA) (s:zx):ref07Xnode t s=some (match nodeOf t s with | some x=>(x,true) | none=>(node0,false)):=by
 unfold ref07Xnode;have key:∀(L:List GA) (i:Nat),zq (ρ:=GA×Bool) (λ(g:Nat) (f:GA) (s1:Unit)=>((if (f.name==s)=true then some (.ret (f,true)) else some (.nxt ())):Option (Out _ Unit))) L i ()=some (match nodeOf L s with | some x=>.inl (x,true) | none=>.inr ()):=by
  intro L
  induction L with
  | nil=>intro i;rfl
  | cons y r ih =>
   intro i;rw [zq];unfold nodeOf;rw [pH];cases h:(y.name==s)
   ·simp only [uh,uz];exact ih (i+1)
   ·rfl
 rw [key];cases nodeOf t s <;> rfl
noncomputable def l7F (v1:GC):Nat->zx->(List GA)×zx×(List GC)×(List GA)->Option (Out (GC×Bool) ((List GA)×zx×(List GC)×(List GA))):=(λ(n1:Nat) (x1:zx) (s1:(List GA)×zx×(List GC)×(List GA))=>(((ref07Xnode s1.1 x1).bind λv32=>(if (!v32.2)=true then some (.ret (v1,false)) else some (.nxt (v32.1.subs,v32.1.name,v32.1.leaves,v32.1.subs))))))
noncomputable def l7S (ls:List GC) (kind2:Int):Int->Option (Out (GC×Bool) Int):=(λ(s2:Int)=>((if (((decide (s2 < ((ls).length:Int)))&&(decide (kind2 >= (1:Int))))&&(decide (kind2<=(4:Int))))=true then ((yw ls s2).bind λy63=>(if (y63.typ==kind2)=true then ((yw ls s2).bind λy65=>some (.ret (y65,true))) else some (.nxt (IntKind.wrap .i64 (s2+(1:Int)))))) else some (.brk s2))))
theorem leaf7_eq (t0:List GA) (g:List zx) (f:Int):ref07Leaf t0 g f=((ref05New f).bind λh=>(lp (zq (l7F h) g 0 (t0,([]:zx),([]:List GC),([]:List GA))) λ(s1:(List GA)×zx×(List GC)×(List GA))=>(lp (ye (l7S s1.2.2.1 f) (0:Int)) λ(s2:Int)=>some (h,false)))):=rfl
theorem l7_walk (v:GC):∀(p:List zx) (n:Nat) (t:List GA) (z:zx×(List GC)×(List GA)),p ≠ [] ->
  zq (l7F v) p n (t,z)=some (match vD t p with | some x=>.inr (x.subs,x.name,x.leaves,x.subs) | none=>.inl (v,false))
 | [],_,_,_,h=>absurd rfl h
 | [s],n,t,z,_=>by
  simp only [vD,zq,l7F,node7_is,ua]
  grind
 | s::c::q,n,t,z,_=>by
  have g:=λu z=>l7_walk v (c::q) (n+1) u z (by simp);simp only [vD];cases e:nodeOf t s with
  | none=>rw [zq];simp only [l7F,node7_is,e,ua];rfl
  | some x =>
   have f:l7F v n s (t,z)=some (.nxt (x.subs,x.name,x.leaves,x.subs)):=by simp only [l7F,node7_is,e,ua];rfl
   rw [zq,f,ua]
   simp_all
theorem l7_scan {k:Int} (o:1<=k/\k<=4) (p:ls.length<=16777216):∀(m i:Nat),ls.length - i=m->i<=ls.length->ye (l7S ls k) (i:Int)=some (match (ls.drop i).find? (λy=>y.typ==k) with | some y=>.inl (y,true) | none=>.inr (ls.length:Int)):=by
 intro m
 induction m with
 | zero =>
  intro i h hi;obtain rfl:i=ls.length:=by omega
  rw [xA];unfold l7S;simp
 | succ m ih =>
  intro i h hi;have f:i < ls.length:=by omega
  rw [xA];have hd:ls.drop i=ls[i]::ls.drop (i+1):=sL f;have g:((decide ((i:Int) < (ls.length:Int))&&decide (k >= 1))&&decide (k<=4))=true:=by simp;omega
  rw [hd,pH];cases e:(ls[i].typ==k)
  ·have:l7S ls k (i:Int)=some (.nxt ((i+1:Nat):Int)):=by
    unfold l7S;rw [ur g,wP f,ua,e];simp only [uh,uz];rw [yY (by omega)];rfl
   grind
  ·have:l7S ls k (i:Int)=some (.ret (ls[i],true)):=by
    unfold l7S;rw [ur g,wP f,ua,e];simp
   rw [this]
theorem leaves_len:∀{p:List zx} {t:List GA} {d:Nat} {x:GA},treeB d t=true->p ≠ []->vD t p=some x->x.leaves.length<=(zu [] t).length
 | [],_,_,_,_,h,_=>absurd rfl h
 | [s],t,d,x,h,_,e=>by
  have g:x ∈ t:=ph (show nodeOf t s=some x from e);have:=mem_rows_len g;omega
 | s::c::q,t,d,x,h,_,e=>by
  simp only [vD] at e;cases hn:nodeOf t s with
  | none=>rw [hn] at e;cases e
  | some y =>
   rw [hn,ua] at e;have f:y ∈ t:=ph (show nodeOf t s=some y from hn);have v:=leaves_len (wI ((zN h).2 y f)).2.1 (by simp) e;have o:=mem_rows_len f;omega
theorem leaf7_is (h:treeB 0 t=true) (w:(zu [] t).length<=16777215) {p:List zx} (o:p ≠ []) {k:Int} (s:1<=k/\k<=4) :
  (∃l,GE.mk p l ∈ zu [] t/\l.typ=k/\ref07Leaf t p k=some (l,true)) \/ ((∀r ∈ zu [] t,ql r ≠ (p,k))/\ref07Leaf t p k=some (newLf k,false)):=by
 have f:=λl=>row_at p t 0 [] l o h;simp only [uY] at f;have g:(∀l,¬ (GE.mk p l ∈ zu [] t/\l.typ=k))->∀r ∈ zu [] t,ql r ≠ (p,k):=λz r y e=>by
  have:=row_mk e;simp only [uY] at this;exact z r.leaf ⟨by rw [<- this];exact y,congrArg Prod.snd e⟩
 rw [leaf7_eq,refNew_is s,ua,l7_walk _ p 0 t _ o];cases e:vD t p with
 | none =>
  right;refine ⟨g λl hh=>?_,rfl⟩;obtain ⟨x,C,_⟩:=(f l).1 hh.1
  simp_all
 | some x =>
  simp only [lp];have v:x.leaves.length<=16777215:=by
   exact uB (leaves_len h o e) w
  have hs:=l7_scan s (by omega:x.leaves.length<=16777216) x.leaves.length 0 (by omega) (tu _);simp only [su,rP] at hs
  grind
end
section
theorem name_len {s:zx} (h:nameB s=true):s.length<=12/\∀b ∈ s,b ≠ 0:=by
 simp only [nameB,ud,ul,ut] at h;refine ⟨h.1.2,λb f e=>?_⟩;have:=h.2 b f;rw [e] at this;revert this;decide
theorem leaf_bk (l:GC):4<=GC.bk l:=by unfold GC.bk;omega
theorem leaves_bk:∀ls:List GC,4 * ls.length<=(ls.map GC.bk).sum
 | []=>by simp
 | l::ls=>by
  have:=leaves_bk ls;have:=leaf_bk l
  grind
theorem rows4:∀(t:List GA),4 * (zu [] t).length<=GA.bks t:=by
 refine vp (by simp [zu]) ?_;intro x r o g;have h:=leaves_bk x.leaves;have f:=bk_node x;rw [show x::r=[x]++r from rfl,qI,q9,xz];simp only [uo,uq];rw [len_rows x.subs ([]++[x.name]) []];show _<=x.bk+GA.bks r;omega
def wS (n:Nat):List GE->Nat
 | []=>0
 | r::L=>r.leaf.bk+17 * (r.path.length - n)+wS n L
theorem wS_app (n:Nat):∀A B:List GE,wS n (A++B)=wS n A+wS n B
 | [],B=>by simp [wS]
 | r::A,B=>by simp only [tD,wS,wS_app n A B];omega
theorem wS_leaves (a:List zx) (s:zx):∀ls:List GC,wS a.length (ls.map λl=>GE.mk (a++[s]) l)=(ls.map GC.bk).sum+17 * ls.length
 | []=>rfl
 | l::ls=>by
  simp only [ux,wS,wS_leaves a s ls,tX,un,uo,uN];omega
theorem wS_up (n:Nat):∀L:List GE,(∀r ∈ L,n+1<=r.path.length)->wS n L=wS (n+1) L+17 * L.length
 | [],_=>rfl
 | r::L,h=>by
  have g:=h r (by simp);simp only [wS,wS_up n L (λq f=>h q (by simp [f])),un];omega
theorem bk_is (x:GA):x.bk=(x.name.length+1)+(((x.leaves.map GC.bk).sum+1)+((GA.bks x.subs+1)+0))+1:=by cases x;simp only [GA.bk]
theorem bks_rows:∀(t:List GA) (d:Nat) (a:List zx),(∀x ∈ t,nodeB d x=true)->GA.bks t<=wS a.length (zu a t):=by
 refine vp (λ_ _ _=>by simp [GA.bks]) ?_;intro x r w s d a h;have F:=s d a λy p=>h y (by simp [p]);have g:=h x (by simp);obtain ⟨z,n2,_⟩:=wI g;have v:=w (d+1) (a++[x.name]) (zN n2).2;have C:=(name_len z).1;have f:=vt [x] d (by simp [nodesB,g]);rw [q9,xz] at f;simp only [uo,uq,un,uN,uT] at v f;rw [len_rows x.subs ([]++[x.name]) (a++[x.name])] at f;show x.bk+GA.bks r<=wS a.length (ve a x++zu a r);rw [wS_app,xz,wS_app,wS_leaves,wS_up a.length _ λq o=>by
  have:=(rows_path _ _ q o).1;simp at this;omega]
 have G:=bk_is x;omega
theorem wS_sub {lt:GE->GE->Prop} (f:∀x,¬ lt x x) (n:Nat):∀(L M:List GE),L.Pairwise lt->(∀x ∈ L,x ∈ M)->wS n L<=wS n M
 | [],_,_,_=>tu _
 | x::L,M,h,hs=>by
  obtain ⟨p,g⟩:=uC.1 h;obtain ⟨A,B,rfl⟩:=pc (hs x (by simp));have:=wS_sub f n L (A++B) g λy o=>by
   grind
  rw [wS_app] at this;rw [wS_app];simp only [wS];omega
def lS:List GE->Nat
 | []=>0
 | r::L=>r.leaf.bk+lS L
theorem lS_app:∀A B:List GE,lS (A++B)=lS A+lS B
 | [],B=>by simp [lS]
 | r::A,B=>by simp only [tD,lS,lS_app A B];omega
theorem lS_leaves (p:List zx):∀ls:List GC,lS (ls.map λl=>GE.mk p l)=(ls.map GC.bk).sum
 | []=>rfl
 | l::ls=>by simp only [ux,lS,lS_leaves p ls,tX]
theorem wS_le:∀L:List GE,(∀r ∈ L,r.path.length<=3)->wS 0 L<=lS L+51 * L.length
 | [],_=>ug _
 | r::L,h=>by
  have o:=h r (by simp);have g:=wS_le L λq f=>h q (by simp [f]);simp only [wS,lS,un];omega
theorem lS_le:∀(t:List GA) (a:List zx),lS (zu a t)<=GA.bks t:=by
 refine vp (λ_=>tu _) ?_;intro x r g f a;have o:=f a;have h:=g (a++[x.name]);have p:=bk_is x;show lS (ve a x++zu a r)<=x.bk+GA.bks r;rw [lS_app,xz,lS_app,lS_leaves];omega
theorem rows_wf:∀(t:List GA) (a:List zx),GA.wfs t->∀r ∈ zu a t,GC.wf r.leaf:=by
 refine vp (λ_ _ _ h=>by simp [zu] at h) ?_;intro x r s p a h q f;simp only [GA.wfs] at h;have f:q ∈ ve a x++zu a r:=f;rcases uL.1 f with f | f
 ·have g:x.name.length<=maxLen/\(x.leaves.length<=maxLen/\∀y ∈ x.leaves,GC.wf y)/\GA.wfs x.subs:=by
   have:=h.1;cases x;simpa only [GA.wf] using this
  rcases rowsN_mem.1 f with ⟨l,o,rfl⟩ | f
  ·simp_all
  ·grind
 ·grind
theorem wf_rows:∀(t:List GA) (d:Nat) (a:List zx),(∀x ∈ t,nodeB d x=true)->(zu a t).length<=maxLen->(∀r ∈ zu a t,GC.wf r.leaf)->GA.wfs t:=by
 refine vp (λ_ _ _ _ _=>by simp [GA.wfs]) ?_;intro x r H F d a z h f;have h:(ve a x++zu a r).length<=maxLen:=h;have f:∀q ∈ ve a x++zu a r,GC.wf q.leaf:=f;rw [xz] at h;simp only [uo,uq] at h;obtain ⟨I,n2,_⟩:=wI (z x (by simp));have C:=F d a (λy p=>z y (by simp [p])) (by omega) (λq o=>f q (by simp [o]));have s:=H (d+1) (a++[x.name]) (zN n2).2 (by omega) (λq o=>f q (uL.2 (.inl (rowsN_mem.2 (.inr o)))));have G:=(name_len I).1;have g:x.name.length<=maxLen:=uB G (by decide);have v:∀y ∈ x.leaves,GC.wf y:=λy p=>f ⟨a++[x.name],y⟩ (uL.2 (.inl (rowsN_mem.2 (.inl ⟨y,p,rfl⟩))));have w:x.leaves.length<=maxLen:=by omega
 simp only [GA.wfs];refine ⟨?_,C⟩;revert g v w s;cases x;intro s g v w;simp only [GA.wf]
 simp_all
end
section
theorem ownC_is (h:LeafOk l):qw l=some l:=by
 unfold qw;rw [cloneItem_is (xd (by have:=h.items;omega)),ua,cloneDot_is (xd (by have:=h.tombs;omega)),ua]
theorem changed_is:∀(n:Nat) (t:List GA),GA.deps t < n->Small t->wK n t (λv=>qw v)=some t
 | 0,_,h,_=>by omega
 | n+1,t,h,hs=>by
  unfold wK;have F:=hs.len;rw [qc (λ_=>true) (λx=>x) t 0 [] (xd (by simp;omega))]
  ·simp
  ·intro i x s f z;have p:=qf f;have y:=xX x;have w:=hs.leaves f;rw [changed_is n x.subs (by omega) (hs.subs f),ua];rw [qc (λ_=>true) (λl=>l) x.leaves 0 [] (xd (by simp;omega))]
   ·have o:(x.leaves.filter λ_=>true)=x.leaves:=by simp
    simp only [yJ,uY,List.map_id_fun',id,o,up];rw [zk (by omega)];cases x;simp
   ·intro j l s2 g C;show ((qw l).bind _)=_;rw [ownC_is (hs.leaf f g),ua,zk (by omega)];simp
theorem own7_is (h:Small t):treeXown t=some t:=by
 unfold treeXown treeXchanged;rw [qg (GA.deps t+1) λn f=>changed_is n t (by omega) h,ua]
theorem wS_len:∀L:List GE,(∀r ∈ L,1<=r.path.length)->17 * L.length<=wS 0 L
 | [],_=>ug _
 | r::L,h=>by
  have o:=h r (by simp);have g:=wS_len L λq f=>h q (by simp [f]);simp only [wS,un];omega
structure Fine (t:List GA):Prop where
 small:Small t
 tree:treeB 0 t=true
 ws:wS 0 (zu [] t)<=14680064
 leaf:∀r ∈ zu [] t,r.leaf.bk<=1048576
theorem lS_mem:∀{L:List GE} {r:GE},r ∈ L->r.leaf.bk<=lS L
 | q::L,r,h=>by
  rcases uP.1 h with rfl | h
  ·simp only [lS];omega
  ·have:=lS_mem h;simp only [lS];omega
theorem fine_of (hs:Small t) (g:treeB 0 t=true) (s:GA.bks t<=1048576):Fine t:=by
 have p:=wS_le (zu [] t) λr f=>(qM (rows_ok t 0 [] hs g rfl rfl r f).path).2.1;have h:=lS_le t [];have o:=rows4 t;exact ⟨hs,g,by omega,λr f=>uB (lS_mem f) (by omega)⟩
theorem Fine.row (h:Fine t) {r:GE} (f:r ∈ zu [] t):RowOk' r:=rows_ok t 0 [] h.small h.tree rfl rfl r f
theorem Fine.len (h:Fine t):(zu [] t).length<=863533:=by
 have g:=wS_len (zu [] t) λr f=>by
  have:=(qM (h.row f).path).1
  grind
 have:=h.ws;omega
theorem rows_small {M:List GE} (o:treeB 0 u=true) (C:wS 0 M<=16777216) (z:M.length<=1048576) (p:∀r ∈ M,GC.wf r.leaf) (h:∀r ∈ zu [] u,r ∈ M):Small u/\wS 0 (zu [] u)<=wS 0 M:=by
 have g:∀x:GE,¬ kltB (ql x) (ql x)=true:=λx h=>by rw [klt_irr] at h;cases h
 have f:=rows_sorted o [];have w:=bks_rows u 0 [] (zN o).2;have s:=wS_sub g 0 _ _ f h;have y:=sub_len g _ _ f h;simp only [uN] at w;exact ⟨⟨wf_rows u 0 [] (zN o).2 (uB (uB y z) (by decide)) λr v=>p r (h r v),by omega⟩,s⟩
theorem small_put {p:List zx} (f:Fine t) (o:treeB 0 u=true) (w:l.bk<=1100000) (s:GC.wf l) (v:p.length<=3) (h:∀r ∈ zu [] u,r ∈ zu [] t \/ r=⟨p,l⟩):Small u:=by
 have z:=f.ws;have y:=f.len;refine (rows_small (M:=zu [] t++[⟨p,l⟩]) o (by rw [wS_app];simp only [wS];omega) (by simp;omega) (λr g=>?_) λr g=>?_).1
 ·rcases uL.1 g with h | h
  ·exact rows_wf t [] f.small.1 r h
  ·simp_all
 ·simp_all
theorem dots_bk (L:List GF):(L.map GF.bk).sum=5 * L.length:=by
 induction L with
 | nil=>rfl
 | cons d r ih =>
  have:GF.bk d=5:=rfl
  grind
theorem sum_filter_le {α:Type} (f:α->Nat) (q:α->Bool):∀L:List α,((L.filter q).map f).sum<=(L.map f).sum
 | []=>by simp
 | x::r=>by
  have:=sum_filter_le f q r
  grind
theorem lay_bk (L:List GH) (x:GH):((layP L x).map GH.bk).sum<=(L.map GH.bk).sum+x.bk:=by
 unfold layP;split
 ·omega
 ·have e:=tz (p:=λy=>yv y x) (l:=L)
  grind
theorem applyP_bk (f:wZ e=true):(xF l e).bk<=l.bk+1000:=by
 have d:=evOk f;have p:=lay_bk l.items ⟨0,e.dot,e.op.text⟩;have h:=lay_bk l.items ⟨e.time,e.dot,e.op.text⟩;have w:=burs_len e.op.dots l.tombs;have o:=sum_filter_le GH.bk (λx:GH=>!(e.op.dots.any λy=>decide (y=x.dot))) l.items;have hd:=d.dlen;have v:=d.text;have b0:∀x:GF,GF.bk x=5:=λ_=>rfl;have g:GH.bk ⟨0,e.dot,e.op.text⟩<=60:=by simp only [GH.bk,b0];omega
 have s:GH.bk ⟨e.time,e.dot,e.op.text⟩<=60:=by simp only [GH.bk,b0];omega
 unfold xF;split
 ·simp only [GC.bk];omega
 split
 ·generalize (decide (l.time=0) || (if l.time ≠ e.time then decide (l.time < e.time) else ym l.dot e.dot))=b;cases b
  ·simp_all
  ·simp only [up,GC.bk,b0];omega
 split
 ·split
  ·omega
  ·simp only [GC.bk];omega
 split
 ·simp only [GC.bk,dots_bk];omega
 ·simp only [GC.bk];omega
theorem inK_wrap64 (n:Int):InK .i64 (IntKind.wrap .i64 n):=by
 unfold InK;rw [IntKind.wrap_i64];constructor
 ·show (-9223372036854775808:Int)<=_;omega
 ·show _<=(9223372036854775807:Int);omega
theorem all_lay {q:GH->Prop} {L:List GH} {x:GH} (h:∀y ∈ L,q y) (o:q x):∀y ∈ layP L x,q y:=λy f=>by
 rcases layP_mem f with g | g
 ·simp_all
 ·simp_all
theorem applyP_wf (M:GC.wf l) (O:wZ e=true) (K:GJ.wf e) (hi:l.items.length<=1048576) (J:l.tombs.length<=1048576):GC.wf (xF l e):=by
 have d:=evOk O;obtain ⟨f,v,p,o,w,g,s⟩:=M;obtain ⟨H,I,N⟩:=K;obtain ⟨S,Q,T,G,P⟩:=N;have C:∀n,n<=1048700->n<=maxLen:=λn h=>uB h (by decide);have U:=λx=>layP_len l.items x;have V:=burs_len e.op.dots l.tombs;have R:=s7 (λx:GH=>!(e.op.dots.any λy=>decide (y=x.dot))) l.items;have hd:=d.dlen;have z:InK .u64 0:=⟨uF _,by decide⟩
 unfold xF;split
 ·exact ⟨f,inK_wrap64 _,p,o,w,g,s⟩
 split
 ·generalize (decide (l.time=0) || (if l.time ≠ e.time then decide (l.time < e.time) else ym l.dot e.dot))=b;cases b
  ·exact ⟨f,v,p,o,w,g,s⟩
  ·exact ⟨f,v,I,H,G,g,s⟩
 split
 ·split
  ·exact ⟨f,v,p,o,w,g,s⟩
  ·exact ⟨f,v,p,o,w,⟨C _ (by grind),all_lay g.2 ⟨z,H,G⟩⟩,s⟩
 split
 ·refine ⟨f,v,p,o,w,⟨C _ (by grind),λy F=>g.2 y (tL.1 F).1⟩,⟨C _ (by grind),λy F=>?_⟩⟩;rcases (burs_mem _ _ _).1 F with h | h
  ·simp_all
  ·simp_all
 ·exact ⟨f,v,p,o,w,⟨C _ (by grind),all_lay g.2 ⟨I,H,G⟩⟩,s⟩
theorem newLf_wf {k:Int} (h:1<=k/\k<=4):GC.wf (newLf k):=by
 have z:InK .u64 0:=⟨uF _,by decide⟩
 have g:InK .u8 0:=⟨uF _,by decide⟩
 have f:InK .u32 0:=⟨uF _,by decide⟩
 have o:InK .i64 0:=⟨by decide,by decide⟩
 refine ⟨⟨by show (0:Int)<=k;omega,by show k<=255;omega⟩,o,z,⟨⟨g,f⟩,z⟩,by simp [newLf],⟨by simp [newLf],by simp [newLf]⟩,⟨by simp [newLf],by simp [newLf]⟩⟩
end
section
theorem tlR_false {k:Int} (f:1<=k/\k<=4) {s1:Bool×zx×(List GC)×(List GA)} {v:GC} (h:tlR k s1=some (v,false)):v=newLf k:=by
 unfold tlR at h;obtain ⟨g,_,h⟩:=te.1 h;obtain ⟨v50,_,h⟩:=te.1 h;split at h
 ·rw [leafNew_is f,ua] at h
  simp_all
 ·obtain ⟨y,_,h⟩:=te.1 h;obtain ⟨a,_,h⟩:=te.1 h;obtain ⟨b,_,h⟩:=te.1 h
  simp_all
theorem treeLeaf_false {p:List zx} (o:p ≠ []) {k:Int} (g:1<=k/\k<=4) {v:GC} (h:qX t p k=some (v,false)):v=newLf k:=by
 have f:=tl_walk p 0 t (decide ((p.length:Int) > 0),([]:zx),([]:List GC),([]:List GA)) o;rw [tl_eq] at h;cases e:vD t p with
 | none =>
  rw [e] at f;obtain ⟨u,f⟩:=f;rw [f] at h;simp only [yJ] at h;exact tlR_false g h
 | some x =>
  rw [e] at f;simp only at f;rw [f] at h;simp only [yJ] at h;exact tlR_false g h
theorem leaf_lens (l:GC):l.items.length<=l.bk/\l.tombs.length<=l.bk:=by
 have g:=sum_len (f:=GH.bk) (λx=>by simp only [GH.bk];omega) l.items;have h:=dots_bk l.tombs;simp only [GC.bk];omega
theorem leaf_both (z:Fine t) {p:List zx} (F:p ≠ []) {k:Int} (o:1<=k/\k<=4) :
  ∃l b,qX t p k=some (l,b)/\ref07Leaf t p k=some (l,b)/\l.typ=k/\leafB l=true/\LeafOk l/\GC.wf l/\l.bk<=1048576/\((b=true/\GE.mk p l ∈ zu [] t) \/ (b=false/\l=newLf k/\∀r ∈ zu [] t,ql r ≠ (p,k))):=by
 have I:=z.len;have hs:=z.small;have w:=z.tree;have s:=λr h=>rows_ok t 0 [] hs w rfl rfl r h;rcases treeLeaf_is w (λr h=>(s r h).ok) F o with ⟨l,f,g,G⟩ | ⟨f,v,g⟩ <;> rcases leaf7_is w (by omega) F o with ⟨J,C,y,H⟩ | ⟨C,y⟩
 ·have e:=sorted_key (key:=ql) (rows_sorted w []) f C (by simp only [ql];rw [g,y]);injection e with _ e;subst e;have h:=s _ f;refine ⟨l,true,G,H,g,h.leaf,h.ok,rows_wf t [] hs.1 _ f,?_,.inl ⟨rfl,f⟩⟩;exact z.leaf _ f
 ·exact absurd (by simp only [ql];rw [g]) (C _ f)
 ·exact absurd (by simp only [ql];rw [y]) (f _ C)
 ·have e:=treeLeaf_false F o g;subst e;exact ⟨newLf k,false,g,y,rfl,newLf_may o,newLf_ok k,newLf_wf o,(by simp [newLf,GC.bk,GF.bk,GK.bk]),.inr ⟨rfl,rfl,f⟩⟩
theorem put_all (s:leafB l=true) (o:LeafOk l) {p:List zx} {t u:List GA} (z:pathB p=true) (g:treeB 0 t=true) (I:(zu [] t).length<=8388606) (C:treeB 0 u=true) (J:∀r,r ∈ zu [] u ↔ (r ∈ zu [] t/\ql r ≠ (p,l.typ)) \/ (true=true/\r=⟨p,l⟩)) :
  treeXput t p l=some u/\ref07Lay t p l=some u:=by
 obtain ⟨h,G,f⟩:=qM z;have key:∀n,p.length+1<=n->x9 n t p l.typ l true=some u:=λn w=>by
  obtain ⟨H,y,F,_,v⟩:=lay_is (k:=l.typ) (l:=l) (there:=true) (λ_=>⟨rfl,s,o⟩) p t 0 n h f (by omega) g (by omega) (by omega);have v:=v [];simp only [uY] at v;rw [y,rows_ext F C λr=>by simp_all]
 refine ⟨qg (p.length+1) λn w=>?_,qg (p.length+1) λn w=>?_⟩
 ·rw [put_lay s o p t 0 n h f (by omega) g (by omega) (by omega)]
  simp_all
 ·rw [lay7_lay s o p t 0 n h f (by omega) g (by omega) (by omega)]
  simp_all
theorem apply_is (o:Fine t) (f:wZ e=true) (Q:GJ.wf e) :
  ∃u l b,treeApply t e=some (u,0)/\ref07Apply t e=some (u,0)/\Small u/\treeB 0 u=true/\qX t e.op.path (vn e.op.kind)=some (l,b)/\l.typ=vn e.op.kind/\leafB (xF l e)=true/\LeafOk (xF l e) /\
   ∀r,r ∈ zu [] u ↔ (r ∈ zu [] t/\ql r ≠ (e.op.path,vn e.op.kind)) \/ r=⟨e.op.path,xF l e⟩:=by
 have d:=evOk f;have hs:=o.small;have p:=o.tree;have M:=type_range d.kind;obtain ⟨R,K,T⟩:=qM d.path;obtain ⟨l,b,F,J,z,N,G,S,V,_⟩:=leaf_both o R M;have H:=leaf_lens l;have v:=applyP_may N f z.symm;have U:(xF l e).typ=vn e.op.kind:=by rw [applyP_typ,z]
 obtain ⟨s,_⟩:=applyP_ok G f (by omega) (by omega);have y:=o.len;obtain ⟨u,_,w,_,O⟩:=lay_all (k:=(xF l e).typ) (l:=xF l e) (there:=true) (λ_=>⟨rfl,v,s⟩) d.path p (by omega);obtain ⟨P,X⟩:=put_all v s d.path p (by omega) w O;have I:Small u:=small_put o w (uB (applyP_bk f) (by omega)) (applyP_wf S f Q (by omega) (by omega)) K λr W=>by
  grind
 have g:l.items.length<=1048576:=by omega
 have h:l.tombs.length<=1048576:=by omega
 have C:applyW l e=(xF l e,0):=by
  unfold applyW
  simp_all
 refine ⟨u,l,b,?_,?_,I,w,F,z,v,s,λr=>by simp_all⟩
 ·unfold treeApply;rw [qx hs,opMayEvent_is,p,f];simp only [ua,tg,uX,up,pC,uh,uz];rw [opType_is,ua,F,ua,leafApply_is e g h,C,ua];simp only [s8,uh,uz];rw [P,ua,own7_is I,ua]
 ·unfold ref07Apply;rw [qK hs,vZ,p,f];simp only [ua,tg,uX,up,pC,uh,uz];rw [ref04Type_is,ua,J,ua,refApply_is e g h G.time,C,ua]
  simp_all
end
section
theorem u8_range (n:Int):0<=IntKind.wrap .u8 n/\IntKind.wrap .u8 n < 256:=by
 rw [IntKind.wrap_u8];omega
theorem u64_range (n:Int):0<=IntKind.wrap .u64 n/\IntKind.wrap .u64 n < 18446744073709551616:=by
 rw [IntKind.wrap_u64];omega
theorem num_tot {b:List UInt8} (h0:0<=n) (y:n < 18446744073709551616) (C:b.length<=2147483000):∃r,xl b n=some r/\b.length+1<=r.length/\r.length<=b.length+10:=by
 unfold xl;have key:=qN (ρ:=List UInt8) (f:=λ(s1:(List UInt8)×Int)=>((if (decide (s1.2 > (127:Int)))=true then (yg (0<=(IntKind.wrap .u8 (((BitVec.ofInt (IntKind.bits .u8) (IntKind.wrap .u8 (s1.2)) ||| BitVec.ofInt (IntKind.bits .u8) (128:Int)).toNat:Int)))/\(IntKind.wrap .u8 (((BitVec.ofInt (IntKind.bits .u8) (IntKind.wrap .u8 (s1.2)) ||| BitVec.ofInt (IntKind.bits .u8) (128:Int)).toNat:Int))) < 256) ((yg ((s1.1).length+(([(UInt8.ofNat (IntKind.wrap .u8 (((BitVec.ofInt (IntKind.bits .u8) (IntKind.wrap .u8 (s1.2)) ||| BitVec.ofInt (IntKind.bits .u8) (128:Int)).toNat:Int))).toNat)]:List UInt8)).length<=yM) (some (.nxt ((s1.1++([(UInt8.ofNat (IntKind.wrap .u8 (((BitVec.ofInt (IntKind.bits .u8) (IntKind.wrap .u8 (s1.2)) ||| BitVec.ofInt (IntKind.bits .u8) (128:Int)).toNat:Int))).toNat)]:List UInt8)),(Int.fdiv s1.2 (2 ^ (min (7:Int).toNat (IntKind.bits .u64)))))))))) else some (.brk (s1.1,s1.2))):Option (Out _ ((List UInt8)×Int))))
  (λs=>0<=s.2/\b.length<=s.1.length/\∃k:Nat,s.2 < 128 ^ (k+1)/\s.1.length+k<=b.length+9) (λs=>b.length<=s.1.length/\s.1.length<=b.length+9) (λs=>s.2.toNat) ?_ _ (b,n) rfl ⟨h0,ug _,9,by omega,ug _⟩
 ·obtain ⟨v,e,w,z⟩:=key;rw [e];simp only [yJ];rw [zk (u8_range _),zk (by simp [yM];omega)]
  simp_all
 ·rintro ⟨s,m⟩ ⟨o,p,k,g,h⟩
  simp only at o p g h;by_cases hm:m > 127
  ·right;simp only [hm,sG,up];rw [zk (u8_range _),zk (by simp [yM];omega)];refine ⟨_,rfl,?_,?_⟩
   ·have e:(Int.fdiv m (2 ^ (min (7:Int).toNat (IntKind.bits .u64))))=m / 128:=by
     have:(2:Int) ^ (min (7:Int).toNat (IntKind.bits .u64))=128:=by decide
     grind
    simp only [e];refine ⟨by omega,by simp;omega,?_⟩;cases k with
    | zero=>simp at g;omega
    | succ k =>
     refine ⟨k,?_,by simp;omega⟩;omega
   ·have e:(Int.fdiv m (2 ^ (min (7:Int).toNat (IntKind.bits .u64))))=m / 128:=by
     have:(2:Int) ^ (min (7:Int).toNat (IntKind.bits .u64))=128:=by decide
     grind
    omega
  ·left;simp only [hm,sF,uh,uz]
   grind
theorem wi {b:List UInt8} (f:b.length<=2147483000):∃r,xl b (IntKind.wrap .u64 n)=some r/\b.length+1<=r.length/\r.length<=b.length+10:=num_tot (u64_range n).1 (u64_range n).2 f
theorem int_tot {b:List UInt8} (f:b.length<=2147483000):∃r,codeInt b n=some r/\b.length+1<=r.length/\r.length<=b.length+10:=by
 unfold codeInt;obtain ⟨r,e,h⟩:=wi (b:=b) (n:=(((BitVec.ofInt (IntKind.bits .u64) (IntKind.wrap .u64 ((IntKind.wrap .u64 (n)) * 2 ^ (min (1:Int).toNat (IntKind.bits .u64)))) ^^^ BitVec.ofInt (IntKind.bits .u64) (IntKind.wrap .u64 ((Int.fdiv n (2 ^ (min (63:Int).toNat (IntKind.bits .i64))))))).toNat:Int))) f
 simp_all
theorem text_tot {b:List UInt8} {s:zx} (h:b.length+s.length<=2147482000):∃r,w9 b s=some r/\b.length<=r.length/\r.length<=b.length+(10+s.length):=by
 unfold w9;obtain ⟨r,e,g,f⟩:=wi (b:=b) (n:=(s.length:Int)) (by omega);rw [e,ua,zk (by simp only [yM];omega)]
 grind
theorem dot_tot {b:List UInt8} {d:GF} (f:GF.wf d) (w:b.length<=2147482000):∃r,xg b d=some r/\b.length<=r.length/\r.length<=b.length+30:=by
 unfold xg;obtain ⟨r,e,p,h⟩:=wi (b:=b) (n:=d.actor.rep) (by omega);obtain ⟨q,y,v,o⟩:=wi (b:=r) (n:=d.actor.inc) (by omega);have hs:0<=d.seq/\d.seq < 18446744073709551616:=by
  have:=f.2;unfold InK at this;simp [IntKind.min,IntKind.max,IntKind.signed,IntKind.bits] at this;omega
 obtain ⟨z,C,s,g⟩:=num_tot (b:=q) hs.1 hs.2 (by omega)
 grind
theorem acc_tot {α ρ:Type} {f:Nat->α->List UInt8->Option (Out ρ (List UInt8))} {K:Nat} (c:α->Nat):∀(L:List α) (i:Nat) (b:List UInt8),(∀i x s,x ∈ L->s.length+c x<=K->∃r,f i x s=some (.nxt r)/\s.length<=r.length/\r.length<=s.length+c x) ->
  b.length+(L.map c).sum<=K->∃r,zq f L i b=some (.inr r)/\b.length<=r.length/\r.length<=b.length+(L.map c).sum
 | [],_,b,_,_=>⟨b,rfl,ug _,by simp⟩
 | x::t,i,b,h,hb=>by
  simp only [ux,tX] at hb ⊢;obtain ⟨r,e,w,p⟩:=h i x b (by simp) (by omega);obtain ⟨q,o,z,v⟩:=acc_tot c t (i+1) r (λi y s g=>h i y s (by simp [g])) (by omega);exact ⟨q,by simp only [zq,e,o],by omega,by omega⟩
theorem sum_mul {α:Type} {c f:α->Nat} (h:∀x,c x<=10 * f x):∀L:List α,(L.map c).sum<=10 * (L.map f).sum
 | []=>by simp
 | x::r=>by have:=sum_mul h r;have:=h x;simp only [ux,tX];omega
theorem u64_of (h:InK .u64 n):0<=n/\n < 18446744073709551616:=by
 unfold InK at h;simp [IntKind.min,IntKind.max,IntKind.signed,IntKind.bits] at h;omega
theorem leafS_tot {b:List UInt8} (U:GC.wf l) (hb:b.length+10 * l.bk<=2147480000):∃r,wu b l=some r/\b.length<=r.length/\r.length<=b.length+10 * l.bk:=by
 obtain ⟨w1,w2,y,P,w5,M,C⟩:=U;have hk:l.bk=12+l.text.length+(l.items.map GH.bk).sum+(l.tombs.map GF.bk).sum:=by
  have:GF.bk l.dot=5:=rfl;simp only [GC.bk,this];omega
 have hI:(l.items.map λx:GH=>50+x.text.length).sum<=10 * (l.items.map GH.bk).sum:=sum_mul (λx=>by have:GF.bk x.dot=5:=rfl;simp only [GH.bk,this];omega) _;have hT:(l.tombs.map λ_:GF=>30).sum<=10 * (l.tombs.map GF.bk).sum:=sum_mul (λx=>by have:GF.bk x=5:=rfl;simp only [this];omega) _;unfold wu;obtain ⟨W,I,a1,b1⟩:=wi (b:=b) (n:=l.typ) (by omega);obtain ⟨r2,T,a2,b2⟩:=int_tot (b:=W) (n:=l.n) (by omega);obtain ⟨R,e3,a3,b3⟩:=num_tot (b:=r2) (u64_of y).1 (u64_of y).2 (by omega);obtain ⟨X,V,a4,b4⟩:=dot_tot (b:=R) P (by omega);obtain ⟨Z,Q,a5,b5⟩:=text_tot (b:=X) (s:=l.text) (by omega);obtain ⟨F,N,a6,b6⟩:=wi (b:=Z) (n:=((l.items).length:Int)) (by omega);obtain ⟨O,J,a7,b7⟩:=acc_tot (K:=2147480000) (ρ:=List UInt8) (f:=λ(n1:Nat) (g:GH) (s1:(List UInt8))=>(((xl s1 g.time).bind λv25=>((xg v25 g.dot).bind λw=>((w9 w g.text).bind λp=>some (.nxt p)))):Option (Out _ (List UInt8))))
  (λx:GH=>50+x.text.length) l.items 0 F (λi x s o hs=>by
   obtain ⟨g,h,x3⟩:=M.2 x o;obtain ⟨Y,f1,c1,d1⟩:=num_tot (b:=s) (u64_of g).1 (u64_of g).2 (by omega);obtain ⟨v,H,c2,z⟩:=dot_tot (b:=Y) h (by omega);obtain ⟨G,f3,c3,d3⟩:=text_tot (b:=v) (s:=x.text) (by omega);exact ⟨G,by simp_all,by omega,by omega⟩) (by omega)
 obtain ⟨r8,e8,a8,b8⟩:=wi (b:=O) (n:=((l.tombs).length:Int)) (by omega);obtain ⟨r9,S,a9,b9⟩:=acc_tot (K:=2147480000) (ρ:=List UInt8) (f:=λ(n2:Nat) (h:GF) (s2:(List UInt8))=>(((xg s2 h).bind λv45=>some (.nxt v45)):Option (Out _ (List UInt8))))
  (λ_:GF=>30) l.tombs 0 r8 (λi x s o hs=>by
   obtain ⟨v,H,c2,z⟩:=dot_tot (b:=s) (C.2 x o) (by omega);exact ⟨v,by simp_all,by omega,by omega⟩) (by omega)
 simp only [I,T,e3,V,Q,N,ua];rw [J,yJ,e8,ua,S,yJ];exact ⟨_,rfl,by omega,by omega⟩
theorem acc_totP {ι α ρ:Type} {p:ι->Prop} {F:ι->Nat->α->List UInt8->Option (Out ρ (List UInt8))} {K:Nat} (c:α->Nat):∀(L:List α) (i:Nat) (b:List UInt8),(∀i x s,x ∈ L->s.length+c x<=K->∃r,(∀n,p n->F n i x s=some (.nxt r))/\s.length<=r.length/\r.length<=s.length+c x) ->
  b.length+(L.map c).sum<=K->∃r,(∀n,p n->zq (F n) L i b=some (.inr r))/\b.length<=r.length/\r.length<=b.length+(L.map c).sum
 | [],_,b,_,_=>⟨b,λ_ _=>rfl,ug _,by simp⟩
 | x::t,i,b,h,hb=>by
  simp only [ux,tX] at hb ⊢;obtain ⟨r,e,z,v⟩:=h i x b (by simp) (by omega);obtain ⟨q,g,C,w⟩:=acc_totP c t (i+1) r (λi y s o=>h i y s (by simp [o])) (by omega);exact ⟨q,λn f=>by simp only [zq,e n f,g n f],by omega,by omega⟩
theorem put_tot:∀(d:Nat) (t:List GA) (b:List UInt8),GA.deps t < d->Small t->b.length+10+10 * GA.bks t<=2147480000->∃r,(∀n,d<=n->wU n b t=some r)/\b.length+1<=r.length/\r.length<=b.length+10+10 * GA.bks t
 | 0,_,_,h,_,_=>by omega
 | d+1,t,b,h,hs,hb=>by
  obtain ⟨M,Z,a1,b1⟩:=wi (b:=b) (n:=((t).length:Int)) (by omega);have H:(t.map λx=>10 * GA.bk x).sum<=10 * GA.bks t:=by rw [GA.bks_eq];exact sum_mul (λ_=>ug _) t
  obtain ⟨X,S,a2,b2⟩:=acc_totP (K:=2147480000) (ρ:=List UInt8) (p:=λn=>d<=n) (F:=λn (n1:Nat) (v:GA) (s1:(List UInt8))=>(((w9 s1 v.name).bind λv23=>((xl v23 (IntKind.wrap .u64 (((v.leaves).length:Int)))).bind λv25=>(lp (zq (λ(n2:Nat) (z:GC) (s2:(List UInt8))=>(((wu s2 z).bind λg=>some (.nxt g)):Option (Out _ (List UInt8)))) v.leaves 0 v25) λ(s2:(List UInt8))=>((wU n s2 v.subs).bind λG=>some (.nxt G))))):Option (Out _ (List UInt8))))
   (λx=>10 * GA.bk x) t 0 M (λi x s C O=>by
    have hbn:=bk_node x;have T:=qf C;have J:=xX x;have o:=(GA.wfs_iff t).1 hs.1 x C;have w:∀l ∈ x.leaves,GC.wf l:=by
     cases x;simp only [GA.wf] at o;exact o.2.1.2
    have hL:(x.leaves.map λl=>10 * GC.bk l).sum<=10 * (x.leaves.map GC.bk).sum:=sum_mul (λ_=>ug _) _;obtain ⟨Q,P,c1,d1⟩:=text_tot (b:=s) (s:=x.name) (by omega);obtain ⟨q2,Y,c2,d2⟩:=wi (b:=Q) (n:=((x.leaves).length:Int)) (by omega);obtain ⟨R,f3,c3,d3⟩:=acc_tot (K:=2147480000) (ρ:=Out (List UInt8) (List UInt8)) (f:=λ(n2:Nat) (z:GC) (s2:(List UInt8))=>(((wu s2 z).bind λg=>some (.nxt g)):Option (Out _ (List UInt8))))
     (λl=>10 * GC.bk l) x.leaves 0 q2 (λj l s W y=>by
      obtain ⟨q,U,N,g3⟩:=leafS_tot (b:=s) (w l W) y;exact ⟨q,by rw [U,ua],N,g3⟩) (by omega)
    obtain ⟨V,f4,c4,d4⟩:=put_tot d x.subs R (by omega) (hs.subs C) (by omega);refine ⟨V,λn I=>?_,by omega,by omega⟩;simp only [P,Y,ua];rw [f3,yJ,f4 n I,ua]) (by omega)
  refine ⟨X,λn I=>?_,by omega,by omega⟩;obtain ⟨m,rfl⟩:∃m,n=m+1:=⟨n - 1,by omega⟩
  unfold wU;rw [Z,ua,S m (by omega),yJ]
theorem statePut_tot (hs:Small t):∃r,statePut [] t=some r/\1<=r.length/\r.length<=10+10 * GA.bks t:=by
 have f:=hs.2;obtain ⟨r,e,h,g⟩:=put_tot (GA.deps t+1) t [] (by omega) hs (by simp;omega);exact ⟨r,qg _ e,by omega,by omega⟩
end
section
def itS (L:List GE):Nat:=(L.map λr=>r.leaf.items.length).sum
def toS (L:List GE):Nat:=(L.map λr=>r.leaf.tombs.length).sum
theorem use_loop {ρ:Type}:∀(L:List GE) (i a b c:Nat),a+L.length<=4611686018427387904->b+itS L<=4611686018427387904->c+toS L<=4611686018427387904 ->
  zq (λ(v:Nat) (f:GE) (s1:Int×Int×Int)=>(some (.nxt ((IntKind.wrap .i64 (s1.1+(1:Int))),(IntKind.wrap .i64 (s1.2.1+((f.leaf.items).length:Int))),(IntKind.wrap .i64 (s1.2.2+((f.leaf.tombs).length:Int))))):Option (Out ρ (Int×Int×Int)))) L i ((a:Int),(b:Int),(c:Int))=some (.inr (((a+L.length:Nat):Int),((b+itS L:Nat):Int),((c+toS L:Nat):Int)))
 | [],_,a,b,c,_,_,_=>by rfl
 | r::L,i,a,b,c,h1,h2,h3=>by
  have o:itS (r::L)=r.leaf.items.length+itS L:=by simp [itS]
  have p:toS (r::L)=r.leaf.tombs.length+toS L:=by simp [toS]
  rw [o] at h2 ⊢;rw [p] at h3 ⊢;simp only [un] at h1 ⊢;simp only [zq];have g:IntKind.wrap .i64 ((a:Int)+1)=((a+1:Nat):Int):=by rw [yY (by omega)];omega
  have s:IntKind.wrap .i64 ((b:Int)+((r.leaf.items.length:Nat):Int))=((b+r.leaf.items.length:Nat):Int):=by rw [yY (by omega)];omega
  have h:IntKind.wrap .i64 ((c:Int)+((r.leaf.tombs.length:Nat):Int))=((c+r.leaf.tombs.length:Nat):Int):=by rw [yY (by omega)];omega
  rw [g,s,h];rw [use_loop L (i+1) (a+1) (b+r.leaf.items.length) (c+r.leaf.tombs.length) (by omega) (by omega) (by omega)]
  grind
theorem rows_bk_le:∀(L:List GE),itS L+toS L<=(L.map λr=>r.leaf.bk).sum
 | []=>by simp [itS,toS]
 | r::L=>by
  have h:=rows_bk_le L;have o:=leaf_lens r.leaf;have g:r.leaf.items.length+r.leaf.tombs.length<=r.leaf.bk:=by
   have o:=sum_len (f:=GH.bk) (λx=>by simp only [GH.bk];omega) r.leaf.items;have g:=dots_bk r.leaf.tombs;simp only [GC.bk];omega
  simp only [itS,toS,ux,tX] at *;omega
theorem rows_lbk:∀(n:Nat) (t:List GA) (a:List zx),GA.deps t<=n->((zu a t).map λr=>r.leaf.bk).sum<=GA.bks t:=by
 intro n
 induction n with
 | zero =>
  intro t a h;cases t with
  | nil=>simp [zu,GA.bks]
  | cons x r=>have:=qf (x:=x) (t:=x::r) (by simp);have:=xX x;omega
 | succ n ih =>
  intro t
  induction t with
  | nil=>intro a h;simp [zu,GA.bks]
  | cons x r ih2 =>
   intro a h;have s:=qf (x:=x) (t:=x::r) (by simp);have o:=xX x;have f:=ih2 a (by simp only [GA.deps] at h;omega);have p:=ih x.subs (a++[x.name]) (by omega);have v:=bk_node x;rw [yu] at f ⊢;simp only [tU,sB,List.sum_append,xz,rh,GA.bks];have g:(x.leaves.map ((λr:GE=>r.leaf.bk) ∘ λl=>GE.mk (a++[x.name]) l)).sum=(x.leaves.map GC.bk).sum:=rfl;omega
structure UseOf (name:zx) (t:List GA) (u:GI):Prop where
 eq:wq name t=some u
 name:u.name=name
 v:u.leaves=((zu [] t).length:Int)/\u.items=(itS (zu [] t):Int)/\u.tombs=(toS (zu [] t):Int)
 l:0<=u.leaves/\u.leaves<=1073741824
 i:0<=u.items/\u.items<=1073741824
 t:0<=u.tombs/\u.tombs<=1073741824
 b:1<=u.bytes/\u.bytes<=1073741824
theorem use_is (name:zx) {t:List GA} (hs:Small t) (f:treeB 0 t=true):∃u,UseOf name t u:=by
 have h:=hs.2;obtain ⟨r,e,v,o⟩:=statePut_tot hs;have s:=rows_bk_le (zu [] t);have g:=rows_lbk (GA.deps t) t [] (ug _);have p:=rows_len (GA.deps t) t [] (ug _);refine ⟨⟨name,((zu [] t).length:Int),(itS (zu [] t):Int),(toS (zu [] t):Int),(r.length:Int)⟩,?_,rfl,⟨rfl,rfl,rfl⟩,by grind,by grind,by grind,by grind⟩;unfold wq;rw [e,ua,pathsRows_is hs,ua,ur f];have:=use_loop (ρ:=GI) (zu [] t) 0 0 0 0 (by omega) (by omega) (by omega)
 simp_all
theorem idxQ_is {f:GI->Option Bool} {q:GI->Bool} (s:∀x,f x=some (q x)):∀(L:List GI) (k:Nat),
  (zq (λ(g:Nat) (o:GI) (s1:Unit)=>(((f o).bind λp=>(if p=true then some (.ret (g:Int)) else some (.nxt ()))):Option (Out Int Unit))) L k ()=some (.inr ())/\L.any q=false) \/
  ∃j,∃h:j < L.length,q L[j]=true/\zq (λ(g:Nat) (o:GI) (s1:Unit)=>(((f o).bind λp=>(if p=true then some (.ret (g:Int)) else some (.nxt ()))):Option (Out Int Unit))) L k ()=some (.inl ((k+j:Nat):Int))/\L.any q=true
 | [],_=>.inl ⟨rfl,rfl⟩
 | x::t,k=>by
  simp only [zq,s x,ua];cases hq:q x with
  | true=>exact .inr ⟨0,by simp,by simp_all,by simp,by simp [hq]⟩
  | false =>
   simp only [uh,uz];rcases idxQ_is s t (k+1) with ⟨h,v⟩ | ⟨j,y,z,v,w⟩
   ·simp_all
   ·exact .inr ⟨j+1,by simp;omega,by simp_all,by grind,by simp [w]⟩
theorem indexQ_is {f:GI->Option Bool} {q:GI->Bool} (o:∀x,f x=some (q x)) (L:List GI):(zZ L f=some (-1)/\L.any q=false) \/ ∃j,∃h:j < L.length,q L[j]=true/\zZ L f=some (j:Int)/\L.any q=true:=by
 unfold zZ;rcases idxQ_is o L 0 with ⟨h,g⟩ | ⟨j,p,s,g,v⟩
 ·simp_all
 ·rw [g];exact .inr ⟨j,p,s,by simp,v⟩
theorem containsQ_is {f:GI->Option Bool} {q:GI->Bool} (g:∀x,f x=some (q x)) (L:List GI):xy L f=some (L.any q):=by
 unfold xy;rcases indexQ_is g L with ⟨h,o⟩ | ⟨j,p,s,o,v⟩
 ·simp_all
 ·simp_all
def leastQ (x:GI):Int:=(if x.bytes < (if x.tombs < (if x.items < x.leaves then x.items else x.leaves) then x.tombs else (if x.items < x.leaves then x.items else x.leaves)) then x.bytes else (if x.tombs < (if x.items < x.leaves then x.items else x.leaves) then x.tombs else (if x.items < x.leaves then x.items else x.leaves)))
def mayQ1 (L:List GI) (i:Nat) (x:GI):Bool:=!(((L.take i).any λy=>y.name==x.name) || (!(x.name==([]:zx))&&!nameB x.name) || decide (leastQ x < 0))
def mayQ (L:List GI):Bool:=allI (mayQ1 L) L
theorem meterMay_is (L:List GI):meterMay L=some (mayQ L):=by
 unfold meterMay;rw [qi (mayQ1 L) (r:=false)]
 ·unfold mayQ;split <;> simp_all
 ·intro i x o;have hi:i < L.length:=(uc.1 o).1;have e:slc L 0 (i:Int)=some (L.take i):=by rw [vI ⟨by omega,by omega,by omega⟩];simp
  rw [e,ua,containsQ_is (f:=λh=>meterMayC1 h x) (q:=λy=>y.name==x.name) (λy=>rfl),ua,opIsName_is];unfold mayQ1;show ((if _ then _ else _:Option Bool).bind λg=>if (_ || (_&&(!g)) || decide (leastQ x < 0))=true then _ else _)=_;generalize ((L.take i).any λy=>y.name==x.name)=A
  grind
theorem mayQ_pos (h:mayQ L=true) {x:GI} (o:x ∈ L):0<=x.leaves/\0<=x.items/\0<=x.tombs/\0<=x.bytes:=by
 obtain ⟨i,hi⟩:=uZ.1 o;have f:=allI_iff.1 h i x hi;unfold mayQ1 at f;simp only [tT,sy,tI] at f;have g:=f.2;unfold leastQ at g;omega
theorem quota_is (L:List GI) (name:zx):∃q b,wn L name=some (q,b)/\(b=true->q ∈ L):=by
 unfold wn;rw [zk (by decide)];have e:List.range (((2:Int)).toNat)=[0,1]:=rfl;rw [e];have key:∀s:zx,(∃j,∃h:j < L.length,zZ L (λg=>xC g s)=some (j:Int)) \/ zZ L (λg=>xC g s)=some (-1):=λs=>by
  rcases indexQ_is (f:=λg=>xC g s) (q:=λx=>x.name==s) (λx=>rfl) L with ⟨h,_⟩ | ⟨j,o,_,p,_⟩
  ·simp_all
  ·grind
 simp only [zq,up];rcases key name with ⟨j,o,h⟩ | h
 ·rw [h,ua];simp only [show ((j:Int) >= 0) from by omega,sG,up];rw [wP o,ua]
  simp_all
 ·rw [h,ua];simp only [show ¬ ((-1:Int) >= 0) from by omega,sF,uh,uz,uT,sM];rcases key [] with ⟨j,o,h⟩ | h
  ·rw [h,ua];simp only [show ((j:Int) >= 0) from by omega,sG,up];rw [wP o,ua]
   simp_all
  ·simp_all
def ovr (u q:Int):Int:=if u - q > 0 then u - q else 0
theorem ovr_is {u:Int} (h:0<=u) (f:u<=1073741824) (o:0<=q) (g:q<=9223372036854775807):(if (IntKind.wrap .i64 (u - q)) > (0:Int) then (IntKind.wrap .i64 (u - q)) else (0:Int))=ovr u q:=by
 have e:IntKind.wrap .i64 (u - q)=u - q:=by rw [IntKind.wrap_i64];omega
 rw [e];rfl
structure UseB (u:GI):Prop where
 l:0<=u.leaves/\u.leaves<=1073741824
 i:0<=u.items/\u.items<=1073741824
 t:0<=u.tombs/\u.tombs<=1073741824
 b:0<=u.bytes/\u.bytes<=1073741824
theorem UseOf.ub {name:zx} {u:GI} (h:UseOf name t u):UseB u:=⟨h.l,h.i,h.t,by have:=h.b;omega,h.b.2⟩
theorem over_is (s:mayQ L=true) (C:∀q ∈ L,GI.wf q) (name:zx):∃(q:GI) (b:Bool),(b=true->0<=q.leaves/\0<=q.items/\0<=q.tombs/\0<=q.bytes)/\∀u:GI,u.name=name->UseB u ->
  wd L u=some (if b=true then (ovr u.leaves q.leaves,ovr u.items q.items,ovr u.tombs q.tombs,ovr u.bytes q.bytes) else (0,0,0,0)):=by
 obtain ⟨q,b,z,p⟩:=quota_is L name;refine ⟨q,b,λh=>mayQ_pos s (p h),λu F f=>?_⟩;unfold wd;rw [F,z,ua];cases b with
 | false=>rfl
 | true =>
  have o:=mayQ_pos s (p rfl);obtain ⟨w0,w,G,y,v⟩:=C q (p rfl);have g:∀n,InK .i64 n->n<=9223372036854775807:=λn h=>by unfold InK at h;simp [IntKind.min,IntKind.max,IntKind.signed,IntKind.bits] at h;omega
  simp only [tg,uh,uz,up,xT,ua];rw [zk (by decide)];have e:List.range (((4:Int)).toNat)=[0,1,2,3]:=rfl;rw [e];simp only [zq,up,uT,sM,uz,Nat.reduceAdd,show (2:Nat) ≠ 0 from by omega,show (2:Nat) ≠ 1 from by omega,show (3:Nat) ≠ 0 from by omega,show (3:Nat) ≠ 1 from by omega,show (3:Nat) ≠ 2 from by omega,yJ];rw [ovr_is f.l.1 f.l.2 o.1 (g _ w),ovr_is f.i.1 f.i.2 o.2.1 (g _ G),ovr_is f.t.1 f.t.2 o.2.2.1 (g _ y),ovr_is f.b.1 f.b.2 o.2.2.2 (g _ v)]
end
section
theorem sing_may (g:treeB 0 t=true) {x:GA} (h:x ∈ t):treeB 0 [x]=true :=
 treeB_of (by omega) ((qW _).2 (by simp)) λy f=>by rw [uM.1 f];exact (zN g).2 x h
theorem sing_small (hs:Small t) {x:GA} (f:x ∈ t):Small [x] :=
 ⟨(GA.wfs_iff _).2 λy g=>by rw [uM.1 g];exact (GA.wfs_iff t).1 hs.1 x f,by have:=bk_mem f;have:=hs.2;simp only [GA.bks];omega⟩
noncomputable def qV (x:GA):GI:=(wq x.name [x]).getD default
theorem useU_is (hs:Small t) (g:treeB 0 t=true) {x:GA} (f:x ∈ t):UseOf x.name [x] (qV x):=by
 obtain ⟨u,h⟩:=use_is x.name (sing_small hs f) (sing_may g f);have:qV x=u:=by unfold qV;rw [h.eq];rfl
 simp_all
theorem slc_one {L:List GA} (h:A.length+1<=maxLen):slc (A++x::L) (A.length:Int) (IntKind.wrap .i64 ((A.length:Int)+(1:Int)))=some [x]:=by
 rw [wrap_add1 h,vI ⟨by omega,by omega,by simp;omega⟩];simp only [uw,uj]
 grind
theorem uses_loop {t:List GA} (hs:Small t) (p:treeB 0 t=true):∀(L A:List GA) (s:List GI),t=A++L->s.length+L.length<=33554432 ->
  zq (λ(o:Nat) (v:GA) (s1:(List GI))=>(((slc t (o:Int) (IntKind.wrap .i64 ((o:Int)+(1:Int)))).bind λg=>((wq v.name g).bind λf=>(yg ((s1).length+(([f]:List GI)).length<=yM) (some (.nxt (s1++([f]:List GI))))))):Option (Out (List GI×Int) (List GI)))) L A.length s=some (.inr (s++L.map qV))
 | [],A,s,_,_=>by simp [zq]
 | x::r,A,s,h,hl=>by
  simp only [un] at hl;have y:x ∈ t:=by rw [h];simp
  have w:A.length+1<=maxLen:=by
   have:=hs.len;rw [h] at this;simp only [uo,un] at this;exact uB (uB (by omega) this) (by decide)
  simp only [zq];have e:slc t (A.length:Int) (IntKind.wrap .i64 ((A.length:Int)+(1:Int)))=some [x]:=by rw [h];exact slc_one w
  rw [e,ua,(useU_is hs p y).eq,ua,zk (by simp [yM];omega)];simp only [];have:=uses_loop hs p r (A++[x]) (s++[qV x]) (by rw [h];simp) (by simp;omega)
  simp_all
theorem uses_is (hs:Small t) (f:treeB 0 t=true):wY t=some (t.map qV,0):=by
 unfold wY;rw [qx hs,f,ua];simp only [tg,uh,uz];have:=uses_loop hs f t [] [] rfl (by have:=hs.len;simp;omega)
 simp_all
theorem of_loop {t:List GA} (hs:Small t) (s:treeB 0 t=true) (name:zx):∀(L A:List GA),t=A++L ->
  (∃x ∈ L,x.name=name/\zq (λ(o:Nat) (p:GA) (s1:Unit)=>((if (p.name==name)=true then ((slc t (o:Int) (IntKind.wrap .i64 ((o:Int)+(1:Int)))).bind λf=>((wq name f).bind λg=>some (.ret g))) else some (.nxt ())):Option (Out GI Unit))) L A.length ()=some (.inl (qV x))) \/
  ((∀x ∈ L,x.name ≠ name)/\zq (λ(o:Nat) (p:GA) (s1:Unit)=>((if (p.name==name)=true then ((slc t (o:Int) (IntKind.wrap .i64 ((o:Int)+(1:Int)))).bind λf=>((wq name f).bind λg=>some (.ret g))) else some (.nxt ())):Option (Out GI Unit))) L A.length ()=some (.inr ()))
 | [],A,_=>.inr ⟨by simp,rfl⟩
 | x::r,A,h=>by
  have w:x ∈ t:=by rw [h];simp
  have v:A.length+1<=maxLen:=by
   have:=hs.len;rw [h] at this;simp only [uo,un] at this;exact uB (uB (by omega) this) (by decide)
  simp only [zq];by_cases hn:x.name=name
  ·left;refine ⟨x,by simp,hn,?_⟩;have e:slc t (A.length:Int) (IntKind.wrap .i64 ((A.length:Int)+(1:Int)))=some [x]:=by rw [h];exact slc_one v
   have y:=(useU_is hs s w).eq
   simp_all
  ·have e:(x.name==name)=false:=by simpa using hn
   rw [e];simp only [uh,uz];have:=of_loop hs s name r (A++[x]) (by rw [h];simp)
   simp_all
theorem of_is (hs:Small t) (h:treeB 0 t=true) (name:zx):(∃x ∈ t,x.name=name/\vO t name=some (qV x)) \/ ((∀x ∈ t,x.name ≠ name)/\vO t name=some (GI.mk name 0 0 0 0)):=by
 unfold vO;have:=of_loop hs h name t [] rfl;simp only [uN] at this;rcases this with ⟨x,g,f,o⟩ | ⟨g,f⟩
 ·exact .inl ⟨x,g,f,by rw [o];rfl⟩
 ·simp_all
noncomputable def overB (L:List GI) (u:GI):Bool:=wd L u != some (0,0,0,0)
theorem meterOver_is (p:mayQ L=true) (w:∀q ∈ L,GI.wf q) {t:List GA} (hs:Small t) (f:treeB 0 t=true):meterOver L t=some ((t.map qV).filter (overB L),0):=by
 unfold meterOver;rw [uses_is hs f,ua,meterMay_is,p];simp only [s8,uX,up,ua,tg,pC,uh,uz];rw [qc (overB L) (λu=>u) _ 0 [] (by have:=hs.len;simp [yM];omega)]
 ·simp
 ·intro i u s y v;obtain ⟨x,g,rfl⟩:=sd.1 y;obtain ⟨q,b,_,h⟩:=over_is p w x.name;have h:=h (qV x) (useU_is hs f g).name (useU_is hs f g).ub;unfold overB;rw [h,ua];generalize (if b=true then (ovr (qV x).leaves q.leaves,ovr (qV x).items q.items,ovr (qV x).tombs q.tombs,ovr (qV x).bytes q.bytes) else ((0:Int),(0:Int),(0:Int),(0:Int)))=o;obtain ⟨a,b,c,d⟩:=o;have e:(some (a,b,c,d) != some ((0:Int),(0:Int),(0:Int),(0:Int)))=(!(a==(0:Int)&&(b==(0:Int)&&(c==(0:Int)&&(d==(0:Int)&&true))))):=by
   grind
  rw [e];simp only [];rw [zk (by omega)]
theorem up_uniq (h:upB t=true) {x y:GA} (s:x ∈ t) (p:y ∈ t) (e:x.name=y.name):x=y:=by
 have g:=(qW t).1 h;obtain ⟨i,hi,rfl⟩:=List.mem_iff_getElem.1 s;obtain ⟨j,o,rfl⟩:=List.mem_iff_getElem.1 p;rw [tj] at g;rcases Nat.lt_trichotomy i j with f | f | f
 ·have:=g i j hi o f;rw [e,less_irr] at this;cases this
 ·simp_all
 ·have:=g j i o hi f;rw [e,less_irr] at this;cases this
theorem mem_rows {r:GE}:r ∈ zu [] t ↔ ∃x ∈ t,r ∈ ve [] x:=by rw [yu,List.mem_flatMap]
end
section
def lfM:GC:=GC.mk (3:Int) (0:Int) (0:Int) (GF.mk (GK.mk (0:Int) (0:Int)) (0:Int)) ([]:zx) ([(GH.mk (0:Int) (GF.mk (GK.mk (0:Int) (1:Int)) (2:Int)) ([]:zx)),(GH.mk (0:Int) (GF.mk (GK.mk (0:Int) (1:Int)) (3:Int)) ([]:zx))]:List GH) ([(GF.mk (GK.mk (0:Int) (1:Int)) (1:Int))]:List GF)
def tabM:List GA:=[⟨[97],[],[⟨[98],[lfM],[]⟩]⟩]
theorem ikM {k:IntKind} (h:(decide (k.min<=n)&&decide (n<=k.max))=true):InK k n:=by
 simp only [ud,ul] at h;exact h
theorem tabM_tree:treeB 0 tabM=true:=by
 rfl
theorem lfM_wf:GC.wf lfM:=⟨ikM rfl,ikM rfl,ikM rfl,⟨⟨ikM rfl,ikM rfl⟩,ikM rfl⟩,tu _,⟨by decide,λy f=>by
 simp only [lfM,uP,List.not_mem_nil,or_false] at f;rcases f with rfl | rfl <;> exact ⟨ikM rfl,⟨⟨ikM rfl,ikM rfl⟩,ikM rfl⟩,tu _⟩⟩,⟨by decide,λy f=>by
 simp only [lfM,uP,List.not_mem_nil,or_false] at f;subst f;exact ⟨⟨ikM rfl,ikM rfl⟩,ikM rfl⟩⟩⟩
theorem tabM_small:Small tabM:=by
 have m1:1<=maxLen:=by decide
 have g:GA.bks tabM<=16777216:=by decide
 refine ⟨?_,g⟩;simp only [tabM,GA.wfs,GA.wf];refine ⟨⟨m1,⟨tu _,λy f=>by cases f⟩,⟨m1,⟨m1,λy f=>?_⟩,trivial⟩,trivial⟩,trivial⟩;rw [uM.1 f];exact lfM_wf
theorem known45:qQ=some true:=by
 unfold qQ;simp only [vC,ua];have o:=uses_is tabM_small tabM_tree;have h:=useU_is tabM_small tabM_tree (x:=⟨[97],[],[⟨[98],[lfM],[]⟩]⟩) (by simp [tabM]);have e:tabM.map qV=[qV ⟨[97],[],[⟨[98],[lfM],[]⟩]⟩]:=rfl;rw [e] at o;have g:=h.v;have C:zu [] [(⟨[97],[],[⟨[98],[lfM],[]⟩]⟩:GA)]=[⟨[[97],[98]],lfM⟩]:=by rfl
 rw [C] at g;have p:=h.name;have z:=h.b;generalize qV ⟨[97],[],[⟨[98],[lfM],[]⟩]⟩=w at o g p z;have f:wY ([(GA.mk ([97]:zx) ([]:List GC) ([(GA.mk ([98]:zx) ([lfM]:List GC) ([]:List GA))]:List GA))]:List GA)=some ([w],0):=o;unfold lfM at f;rw [f,ua];obtain ⟨n,a,b,c,d⟩:=w;simp only [itS,toS,lfM,ux,tB,tX,List.sum_nil,un,uN] at g p z;obtain ⟨y,s,v3⟩:=g;subst p;have y:a=1:=by omega
 have s:b=2:=by omega
 have v3:c=1:=by omega
 subst y s v3;simp [yg];omega
theorem great45_tot (h:Small t) (o:GM):∃b,law45Xgreat L t o=some b:=by
 unfold law45Xgreat
 obtain ⟨b,f⟩:=ref07Great_tot h;rw [lp_all0 (λx=>!decide (((x.name).length:Int) > (40:Int))) (r:=true)]
 ·grind
 ·grind
theorem fits_is (y:mayQ L=true) {t u:List GA} (hs:Small t) (h:treeB 0 t=true) {e:GJ} (z:wZ e=true) (C:treeApply t e=some (u,0)) {f:zx} {w:List zx} (s:e.op.path=f::w) {a b:GI} (p:vO t f=some a) (g:vO u f=some b)
  {o:Int×Int×Int×Int} (v:wd L b=some o) :
  meterFits L t e=some (!((decide (o.1 > 0)&&decide (b.leaves > a.leaves)) || (decide (o.2.1 > 0)&&decide (b.items > a.items)) || (decide (o.2.2.1 > 0)&&decide (b.tombs > a.tombs)) || (decide (o.2.2.2 > 0)&&decide (b.bytes > a.bytes))),0):=by
 unfold meterFits;rw [meterMay_is,y,qx hs,h,opMayEvent_is,z];simp only [ua,tg,uX,up,pC,uh,uz];rw [C,ua];have hi:yw e.op.path (0:Int)=some f:=by rw [s];rfl
 rw [hi,ua,p,ua];simp only [xT,ua];rw [g];simp only [ua];rw [v];simp only [ua];rw [zk (by decide)];have F:List.range (((4:Int)).toNat)=[0,1,2,3]:=rfl;rw [F];simp only [zq,up,uT,sM,uz,Nat.reduceAdd,show (2:Nat) ≠ 0 from by omega,show (2:Nat) ≠ 1 from by omega,show (3:Nat) ≠ 0 from by omega,show (3:Nat) ≠ 1 from by omega,show (3:Nat) ≠ 2 from by omega];generalize (decide (o.1 > 0)&&decide (b.leaves > a.leaves))=c1;generalize (decide (o.2.1 > 0)&&decide (b.items > a.items))=c2;generalize (decide (o.2.2.1 > 0)&&decide (b.tombs > a.tombs))=c3;generalize (decide (o.2.2.2 > 0)&&decide (b.bytes > a.bytes))=c4;cases c1 <;> cases c2 <;> cases c3 <;> cases c4 <;> rfl
end
section
set_option maxRecDepth 100000 in
theorem u8_low:IntKind.wrap .u8 (((BitVec.ofInt (IntKind.bits .u8) (IntKind.wrap .u8 n) ||| BitVec.ofInt (IntKind.bits .u8) (128:Int)).toNat:Int))=n % 128+128:=by
 have key:∀a:Fin 256,((BitVec.ofInt 8 (a.val:Int) ||| BitVec.ofInt 8 (128:Int)).toNat:Int)=(a.val:Int) % 128+128:=by decide
 have h:=u8_range n;have f:(IntKind.wrap .u8 n) % 128=n % 128:=by rw [IntKind.wrap_u8];omega
 have:=key ⟨(IntKind.wrap .u8 n).toNat,by omega⟩;simp only [Int.toNat_of_nonneg h.1] at this;rw [show IntKind.bits .u8=8 from rfl,this,f,IntKind.wrap_u8];omega
theorem num_eq:∀(d:Nat) (n:Int) (b r:List UInt8),0<=n->n < 18446744073709551616->n.toNat < d->xl b n=some r->∀rest,lp (ye (λ(s1:Int×(List UInt8))=>((if ((IntKind.wrap .u64 (Int.tdiv s1.1 (128:Int)))==(0:Int))=true then (yg (0<=(IntKind.wrap .u8 (Int.tmod s1.1 (128:Int)))/\(IntKind.wrap .u8 (Int.tmod s1.1 (128:Int))) < 256) ((yg ((s1.2).length+(([(UInt8.ofNat (IntKind.wrap .u8 (Int.tmod s1.1 (128:Int))).toNat)]:List UInt8)).length<=yM) (some (.ret (s1.2++([(UInt8.ofNat (IntKind.wrap .u8 (Int.tmod s1.1 (128:Int))).toNat)]:List UInt8))))))) else (yg (0<=(IntKind.wrap .u8 ((IntKind.wrap .u8 (Int.tmod s1.1 (128:Int)))+(128:Int)))/\(IntKind.wrap .u8 ((IntKind.wrap .u8 (Int.tmod s1.1 (128:Int)))+(128:Int))) < 256) ((yg ((s1.2).length+(([(UInt8.ofNat (IntKind.wrap .u8 ((IntKind.wrap .u8 (Int.tmod s1.1 (128:Int)))+(128:Int))).toNat)]:List UInt8)).length<=yM) (some (.nxt ((IntKind.wrap .u64 (Int.tdiv s1.1 (128:Int))),(s1.2++([(UInt8.ofNat (IntKind.wrap .u8 ((IntKind.wrap .u8 (Int.tmod s1.1 (128:Int)))+(128:Int))).toNat)]:List UInt8))))))))):Option (Out (List UInt8) (Int×(List UInt8))))) (n,b)) rest=some r:=by
 intro d
 induction d with
 | zero=>intro n b r h0 y s;omega
 | succ d ih =>
  intro n b r h0 y s h rest;unfold xl at h;rw [xA] at h ⊢;dsimp only at h ⊢;have o:Int.tdiv n 128=n / 128:=Int.tdiv_eq_ediv_of_nonneg h0;have C:Int.tmod n 128=n % 128:=Int.tmod_eq_emod_of_nonneg h0;have p:IntKind.wrap .u64 (n / 128)=n / 128:=by rw [IntKind.wrap_u64];omega
  have w:IntKind.wrap .u8 (n % 128)=n % 128:=by rw [IntKind.wrap_u8];omega
  have g:IntKind.wrap .u8 (n % 128+128)=n % 128+128:=by rw [IntKind.wrap_u8];omega
  have v:(Int.fdiv n (2 ^ (min (7:Int).toNat (IntKind.bits .u64))))=n / 128:=by
   have:(2:Int) ^ (min (7:Int).toNat (IntKind.bits .u64))=128:=by decide
   grind
  rw [u8_low,v] at h;simp only [o,C,p,w,g];by_cases hn:n > 127
  ·rw [ur (uA hn),zk (by omega)] at h;rw [uu (by simp;omega),zk (by omega)];by_cases f:b.length+([UInt8.ofNat (n % 128+128).toNat]:List UInt8).length<=yM
   ·rw [zk f] at h ⊢;exact ih (n / 128) _ r (by omega) (by omega) (by omega) (by unfold xl;exact h) rest
   ·unfold yg at h;rw [uu f] at h;cases h
  ·rw [uu (by simp [hn])] at h;rw [ur (by simp;omega),zk (by omega)];have z:IntKind.wrap .u8 n=n % 128:=by grind
   simp only [yJ,z] at h;rw [zk (by omega)] at h;refine zW h (λf h=>?_);rw [zk f]
   simp_all
theorem num2 {b:List UInt8} (h0:0<=n) (f:n < 18446744073709551616) (h:xl b n=some r) (g:b.length<=2147483000):yV b n=some r:=by
 unfold yV;rw [zk (by simp [yM];omega),uY];exact num_eq _ n b r h0 f (sm _) h _
theorem numw2 {b:List UInt8} (h:xl b (IntKind.wrap .u64 n)=some r) (f:b.length<=2147483000):yV b (IntKind.wrap .u64 n)=some r:=num2 (u64_range n).1 (u64_range n).2 h f
theorem zig (h0:-9223372036854775808<=n) (v:n<=9223372036854775807):IntKind.wrap .u64 (((BitVec.ofInt (IntKind.bits .u64) (IntKind.wrap .u64 ((IntKind.wrap .u64 (n)) * 2 ^ (min (1:Int).toNat (IntKind.bits .u64)))) ^^^ BitVec.ofInt (IntKind.bits .u64) (IntKind.wrap .u64 ((Int.fdiv n (2 ^ (min (63:Int).toNat (IntKind.bits .i64))))))).toNat:Int))=if 0<=n then 2 * n else -2 * n - 1:=by
 have p:(2:Int) ^ (min (1:Int).toNat (IntKind.bits .u64))=2:=by decide
 have s:(2:Int) ^ (min (63:Int).toNat (IntKind.bits .i64))=9223372036854775808:=by decide
 rw [p,s,rf _ (by omega),show IntKind.bits .u64=64 from rfl];by_cases h:0<=n
 ·rw [ur h,show n / 9223372036854775808=0 by omega];have g:IntKind.wrap .u64 (0:Int)=0:=rfl;have o:IntKind.wrap .u64 n=n:=by rw [IntKind.wrap_u64];omega
  have f:IntKind.wrap .u64 (n * 2)=2 * n:=by rw [IntKind.wrap_u64];omega
  rw [g,o,f,show (BitVec.ofInt 64 0)=0#64 from rfl,BitVec.xor_zero,BitVec.toNat_ofInt]
  grind
 ·rw [uu h,show n / 9223372036854775808=-1 by omega];have g:IntKind.wrap .u64 (-1:Int)=18446744073709551615:=by rfl
  have o:IntKind.wrap .u64 n=n+18446744073709551616:=by rw [IntKind.wrap_u64];omega
  have f:IntKind.wrap .u64 ((n+18446744073709551616) * 2)=2 * n+18446744073709551616:=by rw [IntKind.wrap_u64];omega
  rw [g,o,f,show (BitVec.ofInt 64 18446744073709551615)=BitVec.allOnes 64 from rfl,BitVec.xor_allOnes,BitVec.toNat_not,BitVec.toNat_ofInt,IntKind.wrap_u64];omega
theorem int2 {b:List UInt8} (p:InK .i64 n) (h:codeInt b n=some r) (o:b.length<=2147483000):ref02Int b n=some r:=by
 unfold InK at p;simp [IntKind.min,IntKind.max,IntKind.signed,IntKind.bits] at p;unfold codeInt at h;rw [zig (by omega) (by omega)] at h;obtain ⟨v,e,h⟩:=te.1 h;cases h;unfold ref02Int;by_cases h0:n >= 0
 ·rw [ur h0] at e;have g:IntKind.wrap .u64 n=n:=by rw [IntKind.wrap_u64];omega
  have f:IntKind.wrap .u64 (2 * n)=2 * n:=by rw [IntKind.wrap_u64];omega
  rw [ur (uA h0),g,f,num2 (by omega) (by omega) e o];rfl
 ·rw [uu (by omega)] at e;have g:IntKind.wrap .i64 (n+1)=n+1:=yY (by omega);have f:IntKind.wrap .i64 (0 - (n+1))=-n - 1:=(yY (by omega)).trans (by omega);have s:IntKind.wrap .u64 (-n - 1)=-n - 1:=by rw [IntKind.wrap_u64];omega
  have w:IntKind.wrap .u64 (2 * (-n - 1))=-2 * n - 2:=by rw [IntKind.wrap_u64];omega
  have y:IntKind.wrap .u64 (-2 * n - 2+1)=-2 * n - 1:=by rw [IntKind.wrap_u64];omega
  rw [uu (by simp;omega),g,f,s,w,y,num2 (by omega) (by omega) e o];rfl
theorem text2 {b:List UInt8} {s:zx} (h:w9 b s=some r) (p:b.length<=2147483000):wW b s=some r:=by
 unfold w9 at h;obtain ⟨v,e,h⟩:=te.1 h;refine zW h (λw h=>?_);cases h;unfold wW;rw [numw2 e p,ua];have key:∀(L:zx) (i:Nat) (q:List UInt8),q.length+L.length<=yM->zq (ρ:=List UInt8) (λ(y:Nat) (g:UInt8) (f:(List UInt8))=>((yg ((f).length+(([g]:List UInt8)).length<=yM) (some (.nxt (f++([g]:List UInt8))))):Option (Out _ (List UInt8)))) L i q=some (.inr (q++L)):=by
  intro L
  induction L with
  | nil=>intro i q _;simp [zq]
  | cons x L ih =>
   intro i q o;simp only [un] at o;simp only [zq];rw [zk (by simp;omega)]
   grind
 simp_all
theorem dot2 {b:List UInt8} {d:GF} (p:GF.wf d) (h:xg b d=some r) (G:b.length<=2147482000):xK b d=some r:=by
 have hs:0<=d.seq/\d.seq < 18446744073709551616:=u64_of p.2;unfold xg at h;obtain ⟨v,f,z,w⟩:=wi (b:=b) (n:=d.actor.rep) (by omega);obtain ⟨s,o,C,F⟩:=wi (b:=v) (n:=d.actor.inc) (by omega);obtain ⟨y,g,a3,H⟩:=num_tot (b:=s) hs.1 hs.2 (by omega);simp only [f,o,g,ua] at h;cases h;unfold xK;rw [numw2 f (by omega),ua,numw2 o (by omega),ua,num2 hs.1 hs.2 g (by omega)];rfl
theorem acc2P {ι α ρ τ:Type} {p:ι->Prop} {F:ι->Nat->α->List UInt8->Option (Out ρ (List UInt8))} {G:ι->Nat->α->List UInt8->Option (Out τ (List UInt8))} {K:Nat} (c:α->Nat):∀(L:List α) (i:Nat) (b:List UInt8),(∀i x s,x ∈ L->s.length+c x<=K->∃r,(∀n,p n->F n i x s=some (.nxt r)/\G n i x s=some (.nxt r))/\s.length<=r.length/\r.length<=s.length+c x) ->
  b.length+(L.map c).sum<=K->∃r,(∀n,p n->zq (F n) L i b=some (.inr r)/\zq (G n) L i b=some (.inr r))/\b.length<=r.length/\r.length<=b.length+(L.map c).sum
 | [],_,b,_,_=>⟨b,λ_ _=>⟨rfl,rfl⟩,ug _,by simp⟩
 | x::t,i,b,h,hb=>by
  simp only [ux,tX] at hb ⊢;obtain ⟨r,e,z,v⟩:=h i x b (by simp) (by omega);obtain ⟨q,g,C,w⟩:=acc2P c t (i+1) r (λi y s o=>h i y s (by simp [o])) (by omega);exact ⟨q,λn f=>by simp only [zq,(e n f).1,(g n f).1,(e n f).2,(g n f).2,rH],by omega,by omega⟩
noncomputable def leafD (b:List UInt8) (l:GC) (rest:List UInt8->Option (Out ρ (List UInt8))):Option (Out ρ (List UInt8)) :=
 (yV b (IntKind.wrap .u64 (l.typ))).bind λv202=>(ref02Int v202 l.n).bind λv203=>(yV v203 l.time).bind λv204=>(xK v204 l.dot).bind λv205=>(wW v205 l.text).bind λv206=>(yV v206 (IntKind.wrap .u64 (((l.items).length:Int)))).bind λv208=>lp (zq (λ(n3:Nat) (x3:GH) (s3:(List UInt8))=>(((yV s3 x3.time).bind λv230=>((xK v230 x3.dot).bind λv231=>((wW v231 x3.text).bind λv232=>some (.nxt v232)))):Option (Out _ (List UInt8)))) l.items 0 v208) λ(s3:(List UInt8))=>(yV s3 (IntKind.wrap .u64 (((l.tombs).length:Int)))).bind λv234=>lp (zq (λ(n4:Nat) (x4:GF) (s4:(List UInt8))=>(((xK s4 x4).bind λv252=>some (.nxt v252)):Option (Out _ (List UInt8)))) l.tombs 0 v234) rest
theorem leafS2 {b:List UInt8} (hw:GC.wf l) (hb:b.length+10 * l.bk<=2147480000):∃r,wu b l=some r/\(∀rest:List UInt8->Option (Out ρ (List UInt8)),leafD b l rest=rest r)/\b.length<=r.length/\r.length<=b.length+10 * l.bk:=by
 obtain ⟨w1,w2,z,R,w5,w6,N⟩:=hw;have hk:l.bk=12+l.text.length+(l.items.map GH.bk).sum+(l.tombs.map GF.bk).sum:=by
  have:GF.bk l.dot=5:=rfl;simp only [GC.bk,this];omega
 have hI:(l.items.map λx:GH=>50+x.text.length).sum<=10 * (l.items.map GH.bk).sum:=sum_mul (λx=>by have:GF.bk x.dot=5:=rfl;simp only [GH.bk,this];omega) _;have hT:(l.tombs.map λ_:GF=>30).sum<=10 * (l.tombs.map GF.bk).sum:=sum_mul (λx=>by have:GF.bk x=5:=rfl;simp only [this];omega) _;unfold wu leafD;obtain ⟨r1,O,a1,b1⟩:=wi (b:=b) (n:=l.typ) (by omega);obtain ⟨r2,U,a2,b2⟩:=int_tot (b:=r1) (n:=l.n) (by omega);obtain ⟨r3,X,a3,b3⟩:=num_tot (b:=r2) (u64_of z).1 (u64_of z).2 (by omega);obtain ⟨r4,V,a4,b4⟩:=dot_tot (b:=r3) R (by omega);obtain ⟨r5,S,a5,b5⟩:=text_tot (b:=r4) (s:=l.text) (by omega);obtain ⟨Z,Q,a6,b6⟩:=wi (b:=r5) (n:=((l.items).length:Int)) (by omega);obtain ⟨r7,P,a7,b7⟩:=acc2P (K:=2147480000) (ρ:=List UInt8) (τ:=Out ρ (List UInt8)) (p:=λ_:Unit=>True) (F:=λ_ (n1:Nat) (f:GH) (s1:(List UInt8))=>(((xl s1 f.time).bind λv25=>((xg v25 f.dot).bind λM=>((w9 M f.text).bind λI=>some (.nxt I)))):Option (Out _ (List UInt8))))
  (G:=λ_ (n3:Nat) (C:GH) (s3:(List UInt8))=>(((yV s3 C.time).bind λo=>((xK o C.dot).bind λv=>((wW v C.text).bind λh=>some (.nxt h)))):Option (Out _ (List UInt8))))
  (λx:GH=>50+x.text.length) l.items 0 Z (λi x s y hs=>by
   obtain ⟨f,w,C⟩:=w6.2 x y;obtain ⟨q1,f1,c1,d1⟩:=num_tot (b:=s) (u64_of f).1 (u64_of f).2 (by omega);obtain ⟨J,H,c2,Y⟩:=dot_tot (b:=q1) w (by omega);obtain ⟨q3,f3,c3,d3⟩:=text_tot (b:=J) (s:=x.text) (by omega);exact ⟨q3,λ_ _=>⟨by simp_all,by rw [num2 (u64_of f).1 (u64_of f).2 f1 (by omega),ua,dot2 w H (by omega),ua,text2 f3 (by omega),ua]⟩,by omega,by omega⟩) (by omega)
 obtain ⟨r8,W,a8,b8⟩:=wi (b:=r7) (n:=((l.tombs).length:Int)) (by omega);obtain ⟨r9,T,a9,b9⟩:=acc2P (K:=2147480000) (ρ:=List UInt8) (τ:=Out ρ (List UInt8)) (p:=λ_:Unit=>True) (F:=λ_ (n2:Nat) (w:GF) (s2:(List UInt8))=>(((xg s2 w).bind λv45=>some (.nxt v45)):Option (Out _ (List UInt8))))
  (G:=λ_ (n4:Nat) (x4:GF) (s4:(List UInt8))=>(((xK s4 x4).bind λg=>some (.nxt g)):Option (Out _ (List UInt8))))
  (λ_:GF=>30) l.tombs 0 r8 (λi x s y hs=>by
   obtain ⟨J,H,c2,Y⟩:=dot_tot (b:=s) (N.2 x y) (by omega);exact ⟨J,λ_ _=>⟨by simp_all,by rw [dot2 (N.2 x y) H (by omega),ua]⟩,by omega,by omega⟩) (by omega)
 simp only [O,U,X,V,S,Q,ua];rw [(P () trivial).1,yJ,W,ua,(T () trivial).1,yJ];refine ⟨_,rfl,λrest=>?_,by omega,by omega⟩;rw [numw2 O (by omega),ua,int2 w2 U (by omega),ua,num2 (u64_of z).1 (u64_of z).2 X (by omega),ua,dot2 R V (by omega),ua,text2 S (by omega),ua,numw2 Q (by omega),ua,(P () trivial).2,yJ,numw2 W (by omega),ua,(T () trivial).2,yJ]
theorem put2:∀(d:Nat) (t:List GA) (b:List UInt8),GA.deps t < d->Small t->b.length+10+10 * GA.bks t<=2147480000->∃r,(∀n,d<=n->wU n b t=some r/\qJ n b t=some r)/\b.length+1<=r.length/\r.length<=b.length+10+10 * GA.bks t
 | 0,_,_,h,_,_=>by omega
 | d+1,t,b,h,hs,hb=>by
  obtain ⟨T,R,a1,b1⟩:=wi (b:=b) (n:=((t).length:Int)) (by omega);have M:(t.map λx=>10 * GA.bk x).sum<=10 * GA.bks t:=by rw [GA.bks_eq];exact sum_mul (λ_=>ug _) t
  obtain ⟨r2,O,a2,b2⟩:=acc2P (K:=2147480000) (ρ:=List UInt8) (τ:=List UInt8) (p:=λn=>d<=n) (F:=λn (n1:Nat) (f:GA) (s1:(List UInt8))=>(((w9 s1 f.name).bind λv23=>((xl v23 (IntKind.wrap .u64 (((f.leaves).length:Int)))).bind λv25=>(lp (zq (λ(n2:Nat) (g:GC) (s2:(List UInt8))=>(((wu s2 g).bind λo=>some (.nxt o)):Option (Out _ (List UInt8)))) f.leaves 0 v25) λ(s2:(List UInt8))=>((wU n s2 f.subs).bind λJ=>some (.nxt J))))):Option (Out _ (List UInt8))))
   (G:=λn (n1:Nat) (f:GA) (s1:(List UInt8))=>(((wW s1 f.name).bind λy=>((yV y (IntKind.wrap .u64 (((f.leaves).length:Int)))).bind λw=>(lp (zq (λ(n2:Nat) (g:GC) (s2:(List UInt8))=>(leafD s2 g (λs4=>some (.nxt s4)):Option (Out _ (List UInt8)))) f.leaves 0 w) λ(s2:(List UInt8))=>((qJ n s2 f.subs).bind λz=>some (.nxt z))))):Option (Out _ (List UInt8))))
   (λx=>10 * GA.bk x) t 0 T (λi x s I V=>by
    have hbn:=bk_node x;have Z:=qf I;have S:=xX x;have v:=(GA.wfs_iff t).1 hs.1 x I;have C:∀l ∈ x.leaves,GC.wf l:=by
     cases x;simp only [GA.wf] at v;exact v.2.1.2
    have hL:(x.leaves.map λl=>10 * GC.bk l).sum<=10 * (x.leaves.map GC.bk).sum:=sum_mul (λ_=>ug _) _;obtain ⟨W,N,c1,d1⟩:=text_tot (b:=s) (s:=x.name) (by omega);obtain ⟨q2,Q,c2,d2⟩:=wi (b:=W) (n:=((x.leaves).length:Int)) (by omega);obtain ⟨X,f3,c3,d3⟩:=acc2P (K:=2147480000) (p:=λ_:Unit=>True) (ρ:=Out (List UInt8) (List UInt8)) (τ:=Out (List UInt8) (List UInt8)) (F:=λ_ (n2:Nat) (g:GC) (s2:(List UInt8))=>(((wu s2 g).bind λo=>some (.nxt o)):Option (Out _ (List UInt8))))
     (G:=λ_ (n2:Nat) (g:GC) (s2:(List UInt8))=>(leafD s2 g (λs4=>some (.nxt s4)):Option (Out _ (List UInt8))))
     (λl=>10 * GC.bk l) x.leaves 0 q2 (λj l s hl H=>by
      obtain ⟨q,g1,Y,U,g3⟩:=leafS2 (ρ:=Out (List UInt8) (List UInt8)) (b:=s) (C l hl) H;exact ⟨q,λ_ _=>⟨by simp_all,Y _⟩,U,g3⟩) (by omega)
    obtain ⟨q4,f4,c4,d4⟩:=put2 d x.subs X (by omega) (hs.subs I) (by omega);refine ⟨q4,λn P=>⟨?_,?_⟩,by omega,by omega⟩
    ·simp only [N,Q,ua]
     simp_all
    ·rw [text2 N (by omega),ua,numw2 Q (by omega),ua,(f3 () trivial).2,yJ,(f4 n P).2,ua]) (by omega)
  refine ⟨r2,λn P=>?_,by omega,by omega⟩;obtain ⟨m,rfl⟩:∃m,n=m+1:=⟨n - 1,by omega⟩
  unfold wU qJ;rw [R,ua,(O m (by omega)).1,yJ,numw2 R (by omega),ua];refine ⟨rfl,?_⟩;have:=(O m (by omega)).2;unfold leafD at this;rw [this,yJ]
theorem put_both (hs:Small t):∃r,statePut [] t=some r/\ref09Put [] t=some r:=by
 have g:=hs.2;obtain ⟨r,e,o,h⟩:=put2 (GA.deps t+1) t [] (by omega) hs (by simp;omega);exact ⟨r,qg _ λn f=>(e n f).1,qg _ λn f=>(e n f).2⟩
end
section
variable {α:Type} [Inhabited α] {k:α->Int}
def At (L:List α) (i:Int):α:=L.getD i.toNat default
def Eqv (k:α->Int) (L R:List α):Prop:=∀q:Int,R.filter (λx=>k x==q)=L.filter (λx=>k x==q)
def Srt (k:α->Int) (L:List α) (a b:Int):Prop:=∀i j:Int,a<=i->i<=j->j < b->k (At L i)<=k (At L j)
structure Turn (k:α->Int) (L R:List α) (a b:Int):Prop where
 len:R.length=L.length
 eqv:Eqv k L R
 out:∀i:Int,0<=i->(i < a \/ b<=i)->At R i=At L i
 inn:∀i:Int,a<=i->i < b->∃j:Int,a<=j/\j < b/\At R i=At L j
theorem Turn.refl (L:List α) (a b:Int):Turn k L L a b:=⟨rfl,λ_=>rfl,λ_ _ _=>rfl,λi g f=>⟨i,g,f,rfl⟩⟩
theorem Turn.trans {L R S:List α} {a b:Int} (h:Turn k L R a b) (g:Turn k R S a b):Turn k L S a b :=
 ⟨g.len.trans h.len,λq=>(g.eqv q).trans (h.eqv q),λi h0 f=>(g.out i h0 f).trans (h.out i h0 f),λi f o=>by
  obtain ⟨j,p,s,e⟩:=g.inn i f o;obtain ⟨m,m1,m2,v⟩:=h.inn j p s;exact ⟨m,m1,m2,e.trans v⟩⟩
theorem Turn.wide {L R:List α} {a' g:Int} (h:Turn k L R a b) (h0:0<=a') (p:a'<=a) (v:b<=g):Turn k L R a' g :=
 ⟨h.len,h.eqv,λi h0 f=>h.out i h0 (by omega),λi f o=>by
  by_cases hi:a<=i/\i < b
  ·obtain ⟨j,s,w,e⟩:=h.inn i hi.1 hi.2
   grind
  ·exact ⟨i,f,o,h.out i (by omega) (by omega)⟩⟩
theorem Srt.sub {L:List α} {a' f:Int} (h:Srt k L a b) (o:a<=a') (v:f<=b):Srt k L a' f:=λi j p g s=>h i j (by omega) g (by omega)
theorem Srt.same {L R:List α} (h:Srt k L a b) (e:∀i,a<=i->i < b->At R i=At L i):Srt k R a b:=λi j f o g=>by
 rw [e i f (by omega),e j (by omega) g];exact h i j f o g
theorem At_set {L:List α} {y:α} (h0:0<=i) (f:i < L.length) (g:0<=j):At (L.set i.toNat y) j=if j=i then y else At L j:=by
 unfold At
 grind
theorem x8 {L:List α} (h0:0<=i) (f:i < L.length):yw L i=some (At L i):=by
 unfold yw At
 simp_all
omit [Inhabited α] in
theorem eqv_swap:∀{E:List α} {i:Nat} {x y:α},E[i]?=some x->E[i+1]?=some y->k x ≠ k y->∀q:Int,((E.set i y).set (i+1) x).filter (λz=>k z==q)=E.filter (λz=>k z==q)
 | [],_,_,_,h,_,_,_=>by simp at h
 | [_],_,_,_,_,h,_,_=>by simp at h
 | u::v::r,0,x,y,h1,h2,hn,q=>by
  grind
 | u::v::r,i+1,x,y,h1,h2,hn,q=>by
  simp only [rD] at h1 h2;have:=eqv_swap (E:=v::r) h1 h2 hn q
  grind
theorem swap_turn {E:List α} (h0:0<=i) (p:i+1 < E.length) (o:k (At E i) ≠ k (At E (i+1))):Turn k E ((E.set i.toNat (At E (i+1))).set (i+1).toNat (At E i)) i (i+2) /\
  At ((E.set i.toNat (At E (i+1))).set (i+1).toNat (At E i)) i=At E (i+1)/\At ((E.set i.toNat (At E (i+1))).set (i+1).toNat (At E i)) (i+1)=At E i:=by
 have hs:∀j:Int,0<=j->At ((E.set i.toNat (At E (i+1))).set (i+1).toNat (At E i)) j=if j=i+1 then At E i else if j=i then At E (i+1) else At E j:=λj f=>by
  rw [At_set (by omega) (by simp_all) f,At_set h0 (by omega) f]
 have e:(i+1).toNat=i.toNat+1:=by omega
 refine ⟨⟨by simp,λq=>?_,λj g h=>?_,λj g h=>?_⟩,?_,?_⟩
 ·rw [e];refine eqv_swap ?_ ?_ o q
  ·unfold At;rw [u9,ui (by omega)];rfl
  ·unfold At;rw [e,u9,ui (by omega)];rfl
 ·grind
 ·grind
 ·grind
 ·grind
omit [Inhabited α] in
theorem swap_comm {E:List α} (h0:0<=i) (x y:α):(E.set (i+1).toNat x).set i.toNat y=(E.set i.toNat y).set (i+1).toNat x:=List.set_comm _ _ (by omega)
omit [Inhabited α] in
theorem Eqv.mem {L R:List α} (h:Eqv k L R) {x:α}:x ∈ R ↔ x ∈ L:=by
 have:=h (k x);have e:∀M:List α,x ∈ M ↔ x ∈ M.filter (λz=>k z==k x):=λM=>by simp_all
 grind
omit [Inhabited α] in
theorem ord_uniq:∀(A B:List α),A.Pairwise (λx y=>k x<=k y)->B.Pairwise (λx y=>k x<=k y)->Eqv k A B->A=B
 | [],[],_,_,_=>rfl
 | [],y::B,_,_,h=>by have:=(h.mem (x:=y)).1 (by simp);cases this
 | x::A,[],_,_,h=>by have:=(h.mem (x:=x)).2 (by simp);cases this
 | x::A,y::B,hA,hB,h=>by
  obtain ⟨v,o⟩:=uC.1 hA;obtain ⟨s,p⟩:=uC.1 hB;have z:k y<=k x:=by
   rcases uP.1 ((h.mem (x:=x)).2 (by simp)) with e | e
   ·simp_all
   ·simp_all
  have w:k x<=k y:=by
   rcases uP.1 ((h.mem (x:=y)).1 (by simp)) with e | e
   ·simp_all
   ·simp_all
  have g:k x=k y:=by omega
  have f:=h (k x);simp only [tS,g,uX,up,pG] at f;obtain ⟨rfl,f⟩:=f;refine congrArg _ (ord_uniq A B o p λq=>?_);by_cases hq:k y=q
  ·simp_all
  ·have:=h q
   simp_all
theorem Srt.pair {L:List α} (h:Srt k L 0 L.length):L.Pairwise (λx y=>k x<=k y):=by
 rw [tj];intro i j hi g f;have:=h (i:Int) (j:Int) (by omega) (by omega) (by omega);unfold At at this
 simp_all
omit [Inhabited α] in
theorem eqv_parts {P A B S:List α} (h:∀x ∈ A,∀y ∈ B,k x ≠ k y):Eqv k (P++(A++(B++S))) (P++(B++(A++S))):=λq=>by
 simp only [th];congr 1;rw [<- uy,<- uy];congr 1;by_cases hA:A.filter (λx=>k x==q)=[]
 ·grind
 ·have o:B.filter (λx=>k x==q)=[]:=by
   obtain ⟨x,f⟩:=List.exists_mem_of_ne_nil _ hA;obtain ⟨p,s⟩:=tL.1 f;refine tp.2 λy g e=>?_
   grind
  grind
def rotF (f:Int->β) (a m b:Int) (x:Int):β:=if a<=x/\x < a+(b - m) then f (x - a+m) else if a+(b - m)<=x/\x < b then f (x - (b - m)) else f x
theorem rot_turn {L R:List α} (h0:0<=a) (U:a<=m) (O:m<=b) (X:b<=L.length) (H:R.length=L.length) (s:∀x,0<=x->At R x=rotF (At L) a m b x) (C:∀i j:Int,a<=i->i < m->m<=j->j < b->k (At L i) ≠ k (At L j)):Turn k L R a b:=by
 refine ⟨H,?_,λi v f=>?_,λi v f=>?_⟩
 ·have F:L=L.take a.toNat++((L.drop a.toNat).take (m - a).toNat++((L.drop m.toNat).take (b - m).toNat++L.drop b.toNat)):=by
   have K:L.drop m.toNat=(L.drop m.toNat).take (b - m).toNat++L.drop b.toNat:=by
    have:=(sj (b - m).toNat (L.drop m.toNat)).symm
    rwa [tm,show m.toNat+(b - m).toNat=b.toNat by omega] at this
   have h:L.drop a.toNat=(L.drop a.toNat).take (m - a).toNat++L.drop m.toNat:=by
    have:=(sj (m - a).toNat (L.drop a.toNat)).symm
    rwa [tm,show a.toNat+(m - a).toNat=m.toNat by omega] at this
   rw [<- K,<- h,sj]
  have G:R=L.take a.toNat++((L.drop m.toNat).take (b - m).toNat++((L.drop a.toNat).take (m - a).toNat++L.drop b.toNat)):=by
   refine List.ext_getElem (by simp;omega) λn N n2=>?_;have f:=s (n:Int) (by omega);have g:∀(M:List α) (i:Nat) (hi:i < M.length),At M (i:Int)=M[i]:=λM i hi=>by
    unfold At;rw [u9,uw,ui hi];rfl
   rw [g R n N] at f;rw [f];unfold rotF;by_cases c1:(n:Int) < a
   ·rw [uu (by omega),uu (by omega),rp (by simp;omega),rK,g L n (by omega)]
   ·rw [rl (by simp;omega)];by_cases c2:(n:Int) < a+(b - m)
    ·rw [ur (by omega),rp (by simp;omega),rK,rL,show (n:Int) - a+m=((m.toNat+(n - (L.take a.toNat).length):Nat):Int) by simp;omega,g]
    ·rw [uu (by omega),rl (by simp;omega)];by_cases c3:(n:Int) < b
     ·rw [ur (by omega),rp (by simp;omega),rK,rL,<- g];congr 1;simp;omega
     ·rw [uu (by omega),rl (by simp;omega),rL,<- g];congr 1;simp;omega
  have w:∀(p:Int) (n:Nat) (x:α),0<=p->p+n<=L.length->x ∈ (L.drop p.toNat).take n->∃i:Int,p<=i/\i < p+n/\At L i=x:=λp n x W T o=>by
   obtain ⟨i,hi,e⟩:=List.getElem_of_mem o;simp only [tN,sU] at hi;rw [rK,rL] at e;refine ⟨((p.toNat+i:Nat):Int),by omega,by omega,?_⟩;unfold At;rw [u9,uw,ui (by omega)];exact e
  have:=eqv_parts (k:=k) (P:=L.take a.toNat) (A:=(L.drop a.toNat).take (m - a).toNat) (B:=(L.drop m.toNat).take (b - m).toNat) (S:=L.drop b.toNat) (λx o y I=>by
   obtain ⟨i,J,Q,e⟩:=w a _ x h0 (by omega) o;obtain ⟨j,z,V,h⟩:=w m _ y (by omega) (by omega) I;rw [<- e,<- h];exact C i j J (by omega) z (by omega))
  rwa [<- F,<- G] at this
 ·rw [s i v];unfold rotF;rw [uu (by omega),uu (by omega)]
 ·rw [s i (by omega)];unfold rotF
  grind
def swpF (f:Int->β) (a b n:Int) (x:Int):β:=if a<=x/\x < a+n then f (x - a+b) else if b<=x/\x < b+n then f (x - b+a) else f x
theorem rot_left (f:Int->β) {m i j:Int} (hi:1<=i) (g:1<=j) (h:i > j) (x:Int):rotF (swpF f (m - i) m j) (m - (i - j)) m (m+j) x=rotF f (m - i) m (m+j) x:=by
 unfold rotF swpF
 grind
theorem rot_right (f:Int->β) {m i j:Int} (hi:1<=i) (g:1<=j) (h:i < j) (x:Int):rotF (swpF f (m - i) (m+j - i) i) (m - i) m (m+(j - i)) x=rotF f (m - i) m (m+j) x:=by
 unfold rotF swpF
 grind
theorem rot_same (f:Int->β) {m i:Int} (hi:1<=i) (x:Int):swpF f (m - i) m i x=rotF f (m - i) m (m+i) x:=by
 unfold rotF swpF
 grind
end
section
variable {c:GE->GE->Option Int} {k:GE->Int}
theorem lpW {f:σ->Option (Out ρ σ)} {rest:σ->Option ρ} {w:σ} {P:ρ->Prop} (o g:σ->Prop) (v:σ->Nat) (hi:o w) (h:∀s,o s->(∃p,f s=some (.brk p)/\g p) \/ ∃p,f s=some (.nxt p)/\o p/\v p < v s) (z:∀s,g s->∃r,rest s=some r/\P r):∃r,lp (ye f w) rest=some r/\P r:=by
 obtain ⟨p,e,y⟩:=qN o g v h _ w rfl hi
 simp_all
theorem lpN {τ:Type} {f:σ->Option (Out (Out ρ τ) σ)} {rest:σ->Option (Out ρ τ)} {w:σ} {P:τ->Prop} (o g:σ->Prop) (v:σ->Nat) (hi:o w) (h:∀s,o s->(∃p,f s=some (.brk p)/\g p) \/ ∃p,f s=some (.nxt p)/\o p/\v p < v s) (z:∀s,g s->∃r,rest s=some (.nxt r)/\P r):∃r,lp (ye f w) rest=some (.nxt r)/\P r:=by
 obtain ⟨p,e,y⟩:=qN o g v h _ w rfl hi
 simp_all
theorem half_is {x:Int} (h0:0<=x) (h:x<=4611686018427387904):IntKind.wrap .i64 (Int.fdiv (IntKind.wrap .u64 (IntKind.wrap .i64 x)) (2 ^ (min (1:Int).toNat (IntKind.bits .u64))))=x / 2:=by
 have e:((2:Int) ^ (min (1:Int).toNat (IntKind.bits .u64)))=2:=rfl;have f:IntKind.wrap .i64 x=x:=yY (by omega);have g:IntKind.wrap .u64 x=x:=by rw [IntKind.wrap_u64];omega
 rw [f,e,g,rf _ (by decide),yY (by omega)]
structure Into (k:GE->Int) (E:List GE) (a i j:Int):Prop where
 ord:∀p q:Int,a<=p->p<=q->q<=i->p ≠ j->q ≠ j->k (At E p)<=k (At E q)
 less:∀q:Int,j < q->q<=i->k (At E j) < k (At E q)
theorem Into.step {F:List GE} (h:Into k E a i j) (G:0<=a) (I:a < j) (H:j<=i) (z:k (At E j) < k (At E (j - 1))) (C:At F (j - 1)=At E j) (y:At F j=At E (j - 1)) (f:∀x:Int,0<=x->x ≠ j->x ≠ j - 1->At F x=At E x):Into k F a i (j - 1):=by
 refine ⟨λp q o g w s v=>?_,λq o g=>?_⟩
 ·by_cases hp:p=j
  ·by_cases hq:q=j
   ·simp_all
   ·rw [hp,y,f q (by omega) hq v];exact h.ord (j - 1) q (by omega) (by omega) w (by omega) hq
  ·by_cases hq:q=j
   ·rw [hq,y,f p (by omega) hp s];exact h.ord p (j - 1) o (by omega) (by omega) hp (by omega)
   ·rw [f p (by omega) hp s,f q (by omega) hq v];exact h.ord p q o g w hp hq
 ·rw [C];by_cases hq:q=j
  ·simp_all
  ·rw [f q (by omega) hq (by omega)];exact h.less q (by omega) g
theorem Into.done (h:Into k E a i j) (h0:a<=j) (f:j=a \/ k (At E (j - 1))<=k (At E j)):Srt k E a (i+1):=by
 intro p q g o s;by_cases hp:p=j
 ·by_cases hq:q=j
  ·simp_all
  ·rw [hp];exact pP (h.less q (by omega) (by omega))
 ·by_cases hq:q=j
  ·rcases f with f | f
   ·omega
   ·rw [hq];refine Int.le_trans ?_ f;exact h.ord p (j - 1) g (by omega) (by omega) hp (by omega)
  ·exact h.ord p q g o (by omega) hp hq
theorem ins_is (T:∀x y,∃v,c x y=some v/\(v < 0 ↔ k x < k y)) {L:List GE} {a b:Int} (J:0<=a) (U:b<=L.length) (X:(L.length:Int)<=1099511627776) (M:a<=b):∃r,yp L a b c=some r/\Turn k L r a b/\Srt k r a b:=by
 unfold yp;refine lpW (λs=>a+1<=s.1/\Turn k L s.2 a b/\Srt k s.2 a s.1) (λs=>Turn k L s.2 a b/\Srt k s.2 a b) (λs=>(b - s.1).toNat) ⟨by dsimp only;rw [yY (by omega)];exact uF _,Turn.refl _ _ _,λi j H z g=>by
  have g:j < IntKind.wrap .i64 (a+1):=g;rw [yY (by omega)] at g;rw [show i=j by omega];exact uF _⟩ ?_ (λs hs=>⟨_,rfl,hs⟩)
 rintro ⟨i,D⟩ ⟨H,z,g⟩
 dsimp only at H z g ⊢;rw [zk z.len];by_cases hlt:i < b
 ·rw [ur (uA hlt)];right;refine Exists.imp (λ_ h=>⟨h.1,h.2.1,h.2.2⟩) (lpN (P:=λw=>(a+1<=w.1/\Turn k L w.2 a b/\Srt k w.2 a w.1)/\(b - w.1).toNat < (b - i).toNat) (λs=>a<=s.1/\s.1<=i/\Turn k L s.2 a b/\Into k s.2 a i s.1) (λs=>Turn k L s.2 a b/\Srt k s.2 a (i+1)) (λs=>(s.1 - a).toNat) ⟨by dsimp only;omega,uF _,z,λp q f F o G Q=>g p q f F (by dsimp only at Q;omega),λq f F=>by dsimp only at f;omega⟩ ?_ ?_)
  ·rintro ⟨j,E⟩ ⟨f,F,o,G⟩
   dsimp only at f F o G ⊢;have O:=o.len;have R:IntKind.wrap .i64 (j - (1:Int))=j - 1:=yY (by omega);simp only [R];rw [zk O,zk (λ_=>by omega)];by_cases hj:j > a
   ·rw [zk (λ_=>by omega),ur (by simp [hj])];obtain ⟨v,S,C⟩:=T (At E j) (At E (j - 1));rw [show c (E.getD j.toNat default) (E.getD (j - 1).toNat default)=some v from S,ua];by_cases hv0:v < 0
    ·right;rw [ur (by simp [hj,hv0])];rw [x8 (L:=E) (i:=j - 1) (by omega) (by omega),ua,x8 (L:=E) (i:=j) (by omega) (by omega),ua,ua,x8 (by omega) (by rw [uD];omega),ua];have N:=C.1 hv0;obtain ⟨s1,s2,I⟩:=swap_turn (k:=k) (E:=E) (i:=j - 1) (by omega) (by omega) (by rw [rB];omega);have sc:=swap_comm (E:=E) (i:=j - 1) (by omega) (At E (j - 1)) (At E j);rw [rB] at s1 s2 I sc;rw [sc];refine ⟨_,rfl,⟨by dsimp only;omega,by dsimp only;omega,o.trans (s1.wide J (by omega) (by omega)),?_⟩,by dsimp only;omega⟩;exact G.step J hj F N s2 I λx K W V=>s1.out x K (by omega)
    ·left;rw [uu (by simp [hv0])];refine ⟨_,rfl,o,G.done f (.inr ?_)⟩;have:=mt C.2 hv0;omega
   ·left;rw [zk (λh=>by simp [hj] at h),uu (by simp [hj]),ua,uu (by simp [hj])];exact ⟨_,rfl,o,G.done f (.inl (by omega))⟩
  ·rintro ⟨j,E⟩ hs
   have e:IntKind.wrap .i64 (i+(1:Int))=i+1:=yY (by omega);simp only [e]
   grind
 ·left;rw [uu (by simp [hlt])];exact ⟨_,rfl,z,g.sub (uF _) (by omega)⟩
theorem lpLi {α:Type} {f:Nat->α->σ->Option (Out ρ σ)} {rest:σ->Option ρ} {L:List α} {P:ρ->Prop} (g:Nat->σ->Prop) (h:∀i x s,i < L.length->g i s->∃o,f i x s=some (.nxt o)/\g (i+1) o) (C:∀s,g L.length s->∃r,rest s=some r/\P r) {v:σ} (hi:g 0 v):∃r,lp (zq f L 0 v) rest=some r/\P r:=by
 have key:∀(M:List α) (k:Nat) (s:σ),k+M.length=L.length->g k s->∃o,zq f M k s=some (.inr o)/\g L.length o:=by
  intro M
  induction M with
  | nil=>intro k s w hs;exact ⟨s,rfl,by simp_all⟩
  | cons x r ih =>
   intro k s w hs;simp only [un] at w;obtain ⟨o,e,p⟩:=h k x s (by omega) hs;obtain ⟨s2,z,y⟩:=ih (k+1) o (by omega) p;exact ⟨s2,by simp only [zq,e];exact z,y⟩
 obtain ⟨o,e,hs⟩:=key L 0 v (by omega) hi
 simp_all
theorem swap_is {L:List GE} (p:0<=a) (z:0<=n) (w:a+n<=b) (v:b+n<=L.length) (y:(L.length:Int)<=1099511627776):∃r,yr L a b n c=some r/\r.length=L.length/\∀x:Int,0<=x->At r x=swpF (At L) a b n x:=by
 unfold yr;rw [zk (by omega)];refine lpLi (λi s=>s.length=L.length/\∀x:Int,0<=x->At s x=swpF (At L) a b i x) ?_ (λ(s:List GE) hs=>⟨s,by rw [zk hs.1],hs.1,λx f=>?_⟩) ⟨rfl,λx f=>?_⟩
 ·intro i x s hi ⟨hs,g⟩;rw [List.length_range] at hi;have h:IntKind.wrap .i64 (b+(i:Int))=b+i:=yY (by omega);have o:IntKind.wrap .i64 (a+(i:Int))=a+i:=yY (by omega);simp only [h,o];rw [zk hs,x8 (L:=s) (i:=b+i) (by omega) (by omega),ua,x8 (L:=s) (i:=a+i) (by omega) (by omega),ua,ua,x8 (by omega) (by grind),ua];refine ⟨_,rfl,by simp_all,λx f=>?_⟩;rw [At_set (by omega) (by grind) f,At_set (by omega) (by omega) f,g x f,g _ (by omega),g _ (by omega)];unfold swpF
  grind
 ·unfold swpF
  grind
 ·grind
theorem rotF_congr {f g:Int->β} (h:∀x:Int,0<=x->f x=g x) {a m b x:Int} (h0:0<=a) (p:a<=m) (o:m<=b) (s:0<=x):rotF f a m b x=rotF g a m b x:=by
 unfold rotF
 grind
theorem rot_is {L:List GE} (N:0<=a) (M:a < m) (J:m < b) (K:b<=L.length) (O:(L.length:Int)<=1099511627776):∃r,yy L a m b c=some r/\r.length=L.length/\∀x:Int,0<=x->At r x=rotF (At L) a m b x:=by
 unfold yy;refine lpW (λs=>1<=s.1/\1<=s.2.1/\s.1<=m - a/\s.2.1<=b - m/\s.2.2.length=L.length/\∀x:Int,0<=x->rotF (At s.2.2) (m - s.1) m (m+s.2.1) x=rotF (At L) a m b x) (λs=>1<=s.1/\s.1<=m - a/\s.1<=b - m/\s.2.2.length=L.length/\∀x:Int,0<=x->rotF (At s.2.2) (m - s.1) m (m+s.1) x=rotF (At L) a m b x) (λs=>(s.1+s.2.1).toNat) ⟨by dsimp only;rw [yY (by omega)];omega,by dsimp only;rw [yY (by omega)];omega,by dsimp only;rw [yY (by omega)];omega,by dsimp only;rw [yY (by omega)];omega,rfl,λx f=>by dsimp only;rw [yY (by omega),yY (by omega),show m - (m - a)=a by omega,show m+(b - m)=b by omega]⟩ ?_ ?_
 ·rintro ⟨i,j,D⟩ ⟨g,w,z,y,h,o⟩
  dsimp only at g w z y h o ⊢;have C:IntKind.wrap .i64 (m - i)=m - i:=yY (by omega);have G:IntKind.wrap .i64 (m+j)=m+j:=yY (by omega);have H:IntKind.wrap .i64 (m+j - i)=m+j - i:=yY (by omega);have I:IntKind.wrap .i64 (i - j)=i - j:=yY (by omega);have F:IntKind.wrap .i64 (j - i)=j - i:=yY (by omega);simp only [C,G,H,I,F];rw [zk h];by_cases hij:i=j
  ·simp_all
  ·right;rw [ur (by simp [hij])];by_cases hgt:i > j
   ·rw [ur (by simp [hgt])];obtain ⟨r,e,p,v⟩:=swap_is (c:=c) (L:=D) (a:=m - i) (b:=m) (n:=j) (by omega) (by omega) (by omega) (by omega) (by omega);rw [e,ua];refine ⟨_,rfl,⟨by omega,w,by omega,y,p.trans h,λx f=>?_⟩,by grind⟩;dsimp only;rw [rotF_congr v (by omega) (by omega) (by omega) f,rot_left _ g w hgt,o x f]
   ·rw [uu (by simp [hgt])];obtain ⟨r,e,p,v⟩:=swap_is (c:=c) (L:=D) (a:=m - i) (b:=m+j - i) (n:=i) (by omega) (by omega) (by omega) (by omega) (by omega);rw [e,ua];refine ⟨_,rfl,⟨g,by grind,z,by grind,p.trans h,λx f=>?_⟩,by grind⟩;dsimp only;rw [rotF_congr v (by omega) (by omega) (by omega) f,rot_right _ g w (by omega),o x f]
 ·rintro ⟨i,j,D⟩ ⟨g,z,y,h,o⟩
  dsimp only at g z y h o ⊢;have C:IntKind.wrap .i64 (m - i)=m - i:=yY (by omega);rw [C];obtain ⟨r,e,p,v⟩:=swap_is (c:=c) (L:=D) (a:=m - i) (b:=m) (n:=i) (by omega) (by omega) (by omega) (by omega) (by omega);rw [e,ua];refine ⟨_,rfl,p.trans h,λx f=>?_⟩;rw [v x f,rot_same _ g,o x f]
end
section
variable {c:GE->GE->Option Int} {k:GE->Int}
theorem iteN {b:Bool} {A B:Nat->Option ρ} {P:ρ->Prop} (g:b=true->∃q,(∀n,d<=n->A n=some q)/\P q) (f:b=false->∃q,(∀n,d<=n->B n=some q)/\P q):∃q,(∀n,d<=n->(if b=true then A n else B n)=some q)/\P q:=by
 cases b
 ·simp_all
 ·simp_all
theorem cstN {A:Option ρ} {P:ρ->Prop} (h:∃q,A=some q/\P q):∃q,(∀n,d<=n->A=some q)/\P q:=by
 grind
theorem optN {α:Type} {b:Bool} {f:Nat->Option α} {g:Nat->α->Option α} {L:α} {P Q:α->Prop} (h:b=true->∃r,(∀n,d<=n->f n=some r)/\P r) (s:b=false->P L) (p:∀r,P r->∃q,(∀n,d<=n->g n r=some q)/\Q q):∃q,(∀n,d<=n->(if b=true then (f n).bind λv=>g n v else g n L)=some q)/\Q q:=by
 refine iteN (λo=>?_) (λo=>p L (s o))
 grind
theorem lpWN {f:σ->Option (Out ρ σ)} {rest:Nat->σ->Option ρ} {w:σ} {P:ρ->Prop} (o g:σ->Prop) (v:σ->Nat) (hi:o w) (h:∀s,o s->(∃p,f s=some (.brk p)/\g p) \/ ∃p,f s=some (.nxt p)/\o p/\v p < v s) (z:∀s,g s->∃r,(∀n,d<=n->rest n s=some r)/\P r):∃r,(∀n,d<=n->lp (ye f w) (rest n)=some r)/\P r:=by
 obtain ⟨p,e,y⟩:=qN o g v h _ w rfl hi
 simp_all
structure Hal (lo hi:Int) (A B:Int->Prop) (s:Int×Int):Prop where
 l:lo<=s.1
 m:s.1<=s.2
 h:s.2<=hi
 a:∀x:Int,lo<=x->x < s.1->A x
 b:∀x:Int,s.2<=x->x < hi->B x
structure Mrg (k:GE->Int) (L R:List GE) (a b:Int):Prop where
 t:Turn k L R a b
 s:Srt k R a b
def upF (f:Int->β) (a q x:Int):β:=if a<=x/\x < q then f (x+1) else if x=q then f a else f x
def dnF (f:Int->β) (m q x:Int):β:=if q < x/\x<=m then f (x - 1) else if x=q then f m else f x
theorem up_done {L R:List GE} (h0:a+1<=i) (hi:i<=b) (hs:Srt k L (a+1) b) (w:∀x:Int,a+1<=x->x < i->k (At L x) < k (At L a)) (v:∀x:Int,i<=x->x < b->k (At L a)<=k (At L x)) (s:0<=a) (f:∀x:Int,0<=x->At R x=upF (At L) a (i - 1) x):Srt k R a b:=by
 intro p q h g o;rw [f p (by omega),f q (by omega)];unfold upF;by_cases p1:p < i - 1
 ·rw [ur ⟨h,p1⟩];by_cases q1:q < i - 1
  ·rw [ur ⟨by omega,q1⟩];exact hs _ _ (by omega) (by omega) (by omega)
  ·grind
 ·rw [uu (by omega),uu (show ¬ (a<=q/\q < i - 1) by omega)];by_cases p2:p=i - 1
  ·grind
  ·rw [uu p2,uu (by omega)];exact hs _ _ (by omega) g o
theorem dn_done {L R:List GE} (h0:a<=i) (hi:i<=m) (hs:Srt k L a m) (w:∀x:Int,a<=x->x < i->k (At L x)<=k (At L m)) (s:∀x:Int,i<=x->x < m->k (At L m) < k (At L x)) (o:0<=a) (f:∀x:Int,0<=x->At R x=dnF (At L) m i x):Srt k R a (m+1):=by
 intro p q h g v;rw [f p (by omega),f q (by omega)];unfold dnF;by_cases q1:i < q
 ·rw [ur (show i < q/\q<=m by omega)];by_cases p1:i < p
  ·rw [ur ⟨p1,by omega⟩];exact hs _ _ (by omega) (by omega) (by omega)
  ·grind
 ·rw [uu (show ¬ (i < q/\q<=m) by omega),uu (show ¬ (i < p/\p<=m) by omega)];by_cases q2:q=i
  ·grind
  ·rw [uu q2,uu (by omega)];exact hs _ _ h g (by omega)
structure Mid (k:GE->Int) (L:List GE) (a m b mid i:Int):Prop where
 a0:0<=a
 am:a < m
 mb:m < b
 bl:b<=L.length
 m1:2 * mid<=a+b
 m2:a+b<=2 * mid+1
 i0:a<=i
 im:i<=m
 id:i<=mid
 ie:mid+m - i<=b
 s1:Srt k L a m
 s2:Srt k L m b
 c1:a < i->mid+m - i < b->k (At L (i - 1))<=k (At L (mid+m - i))
 c2:i < m->i < mid->k (At L (mid+m - 1 - i)) < k (At L i)
structure Rot (k:GE->Int) (L R:List GE) (m e i:Int):Prop where
 t:Turn k L R i e
 v:∀x:Int,0<=x->At R x=rotF (At L) i m e x
theorem Mid.rot {L R:List GE} {mid:Int} (h:Mid k L a m b mid i) (o:i < m) (w:m < mid+m - i) (p:R.length=L.length) (f:∀x:Int,0<=x->At R x=rotF (At L) i m (mid+m - i) x):Rot k L R m (mid+m - i) i:=by
 obtain ⟨a0,am,mb,bl,m1,m2,i0,im,id,ie,s1,s2,c1,c2⟩:=h;refine ⟨rot_turn (by omega) (by omega) (by omega) (by omega) p f λx y v s g G=>?_,f⟩;have F:=c2 o (by omega);have z:=s1 i x i0 v s;have C:=s2 y (mid+m - 1 - i) g (by omega) (by omega);omega
theorem Mid.norot {L:List GE} {mid:Int} (h:Mid k L a m b mid i) (g:¬ (i < m/\m < mid+m - i)):Rot k L L m (mid+m - i) i:=by
 obtain ⟨a0,am,mb,bl,m1,m2,i0,im,id,ie,s1,s2,c1,c2⟩:=h;refine ⟨Turn.refl _ _ _,λx f=>?_⟩;unfold rotF
 grind
theorem Rot.lo {L R:List GE} {mid:Int} (h:Mid k L a m b mid i) (r:Rot k L R m (mid+m - i) i):Srt k R a i/\Srt k R i mid/\Srt k R mid (mid+m - i)/\Srt k R (mid+m - i) b:=by
 obtain ⟨a0,am,mb,bl,m1,m2,i0,im,id,ie,s1,s2,c1,c2⟩:=h;refine ⟨λp q g f o=>?_,λp q g f o=>?_,λp q g f o=>?_,λp q g f o=>?_⟩
 all_goals rw [r.v p (by omega),r.v q (by omega)];unfold rotF
 ·rw [uu (by omega),uu (by omega),uu (by omega),uu (by omega)];exact s1 _ _ g f (by omega)
 ·rw [ur (by omega),ur (by omega)];exact s2 _ _ (by omega) (by omega) (by omega)
 ·rw [uu (by omega),ur (by omega),uu (by omega),ur (by omega)];exact s1 _ _ (by omega) (by omega) (by omega)
 ·rw [uu (by omega),uu (by omega),uu (by omega),uu (by omega)];exact s2 _ _ (by omega) f o
theorem Rot.mid {L R:List GE} {a m b mid i:Int} (h:Mid k L a m b mid i) (r:Rot k L R m (mid+m - i) i) {p q:Int} (g:a<=p) (y:p < mid) (z:mid<=q) (f:q < b):k (At R p)<=k (At R q):=by
 obtain ⟨a0,am,mb,bl,m1,m2,i0,im,id,ie,s1,s2,c1,c2⟩:=h;rw [r.v p (by omega),r.v q (by omega)];unfold rotF;rw [uu (show ¬ (i<=q/\q < i+(mid+m - i - m)) by omega)];by_cases hp:p < i
 ·rw [uu (by omega),uu (by omega)];by_cases hq:q < mid+m - i
  ·rw [ur (by omega)];exact s1 _ _ g (by omega) (by omega)
  ·rw [uu (by omega)];have s:=c1 (by omega) (by omega);have o:=s1 p (i - 1) g (by omega) (by omega);have w:=s2 (mid+m - i) q (by omega) (by omega) f;omega
 ·rw [ur (by omega)];by_cases hq:q < mid+m - i
  ·rw [ur (by omega)];have s:=c2 (by omega) (by omega);have o:=s2 (p - i+m) (mid+m - 1 - i) (by omega) (by omega) (by omega);have w:=s1 i (q - (mid+m - i - m)) i0 (by omega) (by omega);omega
  ·rw [uu (by omega)];exact s2 _ _ (by omega) (by omega) f
theorem Mid.join {L R1 R2 R3:List GE} {mid:Int} (h:Mid k L a m b mid i) (r:Rot k L R1 m (mid+m - i) i) (g:Mrg k R1 R2 a mid) (f:Mrg k R2 R3 mid b):Mrg k L R3 a b:=by
 have H:=λp q=>r.mid h (p:=p) (q:=q);obtain ⟨a0,am,mb,bl,m1,m2,i0,im,id,ie,s1,s2,c1,c2⟩:=h;refine ⟨((r.t.wide a0 i0 ie).trans (g.t.wide a0 (uF _) (by omega))).trans (f.t.wide a0 (by omega) (uF _)),λp q v o w=>?_⟩;by_cases hp:p < mid
 ·by_cases hq:q < mid
  ·rw [f.t.out p (by omega) (by omega),f.t.out q (by omega) (by omega)];exact g.s p q v o hq
  ·rw [f.t.out p (by omega) (by omega)];obtain ⟨x,I,G,C⟩:=g.t.inn p v hp;obtain ⟨y,F,J,z⟩:=f.t.inn q (by omega) w;rw [C,z,g.t.out y (by omega) (by omega)]
   simp_all
 ·exact f.s p q (by omega) o w
theorem sym_is (hc:∀x y,∃v,c x y=some v/\(v < 0 ↔ k x < k y)):∀(d:Nat) (L:List GE) (a m b:Int),0<=a->a < m->m < b->b<=L.length->(L.length:Int)<=1099511627776->b - a<=d->Srt k L a m->Srt k L m b->∃r,(∀n,d<=n->zo n L a m b c=some r)/\Mrg k L r a b:=by
 intro d
 induction d with
 | zero=>intro L a m b h0 h1 h2 h3 h4 h5;exact absurd h5 (by omega)
 | succ d ih =>
  intro L a m b h0 h1 h2 h3 h4 h5 S1 S2
  suffices hs:∃r,(∀n,d<=n->zo (n+1) L a m b c=some r)/\Mrg k L r a b by
   obtain ⟨r,e,hr⟩:=hs;refine ⟨r,λn hn=>?_,hr⟩;obtain ⟨n,rfl⟩:∃q,n=q+1:=⟨n - 1,by omega⟩
   exact e n (by omega)
  simp only [zo];have e1:IntKind.wrap .i64 (m - a)=m - a:=yY (by omega);have e2:IntKind.wrap .i64 (b - m)=b - m:=yY (by omega);have K:=half_is (x:=a+b) (by omega) (by omega);simp only [e1,e2,K];obtain ⟨mid,T⟩:∃mid,(a+b) / 2=mid:=⟨_,rfl⟩
  have hm1:2 * mid<=a+b:=by omega
  have Y:a+b<=2 * mid+1:=by omega
  simp only [T];clear T K;have en:IntKind.wrap .i64 (mid+m)=mid+m:=yY (by omega);have enb:IntKind.wrap .i64 (mid+m - b)=mid+m - b:=yY (by omega);have enp:IntKind.wrap .i64 (mid+m - (1:Int))=mid+m - 1:=yY (by omega);simp only [en,enb,enp];have I:∀i:Int,Mid k L a m b mid i->∃r,(∀n,d<=n->(if (decide (i < m)&&decide (m < mid+m - i))=true then (yy L i m (mid+m - i) c).bind λv=>(if (decide (a < i)&&decide (i < mid))=true then (zo n v a i mid c).bind λu=>(if (decide (mid < mid+m - i)&&decide (mid+m - i < b))=true then (zo n u mid (mid+m - i) b c).bind λt=>some t else some u) else (if (decide (mid < mid+m - i)&&decide (mid+m - i < b))=true then (zo n v mid (mid+m - i) b c).bind λt=>some t else some v)) else (if (decide (a < i)&&decide (i < mid))=true then (zo n L a i mid c).bind λu=>(if (decide (mid < mid+m - i)&&decide (mid+m - i < b))=true then (zo n u mid (mid+m - i) b c).bind λt=>some t else some u) else (if (decide (mid < mid+m - i)&&decide (mid+m - i < b))=true then (zo n L mid (mid+m - i) b c).bind λt=>some t else some L)))=some r)/\Mrg k L r a b:=by
   intro i M;have q1:=M.i0;have q2:=M.im;have q3:=M.id;have q4:=M.ie;refine optN (P:=λR=>Rot k L R m (mid+m - i) i) (Q:=λR=>Mrg k L R a b) (f:=λ_=>yy L i m (mid+m - i) c) (λh=>cstN ?_) (λh=>?_) (λR1 r1=>?_)
   ·simp only [ud,ul] at h;obtain ⟨r,e,Z,O⟩:=rot_is (c:=c) (L:=L) (a:=i) (m:=m) (b:=mid+m - i) (by omega) h.1 h.2 (by omega) h4;exact ⟨r,e,M.rot h.1 h.2 Z O⟩
   ·refine M.norot λh'=>?_;rw [sJ,tI,tI] at h;omega
   ·obtain ⟨t1,t2,t3,t4⟩:=r1.lo M;have hl1:=r1.t.len;refine optN (P:=λR=>Mrg k R1 R a mid) (Q:=λR=>Mrg k L R a b) (f:=λn=>zo n R1 a i mid c) (λh=>?_) (λh=>?_) (λR2 r2=>?_)
    ·simp only [ud,ul] at h
     grind
    ·rw [sJ,tI,tI] at h;refine ⟨Turn.refl _ _ _,?_⟩;rcases h with h | h
     ·grind
     ·grind
    ·have hl2:=r2.t.len;have u3:Srt k R2 mid (mid+m - i):=t3.same λx z w=>r2.t.out x (by omega) (by omega);have u4:Srt k R2 (mid+m - i) b:=t4.same λx z w=>r2.t.out x (by omega) (by omega);refine optN (P:=λR=>Mrg k R2 R mid b) (Q:=λR=>Mrg k L R a b) (f:=λn=>zo n R2 mid (mid+m - i) b c) (g:=λ_ t=>some t) (λh=>?_) (λh=>?_) (λR3 r3=>⟨R3,λ_ _=>rfl,M.join r1 r2 r3⟩)
     ·simp only [ud,ul] at h;exact ih R2 mid _ b (by omega) h.1 h.2 (by omega) (by omega) (by omega) u3 u4
     ·rw [sJ,tI,tI] at h;refine ⟨Turn.refl _ _ _,?_⟩;rcases h with h | h
      ·have e:mid+m - i=mid:=by omega
       rwa [e] at u4
      ·have e:mid+m - i=b:=by omega
       rwa [e] at u3
  refine iteN (λh=>cstN ?_) (λh=>iteN (λh=>cstN ?_) (λh=>iteN (λh=>?_) (λh=>?_)))
  ·have hma:m=a+1:=by have:=rb.1 h;omega
   refine lpW (Hal m b (λx=>k (At L x) < k (At L a)) (λx=>k (At L a)<=k (At L x))) (λs=>Hal m b (λx=>k (At L x) < k (At L a)) (λx=>k (At L a)<=k (At L x)) s/\s.1=s.2) (λs=>(s.2 - s.1).toNat) ⟨uF _,by dsimp only;omega,uF _,λx z w=>by dsimp only at w;omega,λx z w=>by dsimp only at z;omega⟩ ?_ ?_
   ·rintro ⟨i,j⟩ ⟨G,H,C,p,o⟩
    dsimp only at G H C p o ⊢;by_cases hij:i < j
    ·right;rw [ur (uA hij)];have K:=half_is (x:=i+j) (by omega) (by omega);have V:IntKind.wrap .i64 ((i+j) / 2+(1:Int))=(i+j) / 2+1:=yY (by omega);simp only [K,V];obtain ⟨v,O,F⟩:=hc (At L ((i+j) / 2)) (At L a);rw [x8 (L:=L) (i:=(i+j) / 2) (by omega) (by omega),ua,x8 (L:=L) (i:=a) (by omega) (by omega),ua,O,ua];by_cases hv0:v < 0
     ·rw [ur (uA hv0)];have:=F.1 hv0;refine ⟨_,rfl,⟨by dsimp only;omega,by dsimp only;omega,C,λx z w=>?_,o⟩,by dsimp only;omega⟩;dsimp only at w;have:=S2 x ((i+j) / 2) z (by omega) (by omega);omega
     ·rw [uu (by simp [hv0])];have:=mt F.2 hv0;refine ⟨_,rfl,⟨G,by dsimp only;omega,by dsimp only;omega,p,λx z w=>?_⟩,by dsimp only;omega⟩;dsimp only at z;have:=S2 ((i+j) / 2) x (by omega) (by omega) w;omega
    ·left;rw [uu (by simp [hij])];exact ⟨_,rfl,⟨G,H,C,p,o⟩,by dsimp only;omega⟩
   ·rintro ⟨i,j⟩ ⟨⟨G,H,C,p,o⟩,J⟩
    dsimp only at G H C p o J ⊢;subst J;have e3:IntKind.wrap .i64 (i - (1:Int))=i - 1:=yY (by omega);simp only [e3];refine lpW (λs=>a<=s.1/\s.1<=i - 1/\Turn k L s.2 a b/\∀x:Int,0<=x->At s.2 x=upF (At L) a s.1 x) (λs=>Turn k L s.2 a b/\∀x:Int,0<=x->At s.2 x=upF (At L) a (i - 1) x) (λs=>(i - 1 - s.1).toNat) ⟨uF _,by dsimp only;omega,Turn.refl _ _ _,λx U=>?_⟩ ?_ (λs hs=>⟨_,rfl,hs.1,?_⟩)
    ·unfold upF;rw [uu (by omega)]
     grind
    ·rintro ⟨q,D⟩ ⟨f1,f2,S,N⟩
     dsimp only at f1 f2 S N ⊢;have Z:=S.len;rw [zk Z];by_cases hk:q < i - 1
     ·right;rw [ur (uA hk)];have W:IntKind.wrap .i64 (q+(1:Int))=q+1:=yY (by omega);simp only [W];rw [x8 (L:=D) (i:=q+1) (by omega) (by omega),ua,x8 (L:=D) (i:=q) (by omega) (by omega),ua,ua,x8 (by omega) (by rw [uD];omega),ua];have k1:At D q=At L a:=by rw [N q (by omega)];unfold upF;rw [uu (by omega),ur rfl]
      have X:At D (q+1)=At L (q+1):=by rw [N (q+1) (by omega)];unfold upF;rw [uu (by omega),uu (by omega)]
      have k3:=p (q+1) (by omega) (by omega);obtain ⟨s1,s2,s3⟩:=swap_turn (k:=k) (E:=D) (i:=q) (by omega) (by omega) (by rw [k1,X];omega);refine ⟨_,rfl,⟨by dsimp only;omega,by dsimp only;omega,S.trans (s1.wide h0 (by omega) (by omega)),λx U=>?_⟩,by dsimp only;omega⟩;dsimp only;by_cases hq:x=q
      ·subst hq;rw [s2,X];unfold upF;rw [ur (by omega)]
      ·by_cases hq2:x=q+1
       ·subst hq2;rw [s3,k1];unfold upF;rw [uu (by omega),ur rfl]
       ·rw [s1.out x U (by omega),N x U];unfold upF
        repeat' split
        all_goals first
         | exact absurd ‹_› (by omega)
         | rfl
     ·left;rw [uu (by simp [hk])];exact ⟨_,rfl,S,by grind⟩
    ·exact up_done (by omega) C (by rw [<- hma];exact S2) (by rw [<- hma];exact p) o h0 hs.2
  ·have hbm:b=m+1:=by have:=rb.1 h;omega
   refine lpW (Hal a m (λx=>k (At L x)<=k (At L m)) (λx=>k (At L m) < k (At L x))) (λs=>Hal a m (λx=>k (At L x)<=k (At L m)) (λx=>k (At L m) < k (At L x)) s/\s.1=s.2) (λs=>(s.2 - s.1).toNat) ⟨uF _,by dsimp only;omega,uF _,λx z w=>by dsimp only at w;omega,λx z w=>by dsimp only at z;omega⟩ ?_ ?_
   ·rintro ⟨i,j⟩ ⟨G,H,C,p,o⟩
    dsimp only at G H C p o ⊢;by_cases hij:i < j
    ·right;rw [ur (uA hij)];have K:=half_is (x:=i+j) (by omega) (by omega);have V:IntKind.wrap .i64 ((i+j) / 2+(1:Int))=(i+j) / 2+1:=yY (by omega);simp only [K,V];obtain ⟨v,O,F⟩:=hc (At L m) (At L ((i+j) / 2));rw [x8 (L:=L) (i:=m) (by omega) (by omega),ua,x8 (L:=L) (i:=(i+j) / 2) (by omega) (by omega),ua,O,ua];by_cases hv0:v < 0
     ·rw [uu (by simp [hv0])];have:=F.1 hv0;refine ⟨_,rfl,⟨G,by dsimp only;omega,by dsimp only;omega,p,λx z w=>?_⟩,by dsimp only;omega⟩;dsimp only at z;have:=S1 ((i+j) / 2) x (by omega) (by omega) w;omega
     ·rw [ur (by simp [hv0])];have:=mt F.2 hv0;refine ⟨_,rfl,⟨by dsimp only;omega,by dsimp only;omega,C,λx z w=>?_,o⟩,by dsimp only;omega⟩;dsimp only at w;have:=S1 x ((i+j) / 2) z (by omega) (by omega);omega
    ·left;rw [uu (by simp [hij])];exact ⟨_,rfl,⟨G,H,C,p,o⟩,by dsimp only;omega⟩
   ·rintro ⟨i,j⟩ ⟨⟨G,H,C,p,o⟩,J⟩
    dsimp only at G H C p o J ⊢;subst J;refine lpW (λs=>i<=s.1/\s.1<=m/\Turn k L s.2 a b/\∀x:Int,0<=x->At s.2 x=dnF (At L) m s.1 x) (λs=>Turn k L s.2 a b/\∀x:Int,0<=x->At s.2 x=dnF (At L) m i x) (λs=>(s.1 - i).toNat) ⟨by dsimp only;omega,uF _,Turn.refl _ _ _,λx U=>?_⟩ ?_ (λs hs=>⟨_,rfl,hs.1,?_⟩)
    ·unfold dnF;rw [uu (by omega)]
     grind
    ·rintro ⟨q,D⟩ ⟨f1,f2,S,N⟩
     dsimp only at f1 f2 S N ⊢;have Z:=S.len;rw [zk Z];by_cases hk:q > i
     ·right;rw [ur (uA hk)];have W:IntKind.wrap .i64 (q - (1:Int))=q - 1:=yY (by omega);simp only [W];rw [x8 (L:=D) (i:=q - 1) (by omega) (by omega),ua,x8 (L:=D) (i:=q) (by omega) (by omega),ua,ua,x8 (by omega) (by rw [uD];omega),ua];have k1:At D q=At L m:=by rw [N q (by omega)];unfold dnF;rw [uu (by omega),ur rfl]
      have X:At D (q - 1)=At L (q - 1):=by rw [N (q - 1) (by omega)];unfold dnF;rw [uu (by omega),uu (by omega)]
      have k3:=o (q - 1) (by omega) (by omega);obtain ⟨s1,s2,s3⟩:=swap_turn (k:=k) (E:=D) (i:=q - 1) (by omega) (by omega) (by rw [rB,k1,X];omega);have sc:=swap_comm (E:=D) (i:=q - 1) (by omega) (At D (q - 1)) (At D q);rw [rB] at s1 s2 s3 sc;rw [sc];refine ⟨_,rfl,⟨by dsimp only;omega,by dsimp only;omega,S.trans (s1.wide h0 (by omega) (by omega)),λx U=>?_⟩,by dsimp only;omega⟩;dsimp only;by_cases hq:x=q
      ·subst hq;rw [s3,X];unfold dnF;rw [ur (by omega)]
      ·by_cases hq2:x=q - 1
       ·subst hq2;rw [s2,k1];unfold dnF;rw [uu (by omega),ur rfl]
       ·rw [s1.out x U (by omega),N x U];unfold dnF
        repeat' split
        all_goals first
         | exact absurd ‹_› (by omega)
         | rfl
     ·left;rw [uu (by simp [hk])];exact ⟨_,rfl,S,by grind⟩
    ·rw [hbm];exact dn_done (by omega) C S1 p o h0 hs.2
  ·have hg:m > mid:=u6 h;refine lpWN (Hal (mid+m - b) mid (λx=>k (At L x)<=k (At L (mid+m - 1 - x))) (λx=>k (At L (mid+m - 1 - x)) < k (At L x))) (λs=>Hal (mid+m - b) mid (λx=>k (At L x)<=k (At L (mid+m - 1 - x))) (λx=>k (At L (mid+m - 1 - x)) < k (At L x)) s/\s.1=s.2) (λs=>(s.2 - s.1).toNat) ⟨uF _,by dsimp only;omega,uF _,λx z w=>by dsimp only at w;omega,λx z w=>by dsimp only at z;omega⟩ ?_ ?_
   ·rintro ⟨i,j⟩ ⟨G,H,C,p,o⟩
    dsimp only at G H C p o ⊢;by_cases hij:i < j
    ·right;rw [ur (uA hij)];have K:=half_is (x:=i+j) (by omega) (by omega);have V:IntKind.wrap .i64 ((i+j) / 2+(1:Int))=(i+j) / 2+1:=yY (by omega);have ep:IntKind.wrap .i64 (mid+m - 1 - (i+j) / 2)=mid+m - 1 - (i+j) / 2:=yY (by omega);simp only [K,V,ep];obtain ⟨v,O,F⟩:=hc (At L (mid+m - 1 - (i+j) / 2)) (At L ((i+j) / 2));rw [x8 (L:=L) (i:=mid+m - 1 - (i+j) / 2) (by omega) (by omega),ua,x8 (L:=L) (i:=(i+j) / 2) (by omega) (by omega),ua,O,ua];by_cases hv0:v < 0
     ·rw [uu (by simp [hv0])];have:=F.1 hv0;refine ⟨_,rfl,⟨G,by dsimp only;omega,by dsimp only;omega,p,λx z w=>?_⟩,by dsimp only;omega⟩;dsimp only at z ⊢;have q1:=S1 ((i+j) / 2) x (by omega) (by omega) (by omega);have q2:=S2 (mid+m - 1 - x) (mid+m - 1 - (i+j) / 2) (by omega) (by omega) (by omega);omega
     ·rw [ur (by simp [hv0])];have:=mt F.2 hv0;refine ⟨_,rfl,⟨by dsimp only;omega,by dsimp only;omega,C,λx z w=>?_,o⟩,by dsimp only;omega⟩;dsimp only at w ⊢;have q1:=S1 x ((i+j) / 2) (by omega) (by omega) (by omega);have q2:=S2 (mid+m - 1 - (i+j) / 2) (mid+m - 1 - x) (by omega) (by omega) (by omega);omega
    ·left;rw [uu (by simp [hij])];exact ⟨_,rfl,⟨G,H,C,p,o⟩,by dsimp only;omega⟩
   ·rintro ⟨i,j⟩ ⟨⟨G,H,C,p,o⟩,J⟩
    dsimp only at G H C p o J ⊢;subst J;have W:IntKind.wrap .i64 (mid+m - i)=mid+m - i:=yY (by omega);simp only [W];exact I i ⟨h0,h1,h2,h3,hm1,Y,by omega,by omega,by omega,by omega,S1,S2,λ_ _=>by
     have:=p (i - 1) (by omega) (by omega)
     rwa [show mid+m - 1 - (i - 1)=mid+m - i by omega] at this,λ_ _=>o i (uF _) (by omega)⟩
  ·have hg:¬ m > mid:=rZ h;refine lpWN (Hal a m (λx=>k (At L x)<=k (At L (mid+m - 1 - x))) (λx=>k (At L (mid+m - 1 - x)) < k (At L x))) (λs=>Hal a m (λx=>k (At L x)<=k (At L (mid+m - 1 - x))) (λx=>k (At L (mid+m - 1 - x)) < k (At L x)) s/\s.1=s.2) (λs=>(s.2 - s.1).toNat) ⟨uF _,by dsimp only;omega,uF _,λx z w=>by dsimp only at w;omega,λx z w=>by dsimp only at z;omega⟩ ?_ ?_
   ·rintro ⟨i,j⟩ ⟨G,H,C,p,o⟩
    dsimp only at G H C p o ⊢;by_cases hij:i < j
    ·right;rw [ur (uA hij)];have K:=half_is (x:=i+j) (by omega) (by omega);have V:IntKind.wrap .i64 ((i+j) / 2+(1:Int))=(i+j) / 2+1:=yY (by omega);have ep:IntKind.wrap .i64 (mid+m - 1 - (i+j) / 2)=mid+m - 1 - (i+j) / 2:=yY (by omega);simp only [K,V,ep];obtain ⟨v,O,F⟩:=hc (At L (mid+m - 1 - (i+j) / 2)) (At L ((i+j) / 2));rw [x8 (L:=L) (i:=mid+m - 1 - (i+j) / 2) (by omega) (by omega),ua,x8 (L:=L) (i:=(i+j) / 2) (by omega) (by omega),ua,O,ua];by_cases hv0:v < 0
     ·rw [uu (by simp [hv0])];have:=F.1 hv0;refine ⟨_,rfl,⟨G,by dsimp only;omega,by dsimp only;omega,p,λx z w=>?_⟩,by dsimp only;omega⟩;dsimp only at z ⊢;have q1:=S1 ((i+j) / 2) x (by omega) (by omega) (by omega);have q2:=S2 (mid+m - 1 - x) (mid+m - 1 - (i+j) / 2) (by omega) (by omega) (by omega);omega
     ·rw [ur (by simp [hv0])];have:=mt F.2 hv0;refine ⟨_,rfl,⟨by dsimp only;omega,by dsimp only;omega,C,λx z w=>?_,o⟩,by dsimp only;omega⟩;dsimp only at w ⊢;have q1:=S1 x ((i+j) / 2) (by omega) (by omega) (by omega);have q2:=S2 (mid+m - 1 - (i+j) / 2) (mid+m - 1 - x) (by omega) (by omega) (by omega);omega
    ·left;rw [uu (by simp [hij])];exact ⟨_,rfl,⟨G,H,C,p,o⟩,by dsimp only;omega⟩
   ·rintro ⟨i,j⟩ ⟨⟨G,H,C,p,o⟩,J⟩
    dsimp only at G H C p o J ⊢;subst J;have W:IntKind.wrap .i64 (mid+m - i)=mid+m - i:=yY (by omega);simp only [W];exact I i ⟨h0,h1,h2,h3,hm1,Y,by omega,by omega,by omega,by omega,S1,S2,λ_ _=>by
     have:=p (i - 1) (by omega) (by omega)
     rwa [show mid+m - 1 - (i - 1)=mid+m - i by omega] at this,λ_ _=>o i (uF _) (by omega)⟩
end
section
variable {c:GE->GE->Option Int} {k:GE->Int}
inductive Chunks (k:GE->Int) (D:List GE) (q n:Int):Int->Prop where
 | last {a:Int}:n - a<=q->Srt k D a n->Chunks k D q n a
 | cons {a:Int}:Srt k D a (a+q)->Chunks k D q n (a+q)->Chunks k D q n a
inductive Doned (k:GE->Int) (D:List GE) (q:Int):Int->Prop where
 | nil:Doned k D q 0
 | snoc {a:Int}:Doned k D q a->Srt k D a (a+q)->Doned k D q (a+q)
theorem Doned.app (h:Doned k D q a):Chunks k D q n a->Chunks k D q n 0:=by
 induction h with
 | nil=>exact λg=>g
 | snoc _ s ih=>exact λg=>ih (.cons s g)
theorem Doned.same {D R:List GE} {q a:Int} (v:0<=q) (h:Doned k D q a):(∀x:Int,0<=x->x < a->At R x=At D x)->0<=a/\Doned k R q a:=by
 induction h with
 | nil=>exact λ_=>⟨uF _,.nil⟩
 | @snoc a _ s ih =>
  intro e;obtain ⟨h0,g⟩:=ih λx f o=>e x f (by omega);exact ⟨by omega,.snoc g (s.same λx o p=>e x (by omega) p)⟩
theorem Chunks.same {D R:List GE} {q n a:Int} (g:0<=q) (h:Chunks k D q n a):(∀x:Int,a<=x->At R x=At D x)->Chunks k R q n a:=by
 induction h with
 | last h s=>exact λe=>.last h (s.same λx f _=>e x f)
 | cons s _ ih=>exact λe=>.cons (s.same λx f _=>e x f) (ih λx f=>e x (by omega))
theorem Chunks.two (o:1<=q) (h:Chunks k D q n a) (w:a+2 * q<=n):Srt k D a (a+q)/\Srt k D (a+q) (a+2 * q)/\Chunks k D q n (a+2 * q):=by
 cases h with
 | last h s=>omega
 | cons s g =>
  cases g with
  | last h s2=>exact ⟨s,s2.sub (uF _) (by omega),.last (by omega) λi j f v p=>by omega⟩
  | cons s2 g=>rw [show a+q+q=a+2 * q by omega] at s2 g;exact ⟨s,s2,g⟩
theorem Chunks.end (h:Chunks k D q n a) (o:n < a+2 * q):(a+q < n->Srt k D a (a+q)/\Srt k D (a+q) n)/\(¬ a+q < n->Srt k D a n):=by
 cases h with
 | last h s=>exact ⟨λf=>by omega,λ_=>s⟩
 | cons s g =>
  refine ⟨λf=>⟨s,?_⟩,λf=>s.sub (uF _) (by omega)⟩;cases g with
  | last h s2=>exact s2
  | cons s2 g=>exact s2.sub (uF _) (by omega)
theorem sym_top (s:∀x y,∃v,c x y=some v/\(v < 0 ↔ k x < k y)) {L:List GE} {a m b:Int} (h0:0<=a) (o:a < m) (f:m < b) (p:b<=L.length) (g:(L.length:Int)<=1099511627776) (s1:Srt k L a m) (s2:Srt k L m b):∃r,xM L a m b c=some r/\Mrg k L r a b:=by
 obtain ⟨r,e,h⟩:=sym_is s (b - a).toNat L a m b h0 o f p g (by omega) s1 s2;exact ⟨r,qg _ e,h⟩
theorem stab_is (O:∀x y,∃v,c x y=some v/\(v < 0 ↔ k x < k y)) {L:List GE} {n:Int} (hn:n=(L.length:Int)) (hN:n<=1099511627776):∃r,xw L n c=some r/\Mrg k L r 0 n:=by
 unfold xw;refine lpW (λs=>0<=s.1/\s.1<=n/\s.2.1=s.1+20/\Turn k L s.2.2 0 n/\Doned k s.2.2 20 s.1) (λs=>0<=s.1/\s.1<=n/\n < s.1+20/\Turn k L s.2.2 0 n/\Doned k s.2.2 20 s.1) (λs=>(n - s.1).toNat) ⟨uF _,by omega,rfl,Turn.refl _ _ _,.nil⟩ ?_ ?_
 ·rintro ⟨a,b,D⟩ ⟨w,K,Q,p,J⟩
  dsimp only at w K Q p J ⊢;have z:=p.len;rw [zk z];by_cases h:b<=n
  ·right;rw [ur (uA h)];have e1:IntKind.wrap .i64 (b+(20:Int))=b+20:=yY (by omega);obtain ⟨r,e,t,s⟩:=ins_is O (L:=D) (a:=a) (b:=b) w (by omega) (by omega) (by omega);rw [e,ua,e1];refine ⟨_,rfl,⟨by omega,h,rfl,p.trans (t.wide (uF _) w h),?_⟩,by omega⟩;dsimp only;have:=(J.same (R:=r) (by omega) λx o N=>t.out x o (by omega)).2;rw [Q] at s ⊢;exact .snoc this s
  ·left;rw [uu (by simp [h])]
   simp_all
 ·rintro ⟨a,b,D⟩ ⟨w,K,Q,p,J⟩
  dsimp only at w K Q p J ⊢;have z:=p.len;obtain ⟨r,e,t,s⟩:=ins_is O (L:=D) (a:=a) (b:=n) w (by omega) (by omega) K;rw [e,ua];refine lpW (λs=>20<=s.1/\s.1<=2199023255552/\Turn k L s.2 0 n/\Chunks k s.2 s.1 n 0) (λs=>Mrg k L s.2 0 n) (λs=>(n - s.1).toNat) ⟨by omega,by omega,p.trans (t.wide (uF _) w (uF _)),((J.same (R:=r) (by omega) λx o N=>t.out x o (by omega)).2).app (.last (by omega) s)⟩ ?_ (λs hs=>⟨_,rfl,hs⟩)
  rintro ⟨q,E⟩ ⟨X,Z,M,T⟩
  dsimp only at X Z M T ⊢;have z:=M.len;rw [zk z];by_cases h:q < n
  ·right;rw [ur (uA h)];have Y:IntKind.wrap .i64 ((2:Int) * q)=2 * q:=yY (by omega);have e3:IntKind.wrap .i64 (q * (2:Int))=2 * q:=(yY (by omega)).trans (by omega);simp only [Y,e3];refine Exists.imp (λ_ h=>⟨h.1,h.2.1,h.2.2⟩) (lpN (P:=λC:Int×List GE=>(20<=C.1/\C.1<=2199023255552/\Turn k L C.2 0 n/\Chunks k C.2 C.1 n 0)/\(n - C.1).toNat < (n - q).toNat) (λs=>0<=s.1/\s.1<=n/\s.2.1=s.1+2 * q/\Turn k L s.2.2 0 n/\Doned k s.2.2 (2 * q) s.1/\Chunks k s.2.2 q n s.1) (λs=>0<=s.1/\s.1<=n/\n < s.1+2 * q/\Turn k L s.2.2 0 n/\Doned k s.2.2 (2 * q) s.1/\Chunks k s.2.2 q n s.1) (λs=>(n - s.1).toNat) ⟨uF _,by omega,by simp_all,M,.nil,T⟩ ?_ ?_)
   ·rintro ⟨a,b,F⟩ ⟨g,S,G,f,H,I⟩
    dsimp only at g S G f H I ⊢;have z:=f.len;rw [zk z];by_cases hb:b<=n
    ·right;rw [ur (uA hb)];have U:IntKind.wrap .i64 (a+q)=a+q:=yY (by omega);have W:IntKind.wrap .i64 (b+2 * q)=b+2 * q:=yY (by omega);simp only [U,W];obtain ⟨s1,s2,V⟩:=I.two (by omega) (by omega);rw [<- G] at s2 V;obtain ⟨r,e,t,s⟩:=sym_top O (L:=F) (a:=a) (m:=a+q) (b:=b) g (by omega) (by omega) (by omega) (by omega) s1 s2;rw [e,ua];refine ⟨_,rfl,⟨by omega,hb,rfl,f.trans (t.wide (uF _) g hb),?_,V.same (by omega) λx N=>t.out x (by omega) (by omega)⟩,by omega⟩;dsimp only;have:=(H.same (R:=r) (by omega) λx o N=>t.out x o (by omega)).2;rw [G] at s ⊢;exact .snoc this s
    ·left;rw [uu (by simp [hb])]
     simp_all
   ·rintro ⟨a,b,F⟩ ⟨g,S,G,f,H,I⟩
    dsimp only at g S G f H I ⊢;have z:=f.len;have U:IntKind.wrap .i64 (a+q)=a+q:=yY (by omega);simp only [U];obtain ⟨s1,s2⟩:=I.end G;by_cases hb:a+q < n
    ·rw [ur (uA hb)];obtain ⟨r,e,t,s⟩:=sym_top O (L:=F) (a:=a) (m:=a+q) (b:=n) g (by omega) (by omega) (by omega) (by omega) (s1 hb).1 (s1 hb).2;rw [e,ua];exact ⟨_,rfl,⟨by omega,by omega,f.trans (t.wide (uF _) g (uF _)),((H.same (R:=r) (by omega) λx o N=>t.out x o (by omega)).2).app (.last (by omega) s)⟩,by omega⟩
    ·rw [uu (by simp [hb])];exact ⟨_,rfl,⟨by omega,by omega,f,H.app (.last (by omega) (s2 hb))⟩,by omega⟩
  ·left;rw [uu (by simp [h])];refine ⟨_,rfl,M,?_⟩;dsimp only;cases T with
   | last _ s=>exact s
   | cons s _=>exact s.sub (uF _) (by omega)
theorem stab_eq (p:∀x y,∃v,c x y=some v/\(v < 0 ↔ k x < k y)) {L M:List GE} (o:(L.length:Int)<=1099511627776) (g:M.Pairwise (λx y=>k x<=k y)) (f:Eqv k L M):xe L c=some M:=by
 obtain ⟨r,e,t,s⟩:=stab_is p (L:=L) rfl o;unfold xe;rw [e,ua];have h:Srt k r 0 r.length:=by rw [t.len];exact s
 rw [ord_uniq r M h.pair g λq=>(f q).trans (t.eqv q).symm]
end
section
noncomputable def r7F (n:Nat) (ahead1:List zx):Nat->GA->List GL->Option (Out (List GL) (List GL)):=(λ(n1:Nat) (x1:GA) (s1:(List GL))=>((yg ((([]:List zx)).length+(ahead1).length<=yM) ((yg (((([]:List zx)++ahead1)).length+(([x1.name]:List zx)).length<=yM) ((lp (zq (λ(n2:Nat) (x2:GC) (s2:(List GL))=>((yg ((s2).length+(([(GL.mk ((([]:List zx)++ahead1)++([x1.name]:List zx)) x2)]:List GL)).length<=yM) (some (.nxt (s2++([(GL.mk ((([]:List zx)++ahead1)++([x1.name]:List zx)) x2)]:List GL))))):Option (Out _ (List GL)))) x1.leaves 0 s1) λ(s2:(List GL))=>((vg n x1.subs ((([]:List zx)++ahead1)++([x1.name]:List zx))).bind λv44=>(yg ((s2).length+(v44).length<=yM) (some (.nxt (s2++v44)))))))))):Option (Out _ (List GL))))
theorem rows7_eq (n:Nat) (t0:List GA) (f:List zx):vg (n+1) t0 f=(lp (zq (r7F n f) t0 0 ([]:List GL)) λ(s1:(List GL))=>some s1):=rfl
def vR (r:GE):GL:=⟨r.path,r.leaf⟩
noncomputable def roF:Nat->GL->List GE->Option (Out (List GE) (List GE)):=(λ(n1:Nat) (x1:GL) (s1:(List GE))=>((yg ((s1).length+(([(GE.mk x1.path x1.l)]:List GE)).length<=yM) (some (.nxt (s1++([(GE.mk x1.path x1.l)]:List GE))))):Option (Out _ (List GE))))
theorem roT_eq (t0:List GA):ref30Rows t0=((ref07May t0).bind λf=>(if (!f)=true then some ([]:List GE) else ((ref07Rows t0 ([]:List zx)).bind λv3=>(lp (zq roF v3 0 ([]:List GE)) λ(s1:(List GE))=>some s1)))):=rfl
theorem filt_all {α:Type} (L:List α):L.filter (λ_=>true)=L:=tx.2 λ_ _=>rfl
theorem r7F_is {n:Nat} {a:List zx} {s:List GL} (g:a.length<=16777216) (h:vg n x.subs (a++[x.name])=some ((zu (a++[x.name]) x.subs).map vR)) (hs:s.length+(ve a x).length<=16777216) (i:Nat):r7F n a i x s=some (.nxt (s++(ve a x).map vR)):=by
 rw [xz] at hs ⊢;simp only [uo,uq] at hs;unfold r7F;simp only [uY];rw [zk (xd (by simp;omega)),zk (xd (by simp;omega))];rw [qc (λ_:GC=>true) (λl=>(⟨a++[x.name],l⟩:GL)) x.leaves 0 s (xd (by omega)) (λi y f _ o=>by rw [zk (by omega),ur rfl]),yJ];rw [filt_all];rw [h,ua,zk (xd (by simp;omega))];simp [vR,sO]
theorem rows7_is:∀(n:Nat) (t:List GA) (a:List zx),GA.deps t < n->Small t->a.length+GA.deps t<=16777216->vg n t a=some ((zu a t).map vR)
 | 0,_,_,h,_,_=>by omega
 | n+1,t,a,h,hs,ha=>by
  rw [rows7_eq];have key:∀(u:List GA) (i:Nat) (s:List GL),(∀x ∈ u,x ∈ t)->s.length+(zu a u).length<=16777216->zq (r7F n a) u i s=some (.inr (s++(zu a u).map vR)):=by
   intro u
   induction u with
   | nil=>intro i s _ _;simp [zq,zu]
   | cons x r ih =>
    intro i s o f;have e:zu a (x::r)=ve a x++zu a r:=by rfl
    rw [e] at f ⊢;simp only [uo] at f;have g:=o x (by simp);have y:x.dep<=GA.deps t:=qf g;have w:=xX x;have v:=rows7_is n x.subs (a++[x.name]) (by omega) (hs.subs g) (by simp;omega);have p:=r7F_is (s:=s) (by omega) v (by omega) i;simp only [zq,p]
    grind
  rw [key t 0 [] (λx h=>h) (by simpa using uB (rows_len _ t a (ug _)) hs.2),yJ,uY]
theorem refRows_is (h:Small t):ref30Rows t=some (if treeB 0 t=true then zu [] t else []):=by
 rw [roT_eq,qK h,ua];cases treeB 0 t with
 | false=>rfl
 | true =>
  have g:ref07Rows t []=some ((zu [] t).map vR):=qg (GA.deps t+1) λn s=>rows7_is n t [] (by omega) h (by simpa using h.dep);have p:(zu [] t).length<=16777216:=uB (rows_len _ t [] (ug _)) h.2;rw [uu (by decide),g,ua,qc (λ_:GL=>true) (λx=>(⟨x.path,x.l⟩:GE)) _ 0 [] (xd (by simp;omega)) (λi y o _ f=>by unfold roF;rw [zk (by omega),ur rfl]),yJ];have e:(((zu [] t).map vR).filter λ_=>true).map (λx=>(⟨x.path,x.l⟩:GE))=zu [] t:=by
   rw [filt_all,rh];exact List.map_id' _
  simp_all
theorem ref30SamePath_refl (p:List zx):qn p p=some true:=by
 unfold qn;rw [uu (by simp),qi (r:=false) (λ_ _=>true)]
 ·simp [allI]
 ·intro i x f;have hi:=(uc.1 f).1;have g:p[i]=x:=(uc.1 f).2;rw [wP hi,g];simp
theorem ref30Same_refl (L:List GE):ref30Same L L=some true:=by
 unfold ref30Same;rw [uu (by simp),qi (r:=false) (λ_ _=>true)]
 ·simp [allI]
 ·intro i x f;have hi:=(uc.1 f).1;have g:L[i]=x:=(uc.1 f).2;have hd:L.getD i default=x:=by simp_all
  rw [wP hi,g];simp only [ua,ref30SamePath_refl,uw,hd,ref05Same_refl];rw [zk (by omega),zk (by omega)];simp
theorem rows_app (A B:List GA):zu [] (A++B)=zu [] A++zu [] B:=by
 rw [yu,yu,yu,List.flatMap_append]
theorem itS_app (A B:List GE):itS (A++B)=itS A+itS B:=by simp [itS]
theorem toS_app (A B:List GE):toS (A++B)=toS A+toS B:=by simp [toS]
theorem use_bytes {name:zx} (hs:Small t) (f:treeB 0 t=true) {u:GI} (h:wq name t=some u):∃r,ref09Put [] t=some r/\u.bytes=(r.length:Int):=by
 have s:=hs.2;obtain ⟨r,e,g⟩:=put_both hs;obtain ⟨p,z,_,v⟩:=statePut_tot hs;have y:=rows_bk_le (zu [] t);have o:=rows_lbk (GA.deps t) t [] (ug _);have w:=rows_len (GA.deps t) t [] (ug _);refine ⟨r,g,?_⟩;unfold wq at h;rw [e,ua,pathsRows_is hs,ua,ur f] at h;have:=use_loop (ρ:=GI) (zu [] t) 0 0 0 0 (by omega) (by omega) (by omega);rw [show ((0:Int),(0:Int),(0:Int))=(((0:Nat):Int),((0:Nat):Int),((0:Nat):Int)) from rfl,this,yJ] at h
 grind
def atN (name:zx) (r:GE):Bool:=r.path.head?==some name
theorem cnt_name {ρ:Type} (name:zx):∀(L:List GE) (i a b c:Nat),(∀r ∈ L,r.path ≠ [])->a+L.length<=4611686018427387904->b+itS L<=4611686018427387904->c+toS L<=4611686018427387904 ->
  zq (λ(n2:Nat) (o:GE) (s2:Int×Int×Int)=>(((yw o.path (0:Int)).bind λp=>(if (p==name)=true then some (.nxt ((IntKind.wrap .i64 (s2.1+(1:Int))),(IntKind.wrap .i64 (s2.2.1+((o.leaf.items).length:Int))),(IntKind.wrap .i64 (s2.2.2+((o.leaf.tombs).length:Int))))) else some (.nxt (s2.1,s2.2.1,s2.2.2)))):Option (Out ρ (Int×Int×Int)))) L i ((a:Int),(b:Int),(c:Int))=some (.inr (((a+(L.filter (atN name)).length:Nat):Int),((b+itS (L.filter (atN name)):Nat):Int),((c+toS (L.filter (atN name)):Nat):Int)))
 | [],_,a,b,c,_,_,_,_=>by rfl
 | r::L,i,a,b,c,hp,h1,h2,h3=>by
  have v:itS (r::L)=r.leaf.items.length+itS L:=by simp [itS]
  have H:toS (r::L)=r.leaf.tombs.length+toS L:=by simp [toS]
  rw [v] at h2;rw [H] at h3;simp only [un] at h1;obtain ⟨f,w,s⟩:∃f w,r.path=f::w:=by
   cases h:r.path with
   | nil=>exact absurd h (hp r (by simp))
   | cons f w=>exact ⟨f,w,rfl⟩
  have y:yw r.path (0:Int)=some f:=by rw [s];rfl
  have K:atN name r=(f==name):=by unfold atN;rw [s];simp
  simp only [zq,y,ua];have g:=λx C=>hp x (tr r C);by_cases hn:(f==name)=true
  ·have F:IntKind.wrap .i64 ((a:Int)+1)=((a+1:Nat):Int):=by rw [yY (by omega)];omega
   have z:IntKind.wrap .i64 ((b:Int)+((r.leaf.items.length:Nat):Int))=((b+r.leaf.items.length:Nat):Int):=by rw [yY (by omega)];omega
   have G:IntKind.wrap .i64 ((c:Int)+((r.leaf.tombs.length:Nat):Int))=((c+r.leaf.tombs.length:Nat):Int):=by rw [yY (by omega)];omega
   rw [ur hn,F,z,G];simp only [];rw [cnt_name name L (i+1) (a+1) (b+r.leaf.items.length) (c+r.leaf.tombs.length) g (by omega) (by omega) (by omega),List.filter_cons_of_pos (by simp_all)];have I:itS (r::L.filter (atN name))=r.leaf.items.length+itS (L.filter (atN name)):=by simp [itS]
   have J:toS (r::L.filter (atN name))=r.leaf.tombs.length+toS (L.filter (atN name)):=by simp [toS]
   grind
  ·rw [uu hn];simp only [];rw [cnt_name name L (i+1) a b c g (by omega) (by omega) (by omega),List.filter_cons_of_neg (by simp_all)]
theorem rows_name (s:t.Pairwise λx y=>x.name ≠ y.name) {x:GA} (o:x ∈ t):(zu [] t).filter (atN x.name)=zu [] [x]:=by
 have g:∀{z:GA} {r:GE},r ∈ ve [] z->atN x.name r=(z.name==x.name):=λh=>by
  obtain ⟨w,e⟩:=rowsN_head h;unfold atN;rw [e];simp
 induction t with
 | nil=>cases o
 | cons y t ih =>
  obtain ⟨G,F⟩:=uC.1 s;have e:zu [] (y::t)=ve [] y++zu [] t:=by rfl
  have C:zu [] [x]=ve [] x:=by rw [yu];simp
  rw [e,th];rcases uP.1 o with rfl | o
  ·have p:(ve [] x).filter (atN x.name)=ve [] x:=tx.2 λr f=>by rw [g f];simp
   have v:(zu [] t).filter (atN x.name)=[]:=tp.2 λr f=>by
    obtain ⟨z,H,f⟩:=mem_rows.1 f
    grind
   grind
  ·have p:(ve [] y).filter (atN x.name)=[]:=tp.2 λr f=>by
    grind
   simp_all
theorem names_ne (h:upB t=true):t.Pairwise λx y=>x.name ≠ y.name:=((qW t).1 h).imp λh e=>by rw [e,less_irr] at h;cases h
theorem rows_ne {r:GE} (h:r ∈ zu [] t):r.path ≠ []:=by
 obtain ⟨x,_,f⟩:=mem_rows.1 h;obtain ⟨w,e⟩:=rowsN_head f
 simp_all
theorem refUses_is (hs:Small t) (f:treeB 0 t=true):wV t=some (t.map qV,0):=by
 unfold wV;rw [qK hs,f,ua,uu (by decide),refRows_is hs,ur f,ua];have I:=hs.2;have K:=rows_bk_le (zu [] t);have N:=rows_lbk (GA.deps t) t [] (ug _);have J:=rows_len (GA.deps t) t [] (ug _);have M:=hs.len;rw [qc (λ_:GA=>true) qV t 0 [] (by simp [yM];omega)]
 ·rw [yJ,filt_all];rfl
 ·intro i x s g C;have h:=useU_is hs f g;obtain ⟨y,o,p⟩:=use_bytes (sing_small hs g) (sing_may f g) h.eq;obtain ⟨w,H,z⟩:=h.v;rw [o,ua];have:=cnt_name (ρ:=Out (List GI×Int) (List GI)) x.name (zu [] t) 0 0 0 0 (λr F=>rows_ne F) (by omega) (by omega) (by omega);rw [show ((0:Int),(0:Int),(0:Int))=(((0:Nat):Int),((0:Nat):Int),((0:Nat):Int)) from rfl,this,yJ,ur rfl,rows_name (names_ne (zN f).1) g];have e:GI.mk x.name ((0+(zu [] [x]).length:Nat):Int) ((0+itS (zu [] [x]):Nat):Int) ((0+toS (zu [] [x]):Nat):Int) (y.length:Int)=qV x:=by
   have G:=h.name;generalize qV x=u at G w H z p;obtain ⟨a,b,c,d,e⟩:=u
   simp_all
  simp only [e];rw [zk (by omega)]
theorem refUses_no (hs:Small t) (f:treeB 0 t=false):wV t=some ([],2):=by
 unfold wV;rw [qK hs,f];rfl
theorem uses_no (hs:Small t) (f:treeB 0 t=false):wY t=some ([],2):=by
 unfold wY;rw [qx hs,f];rfl
def lv (t:List GA):Int×Int×Int:=(((zu [] t).length:Int),(itS (zu [] t):Int),(toS (zu [] t):Int))
theorem all_loop {ρ:Type} {t:List GA} (hs:Small t) (h:treeB 0 t=true) {u:GI} (f:UseOf [] t u):∀(L A:List GA) (i:Nat),t=A++L ->
  zq (λ(Q:Nat) (g:GI) (s1:Int×Int×Int)=>(some (.nxt ((IntKind.wrap .i64 (s1.1+g.leaves)),(IntKind.wrap .i64 (s1.2.1+g.items)),(IntKind.wrap .i64 (s1.2.2+g.tombs)))):Option (Out ρ (Int×Int×Int)))) (L.map qV) i (lv A)=some (.inr (lv t))
 | [],A,i,e=>by rw [e,t6];rfl
 | x::L,A,i,e=>by
  have G:x ∈ t:=by rw [e];simp
  have C:=useU_is hs h G;have o:t=(A++[x])++L:=by rw [e];simp
  have q:zu [] t=(zu [] A++zu [] [x])++zu [] L:=by rw [o,rows_app,rows_app]
  obtain ⟨N,J,O⟩:=f.v;have K:=f.l.2;have M:=f.i.2;have P:=f.t.2;obtain ⟨p,H,s⟩:=C.v;have z:=congrArg List.length q;have I:=congrArg itS q;have F:=congrArg toS q;rw [uo,uo] at z;rw [itS_app,itS_app] at I;rw [toS_app,toS_app] at F;have y:IntKind.wrap .i64 ((lv A).1+(qV x).leaves)=(lv (A++[x])).1:=by
   simp only [lv,rows_app,uo,p];rw [yY (by omega)];omega
  have w:IntKind.wrap .i64 ((lv A).2.1+(qV x).items)=(lv (A++[x])).2.1:=by
   simp only [lv,rows_app,itS_app,H];rw [yY (by omega)];omega
  have z3:IntKind.wrap .i64 ((lv A).2.2+(qV x).tombs)=(lv (A++[x])).2.2:=by
   simp only [lv,rows_app,toS_app,s];rw [yY (by omega)];omega
  simp only [ux,zq,y,w,z3];exact all_loop hs h f L (A++[x]) (i+1) o
theorem all_is (hs:Small t):∃v,meterAll t=some v/\ref45All t=some v:=by
 unfold meterAll ref45All;rw [qx hs,ua];cases ht:treeB 0 t with
 | false =>
  rw [refUses_no hs ht]
  simp_all
 | true =>
  obtain ⟨u,f⟩:=use_is [] hs ht;obtain ⟨r,y,o⟩:=use_bytes hs ht f.eq;have h:=all_loop (ρ:=GI×Int) hs ht f t [] 0 rfl;rw [refUses_is hs ht,ua,uu (by simp),uu (by simp),f.eq,ua];rw [show lv []=((0:Int),(0:Int),(0:Int)) from rfl] at h;rw [h,yJ,y,ua];refine ⟨_,rfl,?_⟩;obtain ⟨g,s,p⟩:=f.v;have w:=f.name;obtain ⟨a,b,c,d,e⟩:=u;simp only at w g s p o;subst w g s p o;rfl
end
section
theorem any_idx {ρ:Type} {q:GI->Bool} {r:ρ} {L:List GI}:∀(M:List Nat) (k:Nat),k+M.length<=L.length ->
  zq (λ(n2:Nat) (o:Nat) (s2:Unit)=>(((yw L (n2:Int)).bind λf=>(if (q f)=true then some (.ret r) else some (.nxt ()))):Option (Out ρ Unit))) M k ()=if ((L.drop k).take M.length).any q=true then some (.inl r) else some (.inr ())
 | [],k,_=>by simp [zq]
 | x::M,k,h=>by
  simp only [un] at h;have g:k < L.length:=by omega
  have e:(L.drop k).take (M.length+1)=L[k]::(L.drop (k+1)).take M.length:=by
   rw [sL g,sC]
  simp only [zq,wP g,ua,un,e,po];cases hq:q L[k] with
  | true=>simp
  | false =>
   simp only [uh,uz,tv];exact any_idx M (k+1) (by omega)
theorem refMay_is (h:L.length<=maxLen):ref45May L=some (mayQ L):=by
 unfold ref45May;rw [qi (mayQ1 L) (r:=false)]
 ·unfold mayQ;split <;> simp_all
 ·intro i x o;have hi:i < L.length:=(uc.1 o).1;simp only [maxLen] at h;have f:=any_idx (ρ:=Out Bool Unit) (q:=λy=>y.name==x.name) (r:=Out.ret false) (L:=L) (List.range ((i:Int)).toNat) 0 (by simp;omega);rw [su] at f;rw [ref04IsName_is,zk (by omega),f,List.length_range,uw];have g:leastQ x < 0 ↔ (x.leaves < 0 \/ x.items < 0 \/ x.tombs < 0 \/ x.bytes < 0):=by
   unfold leastQ;omega
  have hd:decide (leastQ x < 0)=(decide (x.leaves < 0) || decide (x.items < 0) || decide (x.tombs < 0) || decide (x.bytes < 0)):=by
   grind
  unfold mayQ1;rw [hd];generalize ((L.take i).any λy=>y.name==x.name)=A;generalize (x.name==([]:zx))=B;generalize nameB x.name=C;generalize decide (x.leaves < 0)=D1;generalize decide (x.items < 0)=D2;generalize decide (x.tombs < 0)=D3;generalize decide (x.bytes < 0)=D4;cases A <;> cases B <;> cases C <;> cases D1 <;> cases D2 <;> cases D3 <;> cases D4 <;> rfl
theorem mayQ_uniq (h:mayQ L=true) {i j:Nat} (hi:i < L.length) (f:j < L.length) (e:L[i].name=L[j].name):i=j:=by
 have key:∀{i j:Nat} (hi:i < L.length) (f:j < L.length),i < j->L[i].name ≠ L[j].name:=λ{i j} hi f p e=>by
  have g:=allI_iff.1 h j L[j] (ui f);unfold mayQ1 at g;simp only [tT,sy] at g;have o:=g.1.1;rw [sA] at o;exact o L[i] (List.mem_take_iff_getElem.2 ⟨i,by omega,rfl⟩) (by simpa using e)
 grind
def QAt (L:List GI) (name:zx) (n:Nat) (v:Int):Prop :=
 (∃j,∃h:j < L.length,j < n/\L[j].name=name/\v=(j:Int)) \/ ((∀j,∀h:j < L.length,j < n->L[j].name ≠ name) /\
  ((∃j,∃h:j < L.length,j < n/\L[j].name=[]/\v=(j:Int)) \/ (v=-1/\∀j,∀h:j < L.length,j < n->L[j].name ≠ [])))
theorem refQuota_loop {ρ:Type} {L:List GI} {name:zx}:∀(M:List GI) (i:Nat) (v:Int),M=L.drop i->QAt L name i v ->
  ∃v',zq (λ(F:Nat) (G:GI) (C:Int)=>((yg (((G.name==name)==false)=true->0<=(F:Int)/\(F:Int) < ((L).length:Int)) ((if ((G.name==name) || ((((L).getD (F:Int).toNat default).name==([]:zx))&&(decide (C < (0:Int)))))=true then some (.nxt (F:Int)) else some (.nxt C)))):Option (Out ρ Int))) M i v=some (.inr v')/\QAt L name L.length v'
 | [],i,v,hM,h=>by
  have I:L.length<=i:=by simp_all
  refine ⟨v,rfl,?_⟩;rcases h with ⟨j,p,o,s⟩ | ⟨h0,⟨j,p,o,s⟩ | ⟨o,s⟩⟩
  ·exact .inl ⟨j,p,p,s⟩
  ·exact .inr ⟨λk g _=>h0 k g (by omega),.inl ⟨j,p,p,s⟩⟩
  ·exact .inr ⟨λk g _=>h0 k g (by omega),.inr ⟨o,λk g _=>s k g (by omega)⟩⟩
 | x::M,i,v,hM,h=>by
  have hi:i < L.length:=by have:=congrArg List.length hM;simp at this;omega
  have H:L.drop i=L[i]::L.drop (i+1):=sL hi;rw [H] at hM;injection hM with o s;subst o;have hd:L.getD (i:Int).toNat default=L[i]:=by simp_all
  simp only [zq,hd];rw [zk (λ_=>by omega)];by_cases hn:L[i].name=name
  ·rw [ur (by simp [hn])];exact refQuota_loop M (i+1) _ s (.inl ⟨i,hi,by omega,hn,rfl⟩)
  ·have f:∀k,∀g:k < L.length,k < i+1->(∀j,∀p:j < L.length,j < i->L[j].name ≠ name)->L[k].name ≠ name:=λk g w y=>by
    grind
   by_cases hs:L[i].name=[]/\v < 0
   ·rw [ur (by simp_all)];refine refQuota_loop M (i+1) _ s ?_;rcases h with ⟨j,p,o,w,y⟩ | ⟨h0,⟨j,p,o,w,y⟩ | ⟨o,w⟩⟩
    ·omega
    ·omega
    ·exact .inr ⟨λk g z=>f k g z h0,.inl ⟨i,hi,by omega,hs.1,rfl⟩⟩
   ·rw [uu (λh=>hs (by simp_all))];refine refQuota_loop M (i+1) _ s ?_;rcases h with ⟨j,p,o,w,y⟩ | ⟨h0,⟨j,p,o,w,y⟩ | ⟨o,w⟩⟩
    ·exact .inl ⟨j,p,by omega,w,y⟩
    ·exact .inr ⟨λk g z=>f k g z h0,.inl ⟨j,p,by omega,w,y⟩⟩
    ·refine .inr ⟨λk g z=>f k g z h0,.inr ⟨o,λk g z=>?_⟩⟩
     grind
theorem quota2 (C:mayQ L=true) (name:zx):(∃j,∃h:j < L.length,wn L name=some (L[j],true)/\wH L name=some (j:Int)) \/ (wn L name=some (GI.mk [] 0 0 0 0,false)/\wH L name=some (-1)):=by
 obtain ⟨v,e,w⟩:=refQuota_loop (ρ:=Int) (L:=L) (name:=name) L 0 (-1) rfl (.inr ⟨λj _ h=>by omega,.inr ⟨rfl,λj _ h=>by omega⟩⟩);have G:wH L name=some v:=by unfold wH;rw [e];rfl
 have key:∀s:zx,(∃j,∃h:j < L.length,L[j].name=s/\zZ L (λo=>xC o s)=some (j:Int)) \/ ((∀j,∀h:j < L.length,L[j].name ≠ s)/\zZ L (λo=>xC o s)=some (-1)):=λs=>by
  rcases indexQ_is (f:=λo=>xC o s) (q:=λx=>x.name==s) (λx=>rfl) L with ⟨h,F⟩ | ⟨j,g,I,F,_⟩
  ·simp_all
  ·grind
 rw [G];unfold wn;rw [zk (by decide)];have H:List.range (((2:Int)).toNat)=[0,1]:=rfl;rw [H];simp only [zq,up];rcases key name with ⟨j,g,p,h⟩ | ⟨p,h⟩
 ·rw [h,ua];simp only [show ((j:Int) >= 0) from by omega,sG,up];rw [wP g,ua];refine .inl ⟨j,g,rfl,?_⟩;rcases w with ⟨i,hi,_,z,y⟩ | ⟨h0,_⟩
  ·rw [y,mayQ_uniq C hi g (z.trans p.symm)]
  ·simp_all
 ·rw [h,ua];simp only [show ¬ ((-1:Int) >= 0) from by omega,sF,uh,uz,uT,sM];have w:((∃j,∃h:j < L.length,j < L.length/\L[j].name=[]/\v=(j:Int)) \/ (v=-1/\∀j,∀h:j < L.length,j < L.length->L[j].name ≠ [])):=by
   rcases w with ⟨i,hi,_,z,y⟩ | ⟨_,h⟩
   ·simp_all
   ·exact h
  rcases key [] with ⟨j,g,p,h⟩ | ⟨p,h⟩
  ·rw [h,ua];simp only [show ((j:Int) >= 0) from by omega,sG,up];rw [wP g,ua];refine .inl ⟨j,g,rfl,?_⟩;rcases w with ⟨i,hi,_,z,y⟩ | ⟨_,h0⟩
   ·rw [y,mayQ_uniq C hi g (z.trans p.symm)]
   ·simp_all
  ·simp_all
theorem over_of (v:mayQ L=true) (s:∀q ∈ L,GI.wf q) {u q:GI} (p:q ∈ L) (C:wn L u.name=some (q,true)) (f:UseB u):wd L u=some (ovr u.leaves q.leaves,ovr u.items q.items,ovr u.tombs q.tombs,ovr u.bytes q.bytes):=by
 unfold wd;rw [C,ua];have g:=mayQ_pos v p;obtain ⟨w0,w,F,z,y⟩:=s q p;have o:∀n,InK .i64 n->n<=9223372036854775807:=λn h=>by unfold InK at h;simp [IntKind.min,IntKind.max,IntKind.signed,IntKind.bits] at h;omega
 simp only [tg,uh,uz,xT,ua];rw [zk (by decide)];have e:List.range (((4:Int)).toNat)=[0,1,2,3]:=rfl;rw [e];simp only [zq,up,uT,sM,uz,Nat.reduceAdd,show (2:Nat) ≠ 0 from by omega,show (2:Nat) ≠ 1 from by omega,show (3:Nat) ≠ 0 from by omega,show (3:Nat) ≠ 1 from by omega,show (3:Nat) ≠ 2 from by omega,yJ];rw [ovr_is f.l.1 f.l.2 g.1 (o _ w),ovr_is f.i.1 f.i.2 g.2.1 (o _ F),ovr_is f.t.1 f.t.2 g.2.2.1 (o _ z),ovr_is f.b.1 f.b.2 g.2.2.2 (o _ y)]
theorem over_non {u:GI} (f:wn L u.name=some (GI.mk [] 0 0 0 0,false)):wd L u=some (0,0,0,0):=by
 unfold wd
 grind
theorem ovr0 {u:Int}:(ovr u q==0)=!decide (u > q):=by
 unfold ovr
 grind
theorem ovrp {u:Int}:decide (ovr u q > 0)=decide (u > q):=by
 unfold ovr
 grind
end
section
theorem some_ne (a b c d:Int):(some (a,b,c,d) != some ((0:Int),(0:Int),(0:Int),(0:Int)))=!((a==0)&&(b==0)&&(c==0)&&(d==0)):=by
 grind
theorem refOver_is (w:L.length<=maxLen) (h:mayQ L=true) (y:∀q ∈ L,GI.wf q) {t:List GA} (hs:Small t) (o:treeB 0 t=true):ref45Over L t=some ((t.map qV).filter (overB L),0):=by
 unfold ref45Over;rw [refUses_is hs o,ua,ur (by simp),refMay_is w,h,ua,uu (by simp)];rw [qc (overB L) (λu=>u) _ 0 [] (by have:=hs.len;simp [yM];omega)]
 ·simp
 ·intro i u s z v;obtain ⟨x,C,rfl⟩:=sd.1 z;have p:=useU_is hs o C;generalize qV x=u at p;unfold overB;rcases quota2 h u.name with ⟨j,F,g,f⟩ | ⟨g,f⟩
  ·rw [over_of h y (sn F) g p.ub,f,ua];have hd:L.getD (j:Int).toNat default=L[j]:=by simp_all
   rw [hd,zk (λ_=>by omega),zk (λ_=>by omega),zk (λ_=>by omega),zk (λ_=>by omega)];have e:(some (ovr u.leaves L[j].leaves,ovr u.items L[j].items,ovr u.tombs L[j].tombs,ovr u.bytes L[j].bytes) != some ((0:Int),(0:Int),(0:Int),(0:Int)))=(decide ((j:Int) >= 0)&&((((decide (u.leaves > L[j].leaves)) || (decide (u.items > L[j].items))) || (decide (u.tombs > L[j].tombs))) || (decide (u.bytes > L[j].bytes)))):=by
    rw [uA (show (j:Int) >= 0 by omega),uS];have this:=some_ne (ovr u.leaves L[j].leaves) (ovr u.items L[j].items) (ovr u.tombs L[j].tombs) (ovr u.bytes L[j].bytes);rw [this,ovr0,ovr0,ovr0,ovr0];simp
   rw [e,zk (by omega)]
  ·rw [over_non g,f,ua];rfl
theorem refOne_is (hs:Small t) (f:treeB 0 t=true) (name:zx):∃u,vO t name=some u/\ref45Xone t name=some u/\u.name=name/\UseB u:=by
 unfold ref45Xone;rw [refUses_is hs f,ua];have key:∀(M:List GA) (i:Nat),(∀x ∈ M,x ∈ t)->(∃x ∈ M,x.name=name/\zq (λ(I:Nat) (g:GI) (w:Unit)=>((if (g.name==name)=true then some (.ret g) else some (.nxt ())):Option (Out GI Unit))) (M.map qV) i ()=some (.inl (qV x))) \/ ((∀x ∈ M,x.name ≠ name)/\zq (λ(I:Nat) (g:GI) (w:Unit)=>((if (g.name==name)=true then some (.ret g) else some (.nxt ())):Option (Out GI Unit))) (M.map qV) i ()=some (.inr ())):=by
  intro M
  induction M with
  | nil=>intro i _;exact .inr ⟨by simp,rfl⟩
  | cons x M ih =>
   intro i G;have H:=(useU_is hs f (G x (by simp))).name;simp only [ux,zq,H]
   grind
 rcases of_is hs f name with ⟨x,F,s,p⟩ | ⟨s,p⟩
 ·rcases key t 0 (λ_ h=>h) with ⟨y,C,v,o⟩ | ⟨v,_⟩
  ·have z:=useU_is hs f F;refine ⟨_,p,?_,z.name.trans s,z.ub⟩;rw [o,up_uniq (zN f).1 C F (v.trans s.symm)];rfl
  ·simp_all
 ·rcases key t 0 (λ_ h=>h) with ⟨y,C,v,o⟩ | ⟨_,o⟩
  ·simp_all
  ·exact ⟨_,p,by rw [o];rfl,rfl,⟨by simp,by simp,by simp,by simp⟩⟩
theorem fits2 (I:L.length<=maxLen) (Q:∀q ∈ L,GI.wf q) {t:List GA} (hs:Small t) (O:GA.bks t<=1048576) {e:GJ} (C:GJ.wf e):∃v,meterFits L t e=some v/\ref45Fits L t e=some v:=by
 by_cases hx:mayQ L=true/\treeB 0 t=true/\wZ e=true
 ·obtain ⟨s,p,y⟩:=hx;have R:=fine_of hs p O;obtain ⟨u,l,b,K,Z,us,U,_⟩:=apply_is R y C;have d:=evOk y;obtain ⟨S,_,_⟩:=qM d.path;obtain ⟨g,w,G⟩:∃g w,e.op.path=g::w:=by
   cases h:e.op.path with
   | nil=>exact absurd h S
   | cons g w=>exact ⟨g,w,rfl⟩
  obtain ⟨A,J,V,Y,P⟩:=refOne_is hs p g;obtain ⟨B,N,T,X,H⟩:=refOne_is us U g;have hi:yw e.op.path (0:Int)=some g:=by rw [G];rfl
  have W:ref45Fits L t e=((wH L B.name).bind λo=>(if (decide (o < (0:Int)))=true then some (true,(0:Int)) else ((yw L o).bind λf=>some ((!(((((decide (B.leaves > f.leaves))&&(decide (B.leaves > A.leaves))) || ((decide (B.items > f.items))&&(decide (B.items > A.items)))) || ((decide (B.tombs > f.tombs))&&(decide (B.tombs > A.tombs)))) || ((decide (B.bytes > f.bytes))&&(decide (B.bytes > A.bytes))))),(0:Int))))):=by
   unfold ref45Fits;rw [refMay_is I,s,qK hs,p,vZ,y]
   grind
  rw [W];rcases quota2 s B.name with ⟨j,M,F,z⟩ | ⟨F,z⟩
  ·rw [fits_is s hs p y K G J N (over_of s Q (sn M) F H),z,ua,uu (by simp),wP M,ua];simp only [ovrp]
   simp_all
  ·rw [fits_is s hs p y K G J N (over_non F),z,ua,ur (by simp)]
   simp_all
 ·refine ⟨(false,2),?_,?_⟩
  ·unfold meterFits;rw [meterMay_is,qx hs,opMayEvent_is]
   grind
  ·unfold ref45Fits;rw [refMay_is I,qK hs,vZ]
   grind
theorem over2 (g:L.length<=maxLen) (f:∀q ∈ L,GI.wf q) {t:List GA} (hs:Small t):∃v,meterOver L t=some v/\ref45Over L t=some v:=by
 by_cases hx:treeB 0 t=true/\mayQ L=true
 ·exact ⟨_,meterOver_is hx.2 f hs hx.1,refOver_is g hx.2 f hs hx.1⟩
 ·refine ⟨([],2),?_,?_⟩
  ·unfold meterOver;cases ht:treeB 0 t with
   | false=>rw [uses_no hs ht];rfl
   | true =>
    cases hm:mayQ L with
    | true=>exact absurd ⟨ht,hm⟩ hx
    | false=>rw [uses_is hs ht,meterMay_is,hm];rfl
  ·unfold ref45Over;cases ht:treeB 0 t with
   | false=>rw [refUses_no hs ht];rfl
   | true =>
    cases hm:mayQ L with
    | true=>exact absurd ⟨ht,hm⟩ hx
    | false=>rw [refUses_is hs ht,refMay_is g,hm];rfl
theorem uses2 (hs:Small t):∃v,wY t=some v/\wV t=some v:=by
 cases ht:treeB 0 t with
 | false=>exact ⟨_,uses_no hs ht,refUses_no hs ht⟩
 | true=>exact ⟨_,uses_is hs ht,refUses_is hs ht⟩
theorem same45_refl (L:List GI):ref45Same L L=some true:=by
 unfold ref45Same;rw [uu (by simp),qi (r:=false) (λ_ _=>true)]
 ·simp [allI]
 ·intro i x f;have hi:=(uc.1 f).1;have g:L[i]=x:=(uc.1 f).2;rw [wP hi,g];simp
def wtR (r:GE):Int:=IntKind.wrap .i64 (((r.leaf.items).length:Int)+((r.leaf.tombs).length:Int))
theorem cmpInt_is (a b:Int):qt a b=some (if a < b then -1 else if a > b then 1 else 0):=by
 unfold qt cmpXisNaNInt
 grind
theorem heavyC (x y:GE):∃v,(λf g=>wC f g) x y=some v/\(v < 0 ↔ (λr=>-wtR r) x < (λr=>-wtR r) y):=by
 refine ⟨if wtR y < wtR x then -1 else if wtR y > wtR x then 1 else 0,?_,?_⟩
 ·unfold wC vu;simp only [ua,cmpInt_is];rfl
 ·grind
def putW (x:GE):List GE->List GE
 | []=>[x]
 | y::r=>if wtR y >= wtR x then y::putW x r else x::y::r
def heavyW (out:List GE):List GE->List GE
 | []=>out
 | x::r=>heavyW (putW x out) r
theorem putW_split (x:GE):∀L:List GE,∃A B,L=A++B/\putW x L=A++x::B/\(∀y ∈ A,wtR y >= wtR x)/\∀z C,B=z::C->¬ wtR z >= wtR x
 | []=>⟨[],[],rfl,rfl,by simp,by simp⟩
 | y::r=>by
  by_cases h:wtR y >= wtR x
  ·obtain ⟨A,B,o,f,p,g⟩:=putW_split x r;refine ⟨y::A,B,by rw [o];rfl,by simp only [putW,ur h,f];rfl,λz s=>?_,g⟩
   grind
  ·exact ⟨[],y::r,rfl,by simp only [putW,uu h];rfl,by simp,λz C e=>by simp_all⟩
theorem putW_pair {x:GE}:∀{L:List GE},L.Pairwise (λa b=>-wtR a<=-wtR b)->(putW x L).Pairwise (λa b=>-wtR a<=-wtR b)
 | [],_=>by simp [putW]
 | y::r,h=>by
  obtain ⟨p,f⟩:=uC.1 h;by_cases hy:wtR y >= wtR x
  ·simp only [putW,ur hy];refine uC.2 ⟨λz g=>?_,putW_pair f⟩;obtain ⟨A,B,o,s,_,_⟩:=putW_split x r
   grind
  ·simp only [putW,uu hy];refine uC.2 ⟨λz g=>?_,h⟩
   grind
theorem putW_filt {x:GE} (q:Int):∀{L:List GE},L.Pairwise (λa b=>-wtR a<=-wtR b)->(putW x L).filter (λr=>-wtR r==q)=L.filter (λr=>-wtR r==q)++[x].filter (λr=>-wtR r==q)
 | [],_=>by simp [putW]
 | y::r,h=>by
  obtain ⟨g,f⟩:=uC.1 h;by_cases hy:wtR y >= wtR x
  ·simp only [putW,ur hy];rw [tS,tS,putW_filt q f]
   grind
  ·simp only [putW,uu hy];by_cases hq:(-wtR x==q)=true
   ·have:(y::r).filter (λr=>-wtR r==q)=[]:=tp.2 λz o e=>by
     grind
    grind
   ·simp_all
theorem heavyW_is:∀(L out:List GE),out.Pairwise (λa b=>-wtR a<=-wtR b)->(heavyW out L).Pairwise (λa b=>-wtR a<=-wtR b)/\(heavyW out L).length=out.length+L.length/\∀q:Int,(heavyW out L).filter (λr=>-wtR r==q)=(out++L).filter (λr=>-wtR r==q)
 | [],out,h=>⟨h,rfl,λq=>by simp [heavyW]⟩
 | x::L,out,h=>by
  obtain ⟨o,g,p⟩:=heavyW_is L (putW x out) (putW_pair h);obtain ⟨A,B,f,s,_,_⟩:=putW_split x out;refine ⟨o,by rw [heavyW,g,s,f];simp;omega,λq=>?_⟩;rw [heavyW,p,th,putW_filt q h,uy,<- th,<- th];rfl
theorem refPut_loop {L:List GE} {i:Nat} {x:GE} (M:L[i]?=some x) {out:List GE} (P:out.length<=1073741824):∃A B,out=A++B/\putW x out=A++x::B /\
  ye (λ(s2:Int)=>((yg (((decide (s2 < ((out).length:Int)))==true)=true->0<=s2/\s2 < ((out).length:Int)) (((if ((decide (s2 < ((out).length:Int)))==true)=true then xE ((out).getD s2.toNat default) else some default).bind λo=>(yg (((decide (s2 < ((out).length:Int)))==true)=true->0<=(i:Int)/\(i:Int) < ((L).length:Int)) (((if ((decide (s2 < ((out).length:Int)))==true)=true then xE ((L).getD (i:Int).toNat default) else some default).bind λv45=>(if ((decide (s2 < ((out).length:Int)))&&(decide (o >= v45)))=true then some (.nxt (IntKind.wrap .i64 (s2+(1:Int)))) else some (.brk s2)))))))):Option (Out ρ Int))) (0:Int)=some (.inr (A.length:Int)):=by
 obtain ⟨A,B,F,G,K,H⟩:=putW_split x out;refine ⟨A,B,F,G,?_⟩;have hi:=(uc.1 M).1;have hd:L.getD (i:Int).toNat default=x:=by simp_all
 have p:∀r,xE r=some (wtR r):=λ_=>rfl;have J:out.length=A.length+B.length:=by rw [F];simp
 have key:=qN (ρ:=ρ) (f:=λ(s2:Int)=>((yg (((decide (s2 < ((out).length:Int)))==true)=true->0<=s2/\s2 < ((out).length:Int)) (((if ((decide (s2 < ((out).length:Int)))==true)=true then xE ((out).getD s2.toNat default) else some default).bind λo=>(yg (((decide (s2 < ((out).length:Int)))==true)=true->0<=(i:Int)/\(i:Int) < ((L).length:Int)) (((if ((decide (s2 < ((out).length:Int)))==true)=true then xE ((L).getD (i:Int).toNat default) else some default).bind λv45=>(if ((decide (s2 < ((out).length:Int)))&&(decide (o >= v45)))=true then some (.nxt (IntKind.wrap .i64 (s2+(1:Int)))) else some (.brk s2)))))))):Option (Out ρ Int)))
  (λs=>0<=s/\s<=A.length) (λs=>s=A.length) (λs=>(A.length - s).toNat) ?_ _ 0 rfl ⟨uF _,by omega⟩
 ·simp_all
 ·rintro s ⟨I,s1⟩
  rw [zk (λh=>⟨I,by simpa using h⟩)];by_cases hs:s < A.length
  ·right;have g:s < out.length:=by omega
   have y:out.getD s.toNat default=A[s.toNat]:=by
    simp_all
   have v:=K A[s.toNat] (sn (by omega));rw [uA g,y,ur (show (true==true)=true from rfl),p,ua,zk (λ_=>by omega),ur (show (true==true)=true from rfl),hd,p,ua,uA v,ur (show (true&&true)=true from rfl),yY (by omega)]
   grind
  ·left;have O:s=A.length:=by omega
   by_cases g:s < out.length
   ·obtain ⟨z,C,N⟩:∃z C,B=z::C:=by
     cases B with
     | nil=>simp at J;omega
     | cons z C=>exact ⟨z,C,rfl⟩
    have y:out.getD s.toNat default=z:=by
     simp_all
    have w:=H z C N;rw [uA g,y,ur (show (true==true)=true from rfl),p,ua,zk (λ_=>by omega),ur (show (true==true)=true from rfl),hd,p,ua,uU w,uu (by decide)]
    simp_all
   ·rw [uU g,uu (by decide),ua,zk (λh=>by cases h),uu (by decide),ua,rd,uu (by decide)]
    simp_all
theorem refHeavy_loop {L:List GE} (y:L.length<=1073741824):∀(M:List GE) (i:Nat) (out:List GE),M=L.drop i->out.length+M.length<=L.length->out.Pairwise (λa b=>-wtR a<=-wtR b) ->
  zq (λ(p:Nat) (s:GE) (s1:(List GE))=>((lp (ye (λ(s2:Int)=>((yg (((decide (s2 < ((s1).length:Int)))==true)=true->0<=s2/\s2 < ((s1).length:Int)) (((if ((decide (s2 < ((s1).length:Int)))==true)=true then xE ((s1).getD s2.toNat default) else some default).bind λo=>(yg (((decide (s2 < ((s1).length:Int)))==true)=true->0<=(p:Int)/\(p:Int) < ((L).length:Int)) (((if ((decide (s2 < ((s1).length:Int)))==true)=true then xE ((L).getD (p:Int).toNat default) else some default).bind λv45=>(if ((decide (s2 < ((s1).length:Int)))&&(decide (o >= v45)))=true then some (.nxt (IntKind.wrap .i64 (s2+(1:Int)))) else some (.brk s2)))))))):Option (Out _ Int))) (0:Int)) λ(s2:Int)=>((slc s1 (0:Int) s2).bind λf=>(yg ((([]:List GE)).length+(f).length<=yM) ((yg (((([]:List GE)++f)).length+(([s]:List GE)).length<=yM) (((slc s1 s2 ((s1).length:Int)).bind λg=>(yg ((((([]:List GE)++f)++([s]:List GE))).length+(g).length<=yM) (some (.nxt (((([]:List GE)++f)++([s]:List GE))++g))))))))))):Option (Out (List GE) (List GE)))) M i out=some (.inr (heavyW out M))
 | [],_,_,_,_,_=>rfl
 | x::M,i,out,hM,hl,hp=>by
  simp only [un] at hl;have hi:i < L.length:=by have:=congrArg List.length hM;simp at this;omega
  rw [sL hi] at hM;injection hM with G z;obtain ⟨A,B,h,F,C⟩:=refPut_loop (ρ:=Out (List GE) (List GE)) (L:=L) (i:=i) (x:=x) (by simp_all) (out:=out) (by omega);have v:out.length=A.length+B.length:=by rw [h];simp
  have s1:slc out 0 (A.length:Int)=some A:=by rw [vI ⟨by omega,by omega,by omega⟩,h];simp
  have s2:slc out (A.length:Int) (out.length:Int)=some B:=by rw [vI ⟨by omega,by omega,by omega⟩,uw,uw,uG (ug _),h,sS]
  simp only [zq];rw [C,yJ,s1,ua,zk (by simp [yM];omega),zk (by simp [yM];omega),s2,ua,zk (by simp [yM];omega)];have e:((([]:List GE)++A)++([x]:List GE))++B=putW x out:=by simp_all
  simp only [e];have w:(putW x out).length=out.length+1:=by grind
  exact refHeavy_loop y M (i+1) (putW x out) z (by omega) (putW_pair hp)
theorem heavy2 (hs:Small t) (f:Int):∃v,qr t f=some v/\qm t f=some v:=by
 have J:=rows_len (GA.deps t) t [] (ug _);have I:=hs.2;obtain ⟨L,K,F,h⟩:∃L:List GE,L.length<=16777216/\qb t=some L/\ref30Rows t=some L:=by
  refine ⟨_,?_,pathsRows_is hs,refRows_is hs⟩
  grind
 obtain ⟨w,p,o⟩:=heavyW_is L [] List.Pairwise.nil;have y:=refHeavy_loop (L:=L) (by omega) L 0 [] rfl (by simp) List.Pairwise.nil;have g:xe L (λC G=>wC C G)=some (heavyW [] L):=stab_eq (k:=λr=>-wtR r) heavyC (by omega) w λq=>o q;generalize heavyW [] L=H at y w p o g;simp only [uN,uT] at p;unfold qr qm;rw [F,h,ua,ua,g,y,yJ,ua];by_cases h1:f < 1
 ·rw [ur (uA h1)];refine ⟨[],rfl,?_⟩;have s:slc H 0 (0:Int)=some []:=by rfl
  by_cases h0:f < 0
  ·rw [ur (uA h0)];by_cases hH:(0:Int) < H.length
   ·simp_all
   ·simp_all
  ·rw [uu (by simp_all)];have z:f=0:=by omega
   subst z;by_cases hH:(0:Int) < H.length
   ·simp_all
   ·simp_all
 ·rw [uu (by simp_all),uu (show ¬ decide (f < 0)=true by simp;omega)];by_cases z:f < H.length
  ·have s:slc H 0 f=some (H.take f.toNat):=by rw [vI ⟨by omega,by omega,by omega⟩];simp
   grind
  ·rw [uu (show ¬ decide (f < (H.length:Int))=true by simp_all)];have e:(if ((H.length:Nat):Int) < f then ((H.length:Nat):Int) else f)=(H.length:Int):=by omega
   have s:slc H 0 (H.length:Int)=some H:=by rw [vI ⟨by omega,by omega,by omega⟩];simp
   grind
theorem law45MeterMakes_is {h:Int} (o:L.length<=maxLen) (p:∀q ∈ L,GI.wf q) (hs:Small t) (w:GA.bks t<=1048576) (F:GJ.wf e):vw L t e h=some true:=by
 obtain ⟨g,y⟩:=great45_tot (L:=L) hs e.op;obtain ⟨a,I,J⟩:=uses2 hs;obtain ⟨b,v,G⟩:=all_is hs;obtain ⟨c,c1,c2⟩:=over2 o p hs;obtain ⟨d,C,s⟩:=fits2 o p hs w F;obtain ⟨f,z,H⟩:=heavy2 hs h;unfold vw;rw [y,ua];cases g with
 | true=>simp [known45]
 | false =>
  rw [uu (by decide),I,J,v,G,meterMay_is,refMay_is o,c1,c2,C,s,z,H,known45];simp [same45_refl,ref30Same_refl]
theorem law45MeterMakes_top (l:List GI) (t:List GA) (e:GJ) (f:Int) (g:l.length<=maxLen/\∀y ∈ l,GI.wf y) (h:t.length<=maxLen/\∀y ∈ t,GA.wf y) (o:GJ.wf e) (p:InK .i64 f) (s:((l.map GI.bk).sum+1)+((t.map GA.bk).sum+1)+GJ.bk e+1<=1048576):vw l t e f=some true:=by
 refine law45MeterMakes_is g.1 g.2 (small_of h (by omega)) ?_ o;rw [GA.bks_eq];omega
end
end Go.Vv
