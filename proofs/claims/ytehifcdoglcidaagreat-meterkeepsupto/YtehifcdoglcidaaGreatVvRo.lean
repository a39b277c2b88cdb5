/- Mutable rows: how one begins, and how it becomes an unchanging slice. -/
import Derived.Test.YtehifcdoglcidaaGreatVvIt
import Derived.Test.YtehifcdoglcidaaGreatVvRw
import Derived.Test.YtehifcdoglcidaaGreatVvRd
namespace Go.Vv
open Go Go.RowKit
section
variable {B:Nat} {w0 w:World} {g:Gh} {h:AH}
theorem Rel.freeze (r:Rel B w0 g h w) {q i k:Nat} {es:List (List AV)} (U:h.blks[q]?=some (.row i k es)) :
  ∃g',g.le g'/\Rel B w0 g' { h.put q .dead with toks:=h.toks.set i (es.length+1) } w/\g'.δ=g.δ/\∀O v,V g (.rsl O i k es.length) v->V g' (.sl k es) v:=by
 obtain ⟨N,t,x,A,J,F,I,E⟩:=r.rowAt U
 let T:TI:=⟨es.length+1,none,true⟩
 have z:t.n < T.n:=by show t.n < es.length+1;omega
 have C:=Gh.le_setT (g:=g) (t':=T) x z A.symm;have S:=r.setRowG (t':=T) (nb:=.dead) x z A rfl N U trivial (λ_ _ _ e=>by cases e) (λ_ _ _ e=>by cases e) (λ_ _ e=>by cases e);rcases E with rfl | ⟨b,o,e,cs,ty,Q,W,k3,k4,k5⟩
 ·refine ⟨_,C,S,rfl,λO v m=>?_⟩;simp only [V] at m ⊢;obtain ⟨a,c,rfl,K,R,_⟩:=m;exact ⟨a,c,rfl,K,R,.inl trivial⟩
 ·have y:∀(j:Nat) (u:TI) (l H:Nat),(g.setT i T).τ[j]?=some u->u.loc=some (b,l,H)->False:=by
   intro j u l H p G;simp only [Gh.setT] at p;by_cases hji:j=i
   ·subst hji;rw [List.getElem?_set_self (List.getElem?_eq_some_iff.1 x).1] at p;injection p with p;subst p;cases G
   ·rw [List.getElem?_set_ne (λe=>hji e.symm)] at p;exact hji (r.tinj _ _ _ _ b _ _ p x G Q)
  have r2:=S.vow (b:=b) (f:=λj=>if o<=j/\j < o+es.length * k then cs[j]? else none)
   (λj v m=>by
    split at m
    ·rw [cell_of_row w b j cs ty (0,0) W];exact m
    ·cases m)
   (λj c p _=>(r.sep j c i t b _ p x Q).symm)
   (λj u l H p G=>(y j u l H p G).elim)
  have s:=C.trans (Gh.le_vow (g.setT i T) b λj=>if o<=j/\j < o+es.length * k then cs[j]? else none);refine ⟨_,s,r2,rfl,λO v m=>?_⟩;simp only [V] at m ⊢;obtain ⟨a,c,rfl,K,R,Y,D,_,_,d⟩:=m;obtain rfl:t=Y:=by rw [x] at D;injection D
  refine ⟨a,c,rfl,K,R,?_⟩;rcases d with ⟨h0,_⟩ | ⟨b',X,rfl,d⟩
  ·left;exact List.eq_nil_of_length_eq_zero h0
  ·have d:=d J.symm;rw [Q] at d;injection d with d;injection d with Z d;injection d with e2 _;obtain rfl:o=X:=by omega
   subst Z;refine .inr ⟨b,o,rfl,VE_iff.2 ⟨F,VC.ofVA (k3.mono s) I λj v m=>?_⟩⟩;rw [List.getElem?_take] at m;split at m
   ·rename_i p;rw [List.getElem?_drop,Array.getElem?_toList] at m;simp only [Gh.vow,Gh.setT,if_true];rw [k5 _ (by omega),if_pos ⟨by omega,by omega⟩];exact m
   ·cases m
end

theorem gok_now {P:Program} {B:Nat} {w0 w:World} [G:GOk P B w0] (hb:Below B w0 w):GOk P w.heap.size w :=
 ⟨World.ShapedOpen.keptBut G.sh ((hb.mono G.sz).frame (λ_=>False)) (λ_ h=>h.elim),Nat.le_refl _⟩
def AV.scal:AV->Bool
 | .bool _ | .int _ _ | .str _=>true
 | .tup [.bool _] | .tup [.int _ _] | .tup [.int _ _,.bool _]=>true
 | _=>false
theorem V.scal {g g':Gh} {a:AV} {v:Value} (hs:a.scal=true) (b:V g a v):V g' a v:=by
 unfold AV.scal at hs;split at hs <;> first | (simpa only [V,VL] using b) | cases hs
theorem lv_now {B:Nat} {w0 w:World} {g:Gh} {h:AH} (r:Rel B w0 g h w):(g.cut 0 0).lv (g0 w) :=
 ⟨λb j v e=>by
     have e:g.Φ b j=some v:=e;simp only [g0,if_pos (r.phi_lt e)];exact r.phi b j v e,λi c e=>by simp [Gh.cut] at e,λi t e=>by simp [Gh.cut] at e⟩
theorem RdA.soundRow {B:Nat} {w0 w:World} {g:Gh} {h:AH} (r:Rel B w0 g h w) {id t k n:Nat} {es:List (List AV)} (u:h.blk id=some (.row t k es)) (z:n=es.length) {v:Value} (f:V g (.rsl id t k n) v):V (g0 w) (.sl k es) v:=by
 subst z;obtain ⟨_,C,q,D,s,p,i,m⟩:=r.rowAt u;simp only [V] at f ⊢;obtain ⟨a,c,rfl,A,I,F,l,_,_,d⟩:=f;obtain rfl:C=F:=by rw [q] at l;injection l
 refine ⟨a,c,rfl,A,I,?_⟩;rcases d with ⟨h0,_⟩ | ⟨Q,E,rfl,d⟩
 ·left;exact List.eq_nil_of_length_eq_zero h0
 ·have d:=d s.symm;rcases m with rfl | ⟨b,o,e,cs,ty,H,y,J,N,K⟩
  ·exact .inl rfl
  ·rw [H] at d;injection d with d;injection d with G d;injection d with O _;obtain rfl:o=E:=by omega
   subst G;have u:b < w.heap.size:=(Array.getElem?_eq_some_iff.1 y).1;have x:VA (g0 w) es.flatten ((cs.toList.drop o).take (es.length * k)):=VA.monoV (lv_now r) _ _ (VA.cut _ _ (lowL_of_pure i) J);refine .inr ⟨b,o,rfl,VE_iff.2 ⟨p,VC.ofVA x i λj v f=>?_⟩⟩;rw [List.getElem?_take] at f;split at f
   ·rw [List.getElem?_drop,Array.getElem?_toList] at f;simp only [g0,if_pos u];rw [cell_of_row w b (o+j) cs ty (0,0) y];exact f
   ·cases f
mutual
inductive RdA (h:AH):AV->AV->Prop
 | low (a:AV) (hl:a.low 0 0=true):RdA h a a
 | row (id t k n:Nat) (es:List (List AV)) (hb:h.blk id=some (.row t k es)) (hn:n=es.length):RdA h (.rsl id t k n) (.sl k es)
 | osl (q:Option Nat) (k:Nat) (es:List (List AV)) (hl:(AV.sl k es).low 0 0=true):RdA h (.osl q k es) (.sl k es)
 | agg {cs bs:List AV} (x:RdL h cs bs) (ho:bs.all AV.one=true):RdA h (.agg cs) (.agg bs)
inductive RdL (h:AH):List AV->List AV->Prop
 | nil:RdL h [] []
 | cons {a b:AV} {xs bs:List AV} (x:RdA h a b) (y:RdL h xs bs):RdL h (a::xs) (b::bs)
end
theorem V.low0 {B:Nat} {w0 w:World} {g:Gh} {h:AH} (r:Rel B w0 g h w) {a:AV} {v:Value} (c:a.low 0 0=true) (b:V g a v):V (g0 w) a v:=V.monoV (lv_now r) _ _ (V.cut _ _ c b)
mutual
theorem RdA.sound {B:Nat} {w0 w:World} {g:Gh} {h:AH} (r:Rel B w0 g h w):∀{a b:AV} {v:Value},RdA h a b->V g a v->V (g0 w) b v
 | _,_,_,.low _ hl,hv=>V.low0 r hl hv
 | _,_,_,.row _ _ _ _ _ hb hn,hv=>RdA.soundRow r hb hn hv
 | _,_,_,.osl q k es hl,hv=>V.low0 r hl (leV.osl q k es g _ hv)
 | _,_,_,.agg x ho,hv=>by
  simp only [V] at hv ⊢;obtain ⟨vs,rfl,c⟩:=hv;exact ⟨vs,rfl,VA.mk (RdL.sound r x c.toVL) ho⟩
theorem RdL.sound {B:Nat} {w0 w:World} {g:Gh} {h:AH} (r:Rel B w0 g h w):∀{xs bs:List AV} {vs:List Value},RdL h xs bs->VL g xs vs->VL (g0 w) bs vs
 | _,_,_,.nil,hv=>by simpa only [VL] using hv
 | _,_,_,.cons x y,hv=>by
  simp only [VL] at hv ⊢;obtain ⟨v,s,rfl,c,d⟩:=hv;exact ⟨v,s,rfl,RdA.sound r x c,RdL.sound r y d⟩
end
theorem vK {P:Program} {f:FuncId} {xs bs:List AV} {h:AH} {R:AV} {K:AV->AH->Prop} (b:RdL h xs bs) (hs:R.scal=true) (s:Spec P f bs h0 K) (i:∀a hh,K a hh->a=R) :
  Spec P f xs h (λa hh=>a=R/\hh=h) :=
 ⟨s.1,λB w0 _ g w vs r c=>by
  haveI:=gok_now (P:=P) r.below;refine (s.2 w.heap.size w (g0 w) w vs (rel0 w) (b.sound r c)).mono ?_
  rintro e w' ⟨v,x,m,g',rfl,l,_,j,d⟩
  obtain rfl:=i _ _ l;exact ⟨v,_,h,g,rfl,⟨rfl,rfl⟩,Gh.le.refl g,r.beyond j.below,V.scal hs d⟩⟩

theorem V.thaw {g:Gh} {k:Nat} {v:Value} {q:Nat} (d:V g (.osl none k []) v):V ((g.addT ⟨0,none,true⟩).addS none) (.rsl q g.τ.length k 0) v:=by
 simp only [V] at d ⊢;obtain ⟨a,c,rfl,f,e,_,b⟩:=d;have b:c=0:=b;refine ⟨a,c,rfl,f,e,⟨0,none,true⟩,?_,rfl,Nat.le_refl _,.inl ⟨rfl,b⟩⟩;simp [Gh.addT,Gh.addS]
theorem rowOk_nil {g:Gh} {w:World} {k:Nat}:RowOk ((g.addT ⟨0,none,true⟩).addS none) w g.τ.length k [] :=
 ⟨⟨0,none,true⟩,by simp [Gh.addT,Gh.addS],rfl,rfl,by simp,by simp,.inl rfl⟩
theorem swk.wk {hd h c:AH} {env a:List AV} (k:swk env h a c):wk hd env h a c:=λB w0 w _ j g vs _ f r d=>by
 obtain ⟨g',b,e,i⟩:=k B w0 w g vs r d;exact ⟨g',f.trans b,e,i,b.del⟩
theorem swk_thaw {h:AH} {env b:List AV} {B B':List Blk} {T T':List Nat} {d k n m:Nat} (z:ye env (.tmp d)=some (.osl none k [])) (t:B.length=n) (A:T.length=m)
  (s:vq (some d) env (.rsl (h.blks.length+n) (h.toks.length+m) k 0)=some b) (x:B++[.row (h.toks.length+m) k []]=B') (u:T++[0]=T') :
  swk env (h.ext B T) b (h.ext B' T'):=λ_ _ w g vs r p=>by
 subst t A x u;simp only [vq,Option.some.injEq] at s;subst s;have c:g.τ.length=h.toks.length+T.length:=by rw [r.tlen];simp [AH.ext]
 have f:=(g.le_addT ⟨0,none,true⟩).trans (Gh.le_addS _ none);have q:=r.newRowT ⟨0,none,true⟩ k [] (λ_ _ _ h=>by cases h) (λ_ _ h=>by cases h) rowOk_nil;have e:(({ (h.ext B T) with toks:=(h.ext B T).toks++[0] }:AH).new (.row g.τ.length k []))=h.ext (B++[.row (h.toks.length+T.length) k []]) (T++[0]):=by
  rw [c];simp [AH.ext,AH.new,List.append_assoc]
 rw [e] at q;refine ⟨_,f,q,VL.setE (VL.mono f _ _ p) d _ λv l=>?_⟩;obtain ⟨a,i,y⟩:=p.getR _ _ l;have j:env[d]?=some (.osl none k []):=z;rw [j] at i;injection i with i;subst i;rw [<- c];exact y.thaw

mutual
inductive FzA (i k:Nat) (es:List (List AV)):AV->AV->Prop
 | same (a:AV):FzA i k es a a
 | hit (q:Nat):FzA i k es (.rsl q i k es.length) (.sl k es)
 | hit2 (q n:Nat) (hn:n=es.length):FzA i k es (.rsl q i k n) (.sl k es)
 | agg {cs bs:List AV} (x:FzL i k es cs bs) (ho:bs.all AV.one=true):FzA i k es (.agg cs) (.agg bs)
 | tup {cs bs:List AV} (x:FzL i k es cs bs):FzA i k es (.tup cs) (.tup bs)
inductive FzL (i k:Nat) (es:List (List AV)):List AV->List AV->Prop
 | refl (xs:List AV):FzL i k es xs xs
 | cons {a b:AV} {xs bs:List AV} (x:FzA i k es a b) (y:FzL i k es xs bs):FzL i k es (a::xs) (b::bs)
end
theorem FzL.s {i k:Nat} {es:List (List AV)} {a:AV} {xs bs:List AV} (y:FzL i k es xs bs):FzL i k es (a::xs) (a::bs):=.cons (.same _) y
mutual
theorem FzA.sound {g g':Gh} (c:g.le g') {i k:Nat} {es:List (List AV)} (d:∀q v,V g (.rsl q i k es.length) v->V g' (.sl k es) v):∀{a b:AV} {v:Value},FzA i k es a b->V g a v->V g' b v
 | _,_,_,.same _,hv=>hv.mono c
 | _,_,_,.hit q,hv=>d q _ hv
 | _,_,_,.hit2 q n hn,hv=>by subst hn;exact d q _ hv
 | _,_,_,.agg x ho,hv=>by
  simp only [V] at hv ⊢;obtain ⟨vs,rfl,e⟩:=hv;exact ⟨vs,rfl,VA.mk (FzL.sound c d x e.toVL) ho⟩
 | _,_,_,.tup x,hv=>by
  simp only [V] at hv ⊢;obtain ⟨vs,rfl,e⟩:=hv;exact ⟨vs,rfl,FzL.sound c d x e⟩
theorem FzL.sound {g g':Gh} (c:g.le g') {i k:Nat} {es:List (List AV)} (d:∀q v,V g (.rsl q i k es.length) v->V g' (.sl k es) v):∀{xs bs:List AV} {vs:List Value},FzL i k es xs bs->VL g xs vs->VL g' bs vs
 | _,_,_,.refl _,hv=>hv.mono c
 | _,_,_,.cons x y,hv=>by
  simp only [VL] at hv ⊢;obtain ⟨v,s,rfl,e,f⟩:=hv;exact ⟨v,s,rfl,FzA.sound c d x e,FzL.sound c d y f⟩
end
theorem yw {h:AH} {env a:List AV} {B B':List Blk} {T T':List Nat} {j m k:Nat} {es:List (List AV)} (q:B[j]?=some (.row (h.toks.length+m) k es)) (n:FzL (h.toks.length+m) k es env a)
  (p:B.set j .dead=B') (i:T.set m (es.length+1)=T'):swk env (h.ext B T) a (h.ext B' T'):=λ_ _ w g vs r f=>by
 subst p i;have c:(h.ext B T).blks[h.blks.length+j]?=some (.row (h.toks.length+m) k es):=by
  simp only [AH.ext];rw [List.getElem?_append_right (by omega),Nat.add_sub_cancel_left];exact q
 obtain ⟨g',b,d,l,s⟩:=r.freeze c;have e:({ (h.ext B T).put (h.blks.length+j) .dead with toks:=(h.ext B T).toks.set (h.toks.length+m) (es.length+1) }:AH)=h.ext (B.set j .dead) (T.set m (es.length+1)):=by
  simp only [AH.ext,AH.put,AH.mk.injEq];exact ⟨by rw [List.set_append_right _ _ (by omega),Nat.add_sub_cancel_left],by rw [List.set_append_right _ _ (by omega),Nat.add_sub_cancel_left]⟩
 rw [e] at d;exact ⟨g',b,d,n.sound b s f⟩

section
variable {α:Type} {row:α->List AV} {L M:List α} {k:Nat}
theorem flat_len (a:∀x,(row x).length=k):∀L:List α,(L.map row).flatten.length=L.length * k
 | []=>by simp
 | x::t=>by simp only [List.map_cons,List.flatten_cons,List.length_append,List.length_cons,flat_len a t,a x,Nat.succ_mul];omega
theorem flat_drop (a:∀x,(row x).length=k):∀(L:List α) (i:Nat),(L.map row).flatten.drop (i * k)=((L.drop i).map row).flatten
 | [],i=>by simp
 | x::t,0=>by simp
 | x::t,i+1=>by
  rw [List.map_cons,List.flatten_cons,Nat.succ_mul,Nat.add_comm,<- List.drop_drop,List.drop_left' (a x),flat_drop a t i];rfl
theorem flat_take (a:∀x,(row x).length=k):∀(L:List α) (i:Nat),(L.map row).flatten.take (i * k)=((L.take i).map row).flatten
 | [],i=>by simp
 | x::t,0=>by simp
 | x::t,i+1=>by
  rw [List.map_cons,List.flatten_cons,Nat.succ_mul,Nat.add_comm,List.take_append,List.take_of_length_le (by rw [a x];omega),a x,Nat.add_sub_cancel_left,flat_take a t i];rfl
theorem drop_at {i:Nat} {y:α} (a:L[i]?=some y):L.drop i=y::L.drop (i+1):=by
 obtain ⟨h,rfl⟩:=List.getElem?_eq_some_iff.1 a;exact (List.getElem_cons_drop h).symm
theorem ldC_row (b:∀x,(row x).length=k) {c:Bool} {m i off:Nat} {y:α} {v:AV} (f:L[i]?=some y) (a:ldC c m off (row y)=some v) (n:0 < m):ldC c m (i * k+off) (L.map row).flatten=some v:=by
 have e:(L.map row).flatten.drop (i * k)=row y++((L.drop (i+1)).map row).flatten:=by rw [flat_drop b,drop_at f];rfl
 have hi:i < L.length:=(List.getElem?_eq_some_iff.1 f).1;have l:(i+1) * k<=L.length * k:=Nat.mul_le_mul_right k hi;rw [Nat.succ_mul] at l;unfold ldC at a ⊢;cases c with
 | true =>
  simp only [if_true] at a ⊢;split at a
  ·rename_i d;rw [b y] at d;rw [if_pos (by rw [flat_len b];omega),<- List.drop_drop,e,List.drop_append_of_le_length (by rw [b y];omega),List.take_append_of_le_length (by rw [List.length_drop,b y];omega)];exact a
  ·cases a
 | false =>
  simp only [Bool.false_eq_true,if_false] at a ⊢;have j:off < (row y).length:=(List.getElem?_eq_some_iff.1 a).1;have:(L.map row).flatten[i * k+off]?=((L.map row).flatten.drop (i * k))[off]?:=by rw [List.getElem?_drop]
  rw [this,e,List.getElem?_append_left j];exact a
theorem rows_map (a:∀x,(row x).length=k):∀L:List α,rows k L.length (L.map row).flatten=L.map row
 | []=>rfl
 | x::t=>by
  simp only [List.length_cons,rows,List.map_cons,List.flatten_cons];rw [List.take_left' (a x),List.drop_left' (a x),rows_map a t]
theorem splice_row (a:∀x,(row x).length=k) {i off:Nat} {y y':α} {vs:List AV} (b:L[i]?=some y) (hs:yy (row y) off vs=row y') (j:off+vs.length<=k) :
  rows k L.length (yy (L.map row).flatten (i * k+off) vs)=(L.set i y').map row:=by
 have hi:i < L.length:=(List.getElem?_eq_some_iff.1 b).1;have f:(L.map row).flatten=((L.take i).map row).flatten++(row y++((L.drop (i+1)).map row).flatten):=by
  conv=>lhs;rw [<- List.take_append_drop i L,drop_at b]
  simp
 have c:((L.take i).map row).flatten.length=i * k:=by rw [flat_len a,List.length_take,Nat.min_eq_left (by omega)]
 have d:yy (L.map row).flatten (i * k+off) vs=((L.set i y').map row).flatten:=by
  rw [List.set_eq_take_append_cons_drop,if_pos hi];simp only [List.map_append,List.map_cons,List.flatten_append,List.flatten_cons,<- hs];rw [f];unfold yy;have e:=a y;rw [List.take_append,c,List.take_of_length_le (by omega),Nat.add_sub_cancel_left,List.take_append_of_le_length (by omega)];rw [Nat.add_assoc,List.drop_append,c,List.drop_of_length_le (by omega),Nat.add_sub_cancel_left,List.nil_append,List.drop_append_of_le_length (by omega)];simp only [List.append_assoc]
 rw [d];have:=rows_map a (L.set i y')
 rwa [List.length_set] at this
variable {P:Program} {o:Oper} {env:List AV} {h:AH} {B:List Blk} {T:List Nat}
theorem wD {t e:TypeId} {x i:Operand} {id q n:Nat} {d:IntKind} {z:Int} (b:o.op=.indexAddr t x i) (c:El P t e k) (f:ye env x=some (.rsl id q k n)) (hi:ye env i=some (.int d z)) (a:0<=z/\z < n) :
  zo P o env h=.ok (.rptr id q k n (z.toNat * k+0)) h:=s_indexAddr b c f hi (by simp only [vD];rw [if_pos ⟨trivial,a.1,a.2⟩];rfl)
theorem e_ldR (s:∀x,(row x).length=k) {t:TypeId} {d:TypeDesc} {m i q n z off:Nat} {x:Operand} {y:α} {v a:AV} (f:o.op=.load t x) (j:Ty P t d m) (u:0 < m) (e:ye env x=some (.rptr (h.blks.length+i) q k n (z * k+off)))
  (l:B[i]?=some (.row q k (L.map row))) (b:L.length=n) (r:L[z]?=some y) (c:ldC (zS d) m off (row y)=some v) (p:tyfix P t v=a):zo P o env (h.ext B T)=.ok a (h.ext B T):=by
 refine s_load f j e ?_ p;simp only [aLoad,zZ,l];rw [if_pos ⟨trivial,trivial,by simpa using b⟩];exact ldC_row s r c u
theorem e_stR (p:∀x,(row x).length=k) {t:TypeId} {d:TypeDesc} {m i q n z off:Nat} {x w:Operand} {y y':α} {b r:AV} {vs us:List AV} {B':List Blk} (u:o.op=.store t x w) (A:Ty P t d m) (s:ye env x=some (.rptr (h.blks.length+i) q k n (z * k+off)))
  (F:ye env w=some b) (E:tyfix P t b=r) (G:r.cells?=some vs) (j:vs.length=m) (c:xD vs=some us) (D:B[i]?=some (.row q k (L.map row))) (f:L.length=n) (l:L[z]?=some y) (C:off+m<=k)
  (hs:yy (row y) off us=row y') (v:B.set i (.row q k ((L.set z y').map row))=B'):zo P o env (h.ext B T)=.ok aundef (h.ext B' T):=by
 refine s_store u A s F E ?_;simp only [aStore,G,zZ,D];have e:z < L.length:=(List.getElem?_eq_some_iff.1 l).1;have a:(z+1) * k<=L.length * k:=Nat.mul_le_mul_right k e;rw [Nat.succ_mul] at a;rw [if_pos ⟨trivial,trivial,by simpa using f,j,by rw [flat_len p];omega⟩,c];simp only [<- f];rw [splice_row p l hs (by rw [clean_len c,j];omega),qg,v]
theorem e_appR {c:Call} {x y:Operand} {t u e N:TypeId} {k' i j n:Nat} {a b q:AV} {B':List Blk} {T':List Nat} (v:o.op=.call c) (J:c.callee=.builtin .append) (hs:c.args=#[x,y]) (C:c.argTypes=#[t,u]) (A:El P t e k)
  (l:El P u N k') (s:ye env x=some a) (G:ye env y=some b) (K:tyfix P t a=.rsl (h.blks.length+i) (h.toks.length+j) k n) (F:tyfix P u b=q) (r:aNews k q=some (M.map row)) (D:L.length+M.length<=yB)
  (hi:B[i]?=some (.row (h.toks.length+j) k (L.map row))) (m:L.length=n) (p:T[j]?=some n) (f:B.set i (.row (h.toks.length+j) k ((L++M).map row))=B') (d:T.set j (L++M).length=T') :
  zo P o env (h.ext B T)=.ok (.rsl (h.blks.length+i) (h.toks.length+j) k (L++M).length) (h.ext B' T'):=by
 subst m;refine s_append v J hs C A l s G K F r ?_;simp only [qR,List.length_map];by_cases h0:M.length=0
 ·have:M=[]:=List.eq_nil_of_length_eq_zero h0;subst this;simp only [List.append_nil] at f d ⊢;simp only [List.length_nil,if_true];have E:B.set i (.row (h.toks.length+j) k (L.map row))=B:=by
   refine List.ext_getElem? λz=>?_;by_cases hz:z=i
   ·subst hz;rw [List.getElem?_set_self (List.getElem?_eq_some_iff.1 hi).1];exact hi.symm
   ·rw [List.getElem?_set_ne (λe=>hz e.symm)]
  have I:T.set j L.length=T:=by
   refine List.ext_getElem? λz=>?_;by_cases hz:z=j
   ·subst hz;rw [List.getElem?_set_self (List.getElem?_eq_some_iff.1 p).1];exact p.symm
   ·rw [List.getElem?_set_ne (λe=>hz e.symm)]
  rw [<- f,<- d,E,I]
 ·rw [if_neg h0,zZ,hi];simp only;have H:(h.ext B T).toks[h.toks.length+j]?=some L.length:=by simp only [AH.ext];rw [List.getElem?_append_right (by omega),Nat.add_sub_cancel_left];exact p
  rw [if_pos (by refine ⟨⟨?_,?_,?_⟩,?_,H,D⟩ <;> simp)];rw [qg];simp only [AH.ext,List.set_append_right _ _ (Nat.le_add_right _ _),Nat.add_sub_cancel_left,<- List.map_append,List.length_append] at f d ⊢;rw [f,d]
end
end Go.Vv
