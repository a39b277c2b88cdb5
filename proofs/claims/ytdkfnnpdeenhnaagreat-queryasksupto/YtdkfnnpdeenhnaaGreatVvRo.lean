/- Mutable rows: how one begins, and how it becomes an unchanging slice. -/
import Derived.Test.YtdkfnnpdeenhnaaGreatVvIt
import Derived.Test.YtdkfnnpdeenhnaaGreatVvRw
import Derived.Test.YtdkfnnpdeenhnaaGreatVvRd
namespace Go.Vv
open Go Go.RowKit
section
variable {B:Nat} {w0 w:World} {g:Gh} {h:AH}
theorem Rel.freeze (r:Rel B w0 g h w) {q i k:Nat} {es:List (List AV)} (S:h.blks[q]?=some (.row i k es)) :
  ∃g',g.le g'/\Rel B w0 g' { h.put q .dead with toks:=h.toks.set i (es.length+1) } w/\g'.δ=g.δ/\∀J v,V g (.rsl J i k es.length) v->V g' (.sl k es) v:=by
 obtain ⟨K,t,x,F,R,D,Q,y⟩:=r.rowAt S
 let T:TI:=⟨es.length+1,none,true⟩
 have E:t.n < T.n:=by show t.n < es.length+1;omega
 have z:=Gh.le_setT (g:=g) (t':=T) x E F.symm;have U:=r.setRowG (t':=T) (nb:=.dead) x E F rfl K S trivial (λ_ _ _ e=>by cases e) (λ_ _ _ e=>by cases e) (λ_ _ e=>by cases e);rcases y with rfl | ⟨b,o,e,cs,ty,I,k2,Z,k4,W⟩
 ·refine ⟨_,z,U,rfl,λJ v m=>?_⟩;simp only [V] at m ⊢;obtain ⟨a,c,rfl,O,N,_⟩:=m;exact ⟨a,c,rfl,O,N,.inl trivial⟩
 ·have A:∀(j:Nat) (u:TI) (l G:Nat),(g.setT i T).τ[j]?=some u->u.loc=some (b,l,G)->False:=by
   intro j u l G p H;simp only [Gh.setT] at p;by_cases hji:j=i
   ·subst hji;rw [List.getElem?_set_self (List.getElem?_eq_some_iff.1 x).1] at p;injection p with p;subst p;cases H
   ·rw [List.getElem?_set_ne (λe=>hji e.symm)] at p;exact hji (r.tinj _ _ _ _ b _ _ p x H I)
  have Y:=U.vow (b:=b) (f:=λj=>if o<=j/\j < o+es.length * k then cs[j]? else none)
   (λj v m=>by
    split at m
    ·rw [cell_of_row w b j cs ty (0,0) k2];exact m
    ·cases m)
   (λj c p _=>(r.sep j c i t b _ p x I).symm)
   (λj u l G p H=>(A j u l G p H).elim)
  have s:=z.trans (Gh.le_vow (g.setT i T) b λj=>if o<=j/\j < o+es.length * k then cs[j]? else none);refine ⟨_,s,Y,rfl,λJ v m=>?_⟩;simp only [V] at m ⊢;obtain ⟨a,c,rfl,O,N,X,C,_,_,d⟩:=m;obtain rfl:t=X:=by rw [x] at C;injection C
  refine ⟨a,c,rfl,O,N,?_⟩;rcases d with ⟨h0,_⟩ | ⟨b',o',rfl,d⟩
  ·left;exact List.eq_nil_of_length_eq_zero h0
  ·have d:=d R.symm;rw [I] at d;injection d with d;injection d with e1 d;injection d with e2 _;obtain rfl:o=o':=by omega
   subst e1;refine .inr ⟨b,o,rfl,VE_iff.2 ⟨D,VC.ofVA (Z.mono s) Q λj v m=>?_⟩⟩;rw [List.getElem?_take] at m;split at m
   ·rename_i p;rw [List.getElem?_drop,Array.getElem?_toList] at m;simp only [Gh.vow,Gh.setT,if_true];rw [W _ (by omega),if_pos ⟨by omega,by omega⟩];exact m
   ·cases m
end

theorem gok_now {P:Program} {B:Nat} {w0 w:World} [G:GOk P B w0] (hb:Below B w0 w):GOk P w.heap.size w :=
 ⟨World.ShapedOpen.keptBut G.sh ((hb.mono G.sz).frame (λ_=>False)) (λ_ h=>h.elim),Nat.le_refl _⟩
def AV.scal:AV->Bool
 | .bool _ | .int _ _ | .str _=>true
 | .tup [.bool _] | .tup [.int _ _] | .tup [.int _ _,.bool _]=>true
 | _=>false
theorem V.scal {g g':Gh} {a:AV} {v:Value} (hs:a.scal=true) (b:V g a v):V g' a v:=by
 unfold AV.scal at hs;split at hs <;> first | (simpa only [V,VL] using b) | cases hs
theorem lv_now {B:Nat} {w0 w:World} {g:Gh} {h:AH} (r:Rel B w0 g h w):(g.cut 0 0).lv (g0 w) :=
 ⟨λb j v e=>by
     have e:g.Φ b j=some v:=e;simp only [g0,if_pos (r.phi_lt e)];exact r.phi b j v e,λi c e=>by simp [Gh.cut] at e,λi t e=>by simp [Gh.cut] at e⟩
theorem RdA.soundRow {B:Nat} {w0 w:World} {g:Gh} {h:AH} (r:Rel B w0 g h w) {id t k n:Nat} {es:List (List AV)} (q:h.blk id=some (.row t k es)) (F:n=es.length) {v:Value} (f:V g (.rsl id t k n) v):V (g0 w) (.sl k es) v:=by
 subst F;obtain ⟨_,A,s,J,x,m,p,i⟩:=r.rowAt q;simp only [V] at f ⊢;obtain ⟨a,c,rfl,H,D,C,l,_,_,d⟩:=f;obtain rfl:A=C:=by rw [s] at l;injection l
 refine ⟨a,c,rfl,H,D,?_⟩;rcases d with ⟨h0,_⟩ | ⟨K,G,rfl,d⟩
 ·left;exact List.eq_nil_of_length_eq_zero h0
 ·have d:=d x.symm;rcases i with rfl | ⟨b,o,e,cs,ty,z,y,E,Q,N⟩
  ·exact .inl rfl
  ·rw [z] at d;injection d with d;injection d with I d;injection d with O _;obtain rfl:o=G:=by omega
   subst I;have q:b < w.heap.size:=(Array.getElem?_eq_some_iff.1 y).1;have u:VA (g0 w) es.flatten ((cs.toList.drop o).take (es.length * k)):=VA.monoV (lv_now r) _ _ (VA.cut _ _ (wW p) E);refine .inr ⟨b,o,rfl,VE_iff.2 ⟨m,VC.ofVA u p λj v f=>?_⟩⟩;rw [List.getElem?_take] at f;split at f
   ·rw [List.getElem?_drop,Array.getElem?_toList] at f;simp only [g0,if_pos q];rw [cell_of_row w b (o+j) cs ty (0,0) y];exact f
   ·cases f
mutual
inductive RdA (h:AH):AV->AV->Prop
 | low (a:AV) (hl:a.low 0 0=true):RdA h a a
 | row (id t k n:Nat) (es:List (List AV)) (hb:h.blk id=some (.row t k es)) (hn:n=es.length):RdA h (.rsl id t k n) (.sl k es)
 | osl (q:Option Nat) (k:Nat) (es:List (List AV)) (hl:(AV.sl k es).low 0 0=true):RdA h (.osl q k es) (.sl k es)
 | agg {cs bs:List AV} (x:RdL h cs bs) (ho:bs.all AV.one=true):RdA h (.agg cs) (.agg bs)
inductive RdL (h:AH):List AV->List AV->Prop
 | nil:RdL h [] []
 | cons {a b:AV} {xs bs:List AV} (x:RdA h a b) (y:RdL h xs bs):RdL h (a::xs) (b::bs)
end
theorem V.low0 {B:Nat} {w0 w:World} {g:Gh} {h:AH} (r:Rel B w0 g h w) {a:AV} {v:Value} (c:a.low 0 0=true) (b:V g a v):V (g0 w) a v:=V.monoV (lv_now r) _ _ (V.cut _ _ c b)
mutual
theorem RdA.sound {B:Nat} {w0 w:World} {g:Gh} {h:AH} (r:Rel B w0 g h w):∀{a b:AV} {v:Value},RdA h a b->V g a v->V (g0 w) b v
 | _,_,_,.low _ hl,hv=>V.low0 r hl hv
 | _,_,_,.row _ _ _ _ _ hb hn,hv=>RdA.soundRow r hb hn hv
 | _,_,_,.osl q k es hl,hv=>V.low0 r hl (leV.osl q k es g _ hv)
 | _,_,_,.agg x ho,hv=>by
  simp only [V] at hv ⊢;obtain ⟨vs,rfl,c⟩:=hv;exact ⟨vs,rfl,VA.mk (RdL.sound r x c.toVL) ho⟩
theorem RdL.sound {B:Nat} {w0 w:World} {g:Gh} {h:AH} (r:Rel B w0 g h w):∀{xs d:List AV} {vs:List Value},RdL h xs d->VL g xs vs->VL (g0 w) d vs
 | _,_,_,.nil,hv=>by simpa only [VL] using hv
 | _,_,_,.cons x y,hv=>by
  simp only [VL] at hv ⊢;obtain ⟨v,s,rfl,c,e⟩:=hv;exact ⟨v,s,rfl,RdA.sound r x c,RdL.sound r y e⟩
end
theorem vZ {P:Program} {f:FuncId} {xs b:List AV} {h:AH} {R:AV} {K:AV->AH->Prop} (d:RdL h xs b) (hs:R.scal=true) (s:Spec P f b h0 K) (i:∀a hh,K a hh->a=R) :
  Spec P f xs h (λa hh=>a=R/\hh=h) :=
 ⟨s.1,λB w0 _ g w vs r c=>by
  haveI:=gok_now (P:=P) r.below;refine (s.2 w.heap.size w (g0 w) w vs (rel0 w) (d.sound r c)).mono ?_
  rintro e w' ⟨v,x,n,g',rfl,m,_,j,l⟩
  obtain rfl:=i _ _ m;exact ⟨v,_,h,g,rfl,⟨rfl,rfl⟩,Gh.le.refl g,r.beyond j.below,V.scal hs l⟩⟩

theorem V.thaw {g:Gh} {k:Nat} {v:Value} {q:Nat} (d:V g (.osl none k []) v):V ((g.addT ⟨0,none,true⟩).addS none) (.rsl q g.τ.length k 0) v:=by
 simp only [V] at d ⊢;obtain ⟨a,c,rfl,e,f,_,b⟩:=d;have b:c=0:=b;refine ⟨a,c,rfl,e,f,⟨0,none,true⟩,?_,rfl,Nat.le_refl _,.inl ⟨rfl,b⟩⟩;simp [Gh.addT,Gh.addS]
theorem rowOk_nil {g:Gh} {w:World} {k:Nat}:RowOk ((g.addT ⟨0,none,true⟩).addS none) w g.τ.length k [] :=
 ⟨⟨0,none,true⟩,by simp [Gh.addT,Gh.addS],rfl,rfl,by simp,by simp,.inl rfl⟩
theorem swk.wk {hd h c:AH} {env a:List AV} (k:swk env h a c):wk hd env h a c:=λB w0 w _ j g vs _ e r d=>by
 obtain ⟨g',b,i,f⟩:=k B w0 w g vs r d;exact ⟨g',e.trans b,i,f,b.del⟩
theorem swk_thaw {h:AH} {env b:List AV} {B B':List Blk} {T T':List Nat} {d k n m:Nat} (u:zU env (.tmp d)=some (.osl none k [])) (A:B.length=n) (t:T.length=m)
  (s:xw (some d) env (.rsl (h.blks.length+n) (h.toks.length+m) k 0)=some b) (x:B++[.row (h.toks.length+m) k []]=B') (y:T++[0]=T') :
  swk env (h.ext B T) b (h.ext B' T'):=λ_ _ w g vs r p=>by
 subst A t x y;simp only [xw,Option.some.injEq] at s;subst s;have c:g.τ.length=h.toks.length+T.length:=by rw [r.tlen];simp [AH.ext]
 have f:=(g.le_addT ⟨0,none,true⟩).trans (Gh.le_addS _ none);have q:=r.newRowT ⟨0,none,true⟩ k [] (λ_ _ _ h=>by cases h) (λ_ _ h=>by cases h) rowOk_nil;have e:(({ (h.ext B T) with toks:=(h.ext B T).toks++[0] }:AH).new (.row g.τ.length k []))=h.ext (B++[.row (h.toks.length+T.length) k []]) (T++[0]):=by
  rw [c];simp [AH.ext,AH.new,List.append_assoc]
 rw [e] at q;refine ⟨_,f,q,VL.setE (VL.mono f _ _ p) d _ λv j=>?_⟩;obtain ⟨a,i,z⟩:=p.getR _ _ j;have l:env[d]?=some (.osl none k []):=u;rw [l] at i;injection i with i;subst i;rw [<- c];exact z.thaw

mutual
inductive FzA (i k:Nat) (es:List (List AV)):AV->AV->Prop
 | same (a:AV):FzA i k es a a
 | hit (q:Nat):FzA i k es (.rsl q i k es.length) (.sl k es)
 | hit2 (q n:Nat) (hn:n=es.length):FzA i k es (.rsl q i k n) (.sl k es)
 | agg {cs bs:List AV} (x:FzL i k es cs bs) (ho:bs.all AV.one=true):FzA i k es (.agg cs) (.agg bs)
 | tup {cs bs:List AV} (x:FzL i k es cs bs):FzA i k es (.tup cs) (.tup bs)
inductive FzL (i k:Nat) (es:List (List AV)):List AV->List AV->Prop
 | refl (xs:List AV):FzL i k es xs xs
 | cons {a b:AV} {xs bs:List AV} (x:FzA i k es a b) (y:FzL i k es xs bs):FzL i k es (a::xs) (b::bs)
end
theorem FzL.s {i k:Nat} {es:List (List AV)} {a:AV} {xs b:List AV} (y:FzL i k es xs b):FzL i k es (a::xs) (a::b):=.cons (.same _) y
mutual
theorem FzA.sound {g g':Gh} (c:g.le g') {i k:Nat} {es:List (List AV)} (d:∀q v,V g (.rsl q i k es.length) v->V g' (.sl k es) v):∀{a b:AV} {v:Value},FzA i k es a b->V g a v->V g' b v
 | _,_,_,.same _,hv=>hv.mono c
 | _,_,_,.hit q,hv=>d q _ hv
 | _,_,_,.hit2 q n hn,hv=>by subst hn;exact d q _ hv
 | _,_,_,.agg x ho,hv=>by
  simp only [V] at hv ⊢;obtain ⟨vs,rfl,e⟩:=hv;exact ⟨vs,rfl,VA.mk (FzL.sound c d x e.toVL) ho⟩
 | _,_,_,.tup x,hv=>by
  simp only [V] at hv ⊢;obtain ⟨vs,rfl,e⟩:=hv;exact ⟨vs,rfl,FzL.sound c d x e⟩
theorem FzL.sound {g g':Gh} (c:g.le g') {i k:Nat} {es:List (List AV)} (d:∀q v,V g (.rsl q i k es.length) v->V g' (.sl k es) v):∀{xs f:List AV} {vs:List Value},FzL i k es xs f->VL g xs vs->VL g' f vs
 | _,_,_,.refl _,hv=>hv.mono c
 | _,_,_,.cons x y,hv=>by
  simp only [VL] at hv ⊢;obtain ⟨v,s,rfl,e,j⟩:=hv;exact ⟨v,s,rfl,FzA.sound c d x e,FzL.sound c d y j⟩
end
section
variable {α:Type} {row:α->List AV} {L M:List α} {k:Nat}
theorem qy (a:∀x,(row x).length=k):∀L:List α,(L.map row).flatten.length=L.length * k
 | []=>by simp
 | x::t=>by simp only [List.map_cons,List.flatten_cons,List.length_append,List.length_cons,qy a t,a x,Nat.succ_mul];omega
theorem flat_drop (a:∀x,(row x).length=k):∀(L:List α) (i:Nat),(L.map row).flatten.drop (i * k)=((L.drop i).map row).flatten
 | [],i=>by simp
 | x::t,0=>by simp
 | x::t,i+1=>by
  rw [List.map_cons,List.flatten_cons,Nat.succ_mul,Nat.add_comm,<- List.drop_drop,List.drop_left' (a x),flat_drop a t i];rfl
theorem flat_take (a:∀x,(row x).length=k):∀(L:List α) (i:Nat),(L.map row).flatten.take (i * k)=((L.take i).map row).flatten
 | [],i=>by simp
 | x::t,0=>by simp
 | x::t,i+1=>by
  rw [List.map_cons,List.flatten_cons,Nat.succ_mul,Nat.add_comm,List.take_append,List.take_of_length_le (by rw [a x];omega),a x,Nat.add_sub_cancel_left,flat_take a t i];rfl
theorem drop_at {i:Nat} {y:α} (a:L[i]?=some y):L.drop i=y::L.drop (i+1):=by
 obtain ⟨h,rfl⟩:=List.getElem?_eq_some_iff.1 a;exact (List.getElem_cons_drop h).symm
theorem ldC_row (b:∀x,(row x).length=k) {c:Bool} {m i off:Nat} {y:α} {v:AV} (f:L[i]?=some y) (a:ldC c m off (row y)=some v) (n:0 < m):ldC c m (i * k+off) (L.map row).flatten=some v:=by
 have e:(L.map row).flatten.drop (i * k)=row y++((L.drop (i+1)).map row).flatten:=by rw [flat_drop b,drop_at f];rfl
 have hi:i < L.length:=(List.getElem?_eq_some_iff.1 f).1;have j:(i+1) * k<=L.length * k:=Nat.mul_le_mul_right k hi;rw [Nat.succ_mul] at j;unfold ldC at a ⊢;cases c with
 | true =>
  simp only [if_true] at a ⊢;split at a
  ·rename_i d;rw [b y] at d;rw [if_pos (by rw [qy b];omega),<- List.drop_drop,e,List.drop_append_of_le_length (by rw [b y];omega),List.take_append_of_le_length (by rw [List.length_drop,b y];omega)];exact a
  ·cases a
 | false =>
  simp only [Bool.false_eq_true,if_false] at a ⊢;have l:off < (row y).length:=(List.getElem?_eq_some_iff.1 a).1;have:(L.map row).flatten[i * k+off]?=((L.map row).flatten.drop (i * k))[off]?:=by rw [List.getElem?_drop]
  rw [this,e,List.getElem?_append_left l];exact a
theorem rows_map (a:∀x,(row x).length=k):∀L:List α,rows k L.length (L.map row).flatten=L.map row
 | []=>rfl
 | x::t=>by
  simp only [List.length_cons,rows,List.map_cons,List.flatten_cons];rw [List.take_left' (a x),List.drop_left' (a x),rows_map a t]
theorem splice_row (a:∀x,(row x).length=k) {i off:Nat} {y y':α} {vs:List AV} (c:L[i]?=some y) (hs:ye (row y) off vs=row y') (j:off+vs.length<=k) :
  rows k L.length (ye (L.map row).flatten (i * k+off) vs)=(L.set i y').map row:=by
 have hi:i < L.length:=(List.getElem?_eq_some_iff.1 c).1;have d:(L.map row).flatten=((L.take i).map row).flatten++(row y++((L.drop (i+1)).map row).flatten):=by
  conv=>lhs;rw [<- List.take_append_drop i L,drop_at c]
  simp
 have b:((L.take i).map row).flatten.length=i * k:=by rw [qy a,List.length_take,Nat.min_eq_left (by omega)]
 have f:ye (L.map row).flatten (i * k+off) vs=((L.set i y').map row).flatten:=by
  rw [List.set_eq_take_append_cons_drop,if_pos hi];simp only [List.map_append,List.map_cons,List.flatten_append,List.flatten_cons,<- hs];rw [d];unfold ye;have e:=a y;rw [List.take_append,b,List.take_of_length_le (by omega),Nat.add_sub_cancel_left,List.take_append_of_le_length (by omega)];rw [Nat.add_assoc,List.drop_append,b,List.drop_of_length_le (by omega),Nat.add_sub_cancel_left,List.nil_append,List.drop_append_of_le_length (by omega)];simp only [List.append_assoc]
 rw [f];have:=rows_map a (L.set i y')
 rwa [List.length_set] at this
variable {P:Program} {o:Oper} {env:List AV} {h:AH} {B:List Blk} {T:List Nat}
theorem e_idxR {t e:TypeId} {x i:Operand} {id q n:Nat} {d:IntKind} {z:Int} (c:o.op=.indexAddr t x i) (b:El P t e k) (f:zU env x=some (.rsl id q k n)) (hi:zU env i=some (.int d z)) (a:0<=z/\z < n) :
  zn P o env h=.ok (.rptr id q k n (z.toNat * k+0)) h:=s_indexAddr c b f hi (by simp only [wA];rw [if_pos ⟨trivial,a.1,a.2⟩];rfl)
theorem e_ldR (s:∀x,(row x).length=k) {t:TypeId} {d:TypeDesc} {m i q n z off:Nat} {x:Operand} {y:α} {v v':AV} (r:o.op=.load t x) (p:Ty P t d m) (b:0 < m) (j:zU env x=some (.rptr (h.blks.length+i) q k n (z * k+off)))
  (a:B[i]?=some (.row q k (L.map row))) (l:L.length=n) (f:L[z]?=some y) (c:ldC (zK d) m off (row y)=some v) (e:tyfix P t v=v'):zn P o env (h.ext B T)=.ok v' (h.ext B T):=by
 refine s_load r p j ?_ e;simp only [qG,zQ,a];rw [if_pos ⟨trivial,trivial,by simpa using l⟩];exact ldC_row s f c b
theorem e_stR (r:∀x,(row x).length=k) {t:TypeId} {d:TypeDesc} {m i q n z off:Nat} {x w:Operand} {y y':α} {b f:AV} {vs us:List AV} {B':List Blk} (F:o.op=.store t x w) (E:Ty P t d m) (D:zU env x=some (.rptr (h.blks.length+i) q k n (z * k+off)))
  (C:zU env w=some b) (u:tyfix P t b=f) (G:f.cells?=some vs) (p:vs.length=m) (c:yA vs=some us) (s:B[i]?=some (.row q k (L.map row))) (l:L.length=n) (j:L[z]?=some y) (v:off+m<=k)
  (hs:ye (row y) off us=row y') (A:B.set i (.row q k ((L.set z y').map row))=B'):zn P o env (h.ext B T)=.ok aundef (h.ext B' T):=by
 refine s_store F E D C u ?_;simp only [aStore,G,zQ,s];have e:z < L.length:=(List.getElem?_eq_some_iff.1 j).1;have a:(z+1) * k<=L.length * k:=Nat.mul_le_mul_right k e;rw [Nat.succ_mul] at a;rw [if_pos ⟨trivial,trivial,by simpa using l,p,by rw [qy r];omega⟩,c];simp only [<- l];rw [splice_row r j hs (by rw [qf c,p];omega),vz,A]
theorem e_appR {c:Call} {x y:Operand} {t u e r:TypeId} {A i j n:Nat} {a b q:AV} {B':List Blk} {T':List Nat} (J:o.op=.call c) (O:c.callee=.builtin .append) (hs:c.args=#[x,y]) (H:c.argTypes=#[t,u]) (K:El P t e k)
  (m:El P u r A) (F:zU env x=some a) (C:zU env y=some b) (v:tyfix P t a=.rsl (h.blks.length+i) (h.toks.length+j) k n) (s:tyfix P u b=q) (G:aNews k q=some (M.map row)) (I:L.length+M.length<=yg)
  (hi:B[i]?=some (.row (h.toks.length+j) k (L.map row))) (p:L.length=n) (l:T[j]?=some n) (d:B.set i (.row (h.toks.length+j) k ((L++M).map row))=B') (f:T.set j (L++M).length=T') :
  zn P o env (h.ext B T)=.ok (.rsl (h.blks.length+i) (h.toks.length+j) k (L++M).length) (h.ext B' T'):=by
 subst p;refine s_append J O hs H K m F C v s G ?_;simp only [vY,List.length_map];by_cases h0:M.length=0
 ·have:M=[]:=List.eq_nil_of_length_eq_zero h0;subst this;simp only [List.append_nil] at d f ⊢;simp only [List.length_nil,if_true];have N:B.set i (.row (h.toks.length+j) k (L.map row))=B:=by
   refine List.ext_getElem? λz=>?_;by_cases hz:z=i
   ·subst hz;rw [List.getElem?_set_self (List.getElem?_eq_some_iff.1 hi).1];exact hi.symm
   ·rw [List.getElem?_set_ne (λe=>hz e.symm)]
  have D:T.set j L.length=T:=by
   refine List.ext_getElem? λz=>?_;by_cases hz:z=j
   ·subst hz;rw [List.getElem?_set_self (List.getElem?_eq_some_iff.1 l).1];exact l.symm
   ·rw [List.getElem?_set_ne (λe=>hz e.symm)]
  rw [<- d,<- f,N,D]
 ·rw [if_neg h0,zQ,hi];simp only;have E:(h.ext B T).toks[h.toks.length+j]?=some L.length:=by simp only [AH.ext];rw [List.getElem?_append_right (by omega),Nat.add_sub_cancel_left];exact l
  rw [if_pos (by refine ⟨⟨?_,?_,?_⟩,?_,E,I⟩ <;> simp)];rw [vz];simp only [AH.ext,List.set_append_right _ _ (Nat.le_add_right _ _),Nat.add_sub_cancel_left,<- List.map_append,List.length_append] at d f ⊢;rw [d,f]
end
end Go.Vv
