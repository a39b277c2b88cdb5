/- Mutable rows: how one begins, and how it becomes an unchanging slice. -/
import Derived.Test.YtdfmjndkgfpipaaGreatVvIt
import Derived.Test.YtdfmjndkgfpipaaGreatVvRw
import Derived.Test.YtdfmjndkgfpipaaGreatVvRd
namespace Go.Vv
set_option linter.unusedVariables false
set_option linter.unusedSimpArgs false
open Go Go.RowKit
section
variable {B:Nat} {w0 w:World} {g:Gh} {h:AH}
theorem Rel.freeze (r:Rel B w0 g h w) {q i k:Nat} {es:List (List AV)} (hb:h.blks[q]?=some (.row i k es)) :
  ∃ g',g.le g'∧Rel B w0 g' { h.put q .dead with toks:=h.toks.set i (es.length+1) } w∧g'.δ=g.δ∧∀ q' v,V g (.rsl q' i k es.length) v→V g' (.sl k es) v:=by
 obtain ⟨hσ,t,ht,htr,htn,hlen,hpe,hrow⟩:=r.rowAt hb
 let T:TI:=⟨es.length+1,none,true⟩
 have hlt:t.n < T.n:=by show t.n < es.length+1;omega
 have hle:=Gh.le_setT (g:=g) (t':=T) ht hlt htr.symm
 have r1:=r.setRowG (t':=T) (nb:=.dead) ht hlt htr rfl hσ hb trivial (fun _ _ _ e=>by cases e) (fun _ _ _ e=>by cases e) (fun _ _ e=>by cases e)
 rcases hrow with rfl | ⟨b,o,e,cs,ty,k1,k2,k3,k4,k5⟩
 ·refine ⟨_,hle,r1,rfl,fun q' v hv=>?_⟩
  simp only [V] at hv ⊢
  obtain ⟨a,c,rfl,h1,h2,_⟩:=hv
  exact ⟨a,c,rfl,h1,h2,.inl trivial⟩
 ·have htok:∀ (j:Nat) (u:TI) (l e':Nat),(g.setT i T).τ[j]?=some u→u.loc=some (b,l,e')→False:=by
   intro j u l e' hj hu
   simp only [Gh.setT] at hj
   by_cases hji:j=i
   ·subst hji
    rw [List.getElem?_set_self (List.getElem?_eq_some_iff.1 ht).1] at hj
    injection hj with hj;subst hj;cases hu
   ·rw [List.getElem?_set_ne (fun e=>hji e.symm)] at hj
    exact hji (r.tinj _ _ _ _ b _ _ hj ht hu k1)
  have r2:=r1.vow (b:=b) (f:=fun j=>if o≤j∧j < o+es.length * k then cs[j]? else none)
   (fun j v hv=>by
    split at hv
    ·rw [cell_of_row w b j cs ty (0,0) k2];exact hv
    ·cases hv)
   (fun j c hj _=>(r.sep j c i t b _ hj ht k1).symm)
   (fun j u l e' hj hu=>(htok j u l e' hj hu).elim)
  have hle2:=hle.trans (Gh.le_vow (g.setT i T) b fun j=>if o≤j∧j < o+es.length * k then cs[j]? else none)
  refine ⟨_,hle2,r2,rfl,fun q' v hv=>?_⟩
  simp only [V] at hv ⊢
  obtain ⟨a,c,rfl,h1,h2,t2,ht2,_,_,hloc⟩:=hv
  obtain rfl:t=t2:=by rw [ht] at ht2;injection ht2
  refine ⟨a,c,rfl,h1,h2,?_⟩
  rcases hloc with ⟨h0,_⟩ | ⟨b',o',rfl,hloc⟩
  ·left;exact List.eq_nil_of_length_eq_zero h0
  ·have hloc:=hloc htn.symm
   rw [k1] at hloc;injection hloc with hloc;injection hloc with e1 hloc;injection hloc with e2 _
   obtain rfl:o=o':=by omega
   subst e1
   refine .inr ⟨b,o,rfl,VE_iff.2 ⟨hlen,VC.ofVA (k3.mono hle2) hpe fun j v hv=>?_⟩⟩
   rw [List.getElem?_take] at hv
   split at hv
   ·rename_i hj
    rw [List.getElem?_drop,Array.getElem?_toList] at hv
    simp only [Gh.vow,Gh.setT,if_true]
    rw [k5 _ (by omega),if_pos ⟨by omega,by omega⟩]
    exact hv
   ·cases hv
end
def AV.scal:AV→Bool
 | .bool _ | .int _ _ | .str _=>true
 | .tup [.bool _] | .tup [.int _ _] | .tup [.int _ _,.bool _]=>true
 | _=>false
theorem V.scal {g g':Gh} {a:AV} {v:Value} (hs:a.scal=true) (hv:V g a v):V g' a v:=by
 unfold AV.scal at hs
 split at hs <;> first | (simpa only [V,VL] using hv) | cases hs
theorem lv_now {B:Nat} {w0 w:World} {g:Gh} {h:AH} (r:Rel B w0 g h w):(g.cut 0 0).lv (g0 w) :=
 ⟨fun b j v e=>by
     have e:g.Φ b j=some v:=e
     simp only [g0,if_pos (r.phi_lt e)];exact r.phi b j v e,fun i c e=>by simp [Gh.cut] at e,fun i t e=>by simp [Gh.cut] at e⟩
inductive RdA (h:AH):AV→AV→Prop
 | low (a:AV) (hl:a.low 0 0=true):RdA h a a
 | row (id t k:Nat) (es:List (List AV)) (hb:h.blk id=some (.row t k es)):RdA h (.rsl id t k es.length) (.sl k es)
theorem RdA.sound {B:Nat} {w0 w:World} {g:Gh} {h:AH} (r:Rel B w0 g h w) {a b:AV} {v:Value} (hr:RdA h a b) (hv:V g a v):V (g0 w) b v:=by
 cases hr with
 | low _ hl=>exact V.monoV (lv_now r) _ _ (V.cut _ _ hl hv)
 | row id t k es hb =>
  obtain ⟨_,ti,hti,htr,htn,hlen,hpe,hrow⟩:=r.rowAt hb
  simp only [V] at hv ⊢
  obtain ⟨a,c,rfl,h1,h2,t2,ht2,_,_,hloc⟩:=hv
  obtain rfl:ti=t2:=by rw [hti] at ht2;injection ht2
  refine ⟨a,c,rfl,h1,h2,?_⟩
  rcases hloc with ⟨h0,_⟩ | ⟨b',o',rfl,hloc⟩
  ·left;exact List.eq_nil_of_length_eq_zero h0
  ·have hloc:=hloc htn.symm
   rcases hrow with rfl | ⟨b,o,e,cs,ty,k1,k2,k3,k4,k5⟩
   ·exact .inl rfl
   ·rw [k1] at hloc;injection hloc with hloc;injection hloc with e1 hloc;injection hloc with e2 _
    obtain rfl:o=o':=by omega
    subst e1
    have hb:b < w.heap.size:=(Array.getElem?_eq_some_iff.1 k2).1
    have k3':VA (g0 w) es.flatten ((cs.toList.drop o).take (es.length * k)):=VA.monoV (lv_now r) _ _ (VA.cut _ _ (lowL_of_pure hpe) k3)
    refine .inr ⟨b,o,rfl,VE_iff.2 ⟨hlen,VC.ofVA k3' hpe fun j v hv=>?_⟩⟩
    rw [List.getElem?_take] at hv
    split at hv
    ·rw [List.getElem?_drop,Array.getElem?_toList] at hv
     simp only [g0,if_pos hb]
     rw [cell_of_row w b (o+j) cs ty (0,0) k2];exact hv
    ·cases hv
inductive RdL (h:AH):List AV→List AV→Prop
 | nil:RdL h [] []
 | cons {a b:AV} {xs bs:List AV} (x:RdA h a b) (y:RdL h xs bs):RdL h (a::xs) (b::bs)
theorem RdL.sound {B:Nat} {w0 w:World} {g:Gh} {h:AH} (r:Rel B w0 g h w):∀ {xs bs:List AV} {vs:List Value},RdL h xs bs→VL g xs vs→VL (g0 w) bs vs
 | _,_,_,.nil,hv=>by simpa only [VL] using hv
 | _,_,_,.cons x y,hv=>by
  simp only [VL] at hv ⊢
  obtain ⟨v,s,rfl,h1,h2⟩:=hv
  exact ⟨v,s,rfl,x.sound r h1,y.sound r h2⟩
theorem V.thaw {g:Gh} {k:Nat} {v:Value} {q:Nat} (hV:V g (.osl none k []) v):V ((g.addT ⟨0,none,true⟩).addS none) (.rsl q g.τ.length k 0) v:=by
 simp only [V] at hV ⊢
 obtain ⟨a,c,rfl,h1,h2,_,h3⟩:=hV
 have h3:c=0:=h3
 refine ⟨a,c,rfl,h1,h2,⟨0,none,true⟩,?_,rfl,Nat.le_refl _,.inl ⟨rfl,h3⟩⟩
 simp [Gh.addT,Gh.addS]
theorem rowOk_nil {g:Gh} {w:World} {k:Nat}:RowOk ((g.addT ⟨0,none,true⟩).addS none) w g.τ.length k [] :=
 ⟨⟨0,none,true⟩,by simp [Gh.addT,Gh.addS],rfl,rfl,by simp,by simp,.inl rfl⟩
theorem swk.wk {hd h h':AH} {env env':List AV} (k:swk env h env' h'):wk hd env h env' h':=fun B w0 w _ g1 g vs _ hg r hv=>by
 obtain ⟨g',k1,k2,k3⟩:=k B w0 w g vs r hv
 exact ⟨g',hg.trans k1,k2,k3,k1.del⟩
theorem swk_thaw {h:AH} {env env':List AV} {B B':List Blk} {T T':List Nat} {d k n m:Nat} (he:xf env (.tmp d)=some (.osl none k [])) (hn:B.length=n) (hm:T.length=m)
  (hE:vp (some d) env (.rsl (h.blks.length+n) (h.toks.length+m) k 0)=some env') (hB:B++[.row (h.toks.length+m) k []]=B') (hT:T++[0]=T') :
  swk env (h.ext B T) env' (h.ext B' T'):=fun _ _ w g vs r hv=>by
 subst hn hm hB hT
 simp only [vp,Option.some.injEq] at hE
 subst hE
 have hlen:g.τ.length=h.toks.length+T.length:=by rw [r.tlen];simp [AH.ext]
 have hle:=(g.le_addT ⟨0,none,true⟩).trans (Gh.le_addS _ none)
 have r1:=r.newRowT ⟨0,none,true⟩ k [] (fun _ _ _ h=>by cases h) (fun _ _ h=>by cases h) rowOk_nil
 have e:(({ (h.ext B T) with toks:=(h.ext B T).toks++[0] }:AH).new (.row g.τ.length k []))=h.ext (B++[.row (h.toks.length+T.length) k []]) (T++[0]):=by
  rw [hlen];simp [AH.ext,AH.new,List.append_assoc]
 rw [e] at r1
 refine ⟨_,hle,r1,VL.setE (VL.mono hle _ _ hv) d _ fun v hvi=>?_⟩
 obtain ⟨a,ha,hV⟩:=hv.getR _ _ hvi
 have he':env[d]?=some (.osl none k []):=he
 rw [he'] at ha
 injection ha with ha
 subst ha
 rw [← hlen];exact hV.thaw

inductive FzA (i k:Nat) (es:List (List AV)):AV→AV→Prop
 | same (a:AV):FzA i k es a a
 | hit (q:Nat):FzA i k es (.rsl q i k es.length) (.sl k es)
 | hit2 (q n:Nat) (hn:n=es.length):FzA i k es (.rsl q i k n) (.sl k es)
 | agg1 (cs:List AV) (j q:Nat) (hj:cs[j]?=some (.rsl q i k es.length)):FzA i k es (.agg cs) (.agg (cs.set j (.sl k es)))
inductive FzL (i k:Nat) (es:List (List AV)):List AV→List AV→Prop
 | refl (xs:List AV):FzL i k es xs xs
 | cons {a b:AV} {xs bs:List AV} (x:FzA i k es a b) (y:FzL i k es xs bs):FzL i k es (a::xs) (b::bs)
theorem FzA.sound {g g':Gh} (hle:g.le g') {i k:Nat} {es:List (List AV)} (hz:∀ q v,V g (.rsl q i k es.length) v→V g' (.sl k es) v) {a b:AV} {v:Value} (x:FzA i k es a b) (hv:V g a v):V g' b v:=by
 cases x with
 | same=>exact hv.mono hle
 | hit q=>exact hz q v hv
 | hit2 q n hn=>subst hn;exact hz q v hv
 | agg1 cs j q hj =>
  simp only [V] at hv ⊢
  obtain ⟨vs,rfl,h1⟩:=hv
  refine ⟨vs,rfl,VA.mk (VL.setE (VL.mono hle _ _ h1.toVL) j _ fun v hvi=>?_) ?_⟩
  ·obtain ⟨a,ha,hV⟩:=h1.toVL.getR _ _ hvi
   rw [hj] at ha;injection ha with ha;subst ha
   exact hz q v hV
  ·rw [List.all_eq_true]
   intro a ha
   rcases List.mem_or_eq_of_mem_set ha with ha | rfl
   ·have:=h1.ones;rw [List.all_eq_true] at this;exact this a ha
   ·rfl
theorem FzL.sound {g g':Gh} (hle:g.le g') {i k:Nat} {es:List (List AV)} (hz:∀ q v,V g (.rsl q i k es.length) v→V g' (.sl k es) v):∀ {xs bs:List AV} {vs:List Value},FzL i k es xs bs→VL g xs vs→VL g' bs vs
 | _,_,_,.refl _,hv=>hv.mono hle
 | _,_,_,.cons x y,hv=>by
  simp only [VL] at hv ⊢
  obtain ⟨v,s,rfl,h1,h2⟩:=hv
  exact ⟨v,s,rfl,x.sound hle hz h1,y.sound hle hz h2⟩
theorem swk_freeze {h:AH} {env env':List AV} {B B':List Blk} {T T':List Nat} {j m k:Nat} {es:List (List AV)} (hb:B[j]?=some (.row (h.toks.length+m) k es)) (hz:FzL (h.toks.length+m) k es env env')
  (hB:B.set j .dead=B') (hT:T.set m (es.length+1)=T'):swk env (h.ext B T) env' (h.ext B' T'):=fun _ _ w g vs r hv=>by
 subst hB hT
 have hb':(h.ext B T).blks[h.blks.length+j]?=some (.row (h.toks.length+m) k es):=by
  simp only [AH.ext];rw [List.getElem?_append_right (by omega),Nat.add_sub_cancel_left];exact hb
 obtain ⟨g',hle,r',hδ,hf⟩:=r.freeze hb'
 have e:({ (h.ext B T).put (h.blks.length+j) .dead with toks:=(h.ext B T).toks.set (h.toks.length+m) (es.length+1) }:AH)=h.ext (B.set j .dead) (T.set m (es.length+1)):=by
  simp only [AH.ext,AH.put,AH.mk.injEq]
  exact ⟨by rw [List.set_append_right _ _ (by omega),Nat.add_sub_cancel_left],by rw [List.set_append_right _ _ (by omega),Nat.add_sub_cancel_left]⟩
 rw [e] at r'
 exact ⟨g',hle,r',hz.sound hle hf hv⟩

section
variable {α:Type} {row:α→List AV} {L M:List α} {k:Nat}
theorem flat_len (hk:∀ x,(row x).length=k):∀ L:List α,(L.map row).flatten.length=L.length * k
 | []=>by simp
 | x::t=>by simp only [List.map_cons,List.flatten_cons,List.length_append,List.length_cons,flat_len hk t,hk x,Nat.succ_mul];omega
theorem flat_drop (hk:∀ x,(row x).length=k):∀ (L:List α) (i:Nat),(L.map row).flatten.drop (i * k)=((L.drop i).map row).flatten
 | [],i=>by simp
 | x::t,0=>by simp
 | x::t,i+1=>by
  rw [List.map_cons,List.flatten_cons,Nat.succ_mul,Nat.add_comm,← List.drop_drop,List.drop_left' (hk x),flat_drop hk t i];rfl
theorem flat_take (hk:∀ x,(row x).length=k):∀ (L:List α) (i:Nat),(L.map row).flatten.take (i * k)=((L.take i).map row).flatten
 | [],i=>by simp
 | x::t,0=>by simp
 | x::t,i+1=>by
  rw [List.map_cons,List.flatten_cons,Nat.succ_mul,Nat.add_comm,List.take_append,List.take_of_length_le (by rw [hk x];omega),hk x,Nat.add_sub_cancel_left,flat_take hk t i];rfl
theorem drop_at {i:Nat} {y:α} (hy:L[i]?=some y):L.drop i=y::L.drop (i+1):=by
 obtain ⟨h,rfl⟩:=List.getElem?_eq_some_iff.1 hy
 exact (List.getElem_cons_drop h).symm
theorem ldC_row (hk:∀ x,(row x).length=k) {ag:Bool} {m i off:Nat} {y:α} {v:AV} (hy:L[i]?=some y) (hv:ldC ag m off (row y)=some v) (hm:0 < m):ldC ag m (i * k+off) (L.map row).flatten=some v:=by
 have e:(L.map row).flatten.drop (i * k)=row y++((L.drop (i+1)).map row).flatten:=by rw [flat_drop hk,drop_at hy];rfl
 have hi:i < L.length:=(List.getElem?_eq_some_iff.1 hy).1
 have hb:(i+1) * k≤L.length * k:=Nat.mul_le_mul_right k hi
 rw [Nat.succ_mul] at hb
 unfold ldC at hv ⊢
 cases ag with
 | true =>
  simp only [if_true] at hv ⊢
  split at hv
  ·rename_i hle
   rw [hk y] at hle
   rw [if_pos (by rw [flat_len hk];omega),← List.drop_drop,e,List.drop_append_of_le_length (by rw [hk y];omega),List.take_append_of_le_length (by rw [List.length_drop,hk y];omega)]
   exact hv
  ·cases hv
 | false =>
  simp only [Bool.false_eq_true,if_false] at hv ⊢
  have ho:off < (row y).length:=(List.getElem?_eq_some_iff.1 hv).1
  have:(L.map row).flatten[i * k+off]?=((L.map row).flatten.drop (i * k))[off]?:=by rw [List.getElem?_drop]
  rw [this,e,List.getElem?_append_left ho]
  exact hv
theorem rows_map (hk:∀ x,(row x).length=k):∀ L:List α,rows k L.length (L.map row).flatten=L.map row
 | []=>rfl
 | x::t=>by
  simp only [List.length_cons,rows,List.map_cons,List.flatten_cons]
  rw [List.take_left' (hk x),List.drop_left' (hk x),rows_map hk t]
theorem splice_row (hk:∀ x,(row x).length=k) {i off:Nat} {y y':α} {vs:List AV} (hy:L[i]?=some y) (hs:xK (row y) off vs=row y') (hb:off+vs.length≤k) :
  rows k L.length (xK (L.map row).flatten (i * k+off) vs)=(L.set i y').map row:=by
 have hi:i < L.length:=(List.getElem?_eq_some_iff.1 hy).1
 have e1:(L.map row).flatten=((L.take i).map row).flatten++(row y++((L.drop (i+1)).map row).flatten):=by
  conv=>lhs;rw [← List.take_append_drop i L,drop_at hy]
  simp
 have hl:((L.take i).map row).flatten.length=i * k:=by rw [flat_len hk,List.length_take,Nat.min_eq_left (by omega)]
 have e2:xK (L.map row).flatten (i * k+off) vs=((L.set i y').map row).flatten:=by
  rw [List.set_eq_take_append_cons_drop,if_pos hi]
  simp only [List.map_append,List.map_cons,List.flatten_append,List.flatten_cons,← hs]
  rw [e1]
  unfold xK
  have hyl:=hk y
  rw [List.take_append,hl,List.take_of_length_le (by omega),Nat.add_sub_cancel_left,List.take_append_of_le_length (by omega)]
  rw [Nat.add_assoc,List.drop_append,hl,List.drop_of_length_le (by omega),Nat.add_sub_cancel_left,List.nil_append,List.drop_append_of_le_length (by omega)]
  simp only [List.append_assoc]
 rw [e2]
 have:=rows_map hk (L.set i y')
 rwa [List.length_set] at this
variable {P:Program} {o:Oper} {env:List AV} {h:AH} {B:List Blk} {T:List Nat}
theorem e_idxR {t e:TypeId} {x i:Operand} {id q n:Nat} {kd:IntKind} {z:Int} (ho:o.op=.indexAddr t x i) (ht:El P t e k) (hx:xf env x=some (.rsl id q k n)) (hi:xf env i=some (.int kd z)) (hz:0≤z∧z < n) :
  zV P o env h=.ok (.rptr id q k n (z.toNat * k+0)) h:=s_indexAddr ho ht hx hi (by simp only [aIndexAddr];rw [if_pos ⟨trivial,hz.1,hz.2⟩];rfl)
theorem e_ldR (hk:∀ x,(row x).length=k) {t:TypeId} {d:TypeDesc} {m i q n z off:Nat} {x:Operand} {y:α} {v v':AV} (ho:o.op=.load t x) (ht:Ty P t d m) (hm:0 < m) (hx:xf env x=some (.rptr (h.blks.length+i) q k n (z * k+off)))
  (hb:B[i]?=some (.row q k (L.map row))) (hn:L.length=n) (hy:L[z]?=some y) (hv:ldC (y5 d) m off (row y)=some v) (hf:tyfix P t v=v'):zV P o env (h.ext B T)=.ok v' (h.ext B T):=by
 refine s_load ho ht hx ?_ hf
 simp only [aLoad,x7,hb]
 rw [if_pos ⟨trivial,trivial,by simpa using hn⟩]
 exact ldC_row hk hy hv hm
theorem e_stR (hk:∀ x,(row x).length=k) {t:TypeId} {d:TypeDesc} {m i q n z off:Nat} {x w:Operand} {y y':α} {b b':AV} {vs us:List AV} {B':List Blk} (ho:o.op=.store t x w) (ht:Ty P t d m) (hx:xf env x=some (.rptr (h.blks.length+i) q k n (z * k+off)))
  (hw:xf env w=some b) (hf:tyfix P t b=b') (hc:b'.cells?=some vs) (hl:vs.length=m) (hcl:wE vs=some us) (hb:B[i]?=some (.row q k (L.map row))) (hn:L.length=n) (hy:L[z]?=some y) (hle:off+m≤k)
  (hs:xK (row y) off us=row y') (hB:B.set i (.row q k ((L.set z y').map row))=B'):zV P o env (h.ext B T)=.ok za (h.ext B' T):=by
 refine s_store ho ht hx hw hf ?_
 simp only [aStore,hc,x7,hb]
 have hzl:z < L.length:=(List.getElem?_eq_some_iff.1 hy).1
 have hmul:(z+1) * k≤L.length * k:=Nat.mul_le_mul_right k hzl
 rw [Nat.succ_mul] at hmul
 rw [if_pos ⟨trivial,trivial,by simpa using hn,hl,by rw [flat_len hk];omega⟩,hcl]
 simp only [← hn]
 rw [splice_row hk hy hs (by rw [clean_len hcl,hl];omega),qw,hB]
theorem e_appR {c:Call} {x y:Operand} {t u e e':TypeId} {k' i j n:Nat} {a b b':AV} {B':List Blk} {T':List Nat} (ho:o.op=.call c) (hc:c.callee=.builtin .append) (hs:c.args=#[x,y]) (ht:c.argTypes=#[t,u]) (hu:El P t e k)
  (hu':El P u e' k') (hx:xf env x=some a) (hy:xf env y=some b) (ha:tyfix P t a=.rsl (h.blks.length+i) (h.toks.length+j) k n) (hb:tyfix P u b=b') (hn:aNews k b'=some (M.map row)) (hl:L.length+M.length≤qB)
  (hi:B[i]?=some (.row (h.toks.length+j) k (L.map row))) (hLn:L.length=n) (hm:T[j]?=some n) (hB:B.set i (.row (h.toks.length+j) k ((L++M).map row))=B') (hT:T.set j (L++M).length=T') :
  zV P o env (h.ext B T)=.ok (.rsl (h.blks.length+i) (h.toks.length+j) k (L++M).length) (h.ext B' T'):=by
 subst hLn
 refine s_append ho hc hs ht hu hu' hx hy ha hb hn ?_
 simp only [aAppend,List.length_map]
 by_cases h0:M.length=0
 ·have:M=[]:=List.eq_nil_of_length_eq_zero h0
  subst this
  simp only [List.append_nil] at hB hT ⊢
  simp only [List.length_nil,if_true]
  have e1:B.set i (.row (h.toks.length+j) k (L.map row))=B:=by
   refine List.ext_getElem? fun z=>?_
   by_cases hz:z=i
   ·subst hz;rw [List.getElem?_set_self (List.getElem?_eq_some_iff.1 hi).1];exact hi.symm
   ·rw [List.getElem?_set_ne (fun e=>hz e.symm)]
  have e2:T.set j L.length=T:=by
   refine List.ext_getElem? fun z=>?_
   by_cases hz:z=j
   ·subst hz;rw [List.getElem?_set_self (List.getElem?_eq_some_iff.1 hm).1];exact hm.symm
   ·rw [List.getElem?_set_ne (fun e=>hz e.symm)]
  rw [← hB,← hT,e1,e2]
 ·rw [if_neg h0,x7,hi]
  simp only
  have hg:(h.ext B T).toks[h.toks.length+j]?=some L.length:=by simp only [AH.ext];rw [List.getElem?_append_right (by omega),Nat.add_sub_cancel_left];exact hm
  rw [if_pos (by refine ⟨⟨?_,?_,?_⟩,?_,hg,hl⟩ <;> simp)]
  rw [qw]
  simp only [AH.ext,List.set_append_right _ _ (Nat.le_add_right _ _),Nat.add_sub_cancel_left,← List.map_append,List.length_append] at hB hT ⊢
  rw [hB,hT]
end
end Go.Vv
