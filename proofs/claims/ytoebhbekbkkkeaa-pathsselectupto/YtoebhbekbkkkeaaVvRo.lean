/- Mutable rows: how one begins, and how it becomes an unchanging slice. -/
import Derived.Test.YtoebhbekbkkkeaaVvIt
import Derived.Test.YtoebhbekbkkkeaaVvRw
import Derived.Test.YtoebhbekbkkkeaaVvRd
namespace Go.Vv
open Go Go.RowKit
section
variable {B:Nat} {w0 w:World} {g:Gh} {h:AH}
end
def AV.scal:AV→Bool
 | .bool _ | .int _ _ | .str _=>true
 | .tup [.bool _] | .tup [.int _ _] | .tup [.int _ _,.bool _]=>true
 | _=>false
theorem V.scal {g g':Gh} {a:AV} {v:Value} (hs:a.scal=true) (hv:V g a v):V g' a v:=by
 unfold AV.scal at hs
 split at hs <;> first | (simpa only [V,VL] using hv) | cases hs
def sealed:Option BK→Bool
 | some (.gar _) | some (.shut _)=>true
 | _=>false
def gR (B:Nat) (w:World) (g:Gh):Gh :=
 { Φ:=fun b j=>if b < w.heap.size∧sealed (g.N b)=false then w.cell? ⟨b,j,none⟩ else none,σ:=[],τ:=[],δ:=[],N:=fun b=>match g.N b with | some x=>some x | none=>if B≤b then (w.heap[b]?).map .frz else none }
theorem Rel.unsealed {B:Nat} {w0 w:World} {g:Gh} {h:AH} (r:Rel B w0 g h w) {b j:Nat} {v:Value} (e:g.Φ b j=some v):sealed (g.N b)=false:=by
 rcases hx:g.N b with _ | x
 ·rfl
 ·have:=r.nb b x hx
  cases x with
  | gar s=>rw [this.2.2.2 j] at e;cases e
  | shut o=>rw [this.2.2.2 j] at e;cases e
  | _=>rfl
theorem lv_now {B:Nat} {w0 w:World} {g:Gh} {h:AH} (r:Rel B w0 g h w):(g.cut 0 0).lv (gR B w g) :=
 ⟨fun b j v e=>by
     have e:g.Φ b j=some v:=e
     simp only [gR,if_pos (And.intro (r.phi_lt e) (r.unsealed e))];exact r.phi b j v e,fun i c e=>by simp [Gh.cut] at e,fun i t e=>by simp [Gh.cut] at e,fun b x e=>by
     have e:g.N b=some x:=e
     simp only [gR,e]⟩
theorem relR {B:Nat} {w0 w:World} {g:Gh} {h:AH} (r:Rel B w0 g h w):Rel B w0 (gR B w g) h0 w:=by
 refine ⟨r.below,r.bsz,fun b j v h=>?_,rfl,fun i c k hc _=>by simp [gR] at hc,rfl,fun i t ht=>by simp [gR] at ht,fun i j c hi=>by simp [gR] at hi,fun i j t t' b x y hi=>by simp [gR] at hi,fun i c j t b x hi=>by simp [gR] at hi,fun c hc=>by simp [gR] at hc,fun i k hi=>by simp [gR] at hi,fun i j t k k' es es' hi=>by simp [h0] at hi,fun b x hb=>?_⟩
 ·simp only [gR] at h
  split at h
  ·exact h
  ·cases h
 ·have hap:Apart (gR B w g) b:=⟨fun i=>by simp [gR],by simp [gR],fun i t y ht=>by simp [gR] at ht⟩
  rcases hx:g.N b with _ | y
  ·simp only [gR,hx] at hb
   split at hb
   ·rename_i hB
    obtain ⟨o,ho,rfl⟩:=Option.map_eq_some_iff.1 hb
    exact ⟨hB,hap,ho⟩
   ·cases hb
  ·simp only [gR,hx,Option.some.injEq] at hb
   subst hb
   have:=r.nb b _ hx
   cases y with
   | old=>exact this
   | new s=>exact ⟨this.1,hap,this.2.2⟩
   | gar s=>exact ⟨this.1,hap,this.2.2.1,fun j=>by simp [gR,hx,sealed]⟩
   | shut o=>exact ⟨this.1,hap,this.2.2.1,fun j=>by simp [gR,hx,sealed]⟩
   | frz o=>exact ⟨this.1,hap,this.2.2⟩
theorem Rel.after {B:Nat} {w0 w w':World} {g g2:Gh} {h h2:AH} (r:Rel B w0 g h w) (hle:(gR B w g).le g2) (r':Rel B w0 g2 h2 w'):Rel B w0 g h w':=by
 have hsame:∀ b,b < w.heap.size→(g.N b=none ∨ g.N b=some .old ∨ ∃ o,g.N b=some (.frz o))→w'.heap[b]?=w.heap[b]?:=by
  intro b hb hn
  by_cases hB:b < B
  ·exact (r'.below.block b hB).trans (r.below.block b hB).symm
  ·rcases hn with hn | hn | ⟨o,hn⟩
   ·have h1:(gR B w g).N b=some (.frz w.heap[b]):=by simp only [gR,hn,if_pos (Nat.not_lt.1 hB)];rw [Array.getElem?_eq_getElem hb];rfl
    have:=r'.nb b _ (hle.new _ _ h1)
    rw [this.2.2,Array.getElem?_eq_getElem hb]
   ·exact absurd (r.nb b _ hn) hB
   ·have h1:(gR B w g).N b=some (.frz o):=by simp only [gR,hn]
    exact (r'.nb b _ (hle.new _ _ h1)).2.2.trans (r.nb b _ hn).2.2.symm
 have hz:w.heap.size≤w'.heap.size:=by
  rcases Nat.eq_zero_or_pos w.heap.size with h0 | h0
  ·omega
  ·by_cases hB:w.heap.size - 1 < B
   ·have:=r'.bsz;omega
   ·have:∃ x,(gR B w g).N (w.heap.size - 1)=some x:=by
     simp only [gR]
     cases hx:g.N (w.heap.size - 1) with
     | some x=>exact ⟨x,rfl⟩
     | none=>exact ⟨.frz (w.heap[w.heap.size - 1]),by simp only [if_pos (Nat.not_lt.1 hB)];rw [Array.getElem?_eq_getElem (by omega)];rfl⟩
    obtain ⟨x,hx⟩:=this
    have:=r'.nlt (hle.new _ _ hx)
    omega
 have htk:∀ (i:Nat) (t:TI) (b:Nat) (y:Nat×Nat),g.τ[i]?=some t→t.loc=some (b,y)→w'.heap[b]?=w.heap[b]?:=fun i t b y ht hl=>by
  refine hsame b ((r.tok i t ht).2 b y.1 y.2 hl).lt ?_
  rcases hx:g.N b with _ | x
  ·exact .inl rfl
  ·exact .inr (.inl (by rw [r.ntok ht hl x hx]))
 refine ⟨r'.below,r'.bsz,fun b j v e=>?_,r.slen,fun i c k hc hk=>?_,r.tlen,fun i t ht=>?_,r.sinj,r.tinj,r.sep,fun c hc=>?_,fun i k hi hk=>?_,r.rinj,fun b x hb=>?_⟩
 ·have h1:(gR B w g).Φ b j=some v:=by simp only [gR,if_pos (And.intro (r.phi_lt e) (r.unsealed e))];exact r.phi b j v e
  exact r'.phi b j v (hle.phi _ _ _ h1)
 ·obtain ⟨h1,h2,h3,h4⟩:=r.blk i c k hc hk
  exact ⟨h1,by omega,h3.mono (Gh.le.refl g) (hsame c h2 (.inl (r.nsig hc))),h4⟩
 ·obtain ⟨h1,h2⟩:=r.tok i t ht
  exact ⟨h1,fun b l e hl=>(h2 b l e hl).mono hz (htk i t b _ ht hl) fun _ _=>rfl⟩
 ·obtain ⟨h1,h2,h3⟩:=r.dfr c hc
  refine ⟨h1,(hsame c (r.dfr_lt hc) ?_).trans h2,h3⟩
  rcases hx:g.N c with _ | x
  ·exact .inl rfl
  ·have:=r.nb c x hx
   cases x with
   | old=>exact .inr (.inl rfl)
   | _=>exact absurd hc this.2.1.2.1
 ·exact (r.row i k hi hk).mono (Gh.le.refl g) (fun _ _ h _=>h) (fun i t b x ht _ hl=>⟨htk i t b x ht hl,fun _=>rfl⟩)
 ·have hr:=r.nb b x hb
  have h1:(gR B w g).N b=some x:=by simp only [gR,hb]
  have h2:=r'.nb b x (hle.new _ _ h1)
  cases x with
  | old=>exact hr
  | new s=>exact ⟨hr.1,hr.2.1,h2.2.2⟩
  | gar s=>exact ⟨hr.1,hr.2.1,h2.2.2.1,hr.2.2.2⟩
  | shut o=>exact ⟨hr.1,hr.2.1,h2.2.2.1,hr.2.2.2⟩
  | frz o=>exact ⟨hr.1,hr.2.1,h2.2.2⟩

theorem RdA.soundRow {B:Nat} {w0 w:World} {g:Gh} {h:AH} (r:Rel B w0 g h w) {id t k n:Nat} {es:List (List AV)} (hb:h.blk id=some (.row t k es)) (hn:n=es.length) {v:Value} (hv:V g (.rsl id t k n) v):V (gR B w g) (.sl k es) v:=by
 subst hn
 obtain ⟨_,ti,hti,htr,htn,hlen,hpe,hrow⟩:=r.rowAt hb
 simp only [V] at hv ⊢
 obtain ⟨a,c,rfl,h1,h2,t2,ht2,_,_,hloc⟩:=hv
 obtain rfl:ti=t2:=by rw [hti] at ht2;injection ht2
 refine ⟨a,c,rfl,h1,h2,?_⟩
 rcases hloc with ⟨h0,_⟩ | ⟨b',o',rfl,hloc⟩
 ·left;exact List.eq_nil_of_length_eq_zero h0
 ·have hloc:=hloc htn.symm
  rcases hrow with rfl | ⟨b,o,e,cs,ty,k1,k2,k3,k4,k5⟩
  ·exact .inl rfl
  ·rw [k1] at hloc;injection hloc with hloc;injection hloc with e1 hloc;injection hloc with e2 _
   obtain rfl:o=o':=by omega
   subst e1
   have hb:b < w.heap.size:=(Array.getElem?_eq_some_iff.1 k2).1
   have k3':VA (gR B w g) es.flatten ((cs.toList.drop o).take (es.length * k)):=VA.monoV (lv_now r) _ _ (VA.cut _ _ (lowL_of_pure hpe) k3)
   refine .inr ⟨b,o,rfl,VE_iff.2 ⟨hlen,VC.ofVA k3' hpe fun j v hv=>?_⟩⟩
   rw [List.getElem?_take] at hv
   split at hv
   ·rw [List.getElem?_drop,Array.getElem?_toList] at hv
    have hsl:sealed (g.N b)=false:=by
     rcases hx:g.N b with _ | x
     ·rfl
     ·rw [r.ntok hti k1 x hx];rfl
    simp only [gR,if_pos (And.intro hb hsl)]
    rw [cell_of_row w b (o+j) cs ty (0,0) k2];exact hv
   ·cases hv
mutual
inductive RdA (h:AH):AV→AV→Prop
 | low (a:AV) (hl:a.low 0 0=true):RdA h a a
 | row (id t k n:Nat) (es:List (List AV)) (hb:h.blk id=some (.row t k es)) (hn:n=es.length):RdA h (.rsl id t k n) (.sl k es)
 | osl (q:Option Nat) (k:Nat) (es:List (List AV)) (hl:(AV.sl k es).low 0 0=true):RdA h (.osl q k es) (.sl k es)
 | agg {cs bs:List AV} (x:RdL h cs bs) (ho:bs.all AV.one=true):RdA h (.agg cs) (.agg bs)
inductive RdL (h:AH):List AV→List AV→Prop
 | nil:RdL h [] []
 | cons {a b:AV} {xs bs:List AV} (x:RdA h a b) (y:RdL h xs bs):RdL h (a::xs) (b::bs)
end
theorem V.low0 {B:Nat} {w0 w:World} {g:Gh} {h:AH} (r:Rel B w0 g h w) {a:AV} {v:Value} (hl:a.low 0 0=true) (hv:V g a v):V (gR B w g) a v:=V.monoV (lv_now r) _ _ (V.cut _ _ hl hv)
mutual
theorem RdA.sound {B:Nat} {w0 w:World} {g:Gh} {h:AH} (r:Rel B w0 g h w):∀ {a b:AV} {v:Value},RdA h a b→V g a v→V (gR B w g) b v
 | _,_,_,.low _ hl,hv=>V.low0 r hl hv
 | _,_,_,.row _ _ _ _ _ hb hn,hv=>RdA.soundRow r hb hn hv
 | _,_,_,.osl q k es hl,hv=>V.low0 r hl (leV.osl q k es g _ hv)
 | _,_,_,.agg x ho,hv=>by
  simp only [V] at hv ⊢
  obtain ⟨vs,rfl,h1⟩:=hv
  exact ⟨vs,rfl,VA.mk (RdL.sound r x h1.toVL) ho⟩
theorem RdL.sound {B:Nat} {w0 w:World} {g:Gh} {h:AH} (r:Rel B w0 g h w):∀ {xs bs:List AV} {vs:List Value},RdL h xs bs→VL g xs vs→VL (gR B w g) bs vs
 | _,_,_,.nil,hv=>by simpa only [VL] using hv
 | _,_,_,.cons x y,hv=>by
  simp only [VL] at hv ⊢
  obtain ⟨v,s,rfl,h1,h2⟩:=hv
  exact ⟨v,s,rfl,RdA.sound r x h1,RdL.sound r y h2⟩
end
theorem spec_read {P:Program} {f:FuncId} {xs bs:List AV} {h:AH} {R:AV} {K:AV→AH→Prop} (hr:RdL h xs bs) (hs:R.scal=true) (s:Spec P f bs h0 K) (hK:∀ rr hh,K rr hh→rr=R) :
  Spec P f xs h (fun rr hh=>rr=R∧hh=h) :=
 ⟨s.1,fun B w0 _ g w vs r hv=>by
  refine (s.2 B w0 (gR B w g) w vs (relR r) (hr.sound r hv)).mono ?_
  rintro e w' ⟨v,x,h',g',rfl,hk,hle,r',hx⟩
  obtain rfl:=hK _ _ hk
  exact ⟨v,_,h,g,rfl,⟨rfl,rfl⟩,Gh.le.refl g,r.after hle r',V.scal hs hx⟩⟩

theorem V.thaw {g:Gh} {k:Nat} {v:Value} {q:Nat} (hV:V g (.osl none k []) v):V ((g.addT ⟨0,none,true⟩).addS none) (.rsl q g.τ.length k 0) v:=by
 simp only [V] at hV ⊢
 obtain ⟨a,c,rfl,h1,h2,_,h3⟩:=hV
 have h3:c=0:=h3
 refine ⟨a,c,rfl,h1,h2,⟨0,none,true⟩,?_,rfl,Nat.le_refl _,.inl ⟨rfl,h3⟩⟩
 simp [Gh.addT,Gh.addS]
theorem rowOk_nil {g:Gh} {w:World} {k:Nat}:RowOk ((g.addT ⟨0,none,true⟩).addS none) w g.τ.length k [] :=
 ⟨⟨0,none,true⟩,by simp [Gh.addT,Gh.addS],rfl,rfl,by simp,by simp,.inl rfl⟩
theorem swk.wk {hd h h':AH} {env env':List AV} (k:swk env h env' h'):wk hd env h env' h':=fun B w0 w _ g1 g vs _ hg r hv=>by
 obtain ⟨g',k1,k2,k3⟩:=k B w0 w g vs r hv
 exact ⟨g',hg.trans k1,k2,k3,k1.del⟩
theorem swk_thaw {h:AH} {env env':List AV} {B B':List Blk} {T T':List Nat} {d k n m:Nat} (he:yX env (.tmp d)=some (.osl none k [])) (hn:B.length=n) (hm:T.length=m)
  (hE:vp (some d) env (.rsl (h.blks.length+n) (h.toks.length+m) k 0)=some env') (hB:B++[.row (h.toks.length+m) k []]=B') (hT:T++[0]=T') :
  swk env (h.ext B T) env' (h.ext B' T'):=fun _ _ w g vs r hv=>by
 subst hn hm hB hT
 simp only [vp,Option.some.injEq] at hE
 subst hE
 have hlen:g.τ.length=h.toks.length+T.length:=by rw [r.tlen];simp [AH.ext]
 have hle:=(g.le_addT ⟨0,none,true⟩).trans (Gh.le_addS _ none)
 have r1:=r.newRowT ⟨0,none,true⟩ k [] (fun _ _ _ h=>by cases h) (fun _ _ h=>by cases h) rowOk_nil
 have e:(({ (h.ext B T) with toks:=(h.ext B T).toks++[0] }:AH).new (.row g.τ.length k []))=h.ext (B++[.row (h.toks.length+T.length) k []]) (T++[0]):=by
  rw [hlen];simp [AH.ext,AH.new,List.append_assoc]
 rw [e] at r1
 refine ⟨_,hle,r1,VL.setE (VL.mono hle _ _ hv) d _ fun v hvi=>?_⟩
 obtain ⟨a,ha,hV⟩:=hv.getR _ _ hvi
 have he':env[d]?=some (.osl none k []):=he
 rw [he'] at ha
 injection ha with ha
 subst ha
 rw [← hlen];exact hV.thaw

mutual
inductive FzA (i k:Nat) (es:List (List AV)):AV→AV→Prop
 | same (a:AV):FzA i k es a a
 | hit (q:Nat):FzA i k es (.rsl q i k es.length) (.sl k es)
 | hit2 (q n:Nat) (hn:n=es.length):FzA i k es (.rsl q i k n) (.sl k es)
 | agg {cs bs:List AV} (x:FzL i k es cs bs) (ho:bs.all AV.one=true):FzA i k es (.agg cs) (.agg bs)
 | tup {cs bs:List AV} (x:FzL i k es cs bs):FzA i k es (.tup cs) (.tup bs)
inductive FzL (i k:Nat) (es:List (List AV)):List AV→List AV→Prop
 | refl (xs:List AV):FzL i k es xs xs
 | cons {a b:AV} {xs bs:List AV} (x:FzA i k es a b) (y:FzL i k es xs bs):FzL i k es (a::xs) (b::bs)
end
theorem FzL.s {i k:Nat} {es:List (List AV)} {a:AV} {xs bs:List AV} (y:FzL i k es xs bs):FzL i k es (a::xs) (a::bs):=.cons (.same _) y
mutual
theorem FzA.sound {g g':Gh} (hle:g.le g') {i k:Nat} {es:List (List AV)} (hz:∀ q v,V g (.rsl q i k es.length) v→V g' (.sl k es) v):∀ {a b:AV} {v:Value},FzA i k es a b→V g a v→V g' b v
 | _,_,_,.same _,hv=>hv.mono hle
 | _,_,_,.hit q,hv=>hz q _ hv
 | _,_,_,.hit2 q n hn,hv=>by subst hn;exact hz q _ hv
 | _,_,_,.agg x ho,hv=>by
  simp only [V] at hv ⊢
  obtain ⟨vs,rfl,h1⟩:=hv
  exact ⟨vs,rfl,VA.mk (FzL.sound hle hz x h1.toVL) ho⟩
 | _,_,_,.tup x,hv=>by
  simp only [V] at hv ⊢
  obtain ⟨vs,rfl,h1⟩:=hv
  exact ⟨vs,rfl,FzL.sound hle hz x h1⟩
theorem FzL.sound {g g':Gh} (hle:g.le g') {i k:Nat} {es:List (List AV)} (hz:∀ q v,V g (.rsl q i k es.length) v→V g' (.sl k es) v):∀ {xs bs:List AV} {vs:List Value},FzL i k es xs bs→VL g xs vs→VL g' bs vs
 | _,_,_,.refl _,hv=>hv.mono hle
 | _,_,_,.cons x y,hv=>by
  simp only [VL] at hv ⊢
  obtain ⟨v,s,rfl,h1,h2⟩:=hv
  exact ⟨v,s,rfl,FzA.sound hle hz x h1,FzL.sound hle hz y h2⟩
end
section
variable {α:Type} {row:α→List AV} {L M:List α} {k:Nat}
theorem flat_len (hk:∀ x,(row x).length=k):∀ L:List α,(L.map row).flatten.length=L.length * k
 | []=>by simp
 | x::t=>by simp only [List.map_cons,List.flatten_cons,List.length_append,List.length_cons,flat_len hk t,hk x,Nat.succ_mul];omega
theorem flat_drop (hk:∀ x,(row x).length=k):∀ (L:List α) (i:Nat),(L.map row).flatten.drop (i * k)=((L.drop i).map row).flatten
 | [],i=>by simp
 | x::t,0=>by simp
 | x::t,i+1=>by
  rw [List.map_cons,List.flatten_cons,Nat.succ_mul,Nat.add_comm,← List.drop_drop,List.drop_left' (hk x),flat_drop hk t i];rfl
theorem drop_at {i:Nat} {y:α} (hy:L[i]?=some y):L.drop i=y::L.drop (i+1):=by
 obtain ⟨h,rfl⟩:=List.getElem?_eq_some_iff.1 hy
 exact (List.getElem_cons_drop h).symm
theorem ldC_row (hk:∀ x,(row x).length=k) {ag:Bool} {m i off:Nat} {y:α} {v:AV} (hy:L[i]?=some y) (hv:ldC ag m off (row y)=some v) (hm:0 < m):ldC ag m (i * k+off) (L.map row).flatten=some v:=by
 have e:(L.map row).flatten.drop (i * k)=row y++((L.drop (i+1)).map row).flatten:=by rw [flat_drop hk,drop_at hy];rfl
 have hi:i < L.length:=(List.getElem?_eq_some_iff.1 hy).1
 have hb:(i+1) * k≤L.length * k:=Nat.mul_le_mul_right k hi
 rw [Nat.succ_mul] at hb
 unfold ldC at hv ⊢
 cases ag with
 | true =>
  simp only [if_true] at hv ⊢
  split at hv
  ·rename_i hle
   rw [hk y] at hle
   rw [if_pos (by rw [flat_len hk];omega),← List.drop_drop,e,List.drop_append_of_le_length (by rw [hk y];omega),List.take_append_of_le_length (by rw [List.length_drop,hk y];omega)]
   exact hv
  ·cases hv
 | false =>
  simp only [Bool.false_eq_true,if_false] at hv ⊢
  have ho:off < (row y).length:=(List.getElem?_eq_some_iff.1 hv).1
  have:(L.map row).flatten[i * k+off]?=((L.map row).flatten.drop (i * k))[off]?:=by rw [List.getElem?_drop]
  rw [this,e,List.getElem?_append_left ho]
  exact hv
variable {P:Program} {o:Oper} {env:List AV} {h:AH} {B:List Blk} {T:List Nat}
theorem e_idxR {t e:TypeId} {x i:Operand} {id q n:Nat} {kd:IntKind} {z:Int} (ho:o.op=.indexAddr t x i) (ht:El P t e k) (hx:yX env x=some (.rsl id q k n)) (hi:yX env i=some (.int kd z)) (hz:0≤z∧z < n) :
  zT P o env h=.ok (.rptr id q k n (z.toNat * k+0)) h:=s_indexAddr ho ht hx hi (by simp only [qk];rw [if_pos ⟨trivial,hz.1,hz.2⟩];rfl)
theorem e_ldR (hk:∀ x,(row x).length=k) {t:TypeId} {d:TypeDesc} {m i q n z off:Nat} {x:Operand} {y:α} {v v':AV} (ho:o.op=.load t x) (ht:Ty P t d m) (hm:0 < m) (hx:yX env x=some (.rptr (h.blks.length+i) q k n (z * k+off)))
  (hb:B[i]?=some (.row q k (L.map row))) (hn:L.length=n) (hy:L[z]?=some y) (hv:ldC (yM d) m off (row y)=some v) (hf:tyfix P t v=v'):zT P o env (h.ext B T)=.ok v' (h.ext B T):=by
 refine s_load ho ht hx ?_ hf
 simp only [aLoad,wH,hb]
 rw [if_pos ⟨trivial,trivial,by simpa using hn⟩]
 exact ldC_row hk hy hv hm
theorem e_appR {c:Call} {x y:Operand} {t u e e':TypeId} {k' i j n:Nat} {a b b':AV} {B':List Blk} {T':List Nat} (ho:o.op=.call c) (hc:c.callee=.builtin .append) (hs:c.args=#[x,y]) (ht:c.argTypes=#[t,u]) (hu:El P t e k)
  (hu':El P u e' k') (hx:yX env x=some a) (hy:yX env y=some b) (ha:tyfix P t a=.rsl (h.blks.length+i) (h.toks.length+j) k n) (hb:tyfix P u b=b') (hn:qO k b'=some (M.map row)) (hl:L.length+M.length≤w9)
  (hi:B[i]?=some (.row (h.toks.length+j) k (L.map row))) (hLn:L.length=n) (hm:T[j]?=some n) (hB:B.set i (.row (h.toks.length+j) k ((L++M).map row))=B') (hT:T.set j (L++M).length=T') :
  zT P o env (h.ext B T)=.ok (.rsl (h.blks.length+i) (h.toks.length+j) k (L++M).length) (h.ext B' T'):=by
 subst hLn
 refine s_append ho hc hs ht hu hu' hx hy ha hb hn ?_
 simp only [aAppend,List.length_map]
 by_cases h0:M.length=0
 ·have:M=[]:=List.eq_nil_of_length_eq_zero h0
  subst this
  simp only [List.append_nil] at hB hT ⊢
  simp only [List.length_nil,if_true]
  have e1:B.set i (.row (h.toks.length+j) k (L.map row))=B:=by
   refine List.ext_getElem? fun z=>?_
   by_cases hz:z=i
   ·subst hz;rw [List.getElem?_set_self (List.getElem?_eq_some_iff.1 hi).1];exact hi.symm
   ·rw [List.getElem?_set_ne (fun e=>hz e.symm)]
  have e2:T.set j L.length=T:=by
   refine List.ext_getElem? fun z=>?_
   by_cases hz:z=j
   ·subst hz;rw [List.getElem?_set_self (List.getElem?_eq_some_iff.1 hm).1];exact hm.symm
   ·rw [List.getElem?_set_ne (fun e=>hz e.symm)]
  rw [← hB,← hT,e1,e2]
 ·rw [if_neg h0,wH,hi]
  simp only
  have hg:(h.ext B T).toks[h.toks.length+j]?=some L.length:=by simp only [AH.ext];rw [List.getElem?_append_right (by omega),Nat.add_sub_cancel_left];exact hm
  rw [if_pos (by refine ⟨⟨?_,?_,?_⟩,?_,hg,hl⟩ <;> simp)]
  rw [ext_put]
  simp only [AH.ext,List.set_append_right _ _ (Nat.le_add_right _ _),Nat.add_sub_cancel_left,← List.map_append,List.length_append] at hB hT ⊢
  rw [hB,hT]
end
end Go.Vv
