/- Mutable rows: how one begins, and how it becomes an unchanging slice. -/
import Derived.Test.YtbaclapbinkedaaVvIt
import Derived.Test.YtbaclapbinkedaaVvRw
import Derived.Test.YtbaclapbinkedaaVvRd
namespace Go.Vv
open Go Go.RowKit
section
variable {B:Nat} {w0 w:World} {g:Gh} {h:AH}
theorem Rel.freeze (r:Rel B w0 g h w) {q i k:Nat} {es:List (List AV)} (hb:h.blks[q]?=some (.row i k es)) :
  ∃ g',g.le g'∧Rel B w0 g' { h.put q .dead with toks:=h.toks.set i (es.length+1) } w∧g'.δ=g.δ∧∀ q' v,V g (.rsl q' i k es.length) v→V g' (.sl k es) v:=by
 obtain ⟨hσ,t,ht,htr,htn,hlen,hpe,hrow⟩:=r.rowAt hb
 let T:TI:=⟨es.length+1,none,true⟩
 have hlt:t.n < T.n:=by show t.n < es.length+1;omega
 have hle:=Gh.le_setT (g:=g) (t':=T) ht hlt htr.symm
 have r1:=r.setRowG (t':=T) (nb:=.dead) ht hlt htr rfl hσ hb trivial (fun _ _ _ e=>by cases e) (fun _ _ _ e=>by cases e) (fun _ _ e=>by cases e)
 rcases hrow with rfl | ⟨b,o,e,cs,ty,k1,k2,k3,k4,k5⟩
 ·refine ⟨_,hle,r1,rfl,fun q' v hv=>?_⟩
  simp only [V] at hv ⊢
  obtain ⟨a,c,rfl,h1,h2,_⟩:=hv
  exact ⟨a,c,rfl,h1,h2,.inl trivial⟩
 ·have htok:∀ (j:Nat) (u:TI) (l e':Nat),(g.setT i T).τ[j]?=some u→u.loc=some (b,l,e')→False:=by
   intro j u l e' hj hu
   simp only [Gh.setT] at hj
   by_cases hji:j=i
   ·subst hji
    rw [List.getElem?_set_self (List.getElem?_eq_some_iff.1 ht).1] at hj
    injection hj with hj;subst hj;cases hu
   ·rw [List.getElem?_set_ne (fun e=>hji e.symm)] at hj
    exact hji (r.tinj _ _ _ _ b _ _ hj ht hu k1)
  have r2:=r1.vow (b:=b) (f:=fun j=>if o≤j∧j < o+es.length * k then cs[j]? else none)
   (fun j v hv=>by
    split at hv
    ·rw [cell_of_row w b j cs ty (0,0) k2];exact hv
    ·cases hv)
   (fun j c hj _=>(r.sep j c i t b _ hj ht k1).symm)
   (fun j u l e' hj hu=>(htok j u l e' hj hu).elim)
   (r.ntok ht k1)
  have hle2:=hle.trans (Gh.le_vow (g.setT i T) b fun j=>if o≤j∧j < o+es.length * k then cs[j]? else none)
  refine ⟨_,hle2,r2,rfl,fun q' v hv=>?_⟩
  simp only [V] at hv ⊢
  obtain ⟨a,c,rfl,h1,h2,t2,ht2,_,_,hloc⟩:=hv
  obtain rfl:t=t2:=by rw [ht] at ht2;injection ht2
  refine ⟨a,c,rfl,h1,h2,?_⟩
  rcases hloc with ⟨h0,_⟩ | ⟨b',o',rfl,hloc⟩
  ·left;exact List.eq_nil_of_length_eq_zero h0
  ·have hloc:=hloc htn.symm
   rw [k1] at hloc;injection hloc with hloc;injection hloc with e1 hloc;injection hloc with e2 _
   obtain rfl:o=o':=by omega
   subst e1
   refine .inr ⟨b,o,rfl,VE_iff.2 ⟨hlen,VC.ofVA (k3.mono hle2) hpe fun j v hv=>?_⟩⟩
   rw [List.getElem?_take] at hv
   split at hv
   ·rename_i hj
    rw [List.getElem?_drop,Array.getElem?_toList] at hv
    simp only [Gh.vow,Gh.setT,if_true]
    rw [k5 _ (by omega),if_pos ⟨by omega,by omega⟩]
    exact hv
   ·cases hv
end
def AV.scal:AV→Bool
 | .bool _ | .int _ _ | .str _=>true
 | .tup [.bool _] | .tup [.int _ _] | .tup [.int _ _,.bool _]=>true
 | _=>false
theorem V.scal {g g':Gh} {a:AV} {v:Value} (hs:a.scal=true) (hv:V g a v):V g' a v:=by
 unfold AV.scal at hs
 split at hs <;> first | (simpa only [V,VL] using hv) | cases hs
def sealed:Option BK→Bool
 | some (.gar _) | some (.shut _)=>true
 | _=>false
def gR (B:Nat) (w:World) (g:Gh):Gh :=
 { Φ:=fun b j=>if b < w.heap.size∧sealed (g.N b)=false then w.cell? ⟨b,j,none⟩ else none,σ:=[],τ:=[],δ:=[],N:=fun b=>match g.N b with | some x=>some x | none=>if B≤b then (w.heap[b]?).map .frz else none,O:=g.O }
theorem Rel.unsealed {B:Nat} {w0 w:World} {g:Gh} {h:AH} (r:Rel B w0 g h w) {b j:Nat} {v:Value} (e:g.Φ b j=some v):sealed (g.N b)=false:=by
 rcases hx:g.N b with _ | x
 ·rfl
 ·have:=r.nb b x hx
  cases x with
  | gar s=>rw [this.2.2.2 j] at e;cases e
  | shut o=>rw [this.2.2.2 j] at e;cases e
  | _=>rfl
theorem lv_now {B:Nat} {w0 w:World} {g:Gh} {h:AH} (r:Rel B w0 g h w):(g.cut 0 0).lv (gR B w g) :=
 ⟨fun b j v e=>by
     have e:g.Φ b j=some v:=e
     simp only [gR,if_pos (And.intro (r.phi_lt e) (r.unsealed e))];exact r.phi b j v e,fun i c e=>by simp [Gh.cut] at e,fun i t e=>by simp [Gh.cut] at e,fun b x e=>by
     have e:g.N b=some x:=e
     simp only [gR,e],fun _ e=>e⟩
theorem Rel.after {B:Nat} {w0 w w':World} {g g2:Gh} {h h2:AH} (r:Rel B w0 g h w) (hle:(gR B w g).le g2) (r':Rel B w0 g2 h2 w'):Rel B w0 g h w':=by
 have hsame:∀ b,b < w.heap.size→(g.N b=none ∨ ∃ o,g.N b=some (.frz o))→w'.heap[b]?=w.heap[b]?:=by
  intro b hb hn
  by_cases hB:b < B
  ·exact (r'.below.block b hB).trans (r.below.block b hB).symm
  ·rcases hn with hn | ⟨o,hn⟩
   ·have h1:(gR B w g).N b=some (.frz w.heap[b]):=by simp only [gR,hn,if_pos (Nat.not_lt.1 hB)];rw [Array.getElem?_eq_getElem hb];rfl
    have:=r'.nb b _ (hle.new _ _ h1)
    rw [this.2.2,Array.getElem?_eq_getElem hb]
   ·have h1:(gR B w g).N b=some (.frz o):=by simp only [gR,hn]
    exact (r'.nb b _ (hle.new _ _ h1)).2.2.trans (r.nb b _ hn).2.2.symm
 have hz:w.heap.size≤w'.heap.size:=by
  rcases Nat.eq_zero_or_pos w.heap.size with h0 | h0
  ·omega
  ·by_cases hB:w.heap.size - 1 < B
   ·have:=r'.bsz;omega
   ·have:∃ x,(gR B w g).N (w.heap.size - 1)=some x:=by
     simp only [gR]
     cases hx:g.N (w.heap.size - 1) with
     | some x=>exact ⟨x,rfl⟩
     | none=>exact ⟨.frz (w.heap[w.heap.size - 1]),by simp only [if_pos (Nat.not_lt.1 hB)];rw [Array.getElem?_eq_getElem (by omega)];rfl⟩
    obtain ⟨x,hx⟩:=this
    have:=r'.nlt (hle.new _ _ hx)
    omega
 have htk:∀ (i:Nat) (t:TI) (b:Nat) (y:Nat×Nat),g.τ[i]?=some t→t.loc=some (b,y)→w'.heap[b]?=w.heap[b]?:=fun i t b y ht hl=>by
  exact hsame b ((r.tok i t ht).2 b y.1 y.2 hl).lt (.inl (r.ntok ht hl))
 refine ⟨r'.below,r'.bsz,fun b j v e=>?_,r.slen,fun i c k hc hk=>?_,r.tlen,fun i t ht=>?_,r.sinj,r.tinj,r.sep,fun c hc=>?_,fun i k hi hk=>?_,r.rinj,fun b x hb=>?_,fun b hb=>⟨Nat.lt_of_lt_of_le (r.ob b hb).1 hz,(r.ob b hb).2⟩⟩
 ·have h1:(gR B w g).Φ b j=some v:=by simp only [gR,if_pos (And.intro (r.phi_lt e) (r.unsealed e))];exact r.phi b j v e
  exact r'.phi b j v (hle.phi _ _ _ h1)
 ·obtain ⟨h1,h2,h3,h4⟩:=r.blk i c k hc hk
  exact ⟨h1,by omega,h3.mono (Gh.le.refl g) (hsame c h2 (.inl (r.nsig hc))),h4⟩
 ·obtain ⟨h1,h2⟩:=r.tok i t ht
  exact ⟨h1,fun b l e hl=>(h2 b l e hl).mono hz (htk i t b _ ht hl) fun _ _=>rfl⟩
 ·obtain ⟨h1,h2,h3⟩:=r.dfr c hc
  refine ⟨h1,(hsame c (r.dfr_lt hc) ?_).trans h2,h3⟩
  rcases hx:g.N c with _ | x
  ·exact .inl rfl
  ·have:=r.nb c x hx
   cases x <;> exact absurd hc this.2.1.2.1
 ·exact (r.row i k hi hk).mono (Gh.le.refl g) (fun _ _ h _=>h) (fun i t b x ht _ hl=>⟨htk i t b x ht hl,fun _=>rfl⟩)
 ·have hr:=r.nb b x hb
  have h1:(gR B w g).N b=some x:=by simp only [gR,hb]
  have h2:=r'.nb b x (hle.new _ _ h1)
  cases x with
  | new s=>exact ⟨hr.1,hr.2.1,h2.2.2⟩
  | gar s=>exact ⟨hr.1,hr.2.1,h2.2.2.1,hr.2.2.2⟩
  | shut o=>exact ⟨hr.1,hr.2.1,h2.2.2.1,hr.2.2.2⟩
  | frz o=>exact ⟨hr.1,hr.2.1,h2.2.2⟩

theorem RdA.soundRow {B:Nat} {w0 w:World} {g:Gh} {h:AH} (r:Rel B w0 g h w) {id t k n:Nat} {es:List (List AV)} (hb:h.blk id=some (.row t k es)) (hn:n=es.length) {v:Value} (hv:V g (.rsl id t k n) v):V (gR B w g) (.sl k es) v:=by
 subst hn
 obtain ⟨_,ti,hti,htr,htn,hlen,hpe,hrow⟩:=r.rowAt hb
 simp only [V] at hv ⊢
 obtain ⟨a,c,rfl,h1,h2,t2,ht2,_,_,hloc⟩:=hv
 obtain rfl:ti=t2:=by rw [hti] at ht2;injection ht2
 refine ⟨a,c,rfl,h1,h2,?_⟩
 rcases hloc with ⟨h0,_⟩ | ⟨b',o',rfl,hloc⟩
 ·left;exact List.eq_nil_of_length_eq_zero h0
 ·have hloc:=hloc htn.symm
  rcases hrow with rfl | ⟨b,o,e,cs,ty,k1,k2,k3,k4,k5⟩
  ·exact .inl rfl
  ·rw [k1] at hloc;injection hloc with hloc;injection hloc with e1 hloc;injection hloc with e2 _
   obtain rfl:o=o':=by omega
   subst e1
   have hb:b < w.heap.size:=(Array.getElem?_eq_some_iff.1 k2).1
   have k3':VA (gR B w g) es.flatten ((cs.toList.drop o).take (es.length * k)):=VA.monoV (lv_now r) _ _ (VA.cut _ _ (lowL_of_pure hpe) k3)
   refine .inr ⟨b,o,rfl,VE_iff.2 ⟨hlen,VC.ofVA k3' hpe fun j v hv=>?_⟩⟩
   rw [List.getElem?_take] at hv
   split at hv
   ·rw [List.getElem?_drop,Array.getElem?_toList] at hv
    have hsl:sealed (g.N b)=false:=by rw [r.ntok hti k1];rfl
    simp only [gR,if_pos (And.intro hb hsl)]
    rw [cell_of_row w b (o+j) cs ty (0,0) k2];exact hv
   ·cases hv
mutual
inductive RdA (h:AH):AV→AV→Prop
 | low (a:AV) (hl:a.low 0 0=true):RdA h a a
 | row (id t k n:Nat) (es:List (List AV)) (hb:h.blk id=some (.row t k es)) (hn:n=es.length):RdA h (.rsl id t k n) (.sl k es)
 | osl (q:Option Nat) (k:Nat) (es:List (List AV)) (hl:(AV.sl k es).low 0 0=true):RdA h (.osl q k es) (.sl k es)
 | agg {cs bs:List AV} (x:RdL h cs bs) (ho:bs.all AV.one=true):RdA h (.agg cs) (.agg bs)
inductive RdL (h:AH):List AV→List AV→Prop
 | nil:RdL h [] []
 | cons {a b:AV} {xs bs:List AV} (x:RdA h a b) (y:RdL h xs bs):RdL h (a::xs) (b::bs)
end
theorem V.low0 {B:Nat} {w0 w:World} {g:Gh} {h:AH} (r:Rel B w0 g h w) {a:AV} {v:Value} (hl:a.low 0 0=true) (hv:V g a v):V (gR B w g) a v:=V.monoV (lv_now r) _ _ (V.cut _ _ hl hv)
mutual
theorem RdA.sound {B:Nat} {w0 w:World} {g:Gh} {h:AH} (r:Rel B w0 g h w):∀ {a b:AV} {v:Value},RdA h a b→V g a v→V (gR B w g) b v
 | _,_,_,.low _ hl,hv=>V.low0 r hl hv
 | _,_,_,.row _ _ _ _ _ hb hn,hv=>RdA.soundRow r hb hn hv
 | _,_,_,.osl q k es hl,hv=>V.low0 r hl (leV.osl q k es g _ hv)
 | _,_,_,.agg x ho,hv=>by
  simp only [V] at hv ⊢
  obtain ⟨vs,rfl,h1⟩:=hv
  exact ⟨vs,rfl,VA.mk (RdL.sound r x h1.toVL) ho⟩
theorem RdL.sound {B:Nat} {w0 w:World} {g:Gh} {h:AH} (r:Rel B w0 g h w):∀ {xs bs:List AV} {vs:List Value},RdL h xs bs→VL g xs vs→VL (gR B w g) bs vs
 | _,_,_,.nil,hv=>by simpa only [VL] using hv
 | _,_,_,.cons x y,hv=>by
  simp only [VL] at hv ⊢
  obtain ⟨v,s,rfl,h1,h2⟩:=hv
  exact ⟨v,s,rfl,RdA.sound r x h1,RdL.sound r y h2⟩
end
theorem V.thaw {g:Gh} {k:Nat} {v:Value} {q:Nat} (hV:V g (.osl none k []) v):V ((g.addT ⟨0,none,true⟩).addS none) (.rsl q g.τ.length k 0) v:=by
 simp only [V] at hV ⊢
 obtain ⟨a,c,rfl,h1,h2,_,h3⟩:=hV
 have h3:c=0:=h3
 refine ⟨a,c,rfl,h1,h2,⟨0,none,true⟩,?_,rfl,Nat.le_refl _,.inl ⟨rfl,h3⟩⟩
 simp [Gh.addT,Gh.addS]
theorem rowOk_nil {g:Gh} {w:World} {k:Nat}:RowOk ((g.addT ⟨0,none,true⟩).addS none) w g.τ.length k [] :=
 ⟨⟨0,none,true⟩,by simp [Gh.addT,Gh.addS],rfl,rfl,by simp,by simp,.inl rfl⟩
theorem swk.wk {hd h h':AH} {env env':List AV} (k:swk env h env' h'):wk hd env h env' h':=fun B w0 w _ g1 g vs _ hg r hv=>by
 obtain ⟨g',k1,k2,k3⟩:=k B w0 w g vs r hv
 exact ⟨g',hg.trans k1,k2,k3,k1.del⟩
theorem swk_thaw {h:AH} {env env':List AV} {B B':List Blk} {T T':List Nat} {d k n m:Nat} (he:yZ env (.tmp d)=some (.osl none k [])) (hn:B.length=n) (hm:T.length=m)
  (hE:vl (some d) env (.rsl (h.blks.length+n) (h.toks.length+m) k 0)=some env') (hB:B++[.row (h.toks.length+m) k []]=B') (hT:T++[0]=T') :
  swk env (h.ext B T) env' (h.ext B' T'):=fun _ _ w g vs r hv=>by
 subst hn hm hB hT
 simp only [vl,Option.some.injEq] at hE
 subst hE
 have hlen:g.τ.length=h.toks.length+T.length:=by rw [r.tlen];simp [AH.ext]
 have hle:=(g.le_addT ⟨0,none,true⟩).trans (Gh.le_addS _ none)
 have r1:=r.newRowT ⟨0,none,true⟩ k [] (fun _ _ _ h=>by cases h) (fun _ _ h=>by cases h) rowOk_nil
 have e:(({ (h.ext B T) with toks:=(h.ext B T).toks++[0] }:AH).new (.row g.τ.length k []))=h.ext (B++[.row (h.toks.length+T.length) k []]) (T++[0]):=by
  rw [hlen];simp [AH.ext,AH.new,List.append_assoc]
 rw [e] at r1
 refine ⟨_,hle,r1,VL.setE (VL.mono hle _ _ hv) d _ fun v hvi=>?_⟩
 obtain ⟨a,ha,hV⟩:=hv.getR _ _ hvi
 have he':env[d]?=some (.osl none k []):=he
 rw [he'] at ha
 injection ha with ha
 subst ha
 rw [← hlen];exact hV.thaw

mutual
inductive FzA (i k:Nat) (es:List (List AV)):AV→AV→Prop
 | same (a:AV):FzA i k es a a
 | hit (q:Nat):FzA i k es (.rsl q i k es.length) (.sl k es)
 | hit2 (q n:Nat) (hn:n=es.length):FzA i k es (.rsl q i k n) (.sl k es)
 | agg {cs bs:List AV} (x:FzL i k es cs bs) (ho:bs.all AV.one=true):FzA i k es (.agg cs) (.agg bs)
 | tup {cs bs:List AV} (x:FzL i k es cs bs):FzA i k es (.tup cs) (.tup bs)
inductive FzL (i k:Nat) (es:List (List AV)):List AV→List AV→Prop
 | refl (xs:List AV):FzL i k es xs xs
 | cons {a b:AV} {xs bs:List AV} (x:FzA i k es a b) (y:FzL i k es xs bs):FzL i k es (a::xs) (b::bs)
end
theorem FzL.s {i k:Nat} {es:List (List AV)} {a:AV} {xs bs:List AV} (y:FzL i k es xs bs):FzL i k es (a::xs) (a::bs):=.cons (.same _) y
mutual
theorem FzA.sound {g g':Gh} (hle:g.le g') {i k:Nat} {es:List (List AV)} (hz:∀ q v,V g (.rsl q i k es.length) v→V g' (.sl k es) v):∀ {a b:AV} {v:Value},FzA i k es a b→V g a v→V g' b v
 | _,_,_,.same _,hv=>hv.mono hle
 | _,_,_,.hit q,hv=>hz q _ hv
 | _,_,_,.hit2 q n hn,hv=>by subst hn;exact hz q _ hv
 | _,_,_,.agg x ho,hv=>by
  simp only [V] at hv ⊢
  obtain ⟨vs,rfl,h1⟩:=hv
  exact ⟨vs,rfl,VA.mk (FzL.sound hle hz x h1.toVL) ho⟩
 | _,_,_,.tup x,hv=>by
  simp only [V] at hv ⊢
  obtain ⟨vs,rfl,h1⟩:=hv
  exact ⟨vs,rfl,FzL.sound hle hz x h1⟩
theorem FzL.sound {g g':Gh} (hle:g.le g') {i k:Nat} {es:List (List AV)} (hz:∀ q v,V g (.rsl q i k es.length) v→V g' (.sl k es) v):∀ {xs bs:List AV} {vs:List Value},FzL i k es xs bs→VL g xs vs→VL g' bs vs
 | _,_,_,.refl _,hv=>hv.mono hle
 | _,_,_,.cons x y,hv=>by
  simp only [VL] at hv ⊢
  obtain ⟨v,s,rfl,h1,h2⟩:=hv
  exact ⟨v,s,rfl,FzA.sound hle hz x h1,FzL.sound hle hz y h2⟩
end
theorem swk_freeze {h:AH} {env env':List AV} {B B':List Blk} {T T':List Nat} {j m k:Nat} {es:List (List AV)} (hb:B[j]?=some (.row (h.toks.length+m) k es)) (hz:FzL (h.toks.length+m) k es env env')
  (hB:B.set j .dead=B') (hT:T.set m (es.length+1)=T'):swk env (h.ext B T) env' (h.ext B' T'):=fun _ _ w g vs r hv=>by
 subst hB hT
 have hb':(h.ext B T).blks[h.blks.length+j]?=some (.row (h.toks.length+m) k es):=by
  simp only [AH.ext];rw [List.getElem?_append_right (by omega),Nat.add_sub_cancel_left];exact hb
 obtain ⟨g',hle,r',hδ,hf⟩:=r.freeze hb'
 have e:({ (h.ext B T).put (h.blks.length+j) .dead with toks:=(h.ext B T).toks.set (h.toks.length+m) (es.length+1) }:AH)=h.ext (B.set j .dead) (T.set m (es.length+1)):=by
  simp only [AH.ext,AH.put,AH.mk.injEq]
  exact ⟨by rw [List.set_append_right _ _ (by omega),Nat.add_sub_cancel_left],by rw [List.set_append_right _ _ (by omega),Nat.add_sub_cancel_left]⟩
 rw [e] at r'
 exact ⟨g',hle,r',hz.sound hle hf hv⟩

section
variable {α:Type} {row:α→List AV} {L M:List α} {k:Nat}
theorem flat_len (hk:∀ x,(row x).length=k):∀ L:List α,(L.map row).flatten.length=L.length * k
 | []=>by simp
 | x::t=>by simp only [List.map_cons,List.flatten_cons,List.length_append,List.length_cons,flat_len hk t,hk x,Nat.succ_mul];omega
theorem flat_drop (hk:∀ x,(row x).length=k):∀ (L:List α) (i:Nat),(L.map row).flatten.drop (i * k)=((L.drop i).map row).flatten
 | [],i=>by simp
 | x::t,0=>by simp
 | x::t,i+1=>by
  rw [List.map_cons,List.flatten_cons,Nat.succ_mul,Nat.add_comm,← List.drop_drop,List.drop_left' (hk x),flat_drop hk t i];rfl
theorem drop_at {i:Nat} {y:α} (hy:L[i]?=some y):L.drop i=y::L.drop (i+1):=by
 obtain ⟨h,rfl⟩:=List.getElem?_eq_some_iff.1 hy
 exact (List.getElem_cons_drop h).symm
theorem ldC_row (hk:∀ x,(row x).length=k) {ag:Bool} {m i off:Nat} {y:α} {v:AV} (hy:L[i]?=some y) (hv:ldC ag m off (row y)=some v) (hm:0 < m):ldC ag m (i * k+off) (L.map row).flatten=some v:=by
 have e:(L.map row).flatten.drop (i * k)=row y++((L.drop (i+1)).map row).flatten:=by rw [flat_drop hk,drop_at hy];rfl
 have hi:i < L.length:=(List.getElem?_eq_some_iff.1 hy).1
 have hb:(i+1) * k≤L.length * k:=Nat.mul_le_mul_right k hi
 rw [Nat.succ_mul] at hb
 unfold ldC at hv ⊢
 cases ag with
 | true =>
  simp only [if_true] at hv ⊢
  split at hv
  ·rename_i hle
   rw [hk y] at hle
   rw [if_pos (by rw [flat_len hk];omega),← List.drop_drop,e,List.drop_append_of_le_length (by rw [hk y];omega),List.take_append_of_le_length (by rw [List.length_drop,hk y];omega)]
   exact hv
  ·cases hv
 | false =>
  simp only [Bool.false_eq_true,if_false] at hv ⊢
  have ho:off < (row y).length:=(List.getElem?_eq_some_iff.1 hv).1
  have:(L.map row).flatten[i * k+off]?=((L.map row).flatten.drop (i * k))[off]?:=by rw [List.getElem?_drop]
  rw [this,e,List.getElem?_append_left ho]
  exact hv
theorem rows_map (hk:∀ x,(row x).length=k):∀ L:List α,rows k L.length (L.map row).flatten=L.map row
 | []=>rfl
 | x::t=>by
  simp only [List.length_cons,rows,List.map_cons,List.flatten_cons]
  rw [List.take_left' (hk x),List.drop_left' (hk x),rows_map hk t]
theorem splice_row (hk:∀ x,(row x).length=k) {i off:Nat} {y y':α} {vs:List AV} (hy:L[i]?=some y) (hs:xJ (row y) off vs=row y') (hb:off+vs.length≤k) :
  rows k L.length (xJ (L.map row).flatten (i * k+off) vs)=(L.set i y').map row:=by
 have hi:i < L.length:=(List.getElem?_eq_some_iff.1 hy).1
 have e1:(L.map row).flatten=((L.take i).map row).flatten++(row y++((L.drop (i+1)).map row).flatten):=by
  conv=>lhs;rw [← List.take_append_drop i L,drop_at hy]
  simp
 have hl:((L.take i).map row).flatten.length=i * k:=by rw [flat_len hk,List.length_take,Nat.min_eq_left (by omega)]
 have e2:xJ (L.map row).flatten (i * k+off) vs=((L.set i y').map row).flatten:=by
  rw [List.set_eq_take_append_cons_drop,if_pos hi]
  simp only [List.map_append,List.map_cons,List.flatten_append,List.flatten_cons,← hs]
  rw [e1]
  unfold xJ
  have hyl:=hk y
  rw [List.take_append,hl,List.take_of_length_le (by omega),Nat.add_sub_cancel_left,List.take_append_of_le_length (by omega)]
  rw [Nat.add_assoc,List.drop_append,hl,List.drop_of_length_le (by omega),Nat.add_sub_cancel_left,List.nil_append,List.drop_append_of_le_length (by omega)]
  simp only [List.append_assoc]
 rw [e2]
 have:=rows_map hk (L.set i y')
 rwa [List.length_set] at this
variable {P:Program} {o:Oper} {env:List AV} {h:AH} {B:List Blk} {T:List Nat}
theorem x6 {t e:TypeId} {x i:Operand} {id q n:Nat} {kd:IntKind} {z:Int} (ho:o.op=.indexAddr t x i) (ht:El P t e k) (hx:yZ env x=some (.rsl id q k n)) (hi:yZ env i=some (.int kd z)) (hz:0≤z∧z < n) :
  zN P o env h=.ok (.rptr id q k n (z.toNat * k+0)) h:=s_indexAddr ho ht hx hi (by simp only [aIndexAddr];rw [if_pos ⟨trivial,hz.1,hz.2⟩];rfl)
theorem qX (hk:∀ x,(row x).length=k) {t:TypeId} {d:TypeDesc} {m i q n z off:Nat} {x:Operand} {y:α} {v v':AV} (ho:o.op=.load t x) (ht:Ty P t d m) (hm:0 < m) (hx:yZ env x=some (.rptr (h.blks.length+i) q k n (z * k+off)))
  (hb:B[i]?=some (.row q k (L.map row))) (hn:L.length=n) (hy:L[z]?=some y) (hv:ldC (yI d) m off (row y)=some v) (hf:tyfix P t v=v'):zN P o env (h.ext B T)=.ok v' (h.ext B T):=by
 refine s_load ho ht hx ?_ hf
 simp only [aLoad,wF,hb]
 rw [if_pos ⟨trivial,trivial,by simpa using hn⟩]
 exact ldC_row hk hy hv hm
theorem e_stR (hk:∀ x,(row x).length=k) {t:TypeId} {d:TypeDesc} {m i q n z off:Nat} {x w:Operand} {y y':α} {b b':AV} {vs us:List AV} {B':List Blk} (ho:o.op=.store t x w) (ht:Ty P t d m) (hx:yZ env x=some (.rptr (h.blks.length+i) q k n (z * k+off)))
  (hw:yZ env w=some b) (hf:tyfix P t b=b') (hc:b'.cells?=some vs) (hl:vs.length=m) (hcl:wr vs=some us) (hb:B[i]?=some (.row q k (L.map row))) (hn:L.length=n) (hy:L[z]?=some y) (hle:off+m≤k)
  (hs:xJ (row y) off us=row y') (hB:B.set i (.row q k ((L.set z y').map row))=B'):zN P o env (h.ext B T)=.ok za (h.ext B' T):=by
 refine s_store ho ht hx hw hf ?_
 simp only [aStore,hc,wF,hb]
 have hzl:z < L.length:=(List.getElem?_eq_some_iff.1 hy).1
 have hmul:(z+1) * k≤L.length * k:=Nat.mul_le_mul_right k hzl
 rw [Nat.succ_mul] at hmul
 rw [if_pos ⟨trivial,trivial,by simpa using hn,hl,by rw [flat_len hk];omega⟩,hcl]
 simp only [← hn]
 rw [splice_row hk hy hs (by rw [clean_len hcl,hl];omega),ext_put,hB]
theorem e_appR {c:Call} {x y:Operand} {t u e e':TypeId} {k' i j n:Nat} {a b b':AV} {B':List Blk} {T':List Nat} (ho:o.op=.call c) (hc:c.callee=.builtin .append) (hs:c.args=#[x,y]) (ht:c.argTypes=#[t,u]) (hu:El P t e k)
  (hu':El P u e' k') (hx:yZ env x=some a) (hy:yZ env y=some b) (ha:tyfix P t a=.rsl (h.blks.length+i) (h.toks.length+j) k n) (hb:tyfix P u b=b') (hn:qw k b'=some (M.map row)) (hl:L.length+M.length≤qM)
  (hi:B[i]?=some (.row (h.toks.length+j) k (L.map row))) (hLn:L.length=n) (hm:T[j]?=some n) (hB:B.set i (.row (h.toks.length+j) k ((L++M).map row))=B') (hT:T.set j (L++M).length=T') :
  zN P o env (h.ext B T)=.ok (.rsl (h.blks.length+i) (h.toks.length+j) k (L++M).length) (h.ext B' T'):=by
 subst hLn
 refine s_append ho hc hs ht hu hu' hx hy ha hb hn ?_
 simp only [aAppend,List.length_map]
 by_cases h0:M.length=0
 ·have:M=[]:=List.eq_nil_of_length_eq_zero h0
  subst this
  simp only [List.append_nil] at hB hT ⊢
  simp only [List.length_nil,if_true]
  have e1:B.set i (.row (h.toks.length+j) k (L.map row))=B:=by
   refine List.ext_getElem? fun z=>?_
   by_cases hz:z=i
   ·subst hz;rw [List.getElem?_set_self (List.getElem?_eq_some_iff.1 hi).1];exact hi.symm
   ·rw [List.getElem?_set_ne (fun e=>hz e.symm)]
  have e2:T.set j L.length=T:=by
   refine List.ext_getElem? fun z=>?_
   by_cases hz:z=j
   ·subst hz;rw [List.getElem?_set_self (List.getElem?_eq_some_iff.1 hm).1];exact hm.symm
   ·rw [List.getElem?_set_ne (fun e=>hz e.symm)]
  rw [← hB,← hT,e1,e2]
 ·rw [if_neg h0,wF,hi]
  simp only
  have hg:(h.ext B T).toks[h.toks.length+j]?=some L.length:=by simp only [AH.ext];rw [List.getElem?_append_right (by omega),Nat.add_sub_cancel_left];exact hm
  rw [if_pos (by refine ⟨⟨?_,?_,?_⟩,?_,hg,hl⟩ <;> simp)]
  rw [ext_put]
  simp only [AH.ext,List.set_append_right _ _ (Nat.le_add_right _ _),Nat.add_sub_cancel_left,← List.map_append,List.length_append] at hB hT ⊢
  rw [hB,hT]
end
end Go.Vv
