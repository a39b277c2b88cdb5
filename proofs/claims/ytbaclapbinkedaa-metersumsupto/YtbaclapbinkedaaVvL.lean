/- What a call leaves behind may be forgotten: values that speak of older blocks alone. -/
import Derived.Test.YtbaclapbinkedaaVvK
namespace Go.Vv
open Go Go.RowKit Go.Lib

mutual
def AV.low (n m:Nat):AV→Bool
 | .ptr id _ | .msl _ id _ _ | .map id | .yld id=>decide (id < n)
 | .osl (some t) _ _=>decide (t < m)
 | .rsl _ t _ _ | .rptr _ t _ _ _ | .rsuf _ t _ _ _=>decide (t < m)
 | .fn _ a b=>z9 n m a&&z9 n m b
 | .iface _ v=>v.low n m
 | .agg cs=>z9 n m cs
 | .tup vs=>z9 n m vs
 | _=>true
def z9 (n m:Nat):List AV→Bool
 | []=>true
 | a::r=>a.low n m&&z9 n m r
end
theorem AV.low_of_pure {n m:Nat} {a:AV} (h:a.pure=true):a.low n m=true:=by
 unfold AV.pure at h
 split at h <;> first | rfl | cases h

def Gh.cut (g:Gh) (n m:Nat):Gh:={ g with σ:=g.σ.take n,τ:=g.τ.take m }
theorem take_sub {α:Type} {l:List α} {n i:Nat} {x:α} (e:(l.take n)[i]?=some x):l[i]?=some x:=by
 rw [List.getElem?_take] at e
 split at e
 ·exact e
 ·cases e
theorem wz {α:Type} {l:List α} {n i:Nat} {x:α} (h:i < n) (e:l[i]?=some x):(l.take n)[i]?=some x:=by rw [List.getElem?_take,if_pos h];exact e

mutual
theorem V.cut {g:Gh} {n m:Nat}:∀ (a:AV) (v:Value),a.low n m=true→V g a v→V (g.cut n m) a v
 | .bool _,_,_,hv=>by simpa only [V] using hv
 | .int _ _,_,_,hv=>by simpa only [V] using hv
 | .str _,_,_,hv=>by simpa only [V] using hv
 | .nilp,_,_,hv=>by simpa only [V] using hv
 | .nilm,_,_,hv=>by simpa only [V] using hv
 | .nilf,_,_,hv=>by simpa only [V] using hv
 | .nili,_,_,hv=>by simpa only [V] using hv
 | .nilsl,_,_,hv=>by simpa only [V] using hv
 | .ptr id off,_,hl,hv=>by
  simp only [V] at hv ⊢
  simp only [AV.low,decide_eq_true_eq] at hl
  obtain ⟨c,hc,e⟩:=hv
  exact ⟨c,wz hl hc,e⟩
 | .fptr cs,_,_,hv=>by
  simp only [V] at hv ⊢
  obtain ⟨b,o,e,hc⟩:=hv
  exact ⟨b,o,e,VC.cut b o cs hc⟩
 | .sl k es,_,_,hv=>by
  simp only [V] at hv ⊢
  obtain ⟨a,c,e,h1,h2,h3⟩:=hv
  exact ⟨a,c,e,h1,h2,h3.imp id fun ⟨b,o,e,hh⟩=>⟨b,o,e,VE.cut b k o es hh⟩⟩
 | .osl q k es,_,hl,hv=>by
  simp only [V] at hv ⊢
  obtain ⟨a,c,e,h1,h2,h3,h4⟩:=hv
  refine ⟨a,c,e,h1,h2,h3.imp id fun ⟨b,o,e,hh⟩=>⟨b,o,e,VE.cut b k o es hh⟩,?_⟩
  cases q with
  | none=>exact h4
  | some id =>
   simp only [AV.low,decide_eq_true_eq] at hl
   obtain ⟨t,ht,h5⟩:=h4
   exact ⟨t,wz hl ht,h5⟩
 | .msl _ id _ _,_,hl,hv=>by
  simp only [V] at hv ⊢
  simp only [AV.low,decide_eq_true_eq] at hl
  obtain ⟨c,cap,hc,e⟩:=hv
  exact ⟨c,cap,wz hl hc,e⟩
 | .rsl _ _ _ _,_,hl,hv=>by
  simp only [V] at hv ⊢
  simp only [AV.low,decide_eq_true_eq] at hl
  obtain ⟨a,c,e,h1,h2,t,ht,h3⟩:=hv
  exact ⟨a,c,e,h1,h2,t,wz hl ht,h3⟩
 | .rsuf _ _ _ _ _,_,hl,hv=>by
  simp only [V] at hv ⊢
  simp only [AV.low,decide_eq_true_eq] at hl
  obtain ⟨a,c,e,h1,t,ht,h3⟩:=hv
  exact ⟨a,c,e,h1,t,wz hl ht,h3⟩
 | .rptr _ _ _ _ _,_,hl,hv=>by
  simp only [V] at hv ⊢
  simp only [AV.low,decide_eq_true_eq] at hl
  obtain ⟨b,q,e,t,ht,h3⟩:=hv
  exact ⟨b,q,e,t,wz hl ht,h3⟩
 | .map id,_,hl,hv=>by
  simp only [V] at hv ⊢
  simp only [AV.low,decide_eq_true_eq] at hl
  obtain ⟨c,hc,e⟩:=hv
  exact ⟨c,wz hl hc,e⟩
 | .fn f as bs,_,hl,hv=>by
  simp only [V] at hv ⊢
  simp only [AV.low,Bool.and_eq_true] at hl
  obtain ⟨fs,cs,e,h1,h2⟩:=hv
  exact ⟨fs,cs,e,VL.cut as _ hl.1 h1,VL.cut bs _ hl.2 h2⟩
 | .iface t x,_,hl,hv=>by
  simp only [V] at hv ⊢
  simp only [AV.low] at hl
  obtain ⟨u,e,h1⟩:=hv
  exact ⟨u,e,V.cut x u hl h1⟩
 | .agg cs,_,hl,hv=>by
  simp only [V] at hv ⊢
  simp only [AV.low] at hl
  obtain ⟨vs,e,h1⟩:=hv
  exact ⟨vs,e,VA.cut cs _ hl h1⟩
 | .tup xs,_,hl,hv=>by
  simp only [V] at hv ⊢
  simp only [AV.low] at hl
  obtain ⟨vs,e,h1⟩:=hv
  exact ⟨vs,e,VL.cut xs _ hl h1⟩
 | .glob _,_,_,hv=>by simpa only [V] using hv
 | .yld id,_,hl,hv=>by
  simp only [V] at hv ⊢
  simp only [AV.low,decide_eq_true_eq] at hl
  obtain ⟨c,hc,e⟩:=hv
  exact ⟨c,wz hl hc,e⟩
 | .bsl k es,_,_,hv=>by
  simp only [V] at hv ⊢
  obtain ⟨a,c,e,h1,h2,h3⟩:=hv
  exact ⟨a,c,e,h1,h2,h3.imp id fun ⟨b,o,e,hh,hn⟩=>⟨b,o,e,VE.cut b k o es hh,hn⟩⟩
 | .nsl k es,_,_,hv=>by
  simp only [V] at hv ⊢
  obtain ⟨a,c,e,h1,h2,h3⟩:=hv
  exact ⟨a,c,e,h1,h2,h3.imp id fun ⟨b,o,e,hh,hn⟩=>⟨b,o,e,VE.cut b k o es hh,hn⟩⟩
 | .gsl k n,_,_,hv=>by simp only [V] at hv ⊢;exact hv
 | .gptr m,_,_,hv=>by simp only [V] at hv ⊢;exact hv
 | .any,_,_,_=>by simp only [V]
 | .opq,_,_,hv=>by simpa only [V] using hv
theorem VL.cut {g:Gh} {n m:Nat}:∀ (as:List AV) (vs:List Value),z9 n m as=true→VL g as vs→VL (g.cut n m) as vs
 | [],_,_,hv=>by simpa only [VL] using hv
 | a::r,_,hl,hv=>by
  simp only [VL] at hv ⊢
  simp only [z9,Bool.and_eq_true] at hl
  obtain ⟨v,s,e,h1,h2⟩:=hv
  exact ⟨v,s,e,V.cut a v hl.1 h1,VL.cut r s hl.2 h2⟩
theorem VA.cut {g:Gh} {n m:Nat}:∀ (as:List AV) (vs:List Value),z9 n m as=true→VA g as vs→VA (g.cut n m) as vs
 | [],_,_,hv=>by simpa only [VA] using hv
 | a::r,_,hl,hv=>by
  simp only [VA] at hv ⊢
  simp only [z9,Bool.and_eq_true] at hl
  obtain ⟨v,s,e,⟨h0,h1⟩,h2⟩:=hv
  exact ⟨v,s,e,⟨h0,V.cut a v hl.1 h1⟩,VA.cut r s hl.2 h2⟩
theorem VC.cut {g:Gh} {n m:Nat} (b:Nat):∀ (o:Nat) (as:List AV),VC g b o as→VC (g.cut n m) b o as
 | _,[],_=>by simp only [VC]
 | o,a::r,hv=>by
  simp only [VC] at hv ⊢
  obtain ⟨⟨v,h0,h1,h2⟩,h3⟩:=hv
  exact ⟨⟨v,h0,h1,V.cut a v (AV.low_of_pure h1) h2⟩,VC.cut b (o+1) r h3⟩
theorem VE.cut {g:Gh} {n m:Nat} (b k:Nat):∀ (o:Nat) (as:List (List AV)),VE g b k o as→VE (g.cut n m) b k o as
 | _,[],_=>by simp only [VE]
 | o,e::r,hv=>by
  simp only [VE] at hv ⊢
  obtain ⟨⟨h0,h1⟩,h2⟩:=hv
  exact ⟨⟨h0,VC.cut b o e h1⟩,VE.cut b k (o+k) r h2⟩
end

mutual
theorem V.isLow {g:Gh}:∀ (a:AV) (v:Value),V g a v→a.low g.σ.length g.τ.length=true
 | .ptr id off,_,hv=>by
  simp only [V] at hv
  obtain ⟨c,hc,_⟩:=hv
  simpa [AV.low] using (List.getElem?_eq_some_iff.1 hc).1
 | .msl _ id _ _,_,hv=>by
  simp only [V] at hv
  obtain ⟨c,cap,hc,_⟩:=hv
  simpa [AV.low] using (List.getElem?_eq_some_iff.1 hc).1
 | .map id,_,hv=>by
  simp only [V] at hv
  obtain ⟨c,hc,_⟩:=hv
  simpa [AV.low] using (List.getElem?_eq_some_iff.1 hc).1
 | .yld id,_,hv=>by
  simp only [V] at hv
  obtain ⟨c,hc,_⟩:=hv
  simpa [AV.low] using (List.getElem?_eq_some_iff.1 hc).1
 | .osl q k es,_,hv=>by
  simp only [V] at hv
  obtain ⟨a,c,e,h1,h2,h3,h4⟩:=hv
  cases q with
  | none=>rfl
  | some id =>
   obtain ⟨t,ht,_⟩:=h4
   simpa [AV.low] using (List.getElem?_eq_some_iff.1 ht).1
 | .rsl _ i k n,_,hv=>by
  simp only [V] at hv
  obtain ⟨a,c,e,h1,h2,t,ht,h3⟩:=hv
  simpa [AV.low] using (List.getElem?_eq_some_iff.1 ht).1
 | .rsuf _ i k n p,_,hv=>by
  simp only [V] at hv
  obtain ⟨a,c,e,h1,t,ht,h3⟩:=hv
  simpa [AV.low] using (List.getElem?_eq_some_iff.1 ht).1
 | .rptr _ i k n p,_,hv=>by
  simp only [V] at hv
  obtain ⟨b,q,e,t,ht,h3⟩:=hv
  simpa [AV.low] using (List.getElem?_eq_some_iff.1 ht).1
 | .fn f as bs,_,hv=>by
  simp only [V] at hv
  obtain ⟨fs,cs,e,h1,h2⟩:=hv
  simp [AV.low,VL.isLow as _ h1,VL.isLow bs _ h2]
 | .iface t x,_,hv=>by
  simp only [V] at hv
  obtain ⟨u,e,h1⟩:=hv
  simp [AV.low,V.isLow x u h1]
 | .agg cs,_,hv=>by
  simp only [V] at hv
  obtain ⟨vs,e,h1⟩:=hv
  simp [AV.low,VL.isLow cs _ h1.toVL]
 | .tup xs,_,hv=>by
  simp only [V] at hv
  obtain ⟨vs,e,h1⟩:=hv
  simp [AV.low,VL.isLow xs _ h1]
 | .bool _,_,_ | .int _ _,_,_ | .str _,_,_ | .nilp,_,_ | .nilm,_,_ | .nilf,_,_ | .nili,_,_ | .nilsl,_,_ | .fptr _,_,_ | .sl _ _,_,_ | .glob _,_,_ | .any,_,_ | .opq,_,_ | .bsl _ _,_,_ | .nsl _ _,_,_ | .gsl _ _,_,_ | .gptr _,_,_=>rfl
theorem VL.isLow {g:Gh}:∀ (as:List AV) (vs:List Value),VL g as vs→z9 g.σ.length g.τ.length as=true
 | [],_,_=>rfl
 | a::r,_,hv=>by
  simp only [VL] at hv
  obtain ⟨v,s,e,h1,h2⟩:=hv
  simp [z9,V.isLow a v h1,VL.isLow r s h2]
end

def Blk.low (n m:Nat):Blk→Bool
 | .cells cs=>z9 n m cs
 | .mapo es _=>es.all fun p=>p.1.low n m&&p.2.low n m
 | .loop _ _ env _ _ _=>z9 n m env
 | .row t _ _=>decide (t < m)
 | .miter id _ _=>decide (id < n)
 | _=>true

theorem ME.cut {g:Gh} {n m:Nat}:∀ (as:List (AV×AV)) (vs:List MapEntry),(as.all fun p=>p.1.low n m&&p.2.low n m)=true→ME g as vs→ME (g.cut n m) as vs
 | [],_,_,hv=>by simpa only [ME] using hv
 | (k,x)::r,_,hl,hv=>by
  simp only [ME] at hv ⊢
  simp only [List.all_cons,Bool.and_eq_true] at hl
  obtain ⟨e,s,rfl,h1,h2,h3⟩:=hv
  exact ⟨e,s,rfl,V.cut k _ hl.1.1 h1,V.cut x _ hl.1.2 h2,ME.cut r s hl.2 h3⟩
theorem ME.isLow {g:Gh}:∀ (as:List (AV×AV)) (vs:List MapEntry),ME g as vs→(as.all fun p=>p.1.low g.σ.length g.τ.length&&p.2.low g.σ.length g.τ.length)=true
 | [],_,_=>rfl
 | (k,x)::r,_,hv=>by
  simp only [ME] at hv
  obtain ⟨e,s,rfl,h1,h2,h3⟩:=hv
  simp [V.isLow k _ h1,V.isLow x _ h2,ME.isLow r s h3]
theorem BlkOk.cut {g:Gh} {w:World} {c n m:Nat} {k:Blk} (hl:k.low n m=true) (hb:BlkOk g w c k):BlkOk (g.cut n m) w c k:=by
 cases k with
 | cells cs=>obtain ⟨vs,t,h1,h2⟩:=hb;exact ⟨vs,t,h1,VA.cut _ _ hl h2⟩
 | siter s pos=>exact hb
 | mapo es clock=>obtain ⟨ents,n,h1,h2,h3⟩:=hb;exact ⟨ents,n,h1,ME.cut _ _ hl h2,h3⟩
 | loop st pe env ps assign body=>obtain ⟨fn,tmps,d,h1,h2⟩:=hb;exact ⟨fn,tmps,d,h1,VL.cut _ _ hl h2⟩
 | row _ _ _=>exact hb
 | miter id n2 seen=>obtain ⟨m2,h1,h2⟩:=hb;exact ⟨m2,wz (by simpa [Blk.low] using hl) h1,h2⟩
 | miter0=>exact hb
 | other=>trivial
 | dead=>trivial
theorem BlkOk.isLow {g:Gh} {w:World} {c:Nat} {k:Blk} (hb:BlkOk g w c k):k.low g.σ.length g.τ.length=true:=by
 cases k with
 | cells cs=>obtain ⟨vs,t,h1,h2⟩:=hb;exact VL.isLow _ _ h2.toVL
 | siter s pos=>rfl
 | mapo es clock=>obtain ⟨ents,n,h1,h2,_⟩:=hb;exact ME.isLow _ _ h2
 | loop st pe env ps assign body=>obtain ⟨fn,tmps,d,h1,h2⟩:=hb;exact VL.isLow _ _ h2
 | row _ _ _=>exact hb.elim
 | miter id n seen=>obtain ⟨m,h1,h2⟩:=hb;simpa [Blk.low] using (List.getElem?_eq_some_iff.1 h1).1
 | miter0=>rfl
 | other=>rfl
 | dead=>rfl
theorem lowL_of_pure {n m:Nat}:∀ {as:List AV},as.all AV.pure=true→z9 n m as=true
 | [],_=>rfl
 | a::r,h=>by
  simp only [List.all_cons,Bool.and_eq_true] at h
  simp [z9,AV.low_of_pure h.1,lowL_of_pure h.2]
theorem RowB.cut {g:Gh} {w:World} {n m:Nat} {k:Blk} (hl:k.low n m=true) (hb:RowB g w k):RowB (g.cut n m) w k:=by
 cases k with
 | row i k es =>
  obtain ⟨t,h1,h2,h3,h4,h5,h6⟩:=hb
  refine ⟨t,wz (by simpa [Blk.low] using hl) h1,h2,h3,h4,h5,h6.imp (fun h=>h) ?_⟩
  rintro ⟨b,o,e,cs,ty,k1,k2,k3,k4,k5⟩
  exact ⟨b,o,e,cs,ty,k1,k2,VA.cut _ _ (lowL_of_pure h5) k3,k4,k5⟩
 | dead=>trivial
 | _=>exact hb.elim
theorem RowB.isLow {g:Gh} {w:World} {k:Blk} (hb:RowB g w k):k.low g.σ.length g.τ.length=true:=by
 cases k with
 | row i k es =>
  obtain ⟨t,h1,_⟩:=hb
  simpa [Blk.low] using (List.getElem?_eq_some_iff.1 h1).1
 | dead=>rfl
 | _=>exact hb.elim
theorem Rel.isLow {B:Nat} {w0 w:World} {g:Gh} {h:AH} (r:Rel B w0 g h w) {i:Nat} {k:Blk} (hk:h.blks[i]?=some k):k.low g.σ.length g.τ.length=true:=by
 have hl:i < g.σ.length:=by rw [r.slen];exact (List.getElem?_eq_some_iff.1 hk).1
 rcases hc:g.σ[i] with _ | c
 ·exact (r.row i k (by rw [List.getElem?_eq_getElem hl,hc]) hk).isLow
 ·exact (r.blk i c k (by rw [List.getElem?_eq_getElem hl,hc]) hk).2.2.1.isLow
def AH.cut (h:AH) (n m:Nat):AH:={ blks:=h.blks.take n,toks:=h.toks.take m }

theorem Rel.cut {B:Nat} {w0 w:World} {g:Gh} {h:AH} (r:Rel B w0 g h w) (n m:Nat) (hl:∀ (i:Nat) (k:Blk),i < n→h.blks[i]?=some k→k.low n m=true):Rel B w0 (g.cut n m) (h.cut n m) w :=
 by
 refine ⟨r.below,r.bsz,r.phi,by simp [Gh.cut,AH.cut,r.slen],fun i c k hc hk=>?_,by simp [Gh.cut,AH.cut,r.tlen],fun i t ht=>?_,fun i j c hi hj=>?_,fun i j t t' b x y hi hj hx hy=>?_,fun i c j t b x hi hj hx=>?_,fun c hc=>⟨(r.dfr c hc).1,(r.dfr c hc).2.1,fun i hi=>by
  simp only [Gh.cut] at hi
  rw [List.getElem?_take] at hi
  split at hi
  ·exact (r.dfr c hc).2.2 i hi
  ·cases hi⟩,fun i k hi hk=>?_,fun i j t k k' es es' hi hj=>?_,fun b x hb=>(r.nb b x hb).mono fun _ _ ha=>⟨rfl,⟨fun i hi=>ha.1 i (take_sub hi),ha.2.1,fun i t y ht=>ha.2.2 i t y (take_sub ht)⟩,fun h=>h⟩,r.ob⟩
 ·simp only [Gh.cut,AH.cut] at hc hk
  rw [List.getElem?_take] at hc hk
  split at hc
  ·rename_i hi
   rw [if_pos hi] at hk
   obtain ⟨h1,h2,h3,h4⟩:=r.blk i c k hc hk
   exact ⟨h1,h2,h3.cut (hl i k hi hk),h4⟩
  ·cases hc
 ·simp only [Gh.cut,AH.cut] at ht ⊢
  rw [List.getElem?_take] at ht
  split at ht
  ·rename_i hi
   obtain ⟨h1,h2⟩:=r.tok i t ht
   exact ⟨wz hi h1,h2⟩
  ·cases ht
 ·simp only [Gh.cut] at hi hj
  rw [List.getElem?_take] at hi hj
  split at hi
  ·split at hj
   ·exact r.sinj i j c hi hj
   ·cases hj
  ·cases hi
 ·simp only [Gh.cut] at hi hj
  rw [List.getElem?_take] at hi hj
  split at hi
  ·split at hj
   ·exact r.tinj i j t t' b x y hi hj hx hy
   ·cases hj
  ·cases hi
 ·simp only [Gh.cut] at hi hj
  rw [List.getElem?_take] at hi hj
  split at hi
  ·split at hj
   ·exact r.sep i c j t b x hi hj hx
   ·cases hj
  ·cases hi
 ·simp only [Gh.cut,AH.cut] at hi hk
  rw [List.getElem?_take] at hi hk
  split at hi
  ·rename_i hin
   rw [if_pos hin] at hk
   exact (r.row i k hi hk).cut (hl i k hin hk)
  ·cases hi
 ·simp only [AH.cut] at hi hj
  rw [List.getElem?_take] at hi hj
  split at hi
  ·split at hj
   ·exact r.rinj _ _ _ _ _ _ _ hi hj
   ·cases hj
  ·cases hi

theorem Gh.le_cut {g g':Gh} (h:g.le g'):g.le (g'.cut g.σ.length g.τ.length) :=
 ⟨h.phi,fun i c e=>wz (List.getElem?_eq_some_iff.1 e).1 (h.sig i c e),fun i t e=>by
  obtain ⟨t',h1,h2,h3⟩:=h.tau i t e
  exact ⟨t',wz (List.getElem?_eq_some_iff.1 e).1 h1,h2,h3⟩,h.del,h.new,h.old⟩
mutual
theorem AV.low_mono {n m m':Nat} (h:m≤m'):∀ a:AV,a.low n m=true→a.low n m'=true
 | .bool _,_ | .int _ _,_ | .str _,_ | .nilp,_ | .nilm,_ | .nilf,_ | .nili,_ | .nilsl,_ | .fptr _,_ | .sl _ _,_ | .glob _,_ | .any,_ | .opq,_ | .bsl _ _,_ | .nsl _ _,_ | .gsl _ _,_ | .gptr _,_=>rfl
 | .osl none _ _,_=>rfl
 | .osl (some t) _ _,hl=>by simp only [AV.low,decide_eq_true_eq] at hl ⊢;omega
 | .ptr _ _,hl=>hl
 | .msl _ _ _ _,hl=>hl
 | .rsl _ _ _ _,hl=>by simp only [AV.low,decide_eq_true_eq] at hl ⊢;omega
 | .rsuf _ _ _ _ _,hl=>by simp only [AV.low,decide_eq_true_eq] at hl ⊢;omega
 | .rptr _ _ _ _ _,hl=>by simp only [AV.low,decide_eq_true_eq] at hl ⊢;omega
 | .map _,hl=>hl
 | .yld _,hl=>hl
 | .fn _ a b,hl=>by
  simp only [AV.low,Bool.and_eq_true] at hl ⊢
  exact ⟨lowL_mono h a hl.1,lowL_mono h b hl.2⟩
 | .iface _ v,hl=>by simp only [AV.low] at hl ⊢;exact AV.low_mono h v hl
 | .agg cs,hl=>by simp only [AV.low] at hl ⊢;exact lowL_mono h cs hl
 | .tup cs,hl=>by simp only [AV.low] at hl ⊢;exact lowL_mono h cs hl
theorem lowL_mono {n m m':Nat} (h:m≤m'):∀ l:List AV,z9 n m l=true→z9 n m' l=true
 | [],_=>rfl
 | a::r,hl=>by
  simp only [z9,Bool.and_eq_true] at hl ⊢
  exact ⟨AV.low_mono h a hl.1,lowL_mono h r hl.2⟩
end
theorem Blk.low_mono {n m m':Nat} (h:m≤m'):∀ b:Blk,b.low n m=true→b.low n m'=true
 | .cells cs,hl=>lowL_mono h cs hl
 | .mapo es c,hl=>by
  simp only [Blk.low,List.all_eq_true,Bool.and_eq_true] at hl ⊢
  exact fun p hp=>⟨AV.low_mono h _ (hl p hp).1,AV.low_mono h _ (hl p hp).2⟩
 | .loop _ _ env _ _ _,hl=>lowL_mono h env hl
 | .row _ _ _,hl=>by simp only [Blk.low,decide_eq_true_eq] at hl ⊢;omega
 | .miter _ _ _,hl=>hl
 | .siter _ _,_ | .miter0,_ | .other,_ | .dead,_=>rfl
theorem Gh.le_cut2 {g g':Gh} (h:g.le g') {n m:Nat} (hn:g.σ.length≤n) (hm:g.τ.length≤m):g.le (g'.cut n m) :=
 ⟨h.phi,fun i c e=>wz (Nat.lt_of_lt_of_le (List.getElem?_eq_some_iff.1 e).1 hn) (h.sig i c e),fun i t e=>by
  obtain ⟨t',h1,h2,h3⟩:=h.tau i t e
  exact ⟨t',wz (Nat.lt_of_lt_of_le (List.getElem?_eq_some_iff.1 e).1 hm) h1,h2,h3⟩,h.del,h.new,h.old⟩
end Go.Vv
