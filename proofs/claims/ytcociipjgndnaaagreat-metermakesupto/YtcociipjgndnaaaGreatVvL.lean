/- What a call leaves behind may be forgotten: values that speak of older blocks alone. -/
import Derived.Test.YtcociipjgndnaaaGreatVvK
namespace Go.Vv
open Go Go.RowKit Go.Lib

mutual
def AV.low (n m:Nat):AV->Bool
 | .ptr id _ | .msl _ id _ _ | .map id | .yld id=>decide (id < n)
 | .osl (some t) _ _=>decide (t < m)
 | .rsl _ t _ _ | .rptr _ t _ _ _ | .rsuf _ t _ _ _=>decide (t < m)
 | .fn _ a b=>zB n m a&&zB n m b
 | .iface _ v=>v.low n m
 | .agg cs=>zB n m cs
 | .tup vs=>zB n m vs
 | _=>true
def zB (n m:Nat):List AV->Bool
 | []=>true
 | a::r=>a.low n m&&zB n m r
end
theorem AV.low_of_pure {n m:Nat} {a:AV} (h:a.pure=true):a.low n m=true:=by
 unfold AV.pure at h;split at h <;> first | rfl | cases h

def Gh.cut (g:Gh) (n m:Nat):Gh:={ g with σ:=g.σ.take n,τ:=g.τ.take m }
theorem take_sub {α:Type} {l:List α} {n i:Nat} {x:α} (e:(l.take n)[i]?=some x):l[i]?=some x:=by
 rw [uw] at e;split at e
 ·exact e
 ·cases e
theorem wn {α:Type} {l:List α} {n i:Nat} {x:α} (h:i < n) (e:l[i]?=some x):(l.take n)[i]?=some x:=by rw [uw,up h];exact e

mutual
theorem V.cut {g:Gh} {n m:Nat}:∀(a:AV) (v:Value),a.low n m=true->V g a v->V (g.cut n m) a v
 | .bool _,_,_,hv=>by simpa only [V] using hv
 | .int _ _,_,_,hv=>by simpa only [V] using hv
 | .str _,_,_,hv=>by simpa only [V] using hv
 | .nilp,_,_,hv=>by simpa only [V] using hv
 | .nilm,_,_,hv=>by simpa only [V] using hv
 | .nilf,_,_,hv=>by simpa only [V] using hv
 | .nili,_,_,hv=>by simpa only [V] using hv
 | .nilsl,_,_,hv=>by simpa only [V] using hv
 | .ptr id off,_,hl,hv=>by
  simp only [V] at hv ⊢;simp only [AV.low,um] at hl;obtain ⟨c,l,e⟩:=hv;exact ⟨c,wn hl l,e⟩
 | .fptr cs,_,_,hv=>by
  simp only [V] at hv ⊢;obtain ⟨b,o,e,l⟩:=hv;exact ⟨b,o,e,VC.cut b o cs l⟩
 | .sl k es,_,_,hv=>by
  simp only [V] at hv ⊢;obtain ⟨a,c,e,d,h,j⟩:=hv;exact ⟨a,c,e,d,h,j.imp id λ⟨b,o,e,hh⟩=>⟨b,o,e,VE.cut b k o es hh⟩⟩
 | .osl q k es,_,hl,hv=>by
  simp only [V] at hv ⊢;obtain ⟨a,c,e,d,h,j,y⟩:=hv;refine ⟨a,c,e,d,h,j.imp id λ⟨b,o,e,hh⟩=>⟨b,o,e,VE.cut b k o es hh⟩,?_⟩;cases q with
  | none=>exact y
  | some id =>
   simp only [AV.low,um] at hl;obtain ⟨t,p,z⟩:=y;exact ⟨t,wn hl p,z⟩
 | .msl _ id _ _,_,hl,hv=>by
  simp only [V] at hv ⊢;simp only [AV.low,um] at hl;obtain ⟨c,cap,l,e⟩:=hv;exact ⟨c,cap,wn hl l,e⟩
 | .rsl _ _ _ _,_,hl,hv=>by
  simp only [V] at hv ⊢;simp only [AV.low,um] at hl;obtain ⟨a,c,e,d,h,t,p,j⟩:=hv;exact ⟨a,c,e,d,h,t,wn hl p,j⟩
 | .rsuf _ _ _ _ _,_,hl,hv=>by
  simp only [V] at hv ⊢;simp only [AV.low,um] at hl;obtain ⟨a,c,e,d,t,p,j⟩:=hv;exact ⟨a,c,e,d,t,wn hl p,j⟩
 | .rptr _ _ _ _ _,_,hl,hv=>by
  simp only [V] at hv ⊢;simp only [AV.low,um] at hl;obtain ⟨b,q,e,t,p,j⟩:=hv;exact ⟨b,q,e,t,wn hl p,j⟩
 | .map id,_,hl,hv=>by
  simp only [V] at hv ⊢;simp only [AV.low,um] at hl;obtain ⟨c,l,e⟩:=hv;exact ⟨c,wn hl l,e⟩
 | .fn f i bs,_,hl,hv=>by
  simp only [V] at hv ⊢;simp only [AV.low,ud] at hl;obtain ⟨fs,cs,e,d,h⟩:=hv;exact ⟨fs,cs,e,VL.cut i _ hl.1 d,VL.cut bs _ hl.2 h⟩
 | .iface t x,_,hl,hv=>by
  simp only [V] at hv ⊢;simp only [AV.low] at hl;obtain ⟨u,e,d⟩:=hv;exact ⟨u,e,V.cut x u hl d⟩
 | .agg cs,_,hl,hv=>by
  simp only [V] at hv ⊢;simp only [AV.low] at hl;obtain ⟨vs,e,d⟩:=hv;exact ⟨vs,e,VA.cut cs _ hl d⟩
 | .tup xs,_,hl,hv=>by
  simp only [V] at hv ⊢;simp only [AV.low] at hl;obtain ⟨vs,e,d⟩:=hv;exact ⟨vs,e,VL.cut xs _ hl d⟩
 | .glob _,_,_,hv=>by simpa only [V] using hv
 | .yld id,_,hl,hv=>by
  simp only [V] at hv ⊢;simp only [AV.low,um] at hl;obtain ⟨c,l,e⟩:=hv;exact ⟨c,wn hl l,e⟩
 | .bsl k es,_,_,hv=>by
  simp only [V] at hv ⊢;obtain ⟨a,c,e,d,h,j⟩:=hv;exact ⟨a,c,e,d,h,j.imp id λ⟨b,o,e,hh,w⟩=>⟨b,o,e,VE.cut b k o es hh,w⟩⟩
 | .nsl k es,_,_,hv=>by
  simp only [V] at hv ⊢;obtain ⟨a,c,e,d,h,j⟩:=hv;exact ⟨a,c,e,d,h,j.imp id λ⟨b,o,e,hh,w⟩=>⟨b,o,e,VE.cut b k o es hh,w⟩⟩
 | .gsl k n,_,_,hv=>by simp only [V] at hv ⊢;exact hv
 | .gptr m,_,_,hv=>by simp only [V] at hv ⊢;exact hv
 | .any,_,_,_=>by simp only [V]
 | .opq,_,_,hv=>by simpa only [V] using hv
theorem VL.cut {g:Gh} {n m:Nat}:∀(i:List AV) (vs:List Value),zB n m i=true->VL g i vs->VL (g.cut n m) i vs
 | [],_,_,hv=>by simpa only [VL] using hv
 | a::r,_,hl,hv=>by
  simp only [VL] at hv ⊢;simp only [zB,ud] at hl;obtain ⟨v,s,e,d,h⟩:=hv;exact ⟨v,s,e,V.cut a v hl.1 d,VL.cut r s hl.2 h⟩
theorem VA.cut {g:Gh} {n m:Nat}:∀(i:List AV) (vs:List Value),zB n m i=true->VA g i vs->VA (g.cut n m) i vs
 | [],_,_,hv=>by simpa only [VA] using hv
 | a::r,_,hl,hv=>by
  simp only [VA] at hv ⊢;simp only [zB,ud] at hl;obtain ⟨v,s,e,⟨h0,d⟩,h⟩:=hv;exact ⟨v,s,e,⟨h0,V.cut a v hl.1 d⟩,VA.cut r s hl.2 h⟩
theorem VC.cut {g:Gh} {n m:Nat} (b:Nat):∀(o:Nat) (i:List AV),VC g b o i->VC (g.cut n m) b o i
 | _,[],_=>by simp only [VC]
 | o,a::r,hv=>by
  simp only [VC] at hv ⊢;obtain ⟨⟨v,h0,d,h⟩,j⟩:=hv;exact ⟨⟨v,h0,d,V.cut a v (AV.low_of_pure d) h⟩,VC.cut b (o+1) r j⟩
theorem VE.cut {g:Gh} {n m:Nat} (b k:Nat):∀(o:Nat) (i:List (List AV)),VE g b k o i->VE (g.cut n m) b k o i
 | _,[],_=>by simp only [VE]
 | o,e::r,hv=>by
  simp only [VE] at hv ⊢;obtain ⟨⟨h0,d⟩,h⟩:=hv;exact ⟨⟨h0,VC.cut b o e d⟩,VE.cut b k (o+k) r h⟩
end

mutual
theorem V.isLow {g:Gh}:∀(a:AV) (v:Value),V g a v->a.low g.σ.length g.τ.length=true
 | .ptr id off,_,hv=>by
  simp only [V] at hv;obtain ⟨c,j,_⟩:=hv;simpa [AV.low] using (uc.1 j).1
 | .msl _ id _ _,_,hv=>by
  simp only [V] at hv;obtain ⟨c,cap,j,_⟩:=hv;simpa [AV.low] using (uc.1 j).1
 | .map id,_,hv=>by
  simp only [V] at hv;obtain ⟨c,j,_⟩:=hv;simpa [AV.low] using (uc.1 j).1
 | .yld id,_,hv=>by
  simp only [V] at hv;obtain ⟨c,j,_⟩:=hv;simpa [AV.low] using (uc.1 j).1
 | .osl q k es,_,hv=>by
  simp only [V] at hv;obtain ⟨a,c,e,d,l,o,w⟩:=hv;cases q with
  | none=>rfl
  | some id =>
   obtain ⟨t,h,_⟩:=w;simpa [AV.low] using (uc.1 h).1
 | .rsl _ i k n,_,hv=>by
  simp only [V] at hv;obtain ⟨a,c,e,d,l,t,h,o⟩:=hv;simpa [AV.low] using (uc.1 h).1
 | .rsuf _ i k n p,_,hv=>by
  simp only [V] at hv;obtain ⟨a,c,e,d,t,h,o⟩:=hv;simpa [AV.low] using (uc.1 h).1
 | .rptr _ i k n p,_,hv=>by
  simp only [V] at hv;obtain ⟨b,q,e,t,h,o⟩:=hv;simpa [AV.low] using (uc.1 h).1
 | .fn f m bs,_,hv=>by
  simp only [V] at hv;obtain ⟨fs,cs,e,d,l⟩:=hv;simp [AV.low,VL.isLow m _ d,VL.isLow bs _ l]
 | .iface t x,_,hv=>by
  simp only [V] at hv;obtain ⟨u,e,d⟩:=hv;simp [AV.low,V.isLow x u d]
 | .agg cs,_,hv=>by
  simp only [V] at hv;obtain ⟨vs,e,d⟩:=hv;simp [AV.low,VL.isLow cs _ d.toVL]
 | .tup xs,_,hv=>by
  simp only [V] at hv;obtain ⟨vs,e,d⟩:=hv;simp [AV.low,VL.isLow xs _ d]
 | .bool _,_,_ | .int _ _,_,_ | .str _,_,_ | .nilp,_,_ | .nilm,_,_ | .nilf,_,_ | .nili,_,_ | .nilsl,_,_ | .fptr _,_,_ | .sl _ _,_,_ | .glob _,_,_ | .any,_,_ | .opq,_,_ | .bsl _ _,_,_ | .nsl _ _,_,_ | .gsl _ _,_,_ | .gptr _,_,_=>rfl
theorem VL.isLow {g:Gh}:∀(m:List AV) (vs:List Value),VL g m vs->zB g.σ.length g.τ.length m=true
 | [],_,_=>rfl
 | a::r,_,hv=>by
  simp only [VL] at hv;obtain ⟨v,s,e,d,l⟩:=hv;simp [zB,V.isLow a v d,VL.isLow r s l]
end

def Blk.low (n m:Nat):Blk->Bool
 | .cells cs=>zB n m cs
 | .mapo es _=>es.all λp=>p.1.low n m&&p.2.low n m
 | .loop _ _ env _ _ _=>zB n m env
 | .row t _ _=>decide (t < m)
 | .miter id _ _=>decide (id < n)
 | _=>true

theorem ME.cut {g:Gh} {n m:Nat}:∀(a:List (AV×AV)) (vs:List MapEntry),(a.all λp=>p.1.low n m&&p.2.low n m)=true->ME g a vs->ME (g.cut n m) a vs
 | [],_,_,hv=>by simpa only [ME] using hv
 | (k,x)::r,_,hl,hv=>by
  simp only [ME] at hv ⊢;simp only [tc,ud] at hl;obtain ⟨e,s,rfl,c,b,d⟩:=hv;exact ⟨e,s,rfl,V.cut k _ hl.1.1 c,V.cut x _ hl.1.2 b,ME.cut r s hl.2 d⟩
theorem ME.isLow {g:Gh}:∀(a:List (AV×AV)) (vs:List MapEntry),ME g a vs->(a.all λp=>p.1.low g.σ.length g.τ.length&&p.2.low g.σ.length g.τ.length)=true
 | [],_,_=>rfl
 | (k,x)::r,_,hv=>by
  simp only [ME] at hv;obtain ⟨e,s,rfl,d,b,c⟩:=hv;simp [V.isLow k _ d,V.isLow x _ b,ME.isLow r s c]
theorem BlkOk.cut {g:Gh} {w:World} {c n m:Nat} {k:Blk} (f:k.low n m=true) (e:BlkOk g w c k):BlkOk (g.cut n m) w c k:=by
 cases k with
 | cells cs=>obtain ⟨vs,t,b,a⟩:=e;exact ⟨vs,t,b,VA.cut _ _ f a⟩
 | siter s pos=>exact e
 | mapo es clock=>obtain ⟨ents,n,b,a,h⟩:=e;exact ⟨ents,n,b,ME.cut _ _ f a,h⟩
 | loop st pe env ps assign body=>obtain ⟨fn,tmps,d,b,a⟩:=e;exact ⟨fn,tmps,d,b,VL.cut _ _ f a⟩
 | row _ _ _=>exact e
 | miter id n2 seen=>obtain ⟨m2,b,a⟩:=e;exact ⟨m2,wn (by simpa [Blk.low] using f) b,a⟩
 | miter0=>exact e
 | other=>trivial
 | dead=>trivial
theorem BlkOk.isLow {g:Gh} {w:World} {c:Nat} {k:Blk} (b:BlkOk g w c k):k.low g.σ.length g.τ.length=true:=by
 cases k with
 | cells cs=>obtain ⟨vs,t,e,a⟩:=b;exact VL.isLow _ _ a.toVL
 | siter s pos=>rfl
 | mapo es clock=>obtain ⟨ents,n,e,a,_⟩:=b;exact ME.isLow _ _ a
 | loop st pe env ps assign body=>obtain ⟨fn,tmps,d,e,a⟩:=b;exact VL.isLow _ _ a
 | row _ _ _=>exact b.elim
 | miter id n seen=>obtain ⟨m,e,a⟩:=b;simpa [Blk.low] using (uc.1 e).1
 | miter0=>rfl
 | other=>rfl
 | dead=>rfl
theorem lowL_of_pure {n m:Nat}:∀{b:List AV},b.all AV.pure=true->zB n m b=true
 | [],_=>rfl
 | a::r,h=>by
  simp only [tc,ud] at h;simp [zB,AV.low_of_pure h.1,lowL_of_pure h.2]
theorem RowB.cut {g:Gh} {w:World} {n m:Nat} {k:Blk} (l:k.low n m=true) (c:RowB g w k):RowB (g.cut n m) w k:=by
 cases k with
 | row i k es =>
  obtain ⟨t,r,p,v,s,a,f⟩:=c;refine ⟨t,wn (by simpa [Blk.low] using l) r,p,v,s,a,f.imp (λh=>h) ?_⟩
  rintro ⟨b,o,e,cs,ty,q,d,u,j,x⟩
  exact ⟨b,o,e,cs,ty,q,d,VA.cut _ _ (lowL_of_pure a) u,j,x⟩
 | dead=>trivial
 | _=>exact c.elim
theorem RowB.isLow {g:Gh} {w:World} {k:Blk} (a:RowB g w k):k.low g.σ.length g.τ.length=true:=by
 cases k with
 | row i k es =>
  obtain ⟨t,b,_⟩:=a;simpa [Blk.low] using (uc.1 b).1
 | dead=>rfl
 | _=>exact a.elim
theorem Rel.isLow {B:Nat} {w0 w:World} {g:Gh} {h:AH} (r:Rel B w0 g h w) {i:Nat} {k:Blk} (a:h.blks[i]?=some k):k.low g.σ.length g.τ.length=true:=by
 have b:i < g.σ.length:=by rw [r.slen];exact (uc.1 a).1
 rcases hc:g.σ[i] with _ | c
 ·exact (r.row i k (by rw [ug b,hc]) a).isLow
 ·exact (r.blk i c k (by rw [ug b,hc]) a).2.2.1.isLow
def AH.cut (h:AH) (n m:Nat):AH:={ blks:=h.blks.take n,toks:=h.toks.take m }

theorem Rel.cut {B:Nat} {w0 w:World} {g:Gh} {h:AH} (r:Rel B w0 g h w) (n m:Nat) (u:∀(i:Nat) (k:Blk),i < n->h.blks[i]?=some k->k.low n m=true):Rel B w0 (g.cut n m) (h.cut n m) w :=
 by
 refine ⟨r.below,r.bsz,r.phi,by simp [Gh.cut,AH.cut,r.slen],λi c k e d=>?_,by simp [Gh.cut,AH.cut,r.tlen],λi t f=>?_,λi j c hi a=>?_,λi j t t' b x y hi a o C=>?_,λi c j t b x hi a o=>?_,λc e=>⟨(r.dfr c e).1,(r.dfr c e).2.1,λi hi=>by
  simp only [Gh.cut] at hi;rw [uw] at hi;split at hi
  ·exact (r.dfr c e).2.2 i hi
  ·cases hi⟩,λi k hi d=>?_,λi j t k k' es es' hi a=>?_,λb x v=>(r.nb b x v).mono λ_ _ s=>⟨rfl,⟨λi hi=>s.1 i (take_sub hi),s.2.1,λi t y f=>s.2.2 i t y (take_sub f)⟩,λh=>h⟩,r.ob⟩
 ·simp only [Gh.cut,AH.cut] at e d;rw [uw] at e d;split at e
  ·rename_i hi;rw [up hi] at d;obtain ⟨q,p,A,z⟩:=r.blk i c k e d;exact ⟨q,p,A.cut (u i k hi d),z⟩
  ·cases e
 ·simp only [Gh.cut,AH.cut] at f ⊢;rw [uw] at f;split at f
  ·rename_i hi;obtain ⟨q,p⟩:=r.tok i t f;exact ⟨wn hi q,p⟩
  ·cases f
 ·simp only [Gh.cut] at hi a;rw [uw] at hi a;split at hi
  ·split at a
   ·exact r.sinj i j c hi a
   ·cases a
  ·cases hi
 ·simp only [Gh.cut] at hi a;rw [uw] at hi a;split at hi
  ·split at a
   ·exact r.tinj i j t t' b x y hi a o C
   ·cases a
  ·cases hi
 ·simp only [Gh.cut] at hi a;rw [uw] at hi a;split at hi
  ·split at a
   ·exact r.sep i c j t b x hi a o
   ·cases a
  ·cases hi
 ·simp only [Gh.cut,AH.cut] at hi d;rw [uw] at hi d;split at hi
  ·rename_i l;rw [up l] at d;exact (r.row i k hi d).cut (u i k l d)
  ·cases hi
 ·simp only [AH.cut] at hi a;rw [uw] at hi a;split at hi
  ·split at a
   ·exact r.rinj _ _ _ _ _ _ _ hi a
   ·cases a
  ·cases hi

theorem Gh.le_cut {g g':Gh} (h:g.le g'):g.le (g'.cut g.σ.length g.τ.length) :=
 ⟨h.phi,λi c e=>wn (uc.1 e).1 (h.sig i c e),λi t e=>by
  obtain ⟨t',d,a,b⟩:=h.tau i t e;exact ⟨t',wn (uc.1 e).1 d,a,b⟩,h.del,h.new,h.old⟩
mutual
theorem AV.low_mono {n m c:Nat} (h:m<=c):∀a:AV,a.low n m=true->a.low n c=true
 | .bool _,_ | .int _ _,_ | .str _,_ | .nilp,_ | .nilm,_ | .nilf,_ | .nili,_ | .nilsl,_ | .fptr _,_ | .sl _ _,_ | .glob _,_ | .any,_ | .opq,_ | .bsl _ _,_ | .nsl _ _,_ | .gsl _ _,_ | .gptr _,_=>rfl
 | .osl none _ _,_=>rfl
 | .osl (some t) _ _,hl=>by simp only [AV.low,um] at hl ⊢;omega
 | .ptr _ _,hl=>hl
 | .msl _ _ _ _,hl=>hl
 | .rsl _ _ _ _,hl=>by simp only [AV.low,um] at hl ⊢;omega
 | .rsuf _ _ _ _ _,hl=>by simp only [AV.low,um] at hl ⊢;omega
 | .rptr _ _ _ _ _,hl=>by simp only [AV.low,um] at hl ⊢;omega
 | .map _,hl=>hl
 | .yld _,hl=>hl
 | .fn _ a b,hl=>by
  simp only [AV.low,ud] at hl ⊢;exact ⟨lowL_mono h a hl.1,lowL_mono h b hl.2⟩
 | .iface _ v,hl=>by simp only [AV.low] at hl ⊢;exact AV.low_mono h v hl
 | .agg cs,hl=>by simp only [AV.low] at hl ⊢;exact lowL_mono h cs hl
 | .tup cs,hl=>by simp only [AV.low] at hl ⊢;exact lowL_mono h cs hl
theorem lowL_mono {n m c:Nat} (h:m<=c):∀l:List AV,zB n m l=true->zB n c l=true
 | [],_=>rfl
 | a::r,hl=>by
  simp only [zB,ud] at hl ⊢;exact ⟨AV.low_mono h a hl.1,lowL_mono h r hl.2⟩
end
theorem Blk.low_mono {n m d:Nat} (h:m<=d):∀b:Blk,b.low n m=true->b.low n d=true
 | .cells cs,hl=>lowL_mono h cs hl
 | .mapo es c,hl=>by
  simp only [Blk.low,ux,ud] at hl ⊢;exact λp a=>⟨AV.low_mono h _ (hl p a).1,AV.low_mono h _ (hl p a).2⟩
 | .loop _ _ env _ _ _,hl=>lowL_mono h env hl
 | .row _ _ _,hl=>by simp only [Blk.low,um] at hl ⊢;omega
 | .miter _ _ _,hl=>hl
 | .siter _ _,_ | .miter0,_ | .other,_ | .dead,_=>rfl
theorem Gh.le_cut2 {g g':Gh} (h:g.le g') {n m:Nat} (a:g.σ.length<=n) (j:g.τ.length<=m):g.le (g'.cut n m) :=
 ⟨h.phi,λi c e=>wn (so (uc.1 e).1 a) (h.sig i c e),λi t e=>by
  obtain ⟨t',d,b,f⟩:=h.tau i t e;exact ⟨t',wn (so (uc.1 e).1 j) d,b,f⟩,h.del,h.new,h.old⟩
end Go.Vv
