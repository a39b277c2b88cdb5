/- What a call leaves behind may be forgotten: values that speak of older blocks alone. -/
import Derived.Test.YtdkfnnpdeenhnaaGreatVvK
namespace Go.Vv
open Go Go.RowKit Go.Lib

mutual
def AV.low (n m:Nat):AV->Bool
 | .ptr id _ | .msl _ id _ _ | .map id | .yld id=>decide (id < n)
 | .osl (some t) _ _=>decide (t < m)
 | .rsl _ t _ _ | .rptr _ t _ _ _ | .rsuf _ t _ _ _=>decide (t < m)
 | .fn _ a b=>zJ n m a&&zJ n m b
 | .iface _ v=>v.low n m
 | .agg cs=>zJ n m cs
 | .tup vs=>zJ n m vs
 | _=>true
def zJ (n m:Nat):List AV->Bool
 | []=>true
 | a::r=>a.low n m&&zJ n m r
end
theorem AV.low_of_pure {n m:Nat} {a:AV} (h:a.pure=true):a.low n m=true:=by
 unfold AV.pure at h;split at h <;> first | rfl | cases h

def Gh.cut (g:Gh) (n m:Nat):Gh:={ g with σ:=g.σ.take n,τ:=g.τ.take m }
theorem yU {α:Type} {l:List α} {n i:Nat} {x:α} (h:i < n) (e:l[i]?=some x):(l.take n)[i]?=some x:=by rw [List.getElem?_take,if_pos h];exact e

mutual
theorem V.cut {g:Gh} {n m:Nat}:∀(a:AV) (v:Value),a.low n m=true->V g a v->V (g.cut n m) a v
 | .bool _,_,_,hv=>by simpa only [V] using hv
 | .int _ _,_,_,hv=>by simpa only [V] using hv
 | .str _,_,_,hv=>by simpa only [V] using hv
 | .nilp,_,_,hv=>by simpa only [V] using hv
 | .nilm,_,_,hv=>by simpa only [V] using hv
 | .nilf,_,_,hv=>by simpa only [V] using hv
 | .nili,_,_,hv=>by simpa only [V] using hv
 | .nilsl,_,_,hv=>by simpa only [V] using hv
 | .ptr id off,_,hl,hv=>by
  simp only [V] at hv ⊢;simp only [AV.low,decide_eq_true_eq] at hl;obtain ⟨c,l,e⟩:=hv;exact ⟨c,yU hl l,e⟩
 | .fptr cs,_,_,hv=>by
  simp only [V] at hv ⊢;obtain ⟨b,o,e,l⟩:=hv;exact ⟨b,o,e,VC.cut b o cs l⟩
 | .sl k es,_,_,hv=>by
  simp only [V] at hv ⊢;obtain ⟨a,c,e,d,i,j⟩:=hv;exact ⟨a,c,e,d,i,j.imp id λ⟨b,o,e,hh⟩=>⟨b,o,e,VE.cut b k o es hh⟩⟩
 | .osl q k es,_,hl,hv=>by
  simp only [V] at hv ⊢;obtain ⟨a,c,e,d,i,j,w⟩:=hv;refine ⟨a,c,e,d,i,j.imp id λ⟨b,o,e,hh⟩=>⟨b,o,e,VE.cut b k o es hh⟩,?_⟩;cases q with
  | none=>exact w
  | some id =>
   simp only [AV.low,decide_eq_true_eq] at hl;obtain ⟨t,p,y⟩:=w;exact ⟨t,yU hl p,y⟩
 | .msl _ id _ _,_,hl,hv=>by
  simp only [V] at hv ⊢;simp only [AV.low,decide_eq_true_eq] at hl;obtain ⟨c,cap,l,e⟩:=hv;exact ⟨c,cap,yU hl l,e⟩
 | .rsl _ _ _ _,_,hl,hv=>by
  simp only [V] at hv ⊢;simp only [AV.low,decide_eq_true_eq] at hl;obtain ⟨a,c,e,d,i,t,p,j⟩:=hv;exact ⟨a,c,e,d,i,t,yU hl p,j⟩
 | .rsuf _ _ _ _ _,_,hl,hv=>by
  simp only [V] at hv ⊢;simp only [AV.low,decide_eq_true_eq] at hl;obtain ⟨a,c,e,d,t,p,j⟩:=hv;exact ⟨a,c,e,d,t,yU hl p,j⟩
 | .rptr _ _ _ _ _,_,hl,hv=>by
  simp only [V] at hv ⊢;simp only [AV.low,decide_eq_true_eq] at hl;obtain ⟨b,q,e,t,p,j⟩:=hv;exact ⟨b,q,e,t,yU hl p,j⟩
 | .map id,_,hl,hv=>by
  simp only [V] at hv ⊢;simp only [AV.low,decide_eq_true_eq] at hl;obtain ⟨c,l,e⟩:=hv;exact ⟨c,yU hl l,e⟩
 | .fn f h bs,_,hl,hv=>by
  simp only [V] at hv ⊢;simp only [AV.low,Bool.and_eq_true] at hl;obtain ⟨fs,cs,e,d,i⟩:=hv;exact ⟨fs,cs,e,VL.cut h _ hl.1 d,VL.cut bs _ hl.2 i⟩
 | .iface t x,_,hl,hv=>by
  simp only [V] at hv ⊢;simp only [AV.low] at hl;obtain ⟨u,e,d⟩:=hv;exact ⟨u,e,V.cut x u hl d⟩
 | .agg cs,_,hl,hv=>by
  simp only [V] at hv ⊢;simp only [AV.low] at hl;obtain ⟨vs,e,d⟩:=hv;exact ⟨vs,e,VA.cut cs _ hl d⟩
 | .tup xs,_,hl,hv=>by
  simp only [V] at hv ⊢;simp only [AV.low] at hl;obtain ⟨vs,e,d⟩:=hv;exact ⟨vs,e,VL.cut xs _ hl d⟩
 | .glob _,_,_,hv=>by simpa only [V] using hv
 | .yld id,_,hl,hv=>by
  simp only [V] at hv ⊢;simp only [AV.low,decide_eq_true_eq] at hl;obtain ⟨c,l,e⟩:=hv;exact ⟨c,yU hl l,e⟩
 | .any,_,_,_=>by simp only [V]
 | .opq,_,_,hv=>by simpa only [V] using hv
theorem VL.cut {g:Gh} {n m:Nat}:∀(h:List AV) (vs:List Value),zJ n m h=true->VL g h vs->VL (g.cut n m) h vs
 | [],_,_,hv=>by simpa only [VL] using hv
 | a::r,_,hl,hv=>by
  simp only [VL] at hv ⊢;simp only [zJ,Bool.and_eq_true] at hl;obtain ⟨v,s,e,d,i⟩:=hv;exact ⟨v,s,e,V.cut a v hl.1 d,VL.cut r s hl.2 i⟩
theorem VA.cut {g:Gh} {n m:Nat}:∀(h:List AV) (vs:List Value),zJ n m h=true->VA g h vs->VA (g.cut n m) h vs
 | [],_,_,hv=>by simpa only [VA] using hv
 | a::r,_,hl,hv=>by
  simp only [VA] at hv ⊢;simp only [zJ,Bool.and_eq_true] at hl;obtain ⟨v,s,e,⟨h0,d⟩,i⟩:=hv;exact ⟨v,s,e,⟨h0,V.cut a v hl.1 d⟩,VA.cut r s hl.2 i⟩
theorem VC.cut {g:Gh} {n m:Nat} (b:Nat):∀(o:Nat) (h:List AV),VC g b o h->VC (g.cut n m) b o h
 | _,[],_=>by simp only [VC]
 | o,a::r,hv=>by
  simp only [VC] at hv ⊢;obtain ⟨⟨v,h0,d,i⟩,j⟩:=hv;exact ⟨⟨v,h0,d,V.cut a v (AV.low_of_pure d) i⟩,VC.cut b (o+1) r j⟩
theorem VE.cut {g:Gh} {n m:Nat} (b k:Nat):∀(o:Nat) (h:List (List AV)),VE g b k o h->VE (g.cut n m) b k o h
 | _,[],_=>by simp only [VE]
 | o,e::r,hv=>by
  simp only [VE] at hv ⊢;obtain ⟨⟨h0,d⟩,i⟩:=hv;exact ⟨⟨h0,VC.cut b o e d⟩,VE.cut b k (o+k) r i⟩
end

mutual
theorem V.isLow {g:Gh}:∀(a:AV) (v:Value),V g a v->a.low g.σ.length g.τ.length=true
 | .ptr id off,_,hv=>by
  simp only [V] at hv;obtain ⟨c,j,_⟩:=hv;simpa [AV.low] using (List.getElem?_eq_some_iff.1 j).1
 | .msl _ id _ _,_,hv=>by
  simp only [V] at hv;obtain ⟨c,cap,j,_⟩:=hv;simpa [AV.low] using (List.getElem?_eq_some_iff.1 j).1
 | .map id,_,hv=>by
  simp only [V] at hv;obtain ⟨c,j,_⟩:=hv;simpa [AV.low] using (List.getElem?_eq_some_iff.1 j).1
 | .yld id,_,hv=>by
  simp only [V] at hv;obtain ⟨c,j,_⟩:=hv;simpa [AV.low] using (List.getElem?_eq_some_iff.1 j).1
 | .osl q k es,_,hv=>by
  simp only [V] at hv;obtain ⟨a,c,e,d,l,o,w⟩:=hv;cases q with
  | none=>rfl
  | some id =>
   obtain ⟨t,h,_⟩:=w;simpa [AV.low] using (List.getElem?_eq_some_iff.1 h).1
 | .rsl _ i k n,_,hv=>by
  simp only [V] at hv;obtain ⟨a,c,e,d,l,t,h,o⟩:=hv;simpa [AV.low] using (List.getElem?_eq_some_iff.1 h).1
 | .rsuf _ i k n p,_,hv=>by
  simp only [V] at hv;obtain ⟨a,c,e,d,t,h,o⟩:=hv;simpa [AV.low] using (List.getElem?_eq_some_iff.1 h).1
 | .rptr _ i k n p,_,hv=>by
  simp only [V] at hv;obtain ⟨b,q,e,t,h,o⟩:=hv;simpa [AV.low] using (List.getElem?_eq_some_iff.1 h).1
 | .fn f m bs,_,hv=>by
  simp only [V] at hv;obtain ⟨fs,cs,e,d,l⟩:=hv;simp [AV.low,VL.isLow m _ d,VL.isLow bs _ l]
 | .iface t x,_,hv=>by
  simp only [V] at hv;obtain ⟨u,e,d⟩:=hv;simp [AV.low,V.isLow x u d]
 | .agg cs,_,hv=>by
  simp only [V] at hv;obtain ⟨vs,e,d⟩:=hv;simp [AV.low,VL.isLow cs _ d.toVL]
 | .tup xs,_,hv=>by
  simp only [V] at hv;obtain ⟨vs,e,d⟩:=hv;simp [AV.low,VL.isLow xs _ d]
 | .bool _,_,_ | .int _ _,_,_ | .str _,_,_ | .nilp,_,_ | .nilm,_,_ | .nilf,_,_ | .nili,_,_ | .nilsl,_,_ | .fptr _,_,_ | .sl _ _,_,_ | .glob _,_,_ | .any,_,_ | .opq,_,_=>rfl
theorem VL.isLow {g:Gh}:∀(m:List AV) (vs:List Value),VL g m vs->zJ g.σ.length g.τ.length m=true
 | [],_,_=>rfl
 | a::r,_,hv=>by
  simp only [VL] at hv;obtain ⟨v,s,e,d,l⟩:=hv;simp [zJ,V.isLow a v d,VL.isLow r s l]
end

def Blk.low (n m:Nat):Blk->Bool
 | .cells cs=>zJ n m cs
 | .mapo es _=>es.all λp=>p.1.low n m&&p.2.low n m
 | .loop _ _ env _ _ _=>zJ n m env
 | .row t _ _=>decide (t < m)
 | .miter id _ _=>decide (id < n)
 | _=>true

theorem ME.cut {g:Gh} {n m:Nat}:∀(a:List (AV×AV)) (vs:List MapEntry),(a.all λp=>p.1.low n m&&p.2.low n m)=true->ME g a vs->ME (g.cut n m) a vs
 | [],_,_,hv=>by simpa only [ME] using hv
 | (k,x)::r,_,hl,hv=>by
  simp only [ME] at hv ⊢;simp only [List.all_cons,Bool.and_eq_true] at hl;obtain ⟨e,s,rfl,b,c,d⟩:=hv;exact ⟨e,s,rfl,V.cut k _ hl.1.1 b,V.cut x _ hl.1.2 c,ME.cut r s hl.2 d⟩
theorem ME.isLow {g:Gh}:∀(a:List (AV×AV)) (vs:List MapEntry),ME g a vs->(a.all λp=>p.1.low g.σ.length g.τ.length&&p.2.low g.σ.length g.τ.length)=true
 | [],_,_=>rfl
 | (k,x)::r,_,hv=>by
  simp only [ME] at hv;obtain ⟨e,s,rfl,b,c,d⟩:=hv;simp [V.isLow k _ b,V.isLow x _ c,ME.isLow r s d]
theorem BlkOk.cut {g:Gh} {w:World} {c n m:Nat} {k:Blk} (f:k.low n m=true) (b:BlkOk g w c k):BlkOk (g.cut n m) w c k:=by
 cases k with
 | cells cs=>obtain ⟨vs,t,a,e⟩:=b;exact ⟨vs,t,a,VA.cut _ _ f e⟩
 | siter s pos=>exact b
 | mapo es clock=>obtain ⟨ents,n,a,e,i⟩:=b;exact ⟨ents,n,a,ME.cut _ _ f e,i⟩
 | loop st pe env ps assign body=>obtain ⟨fn,tmps,d,a,e⟩:=b;exact ⟨fn,tmps,d,a,VL.cut _ _ f e⟩
 | row _ _ _=>exact b
 | miter id n2 seen=>obtain ⟨h,a,e⟩:=b;exact ⟨h,yU (by simpa [Blk.low] using f) a,e⟩
 | miter0=>exact b
 | other=>trivial
 | dead=>trivial
theorem BlkOk.isLow {g:Gh} {w:World} {c:Nat} {k:Blk} (b:BlkOk g w c k):k.low g.σ.length g.τ.length=true:=by
 cases k with
 | cells cs=>obtain ⟨vs,t,e,a⟩:=b;exact VL.isLow _ _ a.toVL
 | siter s pos=>rfl
 | mapo es clock=>obtain ⟨ents,n,e,a,_⟩:=b;exact ME.isLow _ _ a
 | loop st pe env ps assign body=>obtain ⟨fn,tmps,d,e,a⟩:=b;exact VL.isLow _ _ a
 | row _ _ _=>exact b.elim
 | miter id n seen=>obtain ⟨m,e,a⟩:=b;simpa [Blk.low] using (List.getElem?_eq_some_iff.1 e).1
 | miter0=>rfl
 | other=>rfl
 | dead=>rfl
theorem wW {n m:Nat}:∀{b:List AV},b.all AV.pure=true->zJ n m b=true
 | [],_=>rfl
 | a::r,h=>by
  simp only [List.all_cons,Bool.and_eq_true] at h;simp [zJ,AV.low_of_pure h.1,wW h.2]
theorem RowB.cut {g:Gh} {w:World} {n m:Nat} {k:Blk} (u:k.low n m=true) (a:RowB g w k):RowB (g.cut n m) w k:=by
 cases k with
 | row i k es =>
  obtain ⟨t,v,p,f,q,c,l⟩:=a;refine ⟨t,yU (by simpa [Blk.low] using u) v,p,f,q,c,l.imp (λh=>h) ?_⟩
  rintro ⟨b,o,e,cs,ty,d,s,r,x,j⟩
  exact ⟨b,o,e,cs,ty,d,s,VA.cut _ _ (wW c) r,x,j⟩
 | dead=>trivial
 | _=>exact a.elim
theorem RowB.isLow {g:Gh} {w:World} {k:Blk} (a:RowB g w k):k.low g.σ.length g.τ.length=true:=by
 cases k with
 | row i k es =>
  obtain ⟨t,b,_⟩:=a;simpa [Blk.low] using (List.getElem?_eq_some_iff.1 b).1
 | dead=>rfl
 | _=>exact a.elim
theorem Rel.isLow {B:Nat} {w0 w:World} {g:Gh} {h:AH} (r:Rel B w0 g h w) {i:Nat} {k:Blk} (a:h.blks[i]?=some k):k.low g.σ.length g.τ.length=true:=by
 have b:i < g.σ.length:=by rw [r.slen];exact (List.getElem?_eq_some_iff.1 a).1
 rcases hc:g.σ[i] with _ | c
 ·exact (r.row i k (by rw [List.getElem?_eq_getElem b,hc]) a).isLow
 ·exact (r.blk i c k (by rw [List.getElem?_eq_getElem b,hc]) a).2.2.1.isLow
def AH.cut (h:AH) (n m:Nat):AH:={ blks:=h.blks.take n,toks:=h.toks.take m }

theorem Rel.cut {B:Nat} {w0 w:World} {g:Gh} {h:AH} (r:Rel B w0 g h w) (n m:Nat) (s:∀(i:Nat) (k:Blk),i < n->h.blks[i]?=some k->k.low n m=true):Rel B w0 (g.cut n m) (h.cut n m) w :=
 by
 refine ⟨r.below,r.bsz,r.phi,by simp [Gh.cut,AH.cut,r.slen],λi c k e d=>?_,by simp [Gh.cut,AH.cut,r.tlen],λi t l=>?_,λi j c hi a=>?_,λi j t t' b x y hi a p v=>?_,λi c j t b x hi a p=>?_,λc e=>⟨(r.dfr c e).1,(r.dfr c e).2.1,λi hi=>by
  simp only [Gh.cut] at hi;rw [List.getElem?_take] at hi;split at hi
  ·exact (r.dfr c e).2.2 i hi
  ·cases hi⟩,λi k hi d=>?_,λi j t k A es es' hi a=>?_⟩
 ·simp only [Gh.cut,AH.cut] at e d;rw [List.getElem?_take] at e d;split at e
  ·rename_i hi;rw [if_pos hi] at d;obtain ⟨q,o,u,z⟩:=r.blk i c k e d;exact ⟨q,o,u.cut (s i k hi d),z⟩
  ·cases e
 ·simp only [Gh.cut,AH.cut] at l ⊢;rw [List.getElem?_take] at l;split at l
  ·rename_i hi;obtain ⟨q,o⟩:=r.tok i t l;exact ⟨yU hi q,o⟩
  ·cases l
 ·simp only [Gh.cut] at hi a;rw [List.getElem?_take] at hi a;split at hi
  ·split at a
   ·exact r.sinj i j c hi a
   ·cases a
  ·cases hi
 ·simp only [Gh.cut] at hi a;rw [List.getElem?_take] at hi a;split at hi
  ·split at a
   ·exact r.tinj i j t t' b x y hi a p v
   ·cases a
  ·cases hi
 ·simp only [Gh.cut] at hi a;rw [List.getElem?_take] at hi a;split at hi
  ·split at a
   ·exact r.sep i c j t b x hi a p
   ·cases a
  ·cases hi
 ·simp only [Gh.cut,AH.cut] at hi d;rw [List.getElem?_take] at hi d;split at hi
  ·rename_i f;rw [if_pos f] at d;exact (r.row i k hi d).cut (s i k f d)
  ·cases hi
 ·simp only [AH.cut] at hi a;rw [List.getElem?_take] at hi a;split at hi
  ·split at a
   ·exact r.rinj _ _ _ _ _ _ _ hi a
   ·cases a
  ·cases hi

theorem Gh.le_cut {g g':Gh} (h:g.le g'):g.le (g'.cut g.σ.length g.τ.length) :=
 ⟨h.phi,λi c e=>yU (List.getElem?_eq_some_iff.1 e).1 (h.sig i c e),λi t e=>by
  obtain ⟨t',a,b,d⟩:=h.tau i t e;exact ⟨t',yU (List.getElem?_eq_some_iff.1 e).1 a,b,d⟩,h.del⟩
mutual
theorem AV.low_mono {n m c:Nat} (h:m<=c):∀a:AV,a.low n m=true->a.low n c=true
 | .bool _,_ | .int _ _,_ | .str _,_ | .nilp,_ | .nilm,_ | .nilf,_ | .nili,_ | .nilsl,_ | .fptr _,_ | .sl _ _,_ | .glob _,_ | .any,_ | .opq,_=>rfl
 | .osl none _ _,_=>rfl
 | .osl (some t) _ _,hl=>by simp only [AV.low,decide_eq_true_eq] at hl ⊢;omega
 | .ptr _ _,hl=>hl
 | .msl _ _ _ _,hl=>hl
 | .rsl _ _ _ _,hl=>by simp only [AV.low,decide_eq_true_eq] at hl ⊢;omega
 | .rsuf _ _ _ _ _,hl=>by simp only [AV.low,decide_eq_true_eq] at hl ⊢;omega
 | .rptr _ _ _ _ _,hl=>by simp only [AV.low,decide_eq_true_eq] at hl ⊢;omega
 | .map _,hl=>hl
 | .yld _,hl=>hl
 | .fn _ a b,hl=>by
  simp only [AV.low,Bool.and_eq_true] at hl ⊢;exact ⟨vi h a hl.1,vi h b hl.2⟩
 | .iface _ v,hl=>by simp only [AV.low] at hl ⊢;exact AV.low_mono h v hl
 | .agg cs,hl=>by simp only [AV.low] at hl ⊢;exact vi h cs hl
 | .tup cs,hl=>by simp only [AV.low] at hl ⊢;exact vi h cs hl
theorem vi {n m c:Nat} (h:m<=c):∀l:List AV,zJ n m l=true->zJ n c l=true
 | [],_=>rfl
 | a::r,hl=>by
  simp only [zJ,Bool.and_eq_true] at hl ⊢;exact ⟨AV.low_mono h a hl.1,vi h r hl.2⟩
end
theorem Blk.low_mono {n m d:Nat} (h:m<=d):∀b:Blk,b.low n m=true->b.low n d=true
 | .cells cs,hl=>vi h cs hl
 | .mapo es c,hl=>by
  simp only [Blk.low,List.all_eq_true,Bool.and_eq_true] at hl ⊢;exact λp a=>⟨AV.low_mono h _ (hl p a).1,AV.low_mono h _ (hl p a).2⟩
 | .loop _ _ env _ _ _,hl=>vi h env hl
 | .row _ _ _,hl=>by simp only [Blk.low,decide_eq_true_eq] at hl ⊢;omega
 | .miter _ _ _,hl=>hl
 | .siter _ _,_ | .miter0,_ | .other,_ | .dead,_=>rfl
theorem Gh.le_cut2 {g g':Gh} (h:g.le g') {n m:Nat} (b:g.σ.length<=n) (f:g.τ.length<=m):g.le (g'.cut n m) :=
 ⟨h.phi,λi c e=>yU (Nat.lt_of_lt_of_le (List.getElem?_eq_some_iff.1 e).1 b) (h.sig i c e),λi t e=>by
  obtain ⟨t',a,d,j⟩:=h.tau i t e;exact ⟨t',yU (Nat.lt_of_lt_of_le (List.getElem?_eq_some_iff.1 e).1 f) a,d,j⟩,h.del⟩
end Go.Vv
