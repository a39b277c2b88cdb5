/- Each function that the law reaches computes what its reading says; printed by a program. -/
import Derived.Test.YtgobgfehoplnjaaGreatW4
set_option linter.all false
namespace Go.Vv
open Go Go.Proofs
set_option maxRecDepth 100000
set_option synthInstance.maxSize 100000
set_option synthInstance.maxHeartbeats 1000000
set_option maxHeartbeats 1000000
variable {t0:(List GC)} {h:AH} {bl tl:Nat} {l0 res a1 b2 pp0 x0 x1 x2:GE} {ss0:(List GA)} {nn1:Int} {vv1:GA}
theorem zup {c:(List zq)} {res:(List zq)}  (a:oc t0 c=some res):Sp 195 [zb t0,yR c] h (z7 (yR res) h):=by
 unfold oc at a;refine y8 Tryz.func195 41 ?_;refine xU λp=>qe (λ(l:Nat) (k:(List GC))=>zk 1 3 (zk 5 6 (zk 14 27 [(0,zb k),(13,.int .i64 (l:Int))]))) (λk=>h.ext [] []) a (λl k n a=>cL a (λx1 A w g a x=>?_) (λa=>?_))
 ·refine ix (zt g) (R.r ?_);refine cB a (λ_=>zf5) λy a=>?_;exact ZL
 ·refine xU λq=>qe (h0:=wk.trans ((qF (gx 4) rfl rfl (sx 4) rfl rfl).wk) (wk.le f9.o)) (λ(n2:Nat) (s2:(List zq))=>zk 0 4 (zk 5 21 (zk 29 12 [(4,zU h 0 0 1 (s2.length)),(28,.int .i64 (n2:Int))]))) (λs2=>h.ext [yq h 0 1 (s2.map yp)] [s2.length]) a (λn2 s2 u a=>cL a (λx2 z t f a v=>?_) (λa=>?_))
  ·refine zO (yN rfl wp gg gg oL (zt f) (GC.q8 _)) ?_;refine zO (bs (([x2.name]:List zq).map yp)) ?_;refine zM a (λe a=>zO (eR e) ?_);exact ZL
  ·refine zd a (λd b a=>zam rfl (sc rfl) (zdk oj b (i:=0) (B':=[yq h 0 1 (d.map yp)]) rfl rfl) ss ?_);refine yG ?_;refine zk6 ((yd (j:=0) (m:=0) (B':=[.dead]) (T':=[(d.map yp).length+1]) rfl (by exact (.s4 (.cons (eX.fA _ _ (by rw [oS];exact kO (og b))) (.dV (.dV (.s (.cons (eX.fA _ _ (by rw [oS];exact kO (og b))) (eG.refl _)))))))) rfl rfl).wk) ?_;apply R.r;exact Z
theorem zrq {ss0:(List zq)} {res:(List zq)} (B:h.zh.length=bl) (C:h.zs.length=tl) (a:wb ss0=some res):Sp 197 [.fm bl tl 1 ss0.length] (h.ext [.row tl 1 (ss0.map yp)] [ss0.length]) (zor h bl tl 1 res.length (res.map yp)):=by
 unfold wb at a;subst B C;refine eW Tryz.func197 61 ?_;refine xU λI=>cF a (λE a=>?_) (λE a=>?_)
 ·cases a;refine fr rfl (oP (row:=yp) ?_);exact ⟨rfl,_,rfl⟩
 ·refine xd (λ(m:Int)=>zk 1 2 (zk 4 57 [(3,.int .i64 m)])) (λm=>h.ext [yq h 0 1 (ss0.map yp)] [ss0.length]) a (λ_=>UE) (wk.le f9.o) ?_;intro Q m P a y;apply R.r;refine xU λF=>cF a (λA a=>?_) (λA a=>?_)
  ·refine dr [] ?_;refine zd a (λH l a=>wo (iR (yZ l rfl)) ?_);refine wo (vn (off:=0) (i:=0) (q:=h.zs.length+0) (z:=m.toNat) (row:=yp) (λ_=>rfl) rfl cu (by decide) gg rfl rfl (wy l).2.2 (zB rfl) (zc rfl)) ?_;refine zd a (λJ k a=>wo (iR (yZ k rfl)) ?_);refine wo (vn (off:=0) (i:=0) (q:=h.zs.length+0) (z:=(IntKind.wrap .i64 (m - (1:Int))).toNat) (row:=yp) (λ_=>rfl) rfl cu (by decide) gg rfl rfl (wy k).2.2 (zB rfl) (zc rfl)) ?_;refine cF a (λu a=>?_) (λu a=>?_)
   ·refine zM a (λx a=>nZ (zgv rfl bI gg gg x) ?_);refine xd (λ(s2:Int×Int×(List zq))=>zk 1 2 (zk 6 55 [(3,.int .i64 s2.1),(5,.int .i64 s2.2.1)])) (λs2=>h.ext [yq h 0 1 (s2.2.2.map yp)] [ss0.length]) a (λ_=>UE) (wk.le f9.o) ?_;intro n2 s2 O a D;refine zM a (λb a=>R.r ?_);refine ln λG=>R.r ?_;refine cF a (λs a=>?_) (λs a=>?_)
    ·refine dr [] ?_;refine zd a (λK c a=>?_);replace c:=zqO c;refine wo (zdT rfl bI gg gg ⟨c.1,by have:=c.2.1;have:=b;omega⟩) ?_;refine wo (vn (off:=0) (i:=0) (q:=h.zs.length+0) (z:=(m.toNat+s2.2.1.toNat)) (row:=yp) (λ_=>rfl) rfl cu (by decide) gg rfl b c.2.2 (zB rfl) (zc rfl)) ?_;refine zd a (λN f a=>?_);replace f:=zqO f;refine wo (zdT rfl bI gg gg ⟨f.1,by have:=f.2.1;have:=b;omega⟩) ?_;refine wo (vn (off:=0) (i:=0) (q:=h.zs.length+0) (z:=(m.toNat+(IntKind.wrap .i64 (s2.2.1 - (1:Int))).toNat)) (row:=yp) (λ_=>rfl) rfl cu (by decide) gg rfl b f.2.2 (zB rfl) (zc rfl)) ?_;refine cF a (λt a=>?_) (λt a=>?_)
     ·refine zd a (λp e a=>?_);replace e:=zqO e;refine zO (zdT rfl bI gg gg ⟨e.1,by have:=e.2.1;have:=b;omega⟩) ?_;refine zO (vn (off:=0) (i:=0) (q:=h.zs.length+0) (z:=(m.toNat+s2.2.1.toNat)) (row:=yp) (λ_=>rfl) rfl cu (by decide) gg rfl b e.2.2 (zB rfl) (zc rfl)) ?_;refine zd a (λM n a=>zO (iR (yZ n b)) ?_);refine zO (ql (off:=0) (i:=0) (q:=h.zs.length+0) (z:=s2.1.toNat) (row:=yp) (y':=p) (us:=[.str p]) (B':=[yq h 0 1 ((s2.2.2.set s2.1.toNat p).map yp)]) (λ_=>rfl) rfl cu gg gg (zc rfl) rfl rfl rfl rfl b (wy n).2.2 (by decide) rfl rfl) ?_;exact ZL
     ·exact ZL
    ·cases a;replace a:=D;apply R.r;refine zM a (λg a=>nZ (zgv rfl bI gg gg g) ?_);refine nZ (zma (i:=0) (q:=h.zs.length+0) (L:=s2.2.2) (row:=yp) (d:=([]:zq)) (B':=[yq h 0 1 ((s2.2.2.take s2.1.toNat++List.replicate (ss0.length - s2.1.toNat) ([]:zq)).map yp)]) (λ_=>rfl) rfl rfl rfl rfl bI ze9 rfl gg rfl b (iT.2 g.2) rfl) ?_;refine zd a (λv w a=>nZ (zdU (i:=0) (j:=0) (L:=(s2.2.2.take s2.1.toNat++List.replicate (ss0.length - s2.1.toNat) ([]:zq))) (row:=yp) (B':=[.dead,yq h 1 1 (v.map yp)]) (T':=[ss0.length+1,v.length]) rfl bI gg gg rfl (zhU b (iT.2 g.2)) w rfl rfl rfl rfl) ?_);cases a;replace a:=y;apply R.r;exact Z
   ·exact ZL
  ·cases a;replace a:=y;apply R.r;cases a;refine fr rfl (oP (row:=yp) ?_);exact ⟨rfl,_,rfl⟩
theorem zrQ {l0:(List (List GC))} {res:(List zq)}  (a:r6 l0=some res):Sp 148 [.sl 1 (l0.map (λl=>[zb l]))] h (z7 (yR res) h):=by
 unfold r6 at a;refine y8 Tryz.func148 20 ?_;refine xU λt=>qe (h0:=wk.trans ((qF (gx 2) rfl rfl (sx 2) rfl rfl).wk) (wk.le f9.o)) (λ(q:Nat) (e:(List zq))=>zk 0 2 (zk 3 2 (zk 8 12 [(2,zU h 0 0 1 (e.length)),(7,.int .i64 (q:Int))]))) (λe=>h.ext [yq h 0 1 (e.map yp)] [e.length]) a (λq e s a=>cL a (λx1 w u n a v=>?_) (λa=>?_))
 ·refine ix (zt n) (R.r ?_);refine zd a (λx k a=>cp ((zup k).le (.eq (.cons (g6.gW _ _ _) fd.nil))) ?_);refine zM a (λp a=>zO (eR p) ?_);exact ZL
 ·refine zd a (λb c a=>e6 (zdk oj c (i:=0) (B':=[yq h 0 1 (b.map yp)]) rfl rfl) ?_);refine vH (ml (j:=0) (i:=0) (n2:=b.length) (B':=[.dead,yq h 1 1 (b.map yp)]) (T':=[b.length+1,b.length]) (gx 18) rfl (by rw [oS];exact og c) (kO (og c)) rfl rfl (sx 18) rfl rfl) ?_;refine zd a (λg f a=>zbz (B1:=[.dead]) (T1:=[b.length+1]) (j:=1) (i:=1) (B':=[.dead,.dead,yq h 2 1 (g.map yp)]) rfl (yb rfl rfl rfl fZ.o fT.o) (zrq (by simp [AH.ext]) (by simp [AH.ext]) f) rfl rfl ss rfl (λd=>?_));apply R.r;obtain rfl:=oi a;refine fr rfl (xS ((yd (j:=2) (m:=2) (B':=[.dead,.dead,.dead]) (T':=[b.length+1,d,(g.map yp).length+1]) rfl (by exact (.cons (.fA _ _ (by simp)) (.refl _))) rfl rfl).wk) ?_);refine wa (g6.refl _) rfl ?_;exact ⟨rfl,rfl⟩
theorem zuC {ss0:(List GE)} {s:(GE->Option Bool)} {e:FuncId} {d c:List AV} {res:Int} (p:∀x0 v (L:List q6) (M:List Nat),s x0=some v->Sp e (d++[zF x0]++c) (h.ext L M) (z7 (.bool v) (h.ext L M))) (a:yo ss0 s=some res):Sp 153 [zH ss0,.fn (.func e) d c] h (z7 (.int .i64 res) h):=by
 unfold yo at a;refine zx Tryz.func153 rfl kr (tW 19 rfl) (λb z=>?_);simp only [zA,AV.low,tr,lA,kJ] at b;have k:∀n m,h.zh.length<=n->h.zs.length<=m->zA n m d=true:=λn m i f=>zT i f _ (by simp [b]);have g:∀n m,h.zh.length<=n->h.zs.length<=m->zA n m c=true:=λn m i f=>zT i f _ (by simp [b]);apply R.r;refine xU λx=>qe (λ(u:Nat) (t:Unit)=>zk 2 5 (zk 9 10 [(8,.int .i64 (u:Int))])) (λt=>h.ext [] []) a (λu t w a=>cL a (λx1 B y j a q=>?_) (λa=>?_))
 ·refine ix (zt j) (R.r ?_);refine zd a (λA o a=>yf rfl (dU rfl) (p _ _ _ _ o) ss (R.r ?_));refine cF a (λl a=>?_) (λl a=>?_)
  ·cases a;replace a:=q;apply R.r;exact Z
  ·exact ZL
 ·exact Z
theorem zuB {c0:Int} {d:Nat} {res:Bool} (b:h.gZ d=some (.cells [.int .u8 c0])) (a:sa l0 c0=some res):Sp 154 [zF l0,.ptr d 0] h (z7 (.bool res) h):=by
 unfold sa at a;refine zr Tryz.func154 rfl kr (tW 8 rfl) ?_;have c:=yi b rfl;have e:∀k,d < h.zh.length+k:=λk=>o5 c (n4 _ _);apply R.r;refine zO (yU rfl ty5 gg b (zB rfl) (zc rfl)) ?_;exact Z
theorem zrO {b:Int}  (a:uD b=some res):Sp 155 [.int .u8 b] h (z7 (zF res) h):=by
 unfold uD at a;refine y8 Tryz.func155 12 ?_;refine cF a (λc a=>?_) (λc a=>?_)
 ·refine zO sb ?_;exact Z
 ·refine zO sb ?_;exact Z
theorem zrZ {c:(List zq)} {b:Int} {res:(GE×Bool)}  (a:uu t0 c b=some res):Sp 121 [zb t0,yR c,.int .u8 b] h (z7 (.fk [zF res.1,.bool res.2]) h):=by
 unfold uu at a;refine y8 Tryz.func121 66 ?_;refine ln λi=>?_;replace i:=zvV i;refine zy rfl (wv rfl gg rfl rfl) ss ?_;refine zy rfl (ve rfl gg (zc rfl)) ss ?_;refine yG (ww ?_);refine zdq (λ(d:Bool×zq×(List GE)×(List GC))=>zk 0 5 (zk 10 56 [(7,.any),(9,.bool d.1)])) (λd=>h.ext [.cells [.int .u8 b],.cells wD,.cells [.str d.2.1,zH d.2.2.1,zb d.2.2.2]] []) a (λ_=>UE) (λD a B=>?_) (λd a=>?_)
 ·apply R.r;refine xU λq=>qe (h0:=wk.trans (zfw (j:=2) rfl (by exact (.eq (.cons (g6.gW _ _ _) (.cons (g6.gW _ _ _) fd.nil)))) rfl rfl) (wk.le (by exact (.cons (g6.of_eq rfl) (.d4 (.eq (.eq (.drop (.eq (.cons (g6.of_eq rfl) (.d4 (.drop (.drop (.drop (.eq (.eq (.cons (g6.of_eq rfl) (.d16 (.d16 (.d4 (.d4 (.d4 (.drop (.drop fd.nil)))))))))))))))))))))))) (λ(n2:Nat) (s2:(List GC)×Bool×zq×(List GE)×(List GC))=>zk 1 4 (zk 10 7 (zk 20 46 [(7,.any),(0,zb s2.1),(9,.bool s2.2.1),(19,.int .i64 (n2:Int))]))) (λs2=>h.ext [.cells [.int .u8 b],.cells wD,.cells [.str s2.2.2.1,zH s2.2.2.2.1,zb s2.2.2.2.2]] []) a (λn2 s2 x a=>cL a (λx2 C u n a p=>?_) (λa=>?_))
  ·refine ix (zt n) (R.r ?_);refine cB a (λ_=>zf5) λt a=>cF a (λm a=>?_) (λm a=>?_)
   ·refine tD (by decide) (R.r ?_);cases a;replace a:=p;apply R.r;refine tC ?_;exact ZL
   ·exact ZL
  ·refine tC ?_;exact ZL
 ·apply R.r;refine zO mF ?_;refine cB a (λ_=>zuC (λ_ v L M z=>zuB (vq (j:=0) rfl) z)) λA a=>qc a (λv50 f a=>?_);refine w8 rfl sc (λo=>zrO (f o)) ss ?_;refine vN rfl (λo=>zb3 rfl zsu ty5 (zN gg o) rfl (zc rfl)) ss (R.r ?_);refine cF a (λe a=>?_) (λe a=>?_)
  ·refine cB a (λ_=>zrO) λs a=>?_;exact Z
  ·refine zd a (λw k a=>ix k (R.r ?_));refine dr [] ?_;refine zd a (λy l a=>wq rfl fY.nil (by rfl) rfl (sc rfl) (oX (zpP l)) ss (R.r ?_));refine zd a (λv55 g a=>wq rfl fY.nil (by rfl) rfl (sc rfl) (oX (zpH g)) ss (R.r ?_));refine ur fS.out ?_;refine ur fS.out ?_;exact Z
theorem zpN {b:GC} {c:Int} {res:(GE×Bool)}  (a:x7 b c=some res):Sp 200 [.agg [.str b.name,zH b.leaves,zb b.w5],.int .u8 c] h (z7 (.fk [zF res.1,.bool res.2]) h):=by
 unfold x7 at a;refine y8 Tryz.func200 15 ?_;refine zO (xh (es:=([b]:List GC).map GC.row) rfl wp br rfl rfl cw.o ct.o rfl rfl (by simp only [ld,kb,GC.q8];rfl)) ?_;refine zO (bs (([b.name]:List zq).map yp)) ?_;refine zd a (λe d a=>cp ((zrZ d).le (.cons (g6.gW _ _ _) (.cons (g6.gW _ _ _) (.eq fd.nil)))) (R.r ?_));exact Z
theorem zuc  (a:ui l0 a1 b2=some res):Sp 231 [zF l0,zF a1,zF b2] h (z7 (zF res) h):=by
 unfold ui at a;refine y8 Tryz.func231 17 ?_;exact Z
theorem zub  (a:qu pp0 a1 b2=some res):Sp 232 [zF pp0,zF a1,zF b2] h (z7 (zF res) h):=by
 unfold qu at a;refine y8 Tryz.func232 29 ?_;refine cG a (λ_=>zjV) λc a=>cF a (λb a=>?_) (λb a=>?_)
 ·exact Z
 ·exact Z
theorem zrm {res:(List GA)} (b:h.zh.length=bl) (g:h.zs.length=tl) (a:uw ([]:List GA) nn1=some res):Sp 288 [.gW none 3 [],.int .i64 nn1] h (z7 (.fm bl tl 3 res.length) (h.ext [.row tl 3 (res.map GA.row)] [res.length])):=by
 unfold uw at a;subst b g;refine y8 Tryz.func288 27 ?_;refine cF a (λk a=>?_) (λk a=>?_)
 ·refine nZ (zgJ rfl cu rfl rfl (zc rfl)) ?_;cases a
 ·refine nZ (zoh rfl rfl rfl rfl p6 gg (zc rfl)) ?_;refine ln λn=>R.r ?_;refine cF a (λf a=>?_) (λf a=>?_)
  ·refine nZ (zoh rfl rfl rfl rfl p6 gg (zc rfl)) ?_;refine nZ (zoZ rfl p6 gg gg) ?_;refine zM a (λe a=>nZ (zmy (row:=GA.row) (d:=(GA.mk (GH.mk (0:Int) (0:Int)) (0:Int))) (B':=[yq h 0 3 ((List.replicate (IntKind.wrap .i64 (nn1 - (IntKind.wrap .i64 ((0:Int) - ((0:Nat):Int))))).toNat (GA.mk (GH.mk (0:Int) (0:Int)) (0:Int))).map GA.row)]) (T':=[(IntKind.wrap .i64 (nn1 - (IntKind.wrap .i64 ((0:Int) - ((0:Nat):Int))))).toNat]) rfl rfl rfl rfl p6 aL zqJ rfl rfl gg (zc rfl) gg e rfl rfl rfl rfl) ?_);refine ln λm=>zd a (λl c a=>nZ (zdU (i:=0) (j:=0) (L:=(List.replicate (IntKind.wrap .i64 (nn1 - (IntKind.wrap .i64 ((0:Int) - ((0:Nat):Int))))).toNat (GA.mk (GH.mk (0:Int) (0:Int)) (0:Int)))) (row:=GA.row) (B':=[.dead,yq h 1 3 (l.map GA.row)]) (T':=[((IntKind.wrap .i64 (nn1 - (IntKind.wrap .i64 ((0:Int) - ((0:Nat):Int))))).toNat)+1,l.length]) rfl p6 gg gg rfl List.length_replicate c rfl rfl rfl rfl) ?_);cases a;refine fr rfl (tP (rD (j:=1) (i:=1) rfl (by simp)) ?_);exact ⟨by simp only [oS];try rfl,by simp only [oS];try rfl⟩
  ·cases a;refine fr rfl (tP zcz ?_);exact ⟨rfl,rfl⟩
theorem zrn {b:(List (List GA))} {res:(List GA)} (e:h.zh.length=bl) (i:h.zs.length=tl) (a:qj b=some res):Sp 266 [.sl 1 (b.map (λl=>[za l]))] h (z7 (.fm bl tl 3 res.length) (h.ext [.row tl 3 (res.map GA.row)] [res.length])):=by
 unfold qj at a;subst e i;refine y8 Tryz.func266 36 ?_;refine xU λq=>qe (λ(o:Nat) (m:Int)=>zk 1 2 (zk 4 5 (zk 12 24 [(3,.int .i64 m),(11,.int .i64 (o:Int))]))) (λm=>h.ext [] []) a (λo m p a=>cL a (λx1 A x j a y=>?_) (λa=>?_))
 ·refine ix (zt j) (R.r ?_);refine xU λs=>cF a (λk a=>?_) (λk a=>?_)
  ·refine nZ (zgJ rfl cu rfl rfl (zc rfl)) ?_;cases a
  ·exact ZL
 ·refine zd a (λf d a=>e6 (rV (w:=zU h 0 0 3 (f.length)) (zrm (by rw [xj];rfl) (by rw [sC];rfl) d) rfl) ?_);refine xU λn=>qe (λ(n2:Nat) (s2:(List GA))=>zk 0 6 (zk 7 18 (zk 28 8 [(6,zU h 0 0 3 (s2.length)),(27,.int .i64 (n2:Int))]))) (λs2=>h.ext [yq h 0 3 (s2.map GA.row)] [s2.length]) a (λn2 s2 u a=>cL a (λx2 z t g a v=>?_) (λa=>?_))
  ·refine ix (zt g) (R.r ?_);refine zM a (λc a=>zO (eR c) ?_);exact ZL
  ·exact Z
theorem zt8 {res:Int}  (a:tz ss0 vv1=some res):Sp 236 [za ss0,zn vv1] h (z7 (.int .i64 res) h):=by
 unfold tz at a;refine y8 Tryz.func236 19 ?_;refine xU λj=>qe (λ(e:Nat) (f:Unit)=>zk 1 2 (zk 4 3 (zk 9 10 [(8,.int .i64 (e:Int))]))) (λf=>h.ext [.cells (GA.row vv1)] []) a (λe f g a=>cL a (λx1 k i d a c=>?_) (λa=>?_))
 ·refine dr [] ?_;refine eU (zt d) (R.r ?_);refine wo (wv rfl gg gg (rz p5 rfl)) ?_;refine cF a (λb a=>?_) (λb a=>?_)
  ·cases a;replace a:=c;apply R.r;exact Z
  ·exact ZL
 ·exact Z
theorem zpM {res:Bool}  (a:xl ss0 vv1=some res):Sp 204 [za ss0,zn vv1] h (z7 (.bool res) h):=by
 unfold xl at a;refine y8 Tryz.func204 9 ?_;refine cB a (λ_=>zt8) λb a=>?_;exact Z
theorem zrk {res:(List GF)} (b:h.zh.length=bl) (g:h.zs.length=tl) (a:qH ([]:List GF) nn1=some res):Sp 299 [.gW none 5 [],.int .i64 nn1] h (z7 (.fm bl tl 5 res.length) (h.ext [.row tl 5 (res.map GF.row)] [res.length])):=by
 unfold qH at a;subst b g;refine y8 Tryz.func299 27 ?_;refine cF a (λk a=>?_) (λk a=>?_)
 ·refine nZ (zgJ rfl cu rfl rfl (zc rfl)) ?_;cases a
 ·refine nZ (zoh rfl rfl rfl rfl bf gg (zc rfl)) ?_;refine ln λn=>R.r ?_;refine cF a (λf a=>?_) (λf a=>?_)
  ·refine nZ (zoh rfl rfl rfl rfl bf gg (zc rfl)) ?_;refine nZ (zoZ rfl bf gg gg) ?_;refine zM a (λe a=>nZ (zmy (row:=GF.row) (d:=(GF.mk (0:Int) (GA.mk (GH.mk (0:Int) (0:Int)) (0:Int)) ([]:zq))) (B':=[yq h 0 5 ((List.replicate (IntKind.wrap .i64 (nn1 - (IntKind.wrap .i64 ((0:Int) - ((0:Nat):Int))))).toNat (GF.mk (0:Int) (GA.mk (GH.mk (0:Int) (0:Int)) (0:Int)) ([]:zq))).map GF.row)]) (T':=[(IntKind.wrap .i64 (nn1 - (IntKind.wrap .i64 ((0:Int) - ((0:Nat):Int))))).toNat]) rfl rfl rfl rfl bf aL zo1 rfl rfl gg (zc rfl) gg e rfl rfl rfl rfl) ?_);refine ln λm=>zd a (λl c a=>nZ (zdU (i:=0) (j:=0) (L:=(List.replicate (IntKind.wrap .i64 (nn1 - (IntKind.wrap .i64 ((0:Int) - ((0:Nat):Int))))).toNat (GF.mk (0:Int) (GA.mk (GH.mk (0:Int) (0:Int)) (0:Int)) ([]:zq)))) (row:=GF.row) (B':=[.dead,yq h 1 5 (l.map GF.row)]) (T':=[((IntKind.wrap .i64 (nn1 - (IntKind.wrap .i64 ((0:Int) - ((0:Nat):Int))))).toNat)+1,l.length]) rfl bf gg gg rfl List.length_replicate c rfl rfl rfl rfl) ?_);cases a;refine fr rfl (tP (rD (j:=1) (i:=1) rfl (by simp)) ?_);exact ⟨by simp only [oS];try rfl,by simp only [oS];try rfl⟩
  ·cases a;refine fr rfl (tP zcz ?_);exact ⟨rfl,rfl⟩
theorem zrl {b:(List (List GF))} {res:(List GF)} (e:h.zh.length=bl) (i:h.zs.length=tl) (a:wH b=some res):Sp 290 [.sl 1 (b.map (λl=>[yy l]))] h (z7 (.fm bl tl 5 res.length) (h.ext [.row tl 5 (res.map GF.row)] [res.length])):=by
 unfold wH at a;subst e i;refine y8 Tryz.func290 36 ?_;refine xU λq=>qe (λ(o:Nat) (m:Int)=>zk 1 2 (zk 4 5 (zk 12 24 [(3,.int .i64 m),(11,.int .i64 (o:Int))]))) (λm=>h.ext [] []) a (λo m p a=>cL a (λx1 A x j a y=>?_) (λa=>?_))
 ·refine ix (zt j) (R.r ?_);refine xU λs=>cF a (λk a=>?_) (λk a=>?_)
  ·refine nZ (zgJ rfl cu rfl rfl (zc rfl)) ?_;cases a
  ·exact ZL
 ·refine zd a (λf d a=>e6 (rV (w:=zU h 0 0 5 (f.length)) (zrk (by rw [xj];rfl) (by rw [sC];rfl) d) rfl) ?_);refine xU λn=>qe (λ(n2:Nat) (s2:(List GF))=>zk 0 6 (zk 7 18 (zk 28 8 [(6,zU h 0 0 5 (s2.length)),(27,.int .i64 (n2:Int))]))) (λs2=>h.ext [yq h 0 5 (s2.map GF.row)] [s2.length]) a (λn2 s2 u a=>cL a (λx2 z t g a v=>?_) (λa=>?_))
  ·refine ix (zt g) (R.r ?_);refine zM a (λc a=>zO (eR c) ?_);exact ZL
  ·exact Z
def zc8:Go.Shelf.Ren :=
  { f:=λx=>match x with
      | 6=>291
      | 15=>141
      | 14=>300
      | 28=>179
      | 29=>180
      | 20=>303
      | 21=>304
      | 22=>305
      | 23=>306
      | 24=>307
      | 25=>308
      | 26=>309
      | 27=>310
      | 46=>311
      | 47=>220
      | 48=>221
      | 49=>312
      | 50=>313
      | 57=>314
      | n=>n
    t:=λx=>match x with
      | 22=>68
      | 24=>133
      | 25=>273
      | 3=>3
      | 39=>180
      | 0=>0
      | 53=>45
      | 55=>22
      | 4=>4
      | 46=>217
      | 45=>216
      | 50=>207
      | 5=>5
      | 9=>9
      | 66=>255
      | 70=>259
      | 76=>282
      | 77=>283
      | n=>n
    g:=λn=>n }
theorem zbX:Go.Proofs.SlLaysF0.n6 Tryz.prog zc8 where
  mixed:=mixed
  f6:=⟨Tryz.f291.name,by kernel_rfl,Tryz.func291.trans (by kernel_rfl)⟩
  f15:=Tryz.func141.trans (by kernel_rfl)
  f14:=⟨Tryz.f300.name,by kernel_rfl,Tryz.func300.trans (by kernel_rfl)⟩
  f28:=Tryz.func179.trans (by kernel_rfl)
  f29:=Tryz.func180.trans (by kernel_rfl)
  f20:=⟨Tryz.f303.name,by kernel_rfl,Tryz.func303.trans (by kernel_rfl)⟩
  f21:=⟨Tryz.f304.name,by kernel_rfl,Tryz.func304.trans (by kernel_rfl)⟩
  f22:=⟨Tryz.f305.name,by kernel_rfl,Tryz.func305.trans (by kernel_rfl)⟩
  f23:=⟨Tryz.f306.name,by kernel_rfl,Tryz.func306.trans (by kernel_rfl)⟩
  f24:=⟨Tryz.f307.name,by kernel_rfl,Tryz.func307.trans (by kernel_rfl)⟩
  f25:=⟨Tryz.f308.name,by kernel_rfl,Tryz.func308.trans (by kernel_rfl)⟩
  f26:=⟨Tryz.f309.name,by kernel_rfl,Tryz.func309.trans (by kernel_rfl)⟩
  f27:=⟨Tryz.f310.name,by kernel_rfl,Tryz.func310.trans (by kernel_rfl)⟩
  f46:=⟨Tryz.f311.name,by kernel_rfl,Tryz.func311.trans (by kernel_rfl)⟩
  f47:=Tryz.func220.trans (by kernel_rfl)
  f48:=Tryz.func221.trans (by kernel_rfl)
  f49:=⟨Tryz.f312.name,by kernel_rfl,Tryz.func312.trans (by kernel_rfl)⟩
  f50:=⟨Tryz.f313.name,by kernel_rfl,Tryz.func313.trans (by kernel_rfl)⟩
  f57:=⟨Tryz.f314.name,by kernel_rfl,Tryz.func314.trans (by kernel_rfl)⟩
  t0:=Tryz.underlying0
  a0:=Tryz.isAgg0
  z0:=Tryz.sizeOf0
  v0:=Tryz.zeroValue0
  t3:=Tryz.underlying3
  a3:=Tryz.isAgg3
  z3:=Tryz.sizeOf3
  v3:=Tryz.zeroValue3
  t4:=Tryz.underlying4
  a4:=Tryz.isAgg4
  z4:=Tryz.sizeOf4
  v4:=Tryz.zeroValue4
  t5:=Tryz.underlying5
  a5:=Tryz.isAgg5
  z5:=Tryz.sizeOf5
  v5:=Tryz.zeroValue5
  t9:=Tryz.underlying9
  a9:=Tryz.isAgg9
  z9:=Tryz.sizeOf9
  v9:=Tryz.zeroValue9
  t22:=Tryz.underlying68
  a22:=Tryz.isAgg68
  z22:=Tryz.sizeOf68
  v22:=Tryz.zeroValue68
  t25:=Tryz.underlying273
  a25:=Tryz.isAgg273
  z25:=Tryz.sizeOf273
  v25:=Tryz.zeroValue273
  t39:=Tryz.underlying180
  a39:=Tryz.isAgg180
  z39:=Tryz.sizeOf180
  v39:=Tryz.zeroValue180
  t45:=Tryz.underlying216
  a45:=Tryz.isAgg216
  z45:=Tryz.sizeOf216
  v45:=Tryz.zeroValue216
  t46:=Tryz.underlying217
  a46:=Tryz.isAgg217
  z46:=Tryz.sizeOf217
  v46:=Tryz.zeroValue217
  t50:=Tryz.underlying207
  a50:=Tryz.isAgg207
  z50:=Tryz.sizeOf207
  v50:=Tryz.zeroValue207
  t53:=Tryz.underlying45
  a53:=Tryz.isAgg45
  z53:=Tryz.sizeOf45
  v53:=Tryz.zeroValue45
  t55:=Tryz.underlying22
  a55:=Tryz.isAgg22
  z55:=Tryz.sizeOf22
  v55:=Tryz.zeroValue22
  t66:=Tryz.underlying255
  a66:=Tryz.isAgg255
  z66:=Tryz.sizeOf255
  v66:=Tryz.zeroValue255
  t70:=Tryz.underlying259
  a70:=Tryz.isAgg259
  z70:=Tryz.sizeOf259
  v70:=Tryz.zeroValue259
  t76:=Tryz.underlying282
  a76:=Tryz.isAgg282
  z76:=Tryz.sizeOf282
  v76:=Tryz.zeroValue282
  t77:=Tryz.underlying283
  a77:=Tryz.isAgg283
  z77:=Tryz.sizeOf283
  v77:=Tryz.zeroValue283
theorem zt1 {b:GF} {c:GF} {res:Int}  (a:te b c=some res):Sp 292 [wP b,wP c] h (z7 (.int .i64 res) h):=by
 unfold te at a;refine y8 Tryz.func292 14 ?_;refine cB a (λ_=>zjV) λe a=>cF a (λd a=>?_) (λd a=>?_)
 ·exact Z
 ·exact Z
theorem zrC {a0:(List GF)} {B:(List GF)} {b:(List GA)} {res:(List GF)}  (a:rU a0 B b=some res):Sp 267 [yy a0,yy B,za b] h (z7 (yy res) h):=by
 unfold rU at a;refine y8 Tryz.func267 29 ?_;refine zO (tg (n:=2) rfl rfl) ?_;refine zO mF ?_;refine zO (bs (([a0,B]:List (List GF)).map (λl=>[yy l]))) ?_;refine zd a (λg C a=>e6 (rV (w:=zU h 4 0 5 (g.length)) (Spec.le (zrl (by rw [xj];rfl) (by rw [sC];rfl) C) (.cons (g6.gW _ _ _) fd.nil)) rfl) ?_);refine ln λH=>R.r ?_;refine zM a (λK a=>qe (h0:=wk.trans ((zfC (jb:=1) (o:=0) (B':=[.cells [za b],.cells [zU h 5 1 5 ((([]:List GF)).length)],.q7 (([]:List (GA×Int)).map (zZ (λx=>zn x) (AV.int .i64))) 0,.cells [.map (h.zh.length+2)],yq h 0 5 (g.map GF.row),yq h 1 5 (([]:List GF).map GF.row)]) (T':=[g.length,(([]:List GF)).length]) rfl rfl rfl rfl rfl rfl rfl).wk) (wk.le f9.o)) (λ(D:Nat) (e:List (GA×Int)×(List GF))=>zk 0 6 (zk 9 7 (zk 19 10 [(7,.any),(18,.int .i64 (D:Int))]))) (λe=>h.ext [.cells [za b],.cells [zU h 5 1 5 ((e.2).length)],.q7 (e.1.map (zZ (λx=>zn x) (AV.int .i64))) 0,.cells [.map (h.zh.length+2)],yq h 0 5 (g.map GF.row),yq h 1 5 (e.2.map GF.row)] [g.length,(e.2).length]) a (λD e E a=>?_));refine zaH gg a (λx1 L I F G a J=>?_) (λa=>?_)
 ·apply R.r;refine zd a (λc t a=>zO (iR (yZ t rfl)) ?_);refine zO (vn (off:=0) (i:=4) (q:=h.zs.length+0) (z:=(D:Int).toNat) (row:=GF.row) (λ_=>rfl) rfl dz.choose_spec.1 (by decide) gg rfl rfl (wy t).2.2 (yj (cs':=(GF.row c)) dz.choose_spec.2 rfl rfl) (zc rfl)) ?_;refine zd a (λp y a=>yC (args:=[wP c,.ptr (h.zh.length+3) 0,.ptr (h.zh.length+0) 0,.ptr (h.zh.length+1) 0]) (X:=Unit) (v:=.fk []) (H':=λ_=>h.ext [.cells [za b],.cells [zU h 5 1 5 ((p.2).length)],.q7 (p.1.map (zZ (λx=>zn x) (AV.int .i64))) 0,.cells [.map (h.zh.length+2)],yq h 0 5 (g.map GF.row),yq h 1 5 (p.2.map GF.row),.cells (GF.row c)] [g.length,(p.2).length]) rfl (zb4 rfl rfl gg fZ.o fT.o rfl) ?_ ss (λ_=>?_))
  ·replace a:=y;refine eW Tryz.func289 28 ?_;refine zeB [3] (λ_=>ztc h 2 (e.1.map (zZ (λx=>zn x) (AV.int .i64))) ((bE GA.fi (0:Int) e.1 c.z6).map (zZ (λx=>zn x) (AV.int .i64)))) (λ_=>⟨_,_,rfl,.inl rfl⟩) mixed kr (R.r ?_);refine yM rfl rfl (zcH (m:=e.1) (k:=c.z6) (d:=(0:Int)) (j:=2) (kv:=(λx=>zn x)) (vv:=(AV.int .i64)) rfl Tryz.underlying123 bD az3 gg gg) ss (R.r ?_);refine uA rfl (fY.all ⟨_,_,rfl,.inr rfl⟩) kr rfl (zhL (m:=e.1) (k:=c.z6) (d:=(0:Int)) (j:=2) (kv:=(λx=>zn x)) (vv:=(AV.int .i64)) rfl Tryz.underlying123 bD az3 gg rfl gg rfl) ss (R.r ?_);refine uA rfl (fY.skip kr) kr rfl (nF (m:=e.1) (k:=c.z6) (d:=(0:Int)) (v:=(IntKind.wrap .i64 ((zG GA.fi (0:Int) e.1 c.z6)+(1:Int)))) (j:=2) (eq:=GA.fi) (kv:=(λx=>zn x)) (vv:=(AV.int .i64)) rfl gg rfl gg rfl gg rfl rfl) rfl (R.r ?_);refine zO (mL Tryz.underlying123 bD az3) ?_;refine cG a (λ_=>zpM) λv22 a=>cF a (λA a=>?_) (λA a=>?_)
   ·refine zO (bs (([c]:List GF).map GF.row)) ?_;refine zM a (λu a=>zO (eR u) ?_);exact ZO
   ·exact ZO
  ·apply R.r;exact ZL
 ·apply R.r;refine zd a (λv25 f a=>zam rfl (sc rfl) (r8 zbX Tryz.isAgg133 Tryz.sizeOf133 (λ_=>rfl) (λ_=>rfl) (oT Tryz.func292 rfl kr) (λ_ _ _ h=>zt1 h) f (i:=5) (B':=[.cells [za b],.cells [zU h 5 1 5 ((e.2).length)],.q7 (e.1.map (zZ (λx=>zn x) (AV.int .i64))) 0,.cells [.map (h.zh.length+2)],yq h 0 5 (g.map GF.row),yq h 1 5 (v25.map GF.row)]) rfl rfl) ss ?_);refine yG ?_;refine zk6 (wk.trans ((yd (j:=4) (m:=0) (B':=[.cells [za b],.cells [zU h 5 1 5 ((e.2).length)],.q7 (e.1.map (zZ (λx=>zn x) (AV.int .i64))) 0,.cells [.map (h.zh.length+2)],.dead,yq h 1 5 (v25.map GF.row)]) (T':=[(g.map GF.row).length+1,(e.2).length]) rfl (by exact (.dV (.cons (eX.fA _ _ (by simp)) (eG.refl _)))) rfl rfl).wk) ((uR (j:=5) (jb:=1) (m:=1) (B':=[.cells [za b],.cells [yy v25],.q7 (e.1.map (zZ (λx=>zn x) (AV.int .i64))) 0,.cells [.map (h.zh.length+2)],.dead,.dead]) (T':=[(g.map GF.row).length+1,(v25.map GF.row).length+1]) rfl (by exact (.dV (.s4 (.s4 (.s (.s (.cons (eX.fA _ _ (by rw [oS];exact kO (qr f))) (eG.refl _)))))))) rfl (by exact (.cons (eX.fA _ _ (by rw [oS];exact kO (qr f))) (eG.refl _))) rfl rfl).wk)) ?_;apply R.r;exact Z
def zc9:Go.Shelf.Ren :=
  { f:=λx=>match x with
      | 6=>206
      | 15=>141
      | 14=>240
      | 28=>179
      | 29=>180
      | 20=>270
      | 21=>271
      | 22=>272
      | 23=>273
      | 24=>274
      | 25=>275
      | 26=>276
      | 27=>277
      | 46=>294
      | 47=>220
      | 48=>221
      | 49=>295
      | 50=>296
      | 57=>302
      | n=>n
    t:=λx=>match x with
      | 22=>23
      | 24=>49
      | 25=>119
      | 3=>3
      | 39=>180
      | 0=>0
      | 53=>45
      | 55=>22
      | 4=>4
      | 46=>217
      | 45=>216
      | 50=>207
      | 5=>5
      | 9=>9
      | 66=>255
      | 70=>259
      | 76=>282
      | 77=>283
      | n=>n
    g:=λn=>n }
theorem nP:Go.Proofs.SlLaysF0.n6 Tryz.prog zc9 where
  mixed:=mixed
  f6:=⟨Tryz.f206.name,by kernel_rfl,Tryz.func206.trans (by kernel_rfl)⟩
  f15:=Tryz.func141.trans (by kernel_rfl)
  f14:=⟨Tryz.f240.name,by kernel_rfl,Tryz.func240.trans (by kernel_rfl)⟩
  f28:=Tryz.func179.trans (by kernel_rfl)
  f29:=Tryz.func180.trans (by kernel_rfl)
  f20:=⟨Tryz.f270.name,by kernel_rfl,Tryz.func270.trans (by kernel_rfl)⟩
  f21:=⟨Tryz.f271.name,by kernel_rfl,Tryz.func271.trans (by kernel_rfl)⟩
  f22:=⟨Tryz.f272.name,by kernel_rfl,Tryz.func272.trans (by kernel_rfl)⟩
  f23:=⟨Tryz.f273.name,by kernel_rfl,Tryz.func273.trans (by kernel_rfl)⟩
  f24:=⟨Tryz.f274.name,by kernel_rfl,Tryz.func274.trans (by kernel_rfl)⟩
  f25:=⟨Tryz.f275.name,by kernel_rfl,Tryz.func275.trans (by kernel_rfl)⟩
  f26:=⟨Tryz.f276.name,by kernel_rfl,Tryz.func276.trans (by kernel_rfl)⟩
  f27:=⟨Tryz.f277.name,by kernel_rfl,Tryz.func277.trans (by kernel_rfl)⟩
  f46:=⟨Tryz.f294.name,by kernel_rfl,Tryz.func294.trans (by kernel_rfl)⟩
  f47:=Tryz.func220.trans (by kernel_rfl)
  f48:=Tryz.func221.trans (by kernel_rfl)
  f49:=⟨Tryz.f295.name,by kernel_rfl,Tryz.func295.trans (by kernel_rfl)⟩
  f50:=⟨Tryz.f296.name,by kernel_rfl,Tryz.func296.trans (by kernel_rfl)⟩
  f57:=⟨Tryz.f302.name,by kernel_rfl,Tryz.func302.trans (by kernel_rfl)⟩
  t0:=Tryz.underlying0
  a0:=Tryz.isAgg0
  z0:=Tryz.sizeOf0
  v0:=Tryz.zeroValue0
  t3:=Tryz.underlying3
  a3:=Tryz.isAgg3
  z3:=Tryz.sizeOf3
  v3:=Tryz.zeroValue3
  t4:=Tryz.underlying4
  a4:=Tryz.isAgg4
  z4:=Tryz.sizeOf4
  v4:=Tryz.zeroValue4
  t5:=Tryz.underlying5
  a5:=Tryz.isAgg5
  z5:=Tryz.sizeOf5
  v5:=Tryz.zeroValue5
  t9:=Tryz.underlying9
  a9:=Tryz.isAgg9
  z9:=Tryz.sizeOf9
  v9:=Tryz.zeroValue9
  t22:=Tryz.underlying23
  a22:=Tryz.isAgg23
  z22:=Tryz.sizeOf23
  v22:=Tryz.zeroValue23
  t25:=Tryz.underlying119
  a25:=Tryz.isAgg119
  z25:=Tryz.sizeOf119
  v25:=Tryz.zeroValue119
  t39:=Tryz.underlying180
  a39:=Tryz.isAgg180
  z39:=Tryz.sizeOf180
  v39:=Tryz.zeroValue180
  t45:=Tryz.underlying216
  a45:=Tryz.isAgg216
  z45:=Tryz.sizeOf216
  v45:=Tryz.zeroValue216
  t46:=Tryz.underlying217
  a46:=Tryz.isAgg217
  z46:=Tryz.sizeOf217
  v46:=Tryz.zeroValue217
  t50:=Tryz.underlying207
  a50:=Tryz.isAgg207
  z50:=Tryz.sizeOf207
  v50:=Tryz.zeroValue207
  t53:=Tryz.underlying45
  a53:=Tryz.isAgg45
  z53:=Tryz.sizeOf45
  v53:=Tryz.zeroValue45
  t55:=Tryz.underlying22
  a55:=Tryz.isAgg22
  z55:=Tryz.sizeOf22
  v55:=Tryz.zeroValue22
  t66:=Tryz.underlying255
  a66:=Tryz.isAgg255
  z66:=Tryz.sizeOf255
  v66:=Tryz.zeroValue255
  t70:=Tryz.underlying259
  a70:=Tryz.isAgg259
  z70:=Tryz.sizeOf259
  v70:=Tryz.zeroValue259
  t76:=Tryz.underlying282
  a76:=Tryz.isAgg282
  z76:=Tryz.sizeOf282
  v76:=Tryz.zeroValue282
  t77:=Tryz.underlying283
  a77:=Tryz.isAgg283
  z77:=Tryz.sizeOf283
  v77:=Tryz.zeroValue283
theorem zoB {res:(List GA)} (C:h.zh.length=bl) (D:h.zs.length=tl) (a:we ss0=some res):Sp 207 [.fm bl tl 3 ss0.length] (h.ext [.row tl 3 (ss0.map GA.row)] [ss0.length]) (zor h bl tl 3 res.length (res.map GA.row)):=by
 unfold we at a;subst C D;refine eW Tryz.func207 61 ?_;refine xU λM=>cF a (λH a=>?_) (λH a=>?_)
 ·cases a;refine fr rfl (oP (row:=GA.row) ?_);exact ⟨rfl,_,rfl⟩
 ·refine xd (λ(n:Int)=>zk 1 2 (zk 4 57 [(3,.int .i64 n)])) (λn=>h.ext [yq h 0 3 (ss0.map GA.row)] [ss0.length]) a (λ_=>UE) (wk.le f9.o) ?_;intro Q n P a y;apply R.r;refine xU λJ=>cF a (λA a=>?_) (λA a=>?_)
  ·refine dr [] ?_;refine zd a (λB m a=>wo (iR (yZ m rfl)) ?_);refine wo (vn (off:=0) (i:=0) (q:=h.zs.length+0) (z:=n.toNat) (row:=GA.row) (λ_=>rfl) rfl f5.choose_spec.1 (by decide) gg rfl rfl (wy m).2.2 (yj (cs':=(GA.row B)) f5.choose_spec.2 rfl rfl) (zc rfl)) ?_;refine zd a (λE l a=>wo (iR (yZ l rfl)) ?_);refine wo (vn (off:=0) (i:=0) (q:=h.zs.length+0) (z:=(IntKind.wrap .i64 (n - (1:Int))).toNat) (row:=GA.row) (λ_=>rfl) rfl f5.choose_spec.1 (by decide) gg rfl rfl (wy l).2.2 (yj (cs':=(GA.row E)) f5.choose_spec.2 rfl rfl) (zc rfl)) ?_;refine wo (wv rfl gg gg (rz p5 rfl)) ?_;refine cF a (λu a=>?_) (λu a=>?_)
   ·refine zM a (λx a=>nZ (zgv rfl p6 gg gg x) ?_);refine xd (λ(s2:Int×Int×(List GA))=>zk 1 2 (zk 6 55 [(3,.int .i64 s2.1),(5,.int .i64 s2.2.1)])) (λs2=>h.ext [yq h 0 3 (s2.2.2.map GA.row)] [ss0.length]) a (λ_=>UE) (wk.le f9.o) ?_;intro n2 s2 O a F;refine zM a (λb a=>R.r ?_);refine ln λK=>R.r ?_;refine cF a (λs a=>?_) (λs a=>?_)
    ·refine dr [] ?_;refine zd a (λG c a=>?_);replace c:=zqO c;refine wo (zdT rfl p6 gg gg ⟨c.1,by have:=c.2.1;have:=b;omega⟩) ?_;refine wo (vn (off:=0) (i:=0) (q:=h.zs.length+0) (z:=(n.toNat+s2.2.1.toNat)) (row:=GA.row) (λ_=>rfl) rfl f5.choose_spec.1 (by decide) gg rfl b c.2.2 (yj (cs':=(GA.row G)) f5.choose_spec.2 rfl rfl) (zc rfl)) ?_;refine zd a (λI f a=>?_);replace f:=zqO f;refine wo (zdT rfl p6 gg gg ⟨f.1,by have:=f.2.1;have:=b;omega⟩) ?_;refine wo (vn (off:=0) (i:=0) (q:=h.zs.length+0) (z:=(n.toNat+(IntKind.wrap .i64 (s2.2.1 - (1:Int))).toNat)) (row:=GA.row) (λ_=>rfl) rfl f5.choose_spec.1 (by decide) gg rfl b f.2.2 (yj (cs':=(GA.row I)) f5.choose_spec.2 rfl rfl) (zc rfl)) ?_;refine wo (wv rfl gg gg (pG p5 rfl)) ?_;refine cF a (λt a=>?_) (λt a=>?_)
     ·refine zd a (λk e a=>?_);replace e:=zqO e;refine zO (zdT rfl p6 gg gg ⟨e.1,by have:=e.2.1;have:=b;omega⟩) ?_;refine zO (vn (off:=0) (i:=0) (q:=h.zs.length+0) (z:=(n.toNat+s2.2.1.toNat)) (row:=GA.row) (λ_=>rfl) rfl f5.choose_spec.1 (by decide) gg rfl b e.2.2 (yj (cs':=(GA.row k)) f5.choose_spec.2 rfl rfl) (zc rfl)) ?_;refine zd a (λN p a=>zO (iR (yZ p b)) ?_);refine zO (ql (off:=0) (i:=0) (q:=h.zs.length+0) (z:=s2.1.toNat) (row:=GA.row) (y':=k) (us:=(GA.row k)) (B':=[yq h 0 3 ((s2.2.2.set s2.1.toNat k).map GA.row)]) (λ_=>rfl) rfl f5.choose_spec.1 gg gg (zc rfl) rfl rfl rfl rfl b (wy p).2.2 (by decide) rfl rfl) ?_;exact ZL
     ·exact ZL
    ·cases a;replace a:=F;apply R.r;refine zM a (λg a=>nZ (zgv rfl p6 gg gg g) ?_);refine nZ (zma (i:=0) (q:=h.zs.length+0) (L:=s2.2.2) (row:=GA.row) (d:=(GA.mk (GH.mk (0:Int) (0:Int)) (0:Int))) (B':=[yq h 0 3 ((s2.2.2.take s2.1.toNat++List.replicate (ss0.length - s2.1.toNat) (GA.mk (GH.mk (0:Int) (0:Int)) (0:Int))).map GA.row)]) (λ_=>rfl) rfl rfl rfl rfl p6 zqJ rfl gg rfl b (iT.2 g.2) rfl) ?_;refine zd a (λv w a=>nZ (zdU (i:=0) (j:=0) (L:=(s2.2.2.take s2.1.toNat++List.replicate (ss0.length - s2.1.toNat) (GA.mk (GH.mk (0:Int) (0:Int)) (0:Int)))) (row:=GA.row) (B':=[.dead,yq h 1 3 (v.map GA.row)]) (T':=[ss0.length+1,v.length]) rfl p6 gg gg rfl (zhU b (iT.2 g.2)) w rfl rfl rfl rfl) ?_);cases a;replace a:=y;apply R.r;exact Z
   ·exact ZL
  ·cases a;replace a:=y;apply R.r;cases a;refine fr rfl (oP (row:=GA.row) ?_);exact ⟨rfl,_,rfl⟩
theorem zua  (a:oM pp0 a1 b2=some res):Sp 233 [zF pp0,zF a1,zF b2] h (z7 (zF res) h):=by
 unfold oM at a;refine y8 Tryz.func233 26 ?_;refine zO (bs (([a1.x4,b2.x4]:List (List GA)).map (λl=>[za l]))) ?_;refine zd a (λg f a=>e6 (rV (w:=zU h 4 0 3 (g.length)) (Spec.le (zrn (by rw [xj];rfl) (by rw [sC];rfl) f) (.cons (g6.gW _ _ _) fd.nil)) rfl) ?_);refine zd a (λc b a=>e6 (r8 nP Tryz.isAgg49 Tryz.sizeOf49 (λ_=>rfl) (λ_=>rfl) (oT Tryz.func70 rfl kr) (λ_ _ _ h=>zoE h) b (i:=4) (B':=[.cells (GE.row pp0),.cells (GE.row a1),.cells (GE.row b2),.cells wD,yq h 0 3 (c.map GA.row)]) rfl rfl) ?_);refine vH (ml (j:=4) (i:=0) (n2:=c.length) (B':=[.cells (GE.row pp0),.cells (GE.row a1),.cells (GE.row b2),.cells wD,.dead,yq h 1 3 (c.map GA.row)]) (T':=[c.length+1,c.length]) (gx 16) rfl (by rw [oS];exact qr b) (kO (qr b)) rfl rfl (sx 16) rfl rfl) ?_;refine zd a (λv3 e a=>zbz (B1:=[.cells (GE.row pp0),.cells (GE.row a1),.cells (GE.row b2),.cells wD,.dead]) (T1:=[c.length+1]) (j:=5) (i:=1) (B':=[.cells (GE.row pp0),.cells (GE.row a1),.cells (GE.row b2),.cells wD,.dead,.dead,yq h 2 3 (v3.map GA.row)]) rfl (yb rfl rfl rfl fZ.o fT.o) (zoB (by simp [AH.ext]) (by simp [AH.ext]) e) rfl rfl ss rfl (λd=>?_));refine zy rfl (ve rfl gg (zc rfl)) ss ?_;refine yG ?_;refine zk6 ((yd (j:=6) (m:=2) (B':=[.cells (GE.row pp0),.cells (GE.row a1),.cells (GE.row b2),.cells wD,.dead,.dead,.dead]) (T':=[c.length+1,d,(v3.map GA.row).length+1]) rfl (by exact (.s4 (.s (.s (.s (.cons (eX.fA _ _ (by simp)) (.s4 (.s4 (.s (.cons (eX.fA _ _ (by simp)) (eG.refl _))))))))))) rfl rfl).wk) ?_;apply R.r;refine cB a (λ_=>zrC) λv4 a=>zO sb ?_;exact Z
theorem zt9  (a:oN pp0 a1 b2=some res):Sp 234 [zF pp0,zF a1,zF b2] h (z7 (zF res) h):=by
 unfold oN at a;refine y8 Tryz.func234 13 ?_;refine zd a (λc b a=>cp ((zrC b).le (.eq (.eq (.cons (g6.gW _ _ _) fd.nil)))) ?_);refine zO sb ?_;exact Z
theorem znS {c:Nat} {v:GE} (h:m5 c x0 x1 x2=some v):zgr c=.fn (.func (zoP c)) [] []:=by
  unfold m5 at h;split at h <;> first | rfl | cases h
theorem znu {c:Nat} (a:m5 c x0 x1 x2=some res):Sp (zoP c) [zF x0,zF x1,zF x2] h (z7 (zF res) h):=by
 unfold m5 at a;split at a
 ·exact zuc a
 ·exact zub a
 ·exact zua a
 ·exact zt9 a
 ·cases a
theorem zum {res:(GE×Int)}  (a:uj l0 a1 b2=some res):Sp 201 [zF l0,zF a1,zF b2] h (z7 (.fk [zF res.1,.int .i64 res.2]) h):=by
 unfold uj at a;refine y8 Tryz.func201 47 ?_;refine cB a (λ_=>zlo) λi a=>cG a (λ_=>zlo) λg a=>cG a (λ_=>zlo) λv3 a=>cF a (λe a=>?_) (λe a=>?_)
 ·refine zO sb ?_;exact Z
 ·refine cF a (λd a=>?_) (λd a=>?_)
  ·refine zO sb ?_;exact Z
  ·refine zO (zaE (cs':=[.fy,.fn (.func 231) [] [],.fn (.func 232) [] [],.fn (.func 233) [] [],.fn (.func 234) [] []]) rfl zxO.u zqW zo8 cw.o ct.o rfl rfl) ?_;refine dr [] ?_;refine zd a (λf c a=>wo (zio rfl zxO zo8 gg gg rfl c) ?_);refine wo (xM rfl zo8 gg rfl (znH (row:=zgr) (L:=([0,1,2,3,4]:List Nat)) c rfl) (zqc _ _ _)) ?_;refine zd a (λj b a=>wi rfl rfl (yb rfl rfl (zoQ gg (znS b)) fZ.o fT.o) (znu b) ss ?_);refine ur fS.out ?_;exact Z
end Go.Vv
