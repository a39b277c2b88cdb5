/- Each function that the law reaches computes what its reading says; printed by a program. -/
import Derived.Test.YtgobgfehoplnjaaGreatW3
set_option linter.all false
namespace Go.Vv
open Go Go.Proofs
set_option maxRecDepth 100000
set_option synthInstance.maxSize 100000
set_option synthInstance.maxHeartbeats 1000000
set_option maxHeartbeats 1000000
variable {res:Bool} {h:AH} {t0 ss0:(List GC)} {i0 pg0 mg0commits mm:Nat} {b0:GL} {rep0:Int} {m:List (GA×GI)} {f1:(GI->Option Bool)} {ff1:FuncId} {af1 kf1:List AV}
theorem zlo {c:GE}  (a:tH c=some res):Sp 145 [zF c] h (z7 (.bool res) h):=by
 unfold tH at a;refine y8 Tryz.func145 89 ?_;refine zO sb ?_;refine cF a (λp a=>?_) (λp a=>?_)
 ·refine zd a (λx j a=>cp ((zny j).le (.eq (.cons (g6.agg (.eq (.eq (.eq (.eq (.eq (.eq (.eq (.cons (g6.gW _ _ _) (.cons (g6.gW _ _ _) fd.nil))))))))) rfl) fd.nil))) (R.r ?_));exact Z
 ·refine cF a (λo a=>?_) (λo a=>?_)
  ·refine dk [3,5] [(3,[(0,.cells (GE.row c))]),(5,[(0,.cells (GE.row c))])] ?_;refine yM rfl rfl (by rintro _ ⟨B2,T2,rfl,b⟩;exact xM rfl f5.choose_spec.1 gg (qx b) (yj (cs':=(GA.row c.z6)) f5.choose_spec.2 rfl rfl) (zc rfl)) ss (R.r ?_);refine yM rfl rfl (by rintro _ ⟨B2,T2,rfl,b⟩;exact xM rfl cu gg (qx b) (zB rfl) (zc rfl)) ss (R.r ?_);refine ur fS.out ?_;refine ur fS.out ?_;refine ur fS.out ?_;refine cG a (λ_=>zrI) λv4 a=>cG a (λ_=>zpI) λv5 a=>cG a (λ_=>zrH) λw a=>?_;refine vN (zkm rfl rfl rfl) (λi=>zkT (cs':=zlx) rfl zvy zqJ zw2 zal .nil rfl rfl) ss ?_;refine vN (zkm rfl rfl rfl) (λi=>wv rfl (zN gg i) (zN gg i) (pG p5 rfl)) ss (R.r ?_);refine cF a (λn a=>?_) (λn a=>?_)
   ·exact Z
   ·refine zd a (λy k a=>cp ((zny k).le (.eq (.cons (g6.agg (.eq (.eq (.eq (.eq (.eq (.eq (.eq (.cons (g6.gW _ _ _) (.cons (g6.gW _ _ _) fd.nil))))))))) rfl) fd.nil))) (R.r ?_));exact Z
  ·refine cF a (λl a=>?_) (λl a=>?_)
   ·refine dk [3] [(3,[(0,.cells (GE.row c))])] ?_;refine yM rfl rfl (by rintro _ ⟨B2,T2,rfl,b⟩;exact xM rfl zq6 gg (qx b) (zB rfl) (zc rfl)) ss (R.r ?_);refine ur fS.out ?_;refine ur fS.out ?_;refine cB a (λ_=>zrG) λs a=>cG a (λ_=>zuw) λv a=>cF a (λg a=>?_) (λg a=>?_)
    ·exact Z
    ·refine cB a (λ_=>zny) λq a=>?_;exact Z
   ·refine cF a (λd a=>?_) (λd a=>?_)
    ·refine cB a (λ_=>zrG) λt a=>cF a (λf a=>?_) (λf a=>?_)
     ·exact Z
     ·refine zd a (λu e a=>cp ((zny e).le (.eq (.cons (g6.agg (.eq (.eq (.eq (.eq (.eq (.eq (.eq (.eq (.cons (g6.gW _ _ _) fd.nil))))))))) rfl) fd.nil))) (R.r ?_));exact Z
    ·exact Z
theorem zr1 (n:Nat):∀{t0:(List GC)} {b:Int} {res:Bool} {h:AH} , uQ n t0 b=some res->Sp 114 [zb t0,.int .i64 b] h (z7 (.bool res) h):=by
 induction n with
 | zero=>intro t0 b res h  a;simp [uQ] at a
 | succ n ih =>
  intro t0 b res h  a;unfold uQ at a;refine y8 Tryz.func114 89 ?_;refine xU λy=>cF a (λq a=>?_) (λq a=>?_)
  ·exact Z
  ·refine xU λC=>qe (λ(v:Nat) (u:Unit)=>zk 2 14 (zk 19 70 [(18,.int .i64 (v:Int))])) (λu=>h.ext [] []) a (λv u w a=>cL a (λs G E p a k=>?_) (λa=>?_))
   ·refine zO (yN rfl wp gg gg oL (zt p) (GC.q8 _)) ?_;refine dr [2] ?_;refine cM a (λ_ e _=>zrS e) λB a=>zM a (λf a=>?_);refine wV rfl (zkm rfl rfl rfl) (λc=>vX default rfl wp (zN gg c) (zN gg c) oL (f c) (GC.q8 _)) ss (R.r ?_);refine qv rfl rfl (λc=>x9 rfl rfl rfl rfl bJ (zN gg c) vC) ss (R.r ?_);refine qv rfl rfl (λc=>x9 rfl rfl rfl rfl wp (zN gg c) vC) ss (R.r ?_);refine qc a (λx d a=>?_);refine uK rfl rfl sc (λc=>ih (d c)) ss (R.r ?_);refine cF a (λg a=>?_) (λg a=>?_)
    ·cases a;replace a:=k;apply R.r;exact Z
    ·refine xU λt=>qe (λ(n2:Nat) (s2:Unit)=>zk 2 4 (zk 7 9 (zk 19 42 (zk 64 25 [(63,.int .i64 (n2:Int))])))) (λs2=>h.ext [.cells [.str s.name,zH s.leaves,zb s.w5]] []) a (λn2 s2 A a=>cL a (λH F z l a o=>?_) (λa=>?_))
     ·refine ix (zt l) (R.r ?_);refine dr [1] ?_;refine cM a (λ_ e _=>zlo e) λD a=>zM a (λj a=>vE j (R.r ?_));refine cF a (λi a=>?_) (λi a=>?_)
      ·cases a;replace a:=o;apply R.r;cases a;replace a:=k;apply R.r;exact Z
      ·exact ZL
     ·exact ZL
   ·exact Z
theorem zuQ {b:Int}  (a:zei t0 b=some res):Sp 114 [zb t0,.int .i64 b] h (z7 (.bool res) h):=by
 obtain ⟨n,c⟩:=rG a;exact zr1 n c
theorem zqM  (a:uB t0=some res):Sp 73 [zb t0] h (z7 (.bool res) h):=by
 unfold uB at a;refine y8 Tryz.func73 5 ?_;refine cB a (λ_=>zuQ) λb a=>?_;exact Z
theorem zw8 {e:GA} {c0:GL} (b:h.gZ i0=some (.cells (GL.row c0))) (a:tL e c0=some res):Sp 90 [zn e,.ptr i0 0] h (z7 (.bool res) h):=by
 unfold tL at a;refine zr Tryz.func90 rfl kr (tW 9 rfl) ?_;have c:=yi b rfl;have d:∀k,i0 < h.zh.length+k:=λk=>o5 c (n4 _ _);apply R.r;refine zO (yU rfl me gg b (zB rfl) (zc rfl)) ?_;refine cB a (λ_=>zoG) λf a=>?_;exact Z
theorem zvM  (a:wB b0=some res):Sp 42 [oW b0] h (z7 (.bool res) h):=by
 unfold wB at a;refine y8 Tryz.func42 58 ?_;refine zO mF ?_;refine dr [2,5] ?_;refine cM a (λ_ e _=>ztQ e) λk a=>cM a (λ_ e _=>ztR e) λi a=>?_;refine qv rfl rfl (λb=>x9 rfl rfl rfl rfl p6 (zN gg b) vC) ss (R.r ?_);refine cH a (λ_=>zw7) λv4 a=>cH a (λ_=>zs1 (λ_ v L M f=>zw8 (vq (j:=0) rfl) f)) λv5 a=>cF a (λc a=>?_) (λc a=>?_)
 ·exact Z
 ·refine xU λg=>?_;refine vN rfl (λb=>wv rfl (zN gg b) (zN gg b) (zcU ty4)) ss (R.r ?_);refine dm λd=>R.r ?_;refine vN rfl (λb=>wv rfl (zN gg b) (zN gg b) (zcU ty4)) ss (R.r ?_);refine cG a (λ_=>zqM) λv9 a=>?_;exact Z
theorem zoC {res:(List GC)}  (a:yP ss0=some res):Sp 131 [zb ss0] h (zqU h 3 res.length (res.map GC.row)):=by
 unfold yP at a;refine y8 Tryz.func131 8 ?_;refine uX rfl rfl wp gg oL rfl (λ_=>ss) a (λe d a=>R.r ?_);refine cF a (λb a=>?_) (λb a=>?_)
 ·exact Z
 ·refine zO (xh (es:=([]:List GC).map GC.row) rfl wp br rfl rfl zal .nil rfl rfl (by simp only [ld,kb,GC.q8];rfl)) ?_;refine vH (qF (gx 5) rfl rfl (sx 5) rfl rfl) ?_;refine zM a (λc a=>zO (zdV (i:=0) (j:=0) (B':=[yq h 0 3 ((([]:List GC)++ss0).map GC.row)]) (T':=[((([]:List GC)++ss0)).length]) rfl rfl rfl rfl wp wp gg gg rfl (zc rfl) zcm c rfl rfl rfl rfl rfl) ?_);exact Z
theorem zln {ss0:(List GE)} {res:(List GE)}  (a:xw ss0=some res):Sp 132 [zH ss0] h (zqU h 9 res.length (res.map GE.row)):=by
 unfold xw at a;refine y8 Tryz.func132 8 ?_;refine uX rfl rfl bJ gg oL rfl (λ_=>ss) a (λe d a=>R.r ?_);refine cF a (λb a=>?_) (λb a=>?_)
 ·exact Z
 ·refine zO (bs (([]:List GE).map GE.row)) ?_;refine vH (qF (gx 5) rfl rfl (sx 5) rfl rfl) ?_;refine zM a (λc a=>zO (zdV (i:=0) (j:=0) (B':=[yq h 0 9 ((([]:List GE)++ss0).map GE.row)]) (T':=[((([]:List GE)++ss0)).length]) rfl rfl rfl rfl bJ bJ gg gg rfl (zc rfl) zcm c rfl rfl rfl rfl rfl) ?_);exact Z
theorem zpP {ss0:(List GF)} {res:(List GF)}  (a:yJ ss0=some res):Sp 133 [yy ss0] h (zsU h 5 res.length (res.map GF.row)):=by
 unfold yJ at a;refine y8 Tryz.func133 8 ?_;refine uX rfl rfl bf gg oL rfl (λ_=>ss) a (λe d a=>R.r ?_);refine cF a (λb a=>?_) (λb a=>?_)
 ·exact Z
 ·refine zO (bs (([]:List GF).map GF.row)) ?_;refine zM a (λc a=>zO (eN c) ?_);exact Z
theorem zrs {ss0:(List GF)} {res:(List GF)}  (a:yJ ss0=some res):Sp 133 [yy ss0] h (zqU h 5 res.length (res.map GF.row)):=by
 unfold yJ at a;refine y8 Tryz.func133 8 ?_;refine uX rfl rfl bf gg oL rfl (λ_=>ss) a (λe d a=>R.r ?_);refine cF a (λb a=>?_) (λb a=>?_)
 ·exact Z
 ·refine zO (bs (([]:List GF).map GF.row)) ?_;refine vH (qF (gx 5) rfl rfl (sx 5) rfl rfl) ?_;refine zM a (λc a=>zO (zdV (i:=0) (j:=0) (B':=[yq h 0 5 ((([]:List GF)++ss0).map GF.row)]) (T':=[((([]:List GF)++ss0)).length]) rfl rfl rfl rfl bf bf gg gg rfl (zc rfl) zcm c rfl rfl rfl rfl rfl) ?_);exact Z
theorem zrU (n:Nat):∀{t0:(List GC)} {i0:Nat} {res:(List GC)} {h:AH} (p:h.gZ i0=some (.cells [.fn (.func 130) [] [.ptr i0 0]])),xX n t0=some res->Sp 130 [zb t0,.ptr i0 0] h (z7 (zb res) h):=by
 induction n with
 | zero=>intro t0 i0 res h p a;simp [xX] at a
 | succ n ih =>
  intro t0 i0 res h p a;unfold xX at a;refine zr Tryz.func130 rfl kr (tW 62 rfl) ?_;have g:=yi p rfl;have f:∀k,i0 < h.zh.length+k:=λk=>o5 g (n4 _ _);apply R.r;refine zd a (λK I a=>e6 (rN (zoC I)) ?_);refine ln λX=>R.r ?_;refine zM a (λhR1 a=>qe (λ(C:Nat) (t:(List GC))=>zk 2 7 (zk 12 50 [(11,.int .i64 (C:Int))])) (λt=>h.ext [yq h 0 3 (t.map GC.row)] [K.length]) a (λC t P a=>?_));refine zaH gg a (λx1 o1 M T U a N=>?_) (λa=>?_)
  ·refine zM a (λo a=>R.r ?_);refine zd a (λd v a=>zy rfl (iR (yZ v o)) ss ?_);refine zO (vn (off:=0) (i:=0) (q:=h.zs.length+0) (z:=(C:Int).toNat) (row:=GC.row) (λ_=>by rw [GC.q8];rfl) rfl eZ.choose_spec.1 (by decide) gg rfl o (wy v).2.2 (by rw [GC.q8 _];exact (yj (cs':=[.str d.name,zH d.leaves,zb d.w5]) eZ.choose_spec.2 rfl rfl)) (zc rfl)) ?_;refine zd a (λl E a=>e6 (rN (zln E)) ?_);refine ln λO=>R.r ?_;refine zM a (λZ a=>qe (λ(n2:Nat) (s2:(List GE))=>zk 2 2 (zk 6 3 (zk 12 10 (zk 24 38 [(23,.int .i64 (n2:Int))])))) (λs2=>h.ext [yq h 0 3 (t.map GC.row),.cells [.str d.name,zU h 2 1 9 (l.length),zb d.w5],yq h 1 9 (s2.map GE.row)] [K.length,l.length]) a (λn2 s2 S a=>?_));refine zaH gg a (λx2 o2 J V Q a L=>?_) (λa=>?_)
   ·refine zM a (λe a=>R.r ?_);refine dk [4] [(4,[(1,.cells [.str d.name,zU h 2 1 9 (l.length),zb d.w5])])] ?_;refine yM rfl rfl (by rintro _ ⟨B2,T2,rfl,H⟩;exact xM rfl ztj gg (qx H) (zB rfl) (zc rfl)) ss (R.r ?_);refine zd a (λy45 A a=>wo (iR (yZ A e)) ?_);refine yn rfl rfl (vn (off:=7) (i:=2) (q:=h.zs.length+1) (z:=(n2:Int).toNat) (row:=GE.row) (λ_=>rfl) rfl zvv (by decide) gg rfl e (wy A).2.2 (zB rfl) (zc rfl)) ss ?_;refine zd a (λv46 G a=>wq rfl (fY.cons (.inr (oJ ⟨rfl,trivial⟩)) fY.nil) (by rfl) rfl (sc rfl) (oX (zpP G)) ss (R.r ?_));refine zd a (λW x a=>wo (iR (yZ x e)) ?_);refine yn rfl rfl (vn (off:=8) (i:=2) (q:=h.zs.length+1) (z:=(n2:Int).toNat) (row:=GE.row) (λ_=>rfl) rfl zq6 (by decide) gg rfl e (wy x).2.2 (zB rfl) (zc rfl)) ss ?_;refine zd a (λu D a=>wq rfl (fY.cons (.inr (oJ ⟨rfl,trivial⟩)) fY.nil) (by rfl) rfl (sc rfl) (oX (zpH D)) ss ?_);refine zd a (λb y a=>wo (iR (yZ y e)) ?_);refine uA rfl (fY.cons (.inr (oJ ⟨rfl,trivial⟩)) fY.nil) kr rfl (ql (off:=7) (i:=2) (q:=h.zs.length+1) (z:=(n2:Int).toNat) (row:=GE.row) (y':=(GE.mk b.w7 b.n b.time b.z6 b.text v46 b.x4)) (us:=[yy v46]) (B':=[yq h 0 3 (t.map GC.row),.cells [.str d.name,zU h 2 1 9 (l.length),zb d.w5],yq h 1 9 ((s2.set (n2:Int).toNat (GE.mk b.w7 b.n b.time b.z6 b.text v46 b.x4)).map GE.row)]) (λ_=>rfl) rfl zvv gg gg (zc rfl) rfl rfl rfl rfl e (wy y).2.2 (by decide) rfl rfl) rfl ?_;refine zd a (λc w a=>wo (iR (yZ w (ly.trans e))) ?_);refine ur (ql (off:=8) (i:=2) (q:=h.zs.length+1) (z:=(n2:Int).toNat) (row:=GE.row) (y':=(GE.mk c.w7 c.n c.time c.z6 c.text c.y4 u)) (us:=[za u]) (B':=[yq h 0 3 (t.map GC.row),.cells [.str d.name,zU h 2 1 9 (l.length),zb d.w5],yq h 1 9 (((s2.set (n2:Int).toNat (GE.mk b.w7 b.n b.time b.z6 b.text v46 b.x4)).set (n2:Int).toNat (GE.mk c.w7 c.n c.time c.z6 c.text c.y4 u)).map GE.row)]) (λ_=>rfl) rfl zq6 gg gg (zc rfl) rfl rfl rfl rfl (ly.trans e) (wy w).2.2 (by decide) rfl rfl) ?_;cases a;exact ⟨((s2.set (n2:Int).toNat (GE.mk b.w7 b.n b.time b.z6 b.text v46 b.x4)).set (n2:Int).toNat (GE.mk c.w7 c.n c.time c.z6 c.text c.y4 u)),J,L,wk.trans (wk.le (by exact (.eq (.eq (.drop (.drop (.eq (.eq (.drop (.drop (.drop (.eq (.eq (.eq (.d4 (.d4 (.drop (.drop (.eq (.cons (g6.of_eq (oa (by omega) (by omega))) (.d16 (.d16 (.d4 (.drop (.drop fd.nil))))))))))))))))))))))))) (yA (by simp [zA,AV.low,g,f]) rfl rfl (by simp [q6.low,zA,AV.low,g,f]))⟩
   ·refine zM a (λe a=>R.r ?_);refine zO (yU rfl zo9 gg p (zB rfl) (zc rfl)) ?_;refine zd a (λv51 F a=>yf rfl (dU rfl) (ih (zz p) F) ss ?_);refine zy rfl (ms rfl zss gg rfl) ss ?_;refine zy rfl (uE (cs':=[.str d.name,zU h 2 1 9 (l.length),zb v51]) rfl zq5 gg gg (zc rfl) rfl rfl rfl rfl rfl) rfl ?_;refine yG (ww (yK ?_));refine zy rfl (xI rfl gg (zc rfl)) ss ?_;refine zy rfl (xI rfl gg (zc rfl)) ss ?_;refine vH (uR (j:=2) (jb:=1) (m:=1) (B':=[yq h 0 3 (t.map GC.row),.cells [.str d.name,zH s2,zb v51],.dead]) (T':=[K.length,(s2.map GE.row).length+1]) rfl (by exact (eG.refl _)) rfl (by exact (.s (.cons (eX.fA _ _ (by rw [oS];exact kO (e))) (eG.refl _)))) rfl rfl) (R.r ?_);refine zd a (λY B a=>zy rfl (iR (yZ B o)) ss ?_);refine zO (ql (off:=0) (i:=0) (q:=h.zs.length+0) (z:=(C:Int).toNat) (row:=GC.row) (y':=(GC.mk d.name s2 v51)) (us:=[.str d.name,zH s2,zb v51]) (B':=[yq h 0 3 ((t.set (C:Int).toNat (GC.mk d.name s2 v51)).map GC.row),.cells [.str d.name,zH s2,zb v51],.dead]) (λ_=>by rw [GC.q8];rfl) rfl eZ.choose_spec.1 gg gg (zc rfl) rfl rfl rfl rfl o (wy B).2.2 (by decide) (by simp only [GC.q8];rfl) rfl) ?_;cases a;exact ⟨(t.set (C:Int).toNat (GC.mk d.name s2 v51)),M,N,wk.trans (wk.le (by exact (.eq (.eq (.d4 (.drop (.drop (.drop (.eq (.eq (.cons (g6.of_eq (oa (by omega) (by omega))) (.d16 (.d16 (.d16 (.drop (.drop fd.nil)))))))))))))))) (yA (by simp [zA,AV.low,g,f]) rfl rfl (by simp [q6.low,zA,AV.low,g,f]))⟩
  ·refine zM a (λo a=>R.r ?_);obtain rfl:=oi a;refine fr rfl (xS ((yd (j:=0) (m:=0) (B':=[.dead]) (T':=[(t.map GC.row).length+1]) rfl (by exact (.cons (.fA _ _ (by rw [oS];exact kO (o))) (.refl _))) rfl rfl).wk) ?_);refine wa (g6.refl _) rfl ?_;exact ⟨rfl,rfl⟩
theorem zuH {res:(List GC)} (b:h.gZ i0=some (.cells [.fn (.func 130) [] [.ptr i0 0]])) (a:rx t0=some res):Sp 130 [zb t0,.ptr i0 0] h (z7 (zb res) h):=by
 obtain ⟨n,c⟩:=rG a;exact zrU n b c
theorem zw6 {res:(List GC)}  (a:uz t0=some res):Sp 93 [zb t0] h (z7 (zb res) h):=by
 unfold uz at a;refine zr Tryz.func93 rfl (by kernel_rfl) (env:=[zb t0,xo,xo,xo,xo,xo,xo,xo]) (by rfl) ?_;refine wK (yK ?_);refine zy rfl (ve rfl rfl (zkE wp)) (sx 2) ?_;refine yG (ww (wK (yK ?_)));refine zy rfl (nG (n:=0) rfl zqY rfl) (sx 3) ?_;refine yG (ww (wK (yK ?_)));refine zy rfl (zdn rfl rfl rfl) (sx 4) ?_;refine zy rfl (uE (cs':=[.fn (.func 130) [] [.ptr (h.zh.length+0) 0]]) rfl zo9 rfl rfl (zc rfl) rfl rfl rfl rfl rfl) rfl ?_;refine yG (ww (wK (yK ?_)));refine zy rfl (xM rfl zo9 rfl rfl (zB rfl) (zc rfl)) (sx 5) ?_;refine zy rfl (xI rfl rfl (zc rfl)) (sx 6) ?_;refine zd a (λc b a=>yf rfl (zb4 rfl rfl rfl (xq rfl vt) (.cons (zc rfl) .nil) rfl) (zuH (yQ rfl rfl) b) (sx 7) ?_);refine zy rfl (ve rfl rfl (zc rfl)) (sx 2) ?_;refine yG (ww (zna ?_));obtain rfl:=kK a;refine zhe rfl (zit rfl zkY) (wa (g6.refl _) rfl ?_);exact ⟨rfl,rfl⟩
theorem ztW {res:GL}  (a:yv b0=some res):Sp 43 [oW b0] h (z7 (oW res) h):=by
 unfold yv at a;refine y8 Tryz.func43 16 ?_;refine dr [2,8] ?_;refine cM a (λ_ e _=>zs3 e) λd a=>zd a (λc b a=>?_);refine wq rfl (fY.cons (.inr (oJ trivial)) (fY.cons (.inr (oJ trivial)) fY.nil)) (by rfl) rfl (sc rfl) (oX (zpH b)) ss (R.r ?_);refine cM a (λ_ e _=>zw6 e) λv3 a=>ur fS.out ?_;refine ur fS.out ?_;refine ur fS.out ?_;exact Z
theorem ae {res:GA}  (a:yO rep0=some res):Sp 18 [.int .u8 rep0] h (z7 (zn res) h):=by
 unfold yO at a;refine y8 Tryz.func18 6 ?_;refine zO sb ?_;refine zO sb ?_;exact Z
theorem zuv {e:Int} {c:Int} {d:(List GA)} {b:(List GA)} {res:GI}  (a:rT rep0 e c d b=some res):Sp 19 [.int .u8 rep0,.int .i64 e,.int .u64 c,za d,za b] h (z7 (zo res) h):=by
 unfold rT at a;refine y8 Tryz.func19 21 ?_;refine zO sb ?_;refine zO sb ?_;refine zO (bs (([([97]:zq)]:List zq).map yp)) ?_;refine zO sb ?_;refine zO sb ?_;exact Z
theorem zxl {b:Int} {res:GE}  (a:ow b=some res):Sp 57 [.int .u8 b] h (z7 (zF res) h):=by
 unfold ow at a;refine y8 Tryz.func57 12 ?_;refine cF a (λc a=>?_) (λc a=>?_)
 ·refine zO sb ?_;exact Z
 ·refine zO sb ?_;exact Z
theorem zxk {b:zq} {res:(GC×Bool)}  (a:si t0 b=some res):Sp 58 [zb t0,.str b] h (z7 (.fk [.agg [.str res.1.name,zH res.1.leaves,zb res.1.w5],.bool res.2]) h):=by
 unfold si at a;refine y8 Tryz.func58 25 ?_;refine qe (λ(g:Nat) (c:Unit)=>zk 2 2 (zk 7 18 [(5,.any),(6,.int .i64 (g:Int))])) (λc=>h.ext [.cells [.str ([]:zq),.gW none 9 (([]:List GE).map GE.row),.gW none 3 (([]:List GC).map GC.row)]] []) a (λg c j a=>xU λi=>cL a (λl n k d a f=>?_) (λa=>?_))
 ·refine zO (yN rfl wp gg gg oL (zt d) (GC.q8 _)) ?_;refine cF a (λe a=>?_) (λe a=>?_)
  ·refine zO (yN rfl wp gg gg oL (zt d) (GC.q8 _)) ?_;cases a;replace a:=f;apply R.r;exact Z
  ·exact ZL
 ·refine zO sb ?_;exact Z
theorem zvR {b:(List zq)} {c:Int} {res:(GE×Bool)}  (a:ud t0 b c=some res):Sp 20 [zb t0,yR b,.int .u8 c] h (z7 (.fk [zF res.1,.bool res.2]) h):=by
 unfold ud at a;refine y8 Tryz.func20 67 ?_;refine cB a (λ_=>zxl) λs a=>zO sb ?_;refine qe (h0:=wk.trans (zfw (j:=2) rfl (by exact (.eq (.cons (g6.gW _ _ _) (.cons (g6.gW _ _ _) fd.nil)))) rfl rfl) (wk.le (by exact (.cons (g6.of_eq rfl) (.eq (.eq (.drop (.drop (.drop (.eq (.drop (.eq (.eq (.cons (g6.of_eq rfl) (.d16 (.d16 (.d16 (.d4 (.d4 fd.nil))))))))))))))))))) (λ(u:Nat) (d:(List GC)×zq×(List GE)×(List GC))=>zk 3 3 (zk 11 56 [(7,.any),(0,zb d.1),(10,.int .i64 (u:Int))])) (λd=>h.ext [.cells wD,.cells (GE.row s),.cells [.str d.2.1,zH d.2.2.1,zb d.2.2.2]] []) a (λu d w a=>xU λt=>cL a (λC B z n a p=>?_) (λa=>?_))
 ·refine ix (zt n) (R.r ?_);refine cB a (λ_=>zxk) λv a=>cF a (λe a=>?_) (λe a=>?_)
  ·cases a;replace a:=p;apply R.r;exact Z
  ·exact ZL
 ·refine xd (λ(s2:Int)=>zk 0 2 (zk 3 3 (zk 10 3 (zk 14 53 [(7,.any),(13,.int .i64 s2)])))) (λs2=>h.ext [.cells wD,.cells (GE.row s),.cells [.str d.2.1,zH d.2.2.1,zb d.2.2.2]] []) a (λ_=>UE) (wk.le f9.o) ?_;intro n2 s2 A a i;apply R.r;refine xU λq=>cF a (λg a=>?_) (λg a=>?_)
  ·refine zd a (λx k a=>ix k (R.r ?_));refine cF a (λl a=>?_) (λl a=>?_)
   ·refine zd a (λy f a=>ix f (R.r ?_));cases a;replace a:=i;apply R.r;exact Z
   ·exact ZL
  ·cases a;replace a:=i;apply R.r;exact Z
theorem ok8 {g0:GO} {res:(List GA)} (d:h.gZ pg0=some (.cells [.int .u64 g0.base.num,za g0.base.f,za g0.base.g9,.int .u64 g0.base.time,zb g0.base.tree,.map mg0commits,za g0.vv])) (b:h.gZ mg0commits=some (.q7 (g0.ff.map (zZ (λx=>zn x) (λx=>zo x))) 0)) (a:qb g0=some res):Sp 8 [.ptr pg0 0] h (z7 (za res) h):=by
 unfold qb at a;refine zr Tryz.func8 rfl kr (tW 10 rfl) ?_;have c:=yi b rfl;have e:∀k,mg0commits < h.zh.length+k:=λk=>o5 c (n4 _ _);have g:=yi d rfl;have i:∀k,pg0 < h.zh.length+k:=λk=>o5 g (n4 _ _);apply R.r;refine cB a (λ_=>zpK (zz d) (zz b)) λl a=>cF a (λj a=>?_) (λj a=>?_)
 ·exact Z
 ·refine zy rfl (yU rfl me (gx 7) d (zB rfl) (zc rfl)) (sx 8) ?_;refine cB a (λ_=>zs3) λv3 a=>?_;exact Z
theorem zvP {g0:GO} (e:h.gZ pg0=some (.cells [.int .u64 g0.base.num,za g0.base.f,za g0.base.g9,.int .u64 g0.base.time,zb g0.base.tree,.map mg0commits,za g0.vv])) (b:h.gZ mg0commits=some (.q7 (g0.ff.map (zZ (λx=>zn x) (λx=>zo x))) 0)) (a:sN g0=some res):Sp 22 [.ptr pg0 0] h (z7 (.bool res) h):=by
 unfold sN at a;refine zr Tryz.func22 rfl kr (tW 7 rfl) ?_;have c:=yi b rfl;have d:∀k,mg0commits < h.zh.length+k:=λk=>o5 c (n4 _ _);have g:=yi e rfl;have i:∀k,pg0 < h.zh.length+k:=λk=>o5 g (n4 _ _);apply R.r;refine zO sb ?_;refine zd a (λq l a=>yC (X:=Unit) (v:=.int .i64 q) (H':=λ_=>h.ext [] []) rfl (yb rfl rfl rfl fZ.o fT.o) ?_ ss (λ_=>?_))
 ·replace a:=l;refine eW Tryz.func16 87 ?_;refine cB a (λ_=>zpK (zz e) (zz b)) λs a=>cF a (λn a=>?_) (λn a=>?_)
  ·exact ZO
  ·refine zd a (λt p a=>cp ((ztV p).le (.cons (g6.agg (.eq (.eq (.eq (.cons (g6.gW _ _ _) (.cons (g6.gW _ _ _) (.eq (.eq (.cons (g6.gW _ _ _) (.eq (.eq (.cons (g6.gW _ _ _) fd.nil))))))))))) rfl) fd.nil)) (R.r ?_));refine tB gg a (λj a=>?_) (λj a=>?_)
   ·apply R.r;exact ZO
   ·cases a
 ·apply R.r;exact Z
theorem zt6 {g0:GO} {res:GL} (d:h.gZ pg0=some (.cells [.int .u64 g0.base.num,za g0.base.f,za g0.base.g9,.int .u64 g0.base.time,zb g0.base.tree,.map mg0commits,za g0.vv])) (b:h.gZ mg0commits=some (.q7 (g0.ff.map (zZ (λx=>zn x) (λx=>zo x))) 0)) (a:wM g0=some res):Sp 25 [.ptr pg0 0] h (z7 (oW res) h):=by
 unfold wM at a;refine zr Tryz.func25 rfl kr (tW 11 rfl) ?_;have c:=yi b rfl;have e:∀k,mg0commits < h.zh.length+k:=λk=>o5 c (n4 _ _);have g:=yi d rfl;have i:∀k,pg0 < h.zh.length+k:=λk=>o5 g (n4 _ _);apply R.r;refine cB a (λ_=>zpK (zz d) (zz b)) λl a=>cF a (λj a=>?_) (λj a=>?_)
 ·refine zO sb ?_;exact Z
 ·refine zO (yU rfl zxX.choose_spec.1 gg d (yj (cs':=(GL.row g0.base)) zxX.choose_spec.2 rfl rfl) (zc rfl)) ?_;refine cB a (λ_=>ztW) λv3 a=>?_;exact Z
def zdb:Go.Shelf.Ren :=
  { f:=λx=>match x with
      | 6=>109
      | 15=>141
      | 14=>140
      | 28=>179
      | 29=>180
      | 20=>171
      | 21=>172
      | 22=>173
      | 23=>174
      | 24=>175
      | 25=>176
      | 26=>177
      | 27=>178
      | 46=>219
      | 47=>220
      | 48=>221
      | 49=>222
      | 50=>223
      | 57=>253
      | n=>n
    t:=λx=>match x with
      | 22=>29
      | 24=>57
      | 25=>120
      | 3=>3
      | 39=>180
      | 0=>0
      | 53=>45
      | 55=>22
      | 4=>4
      | 46=>217
      | 45=>216
      | 50=>207
      | 5=>5
      | 9=>9
      | 66=>255
      | 70=>259
      | 76=>282
      | 77=>283
      | n=>n
    g:=λn=>n }
theorem zbZ:Go.Proofs.SlLaysF0.n6 Tryz.prog zdb where
  mixed:=mixed
  f6:=⟨Tryz.f109.name,by kernel_rfl,Tryz.func109.trans (by kernel_rfl)⟩
  f15:=Tryz.func141.trans (by kernel_rfl)
  f14:=⟨Tryz.f140.name,by kernel_rfl,Tryz.func140.trans (by kernel_rfl)⟩
  f28:=Tryz.func179.trans (by kernel_rfl)
  f29:=Tryz.func180.trans (by kernel_rfl)
  f20:=⟨Tryz.f171.name,by kernel_rfl,Tryz.func171.trans (by kernel_rfl)⟩
  f21:=⟨Tryz.f172.name,by kernel_rfl,Tryz.func172.trans (by kernel_rfl)⟩
  f22:=⟨Tryz.f173.name,by kernel_rfl,Tryz.func173.trans (by kernel_rfl)⟩
  f23:=⟨Tryz.f174.name,by kernel_rfl,Tryz.func174.trans (by kernel_rfl)⟩
  f24:=⟨Tryz.f175.name,by kernel_rfl,Tryz.func175.trans (by kernel_rfl)⟩
  f25:=⟨Tryz.f176.name,by kernel_rfl,Tryz.func176.trans (by kernel_rfl)⟩
  f26:=⟨Tryz.f177.name,by kernel_rfl,Tryz.func177.trans (by kernel_rfl)⟩
  f27:=⟨Tryz.f178.name,by kernel_rfl,Tryz.func178.trans (by kernel_rfl)⟩
  f46:=⟨Tryz.f219.name,by kernel_rfl,Tryz.func219.trans (by kernel_rfl)⟩
  f47:=Tryz.func220.trans (by kernel_rfl)
  f48:=Tryz.func221.trans (by kernel_rfl)
  f49:=⟨Tryz.f222.name,by kernel_rfl,Tryz.func222.trans (by kernel_rfl)⟩
  f50:=⟨Tryz.f223.name,by kernel_rfl,Tryz.func223.trans (by kernel_rfl)⟩
  f57:=⟨Tryz.f253.name,by kernel_rfl,Tryz.func253.trans (by kernel_rfl)⟩
  t0:=Tryz.underlying0
  a0:=Tryz.isAgg0
  z0:=Tryz.sizeOf0
  v0:=Tryz.zeroValue0
  t3:=Tryz.underlying3
  a3:=Tryz.isAgg3
  z3:=Tryz.sizeOf3
  v3:=Tryz.zeroValue3
  t4:=Tryz.underlying4
  a4:=Tryz.isAgg4
  z4:=Tryz.sizeOf4
  v4:=Tryz.zeroValue4
  t5:=Tryz.underlying5
  a5:=Tryz.isAgg5
  z5:=Tryz.sizeOf5
  v5:=Tryz.zeroValue5
  t9:=Tryz.underlying9
  a9:=Tryz.isAgg9
  z9:=Tryz.sizeOf9
  v9:=Tryz.zeroValue9
  t22:=Tryz.underlying29
  a22:=Tryz.isAgg29
  z22:=Tryz.sizeOf29
  v22:=Tryz.zeroValue29
  t25:=Tryz.underlying120
  a25:=Tryz.isAgg120
  z25:=Tryz.sizeOf120
  v25:=Tryz.zeroValue120
  t39:=Tryz.underlying180
  a39:=Tryz.isAgg180
  z39:=Tryz.sizeOf180
  v39:=Tryz.zeroValue180
  t45:=Tryz.underlying216
  a45:=Tryz.isAgg216
  z45:=Tryz.sizeOf216
  v45:=Tryz.zeroValue216
  t46:=Tryz.underlying217
  a46:=Tryz.isAgg217
  z46:=Tryz.sizeOf217
  v46:=Tryz.zeroValue217
  t50:=Tryz.underlying207
  a50:=Tryz.isAgg207
  z50:=Tryz.sizeOf207
  v50:=Tryz.zeroValue207
  t53:=Tryz.underlying45
  a53:=Tryz.isAgg45
  z53:=Tryz.sizeOf45
  v53:=Tryz.zeroValue45
  t55:=Tryz.underlying22
  a55:=Tryz.isAgg22
  z55:=Tryz.sizeOf22
  v55:=Tryz.zeroValue22
  t66:=Tryz.underlying255
  a66:=Tryz.isAgg255
  z66:=Tryz.sizeOf255
  v66:=Tryz.zeroValue255
  t70:=Tryz.underlying259
  a70:=Tryz.isAgg259
  z70:=Tryz.sizeOf259
  v70:=Tryz.zeroValue259
  t76:=Tryz.underlying282
  a76:=Tryz.isAgg282
  z76:=Tryz.sizeOf282
  v76:=Tryz.zeroValue282
  t77:=Tryz.underlying283
  a77:=Tryz.isAgg283
  z77:=Tryz.sizeOf283
  v77:=Tryz.zeroValue283
theorem zxg {a0:GI} {f:GI} {res:Int}  (a:xR a0 f=some res):Sp 67 [zo a0,zo f] h (z7 (.int .i64 res) h):=by
 unfold xR at a;refine y8 Tryz.func67 17 ?_;refine dr [4,9,11] ?_;refine cM a (λ_ e _=>ztP e) λi a=>zd a (λg b a=>yH rfl rfl (λ_=>sc rfl) (by rintro _ ⟨B2,T2,rfl,d⟩;exact zoE b) ss ?_);refine wo (bs (([i,g]:List Int).map (zdK .i64))) ?_;refine zd a (λv3 c a=>aP (by rintro _ ⟨B2,T2,rfl,d⟩;exact (zs0 c).le (.cons (g6.gW _ _ _) fd.nil)) ?_);exact Z
theorem ztM {n:Nat} (a:h.zh.length=n) (b:mm < h.zh.length):Sp 66 [.map mm] h (z7 (.fn (.func 110) [] [.ptr n 0]) (h.ext [.cells [.map mm]] [])):=by
 subst a;refine y8 Tryz.func66 4 ?_;refine zO mF ?_;refine fr rfl (zhF (bs:=[.cells [.map mm]]) (by simp [AV.low,zA]) rfl (by simp [q6.low,zA,AV.low];omega) ?_);exact ⟨rfl,rfl⟩
theorem zrj {S:Type} {Hy:S->AH} {nb nt:Nat} {y:S->GI->Option (Bool×S)} {c:Nat} {st:List (GA×GI)->S} (a:∀s,(Hy s).zh.length=nb) (d:∀s,(Hy s).zs.length=nt) (D:∀s,(Hy s).closed nb nt) (j:c < nb) (K:∀s x b C L M,y s x=some (b,C)->ek Tryz.prog c [zo x] ((Hy s).ext L M) (z7 (.bool b) ((Hy C).ext L M))) (u:∀s,(Hy s).gZ i0=some (.cells [.map mm])) (v:∀s,(Hy s).gZ mm=some (.q7 (m.map (zZ (λx=>zn x) (λx=>zo x))) 0)) (z:∀q x,q.length < m.length->y (st q) x.2=some (true,st (q++[x]))):Sp 110 [.dG c,.ptr i0 0] (Hy (st [])) (λI hh=>I=.fk []/\∃p,p.Perm m/\hh=Hy (st p)):=by
 refine zr Tryz.func110 rfl kr (tW 15 rfl) ?_;have f:∀k,c < nb+k:=λk=>o5 j (n4 _ _);have t:=yi (u (st [])) (a _);have g:∀k,i0 < nb+k:=λk=>o5 t (n4 _ _);have l:=yi (v (st [])) (a _);have e:∀k,mm < nb+k:=λk=>o5 l (n4 _ _);apply R.r;refine zO (yU rfl aY gg (u _) (zB rfl) (zc rfl)) ?_;refine zch (kv:=(λx=>zn x)) (vv:=(λx=>zo x)) (a _) rfl rfl Tryz.underlying82 gg (zz (v _)) rfl ss rfl (R.r ?_);refine ziw (m:=m) [(2,.any),(3,.any),(4,.any),(5,.any),(7,.any),(8,.any),(9,.any),(10,.any),(11,.any),(12,.any),(13,.any),(14,.any)] (λseen q=>(Hy (st q)).ext [.fB mm m.length seen] []) (E:=[.dG c,.ptr i0 0,.any,.any,.any,.any,.ptr (nb+0) 0,.any,.any,.any,.any,.any,.any,.any,.any]) (by simp only [cV,kf,kE];try rfl) (wk.le f9.o) ?_;intro seen q N A;apply R.r;refine zdv (kv:=(λx=>zn x)) (vv:=(λx=>zo x)) (a _) rfl rfl gg rfl (zz (v _)) ss (λi w B hs=>⟨_,ss,?_⟩) (λJ=>?_)
 ·have G:q.length < m.length:=by
   have H:=A.length_eq;have F:=(pm B hs).length_eq;simp only [ng,m3] at H F;omega
  apply R.r;refine c1 ?_;refine zci (kv:=(λx=>zn x)) (vv:=(λx=>zo x)) (a _) rfl rfl gg rfl (zz (v _)) B ss ?_;refine zy rfl (vL rfl gg rfl (zc rfl)) ss ?_;refine zy rfl (zeN (a _) (n:=1) rfl ztd rfl) ss ?_;refine zO (zeM (a _) (cs':=(GI.row w.2)) rfl dq.choose_spec.1 gg gg (zc rfl) rfl rfl rfl rfl rfl) ?_;refine zO (ziD (a _) rfl dq.choose_spec.1 gg rfl (yj (cs':=(GI.row w.2)) dq.choose_spec.2 rfl rfl) (zc rfl)) ?_;refine zcg rfl (zg8 rfl rfl gg fZ.o fT.o) (K _ _ _ _ _ _ (z q w G)) ss (R.r ?_);refine c0 ?_;exact ⟨i,w,B,hs,wk.trans (wk.le f9.o) (zef (a _) (d _) (a _) (d _) (D _) (by simp [zA,AV.low,j,f,t,g,l,e]) rfl rfl (by simp [q6.low,j,f,t,g,l,e]))⟩
 ·apply R.r;refine c0 ?_;refine fr rfl (ze8 (a _) (d _) (a _) (d _) (D _) (g6.refl _) rfl ?_);exact ⟨rfl,q,by rw [J,ko] at A;exact A,rfl⟩
theorem zry {b F v:Nat} (u:h.zh.length=F) (w:h.zs.length=v) (E:h.gZ b=some (.cells [.map mm])) (K:h.gZ mm=some (.q7 (m.map (zZ (λx=>zn x) (λx=>zo x))) 0)) (H:m.length<=lim):Sp 139 [.gW none 11 [],.fn (.func 110) [] [.ptr b 0]] h (λJ hh=>∃p:List (GA×GI),p.Perm m/\J=.fm F v 11 (p.map (λx=>x.2)).length/\hh=h.ext [.row v 11 ((p.map (λx=>x.2)).map GI.row)] [(p.map (λx=>x.2)).length]):=by
 subst u w;refine zx Tryz.func139 rfl kr (tW 13 rfl) (λC D=>?_);have l:=yi E rfl;have f:∀k,b < h.zh.length+k:=λk=>o5 l (n4 _ _);refine wK (yK ?_);refine vH (qF (gx 0) rfl rfl (sx 0) rfl rfl) (R.r ?_);refine ziv (k:=2) (λ(c:(List GI))=>h) (λ(c:(List GI))=>[yq h 0 11 (c.map GI.row),.cells [zU h 0 0 11 (c.length)]]) (λ(c:(List GI))=>[c.length]) ([]:List GI) (λs=>∃p:List (GA×GI),p.Perm m/\s=p.map (λx=>x.2)) (wk.le (by exact (.drop (.drop (.eq (.drop (.drop (.drop (.eq (.d4 (.drop (.drop fd.nil)))))))))))) (λ_=>rfl) rfl rfl rfl (λ_=>rfl) rfl (gx 6) rfl (λg o=>?_) (λc H1 L B=>?_)
 ·have d:∀G I,(g G I).low (h.zh.length+3) (h.zs.length+1)=true:=by intro G I;rw [o];simp [q6.low,zA,AV.low,l,f]
  refine Spec.mono (zrj (Hy:=(ma (λ(c:(List GI))=>h) (λ(c:(List GI))=>[yq h 0 11 (c.map GI.row),.cells [zU h 0 0 11 (c.length)]]) (λ(c:(List GI))=>[c.length]) g)) (nb:=(h.zh.length+3)) (nt:=(h.zs.length+1)) (y:=am (λ(s:List GI) (x:GI)=>zQ (s.length+([x]:List GI).length<=lim) (some (true,(s++([x]:List GI),none))))) (st:=λq=>(q.map (λx=>x.2),none)) (λ_=>by simp only [ma];rw [zfa rfl];rfl) (λ_=>by simp only [ma];rw [zbK rfl];rfl) (λ_=>zaY D (n4 _ _) (n4 _ _) (by simp only [jp,l8,iS,kU,m3,lF,Nat.reduceAdd,l6,d] <;> simp [q6.low,zA,AV.low,l,f])) (jv _) (zkv o (xs:=λ(x:GI)=>[zo x]) (λ_=>rfl) (λ_=>rfl) rfl (λ_=>rfl) (λ_=>by simp only [af,kf,kE];try rfl) (λc t N L1 M1 H1 B a=>?_)) (λ_=>by simp only [ma];exact zz E) (λ_=>by simp only [ma];exact zz K) (λq x M=>by simp only [am,zQ,oS,m3,lF,ki,ld,kb];rw [lc (by omega)])) (λ_ _ h=>by obtain ⟨_,p,A,e⟩:=h;exact ⟨p.map (λx=>x.2),⟨p,A,rfl⟩,e⟩);obtain rfl:H1=((h.ext ([yq h 0 11 (c.map GI.row),.cells [zU h 0 0 11 (c.length)]]++[g .ready none]) [c.length]).ext L1 M1).ext [] []:=B;refine yK ?_;refine zy rfl (zeN (rh rfl rfl) (n:=0) rfl ztd rfl) ss ?_;refine zO (zeM (rh rfl rfl) (cs':=(GI.row t)) rfl dq.choose_spec.1 gg gg (zc rfl) rfl rfl rfl rfl rfl) ?_;refine zeE rfl rfl (R.r ?_);refine zy rfl (zmm rfl rfl ai gg rfl (zB rfl) (zc rfl)) ss ?_;refine zO (ziD (rh rfl rfl) rfl dq.choose_spec.1 gg rfl (yj (cs':=(GI.row t)) dq.choose_spec.2 rfl rfl) (zc rfl)) ?_;refine zO (bs (([t]:List GI).map GI.row)) ?_;refine zM a (λz a=>zO (zoU (i:=0) (j:=0) (A':=[yq h 0 11 ((c++([t]:List GI)).map GI.row),.cells [zU h 0 0 11 (c.length)]]++[g .busy none]) (T':=[((c++([t]:List GI))).length]) rfl rfl rfl rfl rfl rfl zqn zqn gg gg rfl (zc rfl) zbE z rfl rfl rfl rfl rfl) ?_);refine zO (zhO (A':=[yq h 0 11 ((c++([t]:List GI)).map GI.row),.cells [zU h 0 0 11 (((c++([t]:List GI))).length)]]++[g .busy none]) (cs':=[zU h 0 0 11 (((c++([t]:List GI))).length)]) rfl rfl ai gg gg (zc rfl) rfl rfl rfl rfl rfl rfl) ?_;cases a;exact zeD D rfl rfl rfl rfl rfl rfl rfl rfl rfl rfl rfl (by simp only [jp,l8,iS,kU,m3,lF,Nat.reduceAdd,l6,d] <;> simp [q6.low,zA,AV.low,l,f])
 ·obtain ⟨p,A,rfl⟩:=L;obtain rfl:H1=h.ext [yq h 0 11 ((p.map (λx=>x.2)).map GI.row),.cells [zU h 0 0 11 (((p.map (λx=>x.2))).length)],.dead] [((p.map (λx=>x.2))).length]:=B;apply R.r;refine fr rfl (tP (rD (j:=0) (i:=0) rfl (by simp)) ?_);exact ⟨p,A,by simp only [oS];try rfl,by simp only [oS];try rfl⟩
theorem zrz {b g d:Nat} (c:h.zh.length=g) (e:h.zs.length=d) (n:h.gZ b=some (.cells [.map mm])) (l:h.gZ mm=some (.q7 (m.map (zZ (λx=>zn x) (λx=>zo x))) 0)) (a:m.length<=lim):Sp 108 [.fn (.func 110) [] [.ptr b 0]] h (λo hh=>∃p:List (GA×GI),p.Perm m/\o=.fm g d 11 (p.map (λx=>x.2)).length/\hh=h.ext [.row d 11 ((p.map (λx=>x.2)).map GI.row)] [(p.map (λx=>x.2)).length]):=by
 subst c e;refine zx Tryz.func108 rfl kr (tW 5 rfl) (λf q=>R.r ?_);refine rR (α:=List (GA×GI)) (R:=λp=>p.Perm m) (vf:=λp=>zU h 0 0 11 (p.map (λx=>x.2)).length) (L:=λp=>[yq h 0 11 ((p.map (λx=>x.2)).map GI.row)]) (M:=λp=>[(p.map (λx=>x.2)).length]) rfl (sc rfl) (zry (by rw [xj];rfl) (by rw [sC];rfl) (zz n) (zz l) a) (λ_=>rfl) (λ_=>rfl) (λ_=>ss) (λp k=>R.r ?_);refine fr rfl (tP (rD (j:=0) (i:=0) rfl (by simp)) ?_);exact ⟨p,k,by simp only [oS];try rfl,by simp only [oS];try rfl⟩
theorem zt2 {g0:GO} {res:(List GI)} (l:h.gZ pg0=some (.cells [.int .u64 g0.base.num,za g0.base.f,za g0.base.g9,.int .u64 g0.base.time,zb g0.base.tree,.map mg0commits,za g0.vv])) (b:h.gZ mg0commits=some (.q7 (g0.ff.map (zZ (λx=>zn x) (λx=>zo x))) 0)) (a:xL g0=some res):Sp 26 [.ptr pg0 0] h (z7 (zK res) h):=by
 unfold xL at a;refine zr Tryz.func26 rfl kr (tW 36 rfl) ?_;have c:=yi b rfl;have d:∀k,mg0commits < h.zh.length+k:=λk=>o5 c (n4 _ _);have g:=yi l rfl;have n:∀k,pg0 < h.zh.length+k:=λk=>o5 g (n4 _ _);apply R.r;refine cB a (λ_=>zpK (zz l) (zz b)) λV a=>?_;refine vN rfl (λH=>yU rfl aY (zN gg H) l (zB rfl) (zc rfl)) ss ?_;refine zqE rfl (λH=>zq9 (m:=g0.ff) (kv:=(λx=>zn x)) (vv:=(λx=>zo x)) rfl rfl rfl rfl Tryz.underlying82 (zN gg H) (zz b)) ss (R.r ?_);refine cF a (λN a=>?_) (λN a=>?_)
 ·exact Z
 ·refine zy rfl (yU rfl aY (gx 18) l (zB rfl) (zc rfl)) (sx 19) ?_;refine e6 (rV (w:=.fn (.func 110) [] [.ptr (h.zh.length+0) 0]) (ztM (by first | rfl | (rw [xj];rfl)) (zmv (zz b))) rfl) ?_;refine zd a (λv5 I a=>yC (X:=Unit) (v:=zU h 1 0 11 (v5.length)) (H':=λ_=>h.ext [.cells [.map mg0commits],yq h 0 11 (v5.map GI.row)] [v5.length]) rfl (yb rfl rfl rfl fZ.o fT.o) ?_ ss (λ_=>?_))
  ·replace a:=I;refine eW Tryz.func65 12 ?_;refine zM a (λC a=>rR (α:=List (GA×GI)) (R:=λp=>p.Perm g0.ff) (vf:=λe=>zU h 1 0 11 (e.map (λx=>x.2)).length) (L:=λe=>[yq h 0 11 ((e.map (λx=>x.2)).map GI.row)]) (M:=λe=>[(e.map (λx=>x.2)).length]) (B':=λe=>[.cells [.map mg0commits],yq h 0 11 ((e.map (λx=>x.2)).map GI.row)]) (T':=λe=>[(e.map (λx=>x.2)).length]) rfl (sc rfl) (zrz (by first | rfl | (rw [xj];rfl)) (by first | rfl | (rw [sC];rfl)) (yQ rfl rfl) (zz b) C) (λ_=>rfl) (λ_=>rfl) (λ_=>ss) (λe F=>?_));replace a:=zcZ a e F;apply R.r;refine zd a (λG t a=>e6 (r8 zbZ Tryz.isAgg57 Tryz.sizeOf57 (λ_=>rfl) (λ_=>rfl) (oT Tryz.func67 rfl kr) (λ_ _ _ h=>zxg h) t (i:=1) (B':=[.cells [.map mg0commits],yq h 0 11 (G.map GI.row)]) rfl rfl) ?_);cases a;refine fr rfl (zdS ?_);refine ⟨by first | rfl | simp only [qr t],(),?_⟩;first | rfl | simp only [qr t]
  ·apply R.r;refine ln λO=>R.r ?_;refine zM a (λU a=>qe (λ(B:Nat) (A:(List GI))=>zk 0 3 (zk 4 18 (zk 25 11 [(24,.int .i64 (B:Int))]))) (λA=>h.ext [.cells [.map mg0commits],yq h 0 11 (A.map GI.row)] [v5.length]) a (λB A P a=>?_));refine zaH gg a (λY W J S T a K=>?_) (λa=>?_)
   ·refine zM a (λs a=>R.r ?_);refine zd a (λE u a=>zO (iR (yZ u s)) ?_);refine zO (vn (off:=0) (i:=1) (q:=h.zs.length+0) (z:=(B:Int).toNat) (row:=GI.row) (λ_=>rfl) rfl dq.choose_spec.1 (by decide) gg rfl s (wy u).2.2 (yj (cs':=(GI.row E)) dq.choose_spec.2 rfl rfl) (zc rfl)) ?_;refine zd a (λv22 D a=>cp (ztT D) ?_);refine zd a (λQ y a=>zO (iR (yZ y s)) ?_);refine zO (ql (off:=0) (i:=1) (q:=h.zs.length+0) (z:=(B:Int).toNat) (row:=GI.row) (y':=v22) (us:=(GI.row v22)) (B':=[.cells [.map mg0commits],yq h 0 11 ((A.set (B:Int).toNat v22).map GI.row),.cells (GI.row E)]) (λ_=>rfl) rfl dq.choose_spec.1 gg gg (zc rfl) rfl rfl rfl rfl s (wy y).2.2 (by decide) rfl rfl) ?_;cases a;exact ⟨(A.set (B:Int).toNat v22),J,K,wk.trans (wk.le (by exact (.drop (.drop (.drop (.eq (.d16 (.drop (.drop (.eq (.eq (.cons (g6.of_eq (oa (by omega) (by omega))) (.d4 (.d4 (.drop (.drop (.drop fd.nil))))))))))))))))) (yA (by simp [zA,AV.low,c,d,g,n]) rfl rfl (by simp [q6.low,zA,AV.low,c,d,g,n]))⟩
   ·refine zM a (λs a=>R.r ?_);obtain rfl:=oi a;refine fr rfl (xS ((yd (j:=1) (m:=0) (B':=[.cells [.map mg0commits],.dead]) (T':=[(A.map GI.row).length+1]) rfl (by exact (.cons (.fA _ _ (by rw [oS];exact kO (s))) (.refl _))) rfl rfl).wk) ?_);refine wa (g6.refl _) rfl ?_;exact ⟨rfl,rfl⟩
theorem zxj {d:GI} {c0:(List GA)} (b:h.gZ i0=some (.cells [za c0])) (a:sO d c0=some res):Sp 61 [zo d,.ptr i0 0] h (z7 (.bool res) h):=by
 unfold sO at a;refine zr Tryz.func61 rfl kr (tW 15 rfl) ?_;have c:=yi b rfl;have e:∀k,i0 < h.zh.length+k:=λk=>o5 c (n4 _ _);apply R.r;refine zO (yU rfl me gg b (zB rfl) (zc rfl)) ?_;refine cB a (λ_=>zoG) λg a=>?_;refine vN rfl (λi=>yU rfl me gg b (zB rfl) (zc rfl)) ss ?_;refine cG a (λ_=>zpJ) λf a=>?_;exact Z
theorem zuS {ss0:(List GI)} {res:Int} (k:∀o v (L:List q6) (M:List Nat),f1 o=some v->Sp ff1 (af1++[zo o]++kf1) (h.ext L M) (z7 (.bool v) (h.ext L M))) (a:wR ss0 f1=some res):Sp 107 [zK ss0,.fn (.func ff1) af1 kf1] h (z7 (.int .i64 res) h):=by
 unfold wR at a;refine zx Tryz.func107 rfl kr (tW 19 rfl) (λb w=>?_);simp only [zA,AV.low,tr,lA,kJ] at b;have g:∀n m,h.zh.length<=n->h.zs.length<=m->zA n m af1=true:=λn m e c=>zT e c _ (by simp [b]);have d:∀n m,h.zh.length<=n->h.zs.length<=m->zA n m kf1=true:=λn m e c=>zT e c _ (by simp [b]);apply R.r;refine xU λt=>qe (λ(q:Nat) (p:Unit)=>zk 2 5 (zk 9 10 [(8,.int .i64 (q:Int))])) (λp=>h.ext [] []) a (λq p s a=>cL a (λz y u f a l=>?_) (λa=>?_))
 ·refine ix (zt f) (R.r ?_);refine zd a (λx j a=>yf rfl (dU rfl) (k _ _ _ _ j) ss (R.r ?_));refine cF a (λi a=>?_) (λi a=>?_)
  ·cases a;replace a:=l;apply R.r;exact Z
  ·exact ZL
 ·exact Z
theorem zxi {ss0:(List GI)} (e:∀c v (L:List q6) (M:List Nat),f1 c=some v->Sp ff1 (af1++[zo c]++kf1) (h.ext L M) (z7 (.bool v) (h.ext L M))) (a:xu ss0 f1=some res):Sp 62 [zK ss0,.fn (.func ff1) af1 kf1] h (z7 (.bool res) h):=by
 unfold xu at a;refine zx Tryz.func62 rfl kr (tW 9 rfl) (λb k=>?_);simp only [zA,AV.low,tr,lA,kJ] at b;have d:∀n m,h.zh.length<=n->h.zs.length<=m->zA n m af1=true:=λn m i f=>zT i f _ (by simp [b]);have g:∀n m,h.zh.length<=n->h.zs.length<=m->zA n m kf1=true:=λn m i f=>zT i f _ (by simp [b]);apply R.r;refine cB a (λ_=>zuS (λc v L M j=>by rw [xG];exact e c v _ _ j)) λl a=>?_;exact Z
theorem zvQ {g0:GO} {o:(List GA)} {res:Int} (d:h.gZ pg0=some (.cells [.int .u64 g0.base.num,za g0.base.f,za g0.base.g9,.int .u64 g0.base.time,zb g0.base.tree,.map mg0commits,za g0.vv])) (b:h.gZ mg0commits=some (.q7 (g0.ff.map (zZ (λx=>zn x) (λx=>zo x))) 0)) (a:qX g0 o=some res):Sp 21 [.ptr pg0 0,za o] h (z7 (.int .i64 res) h):=by
 unfold qX at a;refine zr Tryz.func21 rfl kr (tW 33 rfl) ?_;have c:=yi b rfl;have g:∀k,mg0commits < h.zh.length+k:=λk=>o5 c (n4 _ _);have i:=yi d rfl;have p:∀k,pg0 < h.zh.length+k:=λk=>o5 i (n4 _ _);apply R.r;refine cB a (λ_=>zvP (zz d) (zz b)) λE a=>cF a (λu a=>?_) (λu a=>?_)
 ·exact Z
 ·refine dr [1,3] ?_;refine cM a (λ_ e _=>ztQ e) λv3 a=>cM a (λ_ e _=>ztR e) λv4 a=>cF a (λs a=>?_) (λs a=>?_)
  ·exact Z
  ·refine dr [1,4] ?_;refine zd a (λD y a=>yH rfl rfl (λ_=>sc rfl) (by rintro _ ⟨B2,T2,rfl,q⟩;exact zt6 (zz d) (zz b) y) ss ?_);refine wo (zb3 rfl zoO me gg rfl (zc rfl)) ?_;refine cM a (λ_ e _=>zpJ e) λF a=>cF a (λw a=>?_) (λw a=>?_)
   ·exact Z
   ·refine dr [2,3] ?_;refine zd a (λv9 t a=>yH rfl rfl (λ_=>sc rfl) (by rintro _ ⟨B2,T2,rfl,q⟩;exact ok8 (zz d) (zz b) t) ss ?_);refine cM a (λ_ e _=>zpJ e) λA a=>cF a (λn a=>?_) (λn a=>?_)
    ·exact Z
    ·refine zO mF ?_;refine cB a (λ_=>zt2 (zz d) (zz b)) λB a=>cB a (λ_=>zxi (λ_ v L M C=>zxj (vq (j:=0) rfl) C)) λz a=>cF a (λl a=>?_) (λl a=>?_)
     ·exact Z
     ·exact Z
abbrev se (x:List GJ):AV:=.sl 9 (x.map GJ.row)
theorem zuP {ss0:(List GJ)} {f1:(GJ->Option Bool)} {res:Int} (k:∀o v (L:List q6) (M:List Nat),f1 o=some v->Sp ff1 (af1++[wI o]++kf1) (h.ext L M) (z7 (.bool v) (h.ext L M))) (a:va ss0 f1=some res):Sp 115 [se ss0,.fn (.func ff1) af1 kf1] h (z7 (.int .i64 res) h):=by
 unfold va at a;refine zx Tryz.func115 rfl kr (tW 19 rfl) (λb w=>?_);simp only [zA,AV.low,tr,lA,kJ] at b;have g:∀n m,h.zh.length<=n->h.zs.length<=m->zA n m af1=true:=λn m e c=>zT e c _ (by simp [b]);have d:∀n m,h.zh.length<=n->h.zs.length<=m->zA n m kf1=true:=λn m e c=>zT e c _ (by simp [b]);apply R.r;refine xU λt=>qe (λ(q:Nat) (p:Unit)=>zk 2 5 (zk 9 10 [(8,.int .i64 (q:Int))])) (λp=>h.ext [] []) a (λq p s a=>cL a (λz y u f a l=>?_) (λa=>?_))
 ·refine ix (zt f) (R.r ?_);refine zd a (λx j a=>yf rfl (dU rfl) (k _ _ _ _ j) ss (R.r ?_));refine cF a (λi a=>?_) (λi a=>?_)
  ·cases a;replace a:=l;apply R.r;exact Z
  ·exact ZL
 ·exact Z
theorem zxf {ss0:(List GJ)} {f1:(GJ->Option Bool)} (e:∀c v (L:List q6) (M:List Nat),f1 c=some v->Sp ff1 (af1++[wI c]++kf1) (h.ext L M) (z7 (.bool v) (h.ext L M))) (a:yY ss0 f1=some res):Sp 74 [se ss0,.fn (.func ff1) af1 kf1] h (z7 (.bool res) h):=by
 unfold yY at a;refine zx Tryz.func74 rfl kr (tW 9 rfl) (λb k=>?_);simp only [zA,AV.low,tr,lA,kJ] at b;have d:∀n m,h.zh.length<=n->h.zs.length<=m->zA n m af1=true:=λn m i f=>zT i f _ (by simp [b]);have g:∀n m,h.zh.length<=n->h.zs.length<=m->zA n m kf1=true:=λn m i f=>zT i f _ (by simp [b]);apply R.r;refine cB a (λ_=>zuP (λc v L M j=>by rw [xG];exact e c v _ _ j)) λl a=>?_;exact Z
theorem zxe {b:GJ}  (a:pr b=some res):Sp 75 [wI b] h (z7 (.bool res) h):=by
 unfold pr at a;refine y8 Tryz.func75 6 ?_;refine cB a (λ_=>zsZ) λc a=>?_;exact Z
def zbV:Go.Shelf.Ren :=
  { f:=λx=>match x with
      | 54=>196
      | 61=>263
      | 64=>141
      | 65=>230
      | 69=>287
      | 78=>179
      | 79=>180
      | 80=>257
      | 81=>258
      | 82=>259
      | 83=>260
      | 84=>261
      | 85=>262
      | 86=>264
      | 87=>265
      | 89=>220
      | 90=>221
      | 93=>284
      | 94=>285
      | 95=>286
      | 97=>298
      | n=>n
    t:=λx=>match x with
      | 0=>0
      | 3=>3
      | 4=>4
      | 5=>5
      | 9=>9
      | 25=>50
      | 26=>9
      | 44=>207
      | 51=>180
      | 60=>216
      | 61=>217
      | 67=>45
      | 69=>22
      | 75=>255
      | 79=>259
      | 83=>282
      | 84=>283
      | n=>n
    g:=λn=>n }
theorem oj:Go.Proofs.SlLaysN.n54 Tryz.prog zbV where
  mixed:=mixed
  f54:=⟨Tryz.f196.name,by kernel_rfl,Tryz.func196.trans (by kernel_rfl)⟩
  f61:=⟨Tryz.f263.name,by kernel_rfl,Tryz.func263.trans (by kernel_rfl)⟩
  f64:=Tryz.func141.trans (by kernel_rfl)
  f65:=⟨Tryz.f230.name,by kernel_rfl,Tryz.func230.trans (by kernel_rfl)⟩
  f69:=⟨Tryz.f287.name,by kernel_rfl,Tryz.func287.trans (by kernel_rfl)⟩
  f78:=Tryz.func179.trans (by kernel_rfl)
  f79:=Tryz.func180.trans (by kernel_rfl)
  f80:=⟨Tryz.f257.name,by kernel_rfl,Tryz.func257.trans (by kernel_rfl)⟩
  f81:=⟨Tryz.f258.name,by kernel_rfl,Tryz.func258.trans (by kernel_rfl)⟩
  f82:=⟨Tryz.f259.name,by kernel_rfl,Tryz.func259.trans (by kernel_rfl)⟩
  f83:=⟨Tryz.f260.name,by kernel_rfl,Tryz.func260.trans (by kernel_rfl)⟩
  f84:=⟨Tryz.f261.name,by kernel_rfl,Tryz.func261.trans (by kernel_rfl)⟩
  f85:=⟨Tryz.f262.name,by kernel_rfl,Tryz.func262.trans (by kernel_rfl)⟩
  f86:=⟨Tryz.f264.name,by kernel_rfl,Tryz.func264.trans (by kernel_rfl)⟩
  f87:=⟨Tryz.f265.name,by kernel_rfl,Tryz.func265.trans (by kernel_rfl)⟩
  f89:=Tryz.func220.trans (by kernel_rfl)
  f90:=Tryz.func221.trans (by kernel_rfl)
  f93:=⟨Tryz.f284.name,by kernel_rfl,Tryz.func284.trans (by kernel_rfl)⟩
  f94:=⟨Tryz.f285.name,by kernel_rfl,Tryz.func285.trans (by kernel_rfl)⟩
  f95:=⟨Tryz.f286.name,by kernel_rfl,Tryz.func286.trans (by kernel_rfl)⟩
  f97:=⟨Tryz.f298.name,by kernel_rfl,Tryz.func298.trans (by kernel_rfl)⟩
  t0:=Tryz.underlying0
  a0:=Tryz.isAgg0
  z0:=Tryz.sizeOf0
  v0:=Tryz.zeroValue0
  t3:=Tryz.underlying3
  a3:=Tryz.isAgg3
  z3:=Tryz.sizeOf3
  v3:=Tryz.zeroValue3
  t4:=Tryz.underlying4
  a4:=Tryz.isAgg4
  z4:=Tryz.sizeOf4
  v4:=Tryz.zeroValue4
  t5:=Tryz.underlying5
  a5:=Tryz.isAgg5
  z5:=Tryz.sizeOf5
  v5:=Tryz.zeroValue5
  t9:=Tryz.underlying9
  a9:=Tryz.isAgg9
  z9:=Tryz.sizeOf9
  v9:=Tryz.zeroValue9
  t25:=Tryz.underlying50
  a25:=Tryz.isAgg50
  z25:=Tryz.sizeOf50
  v25:=Tryz.zeroValue50
  t26:=Tryz.underlying9
  a26:=Tryz.isAgg9
  z26:=Tryz.sizeOf9
  v26:=Tryz.zeroValue9
  t44:=Tryz.underlying207
  a44:=Tryz.isAgg207
  z44:=Tryz.sizeOf207
  v44:=Tryz.zeroValue207
  t51:=Tryz.underlying180
  a51:=Tryz.isAgg180
  z51:=Tryz.sizeOf180
  v51:=Tryz.zeroValue180
  t60:=Tryz.underlying216
  a60:=Tryz.isAgg216
  z60:=Tryz.sizeOf216
  v60:=Tryz.zeroValue216
  t61:=Tryz.underlying217
  a61:=Tryz.isAgg217
  z61:=Tryz.sizeOf217
  v61:=Tryz.zeroValue217
  t67:=Tryz.underlying45
  a67:=Tryz.isAgg45
  z67:=Tryz.sizeOf45
  v67:=Tryz.zeroValue45
  t69:=Tryz.underlying22
  a69:=Tryz.isAgg22
  z69:=Tryz.sizeOf22
  v69:=Tryz.zeroValue22
  t75:=Tryz.underlying255
  a75:=Tryz.isAgg255
  z75:=Tryz.sizeOf255
  v75:=Tryz.zeroValue255
  t79:=Tryz.underlying259
  a79:=Tryz.isAgg259
  z79:=Tryz.sizeOf259
  v79:=Tryz.zeroValue259
  t83:=Tryz.underlying282
  a83:=Tryz.isAgg282
  z83:=Tryz.sizeOf282
  v83:=Tryz.zeroValue282
  t84:=Tryz.underlying283
  a84:=Tryz.isAgg283
  z84:=Tryz.sizeOf283
  v84:=Tryz.zeroValue283
theorem zuo {f1:(GC->Option Bool)} {res:Int} (l:∀c v (L:List q6) (M:List Nat),f1 c=some v->Sp ff1 (af1++[.agg [.str c.name,zH c.leaves,zb c.w5]]++kf1) (h.ext L M) (z7 (.bool v) (h.ext L M))) (a:wd ss0 f1=some res):Sp 198 [zb ss0,.fn (.func ff1) af1 kf1] h (z7 (.int .i64 res) h):=by
 unfold wd at a;refine zx Tryz.func198 rfl kr (tW 19 rfl) (λb w=>?_);simp only [zA,AV.low,tr,lA,kJ] at b;have i:∀n m,h.zh.length<=n->h.zs.length<=m->zA n m af1=true:=λn m f d=>zT f d _ (by simp [b]);have e:∀n m,h.zh.length<=n->h.zs.length<=m->zA n m kf1=true:=λn m f d=>zT f d _ (by simp [b]);apply R.r;refine xU λt=>qe (λ(q:Nat) (p:Unit)=>zk 2 5 (zk 9 10 [(8,.int .i64 (q:Int))])) (λp=>h.ext [] []) a (λq p s a=>cL a (λz y u g a o=>?_) (λa=>?_))
 ·refine zO (yN rfl wp gg gg oL (zt g) (GC.q8 _)) ?_;refine zd a (λx k a=>yf rfl (dU rfl) (l _ _ _ _ k) ss (R.r ?_));refine cF a (λj a=>?_) (λj a=>?_)
  ·cases a;replace a:=o;apply R.r;exact Z
  ·exact ZL
 ·exact Z
theorem zun {b:GC} {c0:zq} (c:h.gZ i0=some (.cells [.str c0])) (a:sH b c0=some res):Sp 199 [.agg [.str b.name,zH b.leaves,zb b.w5],.ptr i0 0] h (z7 (.bool res) h):=by
 unfold sH at a;refine zr Tryz.func199 rfl kr (tW 8 rfl) ?_;have d:=yi c rfl;have e:∀k,i0 < h.zh.length+k:=λk=>o5 d (n4 _ _);apply R.r;refine zO (yU rfl cu gg c (zB rfl) (zc rfl)) ?_;exact Z
theorem zf5 {b:zq} {res:(GC×Bool)}  (a:xT t0 b=some res):Sp 149 [zb t0,.str b] h (z7 (.fk [.agg [.str res.1.name,zH res.1.leaves,zb res.1.w5],.bool res.2]) h):=by
 unfold xT at a;refine y8 Tryz.func149 17 ?_;refine zO mF ?_;refine cB a (λ_=>zuo (λ_ v L M e=>zun (vq (j:=0) rfl) e)) λg a=>cF a (λd a=>?_) (λd a=>?_)
 ·refine zO sb ?_;exact Z
 ·refine zd a (λf c a=>zO (yN rfl wp gg gg oL c (GC.q8 _)) ?_);exact Z
end Go.Vv
