/- Each function that the law reaches computes what its reading says; printed by a program. -/
import Derived.Test.YtcdgimmdofbjdaaGreatW2
set_option linter.all false
open Option renaming some→aa
open List renaming length→ak
namespace Go.Vv
open Go Go.Proofs
set_option maxRecDepth 100000
set_option synthInstance.maxSize 100000
set_option synthInstance.maxHeartbeats 1000000
set_option maxHeartbeats 1000000
variable{ss0:(List GF)}{res:Bool}{h:AH}{t0:(List GC)}{i0 pg0 mg0commits:Nat}{cc0 cc1:GI}{a0 b1 l0:(List GA)}{xx0 yy1:Int}{ff1:FuncId}{af1 kf1:List AV}{oo0:GN}{e0:GJ}{d1:GA}
theorem zrg{res:(List GF)}(a:yN ss0=aa res):Sp 175 [yE ss0] h (zsf h 5 (ak res) (res.map GF.row)):=by
 unfold yN at a;refine xb Tryz.func175 8 ?_;refine tN rfl rfl bD gg oF rfl (λ_=>ss) a (λb1 d a=>R.r ?_);refine cF a (λb a=>?_) (λb a=>?_)
 ·exact Z
 ·refine zO (bs (([]:List GF).map GF.row)) ?_;refine zJ a (λc a=>zO (eN c) ?_);exact Z
theorem zsX{res:(List GF)}(a:yN ss0=aa res):Sp 175 [yE ss0] h (zsq h 5 (ak res) (res.map GF.row)):=by
 unfold yN at a;refine xb Tryz.func175 8 ?_;refine tN rfl rfl bD gg oF rfl (λ_=>ss) a (λb1 d a=>R.r ?_);refine cF a (λb a=>?_) (λb a=>?_)
 ·exact Z
 ·refine zO (bs (([]:List GF).map GF.row)) ?_;refine vS (q9 (gx 5) rfl rfl (sx 5) rfl rfl) ?_;refine zJ a (λc a=>zO (zeM (i:=0) (j:=0) (B':=[yr h 0 5 ((([]:List GF)++ss0).map GF.row)]) (T':=[ak ((([]:List GF)++ss0))]) rfl rfl rfl rfl bD bD gg gg rfl (zc rfl) zc2 c rfl rfl rfl rfl rfl) ?_);exact Z
theorem ztr(n:Nat):∀{t0:(List GC)} {i0:Nat} {res:(List GC)} {h:AH} (p:h.g7 i0=aa (.cells [.fn (.func 172) [] [.ptr i0 0]])),x9 n t0=aa res->Sp 172 [za t0,.ptr i0 0] h (yb (za res) h):=by
 induction n with
 |zero=>intro t0 i0 res h p a;simp[x9]at a
 |succ n ih =>
  intro t0 i0 res h p a;unfold x9 at a;refine zw Tryz.func172 rfl kr (sL 62 rfl) ?_;have g:=yj p rfl;have f:∀k,i0<(ak h.zh)+k:=λk=>o4 g (nv _ _);apply R.r;refine zd a (λK I a=>e7 (rN (zp0 I)) ?_);refine ln λX=>R.r ?_;refine zJ a (λhR1 a=>qg (λ(C:Nat)(t:(List GC))=>zo 2 7 (zo 12 50 [(11,.int .i64 (C:Int))])) (λt=>h.ext [yr h 0 3 (t.map GC.row)] [ak K]) a (λC t P a=>?_));refine zbj gg a (λx1 o1 M T U a N=>?_) (λa=>?_)
  ·refine zJ a (λo a=>R.r ?_);refine zd a (λd v a=>zt rfl (iR (y8 v o)) ss ?_);refine zO (vH (off:=0) (i:=0) (q:=ak h.zs+0) (z:=(C:Int).toNat) (row:=GC.row) (λ_=>by rw[GC.q8];rfl) rfl el.choose_spec.1 (by decide) gg rfl o (wN v).2.2 (by rw[GC.q8 _];exact(z7 (cs':=[.str d.name,zH d.leaves,za d.wa]) el.choose_spec.2 rfl rfl)) (zc rfl)) ?_;refine zd a (λl E a=>e7 (rN (zmu E)) ?_);refine ln λO=>R.r ?_;refine zJ a (λZ a=>qg (λ(n2:Nat)(s2:(List GE))=>zo 2 2 (zo 6 3 (zo 12 10 (zo 24 38 [(23,.int .i64 (n2:Int))])))) (λs2=>h.ext [yr h 0 3 (t.map GC.row),.cells [.str d.name,zU h 2 1 9 (ak l),za d.wa],yr h 1 9 (s2.map GE.row)] [ak K,ak l]) a (λn2 s2 S a=>?_));refine zbj gg a (λx2 o2 J V Q a L=>?_) (λa=>?_)
   ·refine zJ a (λe a=>R.r ?_);refine dk [4] [(4,[(1,.cells [.str d.name,zU h 2 1 9 (ak l),za d.wa])])] ?_;refine yg rfl rfl (by rintro _ ⟨B2,T2,rfl,H⟩;exact yT rfl zqA gg (wH H) (zA rfl) (zc rfl)) ss (R.r ?_);refine zd a (λy45 A a=>wl (iR (y8 A e)) ?_);refine yq rfl rfl (vH (off:=7) (i:=2) (q:=ak h.zs+1) (z:=(n2:Int).toNat) (row:=GE.row) (λ_=>rfl) rfl zxo (by decide) gg rfl e (wN A).2.2 (zA rfl) (zc rfl)) ss ?_;refine zd a (λv46 G a=>wI rfl (f0.cons (.inr (nG ⟨rfl,trivial⟩)) f0.nil) (by rfl) rfl (sc rfl) (oX (zrg G)) ss (R.r ?_));refine zd a (λW x a=>wl (iR (y8 x e)) ?_);refine yq rfl rfl (vH (off:=8) (i:=2) (q:=ak h.zs+1) (z:=(n2:Int).toNat) (row:=GE.row) (λ_=>rfl) rfl zsC (by decide) gg rfl e (wN x).2.2 (zA rfl) (zc rfl)) ss ?_;refine zd a (λu D a=>wI rfl (f0.cons (.inr (nG ⟨rfl,trivial⟩)) f0.nil) (by rfl) rfl (sc rfl) (oX (zit D)) ss ?_);refine zd a (λb y a=>wl (iR (y8 y e)) ?_);refine uY rfl (f0.cons (.inr (nG ⟨rfl,trivial⟩)) f0.nil) kr rfl (qF (off:=7) (i:=2) (q:=ak h.zs+1) (z:=(n2:Int).toNat) (row:=GE.row) (y':=(GE.mk b.x4 b.n b.time b.z6 b.text v46 b.y4)) (us:=[yE v46]) (B':=[yr h 0 3 (t.map GC.row),.cells [.str d.name,zU h 2 1 9 (ak l),za d.wa],yr h 1 9 ((s2.set (n2:Int).toNat (GE.mk b.x4 b.n b.time b.z6 b.text v46 b.y4)).map GE.row)]) (λ_=>rfl) rfl zxo gg gg (zc rfl) rfl rfl rfl rfl e (wN y).2.2 (by decide) rfl rfl) rfl ?_;refine zd a (λc w a=>wl (iR (y8 w (lm.trans e))) ?_);refine qs (qF (off:=8) (i:=2) (q:=ak h.zs+1) (z:=(n2:Int).toNat) (row:=GE.row) (y':=(GE.mk c.x4 c.n c.time c.z6 c.text c.z8 u)) (us:=[zb u]) (B':=[yr h 0 3 (t.map GC.row),.cells [.str d.name,zU h 2 1 9 (ak l),za d.wa],yr h 1 9 (((s2.set (n2:Int).toNat (GE.mk b.x4 b.n b.time b.z6 b.text v46 b.y4)).set (n2:Int).toNat (GE.mk c.x4 c.n c.time c.z6 c.text c.z8 u)).map GE.row)]) (λ_=>rfl) rfl zsC gg gg (zc rfl) rfl rfl rfl rfl (lm.trans e) (wN w).2.2 (by decide) rfl rfl) ?_;cases a;exact⟨((s2.set (n2:Int).toNat (GE.mk b.x4 b.n b.time b.z6 b.text v46 b.y4)).set (n2:Int).toNat (GE.mk c.x4 c.n c.time c.z6 c.text c.z8 u)),J,L,wk.trans (wk.le (by exact(.eq (.eq (.drop (.drop (.eq (.eq (.drop (.drop (.drop (.eq (.eq (.eq (.d4 (.d4 (.drop (.drop (.eq (.cons (g6.of_eq (oE (by omega) (by omega))) (.d16 (.d16 (.d4 (.drop (.drop fc.nil))))))))))))))))))))))))) (yH (by simp[zB,AV.low,g,f]) rfl rfl (by simp[q6.low,zB,AV.low,g,f]))⟩
   ·refine zJ a (λe a=>R.r ?_);refine zO (xk rfl zqz gg p (zA rfl) (zc rfl)) ?_;refine zd a (λv51 F a=>yf rfl (cg rfl) (ih (zz p) F) ss ?_);refine zt rfl (oI rfl zrM gg rfl) ss ?_;refine zt rfl (tc (cs':=[.str d.name,zU h 2 1 9 (ak l),za v51]) rfl zsB gg gg (zc rfl) rfl rfl rfl rfl rfl) rfl ?_;refine yB (wt (yF ?_));refine zt rfl (yS rfl gg (zc rfl)) ss ?_;refine zt rfl (yS rfl gg (zc rfl)) ss ?_;refine vS (tH (j:=2) (jb:=1) (m:=1) (B':=[yr h 0 3 (t.map GC.row),.cells [.str d.name,zH s2,za v51],.dead]) (T':=[ak K,ak (s2.map GE.row)+1]) rfl (by exact(eL.refl _)) rfl (by exact(.s (.cons (da.fD _ _ (by rw[oa];exact kO (e))) (eL.refl _)))) rfl rfl) (R.r ?_);refine zd a (λY B a=>zt rfl (iR (y8 B o)) ss ?_);refine zO (qF (off:=0) (i:=0) (q:=ak h.zs+0) (z:=(C:Int).toNat) (row:=GC.row) (y':=(GC.mk d.name s2 v51)) (us:=[.str d.name,zH s2,za v51]) (B':=[yr h 0 3 ((t.set (C:Int).toNat (GC.mk d.name s2 v51)).map GC.row),.cells [.str d.name,zH s2,za v51],.dead]) (λ_=>by rw[GC.q8];rfl) rfl el.choose_spec.1 gg gg (zc rfl) rfl rfl rfl rfl o (wN B).2.2 (by decide) (by simp only[GC.q8];rfl) rfl) ?_;cases a;exact⟨(t.set (C:Int).toNat (GC.mk d.name s2 v51)),M,N,wk.trans (wk.le (by exact(.eq (.eq (.d4 (.drop (.drop (.drop (.eq (.eq (.cons (g6.of_eq (oE (by omega) (by omega))) (.d16 (.d16 (.d16 (.drop (.drop fc.nil)))))))))))))))) (yH (by simp[zB,AV.low,g,f]) rfl rfl (by simp[q6.low,zB,AV.low,g,f]))⟩
  ·refine zJ a (λo a=>R.r ?_);obtain rfl:=oi a;refine fr rfl (xX ((yc (j:=0) (m:=0) (B':=[.dead]) (T':=[ak (t.map GC.row)+1]) rfl (by exact(.cons (.fD _ _ (by rw[oa];exact kO (o))) (.refl _))) rfl rfl).wk) ?_);refine wm (g6.refl _) rfl ?_;exact⟨rfl,rfl⟩
theorem zwj{res:(List GC)}(b:h.g7 i0=aa (.cells [.fn (.func 172) [] [.ptr i0 0]]))(a:pf t0=aa res):Sp 172 [za t0,.ptr i0 0] h (yb (za res) h):=by
 obtain⟨n,c⟩:=rE a;exact ztr n b c
theorem zwE{res:(List GC)}(a:uX t0=aa res):Sp 124 [za t0] h (yb (za res) h):=by
 unfold uX at a;refine zw Tryz.func124 rfl (by kernel_rfl) (env:=[za t0,wb,wb,wb,wb,wb,wb,wb]) (by rfl) ?_;refine wr (yF ?_);refine zt rfl (xJ rfl rfl (zpR wd)) (sx 2) ?_;refine yB (wt (wr (yF ?_)));refine zt rfl (mB (n:=0) rfl zsu rfl) (sx 3) ?_;refine yB (wt (wr (yF ?_)));refine zt rfl (zea rfl rfl rfl) (sx 4) ?_;refine zt rfl (tc (cs':=[.fn (.func 172) [] [.ptr (ak h.zh+0) 0]]) rfl zqz rfl rfl (zc rfl) rfl rfl rfl rfl rfl) rfl ?_;refine yB (wt (wr (yF ?_)));refine zt rfl (yT rfl zqz rfl rfl (zA rfl) (zc rfl)) (sx 5) ?_;refine zt rfl (yS rfl rfl (zc rfl)) (sx 6) ?_;refine zd a (λc b a=>yf rfl (zcM rfl rfl rfl (xy rfl vK) (.cons (zc rfl) .nil) rfl) (zwj (yJ rfl rfl) b) (sx 7) ?_);refine zt rfl (xJ rfl rfl (zc rfl)) (sx 2) ?_;refine yB (wt (zor ?_));obtain rfl:=ky a;refine zil rfl (zjB rfl zl5) (wm (g6.refl _) rfl ?_);exact⟨rfl,rfl⟩
theorem zri{ss0:(List GA)}{res:(List GA)}(a:xH ss0=aa res):Sp 111 [zb ss0] h (yb (zb res) h):=by
 unfold xH at a;refine xb Tryz.func111 8 ?_;refine tN rfl rfl zt9 gg oF rfl (λ_=>ss) a (λb1 d a=>R.r ?_);refine cF a (λb a=>?_) (λb a=>?_)
 ·exact Z
 ·refine zO (bs (([]:List GA).map GA.row)) ?_;refine zJ a (λc a=>zO (eN c) ?_);exact Z
theorem zvz{b0:GL}{res:GL}(a:yk b0=aa res):Sp 68 [nV b0] h (yb (nV res) h):=by
 unfold yk at a;refine xb Tryz.func68 16 ?_;refine dr [2,8] ?_;refine cM a (λ_ e _=>zri e) λd a=>zd a (λc b a=>?_);refine wI rfl (f0.cons (.inr (nG trivial)) (f0.cons (.inr (nG trivial)) f0.nil)) (by rfl) rfl (sc rfl) (oX (zit b)) ss (R.r ?_);refine cM a (λ_ e _=>zwE e) λv3 a=>qs fN.out ?_;refine qs fN.out ?_;refine qs fN.out ?_;exact Z
abbrev yD(x:List zp):AV:=.sl 1 (x.map yl)
theorem ztD{ss0:(List zp)}{res:(List zp)}(a:vu ss0=aa res):Sp 123 [yD ss0] h (zsf h 1 (ak res) (res.map yl)):=by
 unfold vu at a;refine xb Tryz.func123 8 ?_;refine tN rfl rfl b8 gg oF rfl (λ_=>ss) a (λb1 d a=>R.r ?_);refine cF a (λb a=>?_) (λb a=>?_)
 ·exact Z
 ·refine zO (bs (([]:List zp).map yl)) ?_;refine zJ a (λc a=>zO (eN c) ?_);exact Z
theorem zuB{res:GI}(a:uG cc0=aa res):Sp 67 [zq cc0] h (yb (zq res) h):=by
 unfold uG at a;refine xb Tryz.func67 24 ?_;refine dr [5] ?_;refine zd a (λg c a=>?_);refine wI rfl (f0.cons (.inr (nG trivial)) f0.nil) (by rfl) rfl (sc rfl) (oX (zit c)) ss (R.r ?_);refine cM a (λ_ e _=>zri e) λf a=>qs fN.out ?_;refine qs fN.out ?_;refine dr [] ?_;refine zd a (λv3 b a=>wI rfl f0.nil (by rfl) rfl (sc rfl) (oX (ztD b)) ss (R.r ?_));refine zd a (λv4 d a=>wI rfl f0.nil (by rfl) rfl (sc rfl) (oX (zit d)) ss (R.r ?_));refine qs fN.out ?_;refine qs fN.out ?_;exact Z
theorem ztG{a0:List (GH×Int)}{r:Nat}{b1:List (GH×Int)}{z:Nat}{D:(Int->Int->Option Int)}{u:FuncId}{o q:List AV}{T:Nat}{res:(List (GH×Int))}(F:ak h.zh=T)(w:h.g7 r=aa (.q7 (a0.map (zZ (λx=>zK x) (AV.int .u64))) 0))(y:h.g7 z=aa (.q7 (b1.map (zZ (λx=>zK x) (AV.int .u64))) 0))(B:∀S A v (L:List q6) (M:List Nat),D S A=aa v->Sp u (o++[.int .u64 S,.int .u64 A]++q) (h.ext L M) (yb (.int .u64 v) (h.ext L M)))(a:w8 a0 b1 D=aa res):Sp 108 [.map r,.map z,.fn (.func u) o q] h (λW hh=>∃p:List (GH×Int),p.Perm res/\W=.map T/\hh=h.ext [.q7 (p.map (zZ (λx=>zK x) (AV.int .u64))) 0] []):=by
 unfold w8 at a;subst F;refine zy Tryz.func108 rfl (by kernel_rfl) (env:=[.map r,.map z,.fn (.func u) o q,wb,wb,wb,wb,wb,wb,wb,wb,wb,wb,wb,wb,wb,wb,wb,wb,wb,wb,wb,wb,wb,wb,wb,wb,wb,wb,wb,wb,wb,wb,wb,wb,wb,wb,wb,wb,wb,wb,wb,wb,wb]) (by rfl) (λs Y=>?_);simp only[zB,AV.low,tx,lq,kA]at s;have c:∀n m,ak h.zh<=n->ak h.zs<=m->zB n m o=true:=λn m J H=>zT J H _ (by simp[s]);have f:∀n m,ak h.zh<=n->ak h.zs<=m->zB n m q=true:=λn m J H=>zT J H _ (by simp[s]);have i:=yj w rfl;have e:∀k,r<(ak h.zh)+k:=λk=>o4 i (nv _ _);have g:=yj y rfl;have b:∀k,z<(ak h.zh)+k:=λk=>o4 g (nv _ _);refine wr (yF ?_);refine zt rfl (xJ rfl rfl (zc rfl)) (sx 6) ?_;refine yB (wt (wr (yF ?_)));refine zt rfl (tS (n:=0) rfl rfl) (sx 12) ?_;refine zt rfl (xJ rfl rfl (zc rfl)) (sx 7) ?_;refine yB (wt (wr (wr (yF ?_))));refine zt rfl (yS rfl rfl (zc rfl)) (sx 13) ?_;refine mq (kv:=(λx=>zK x)) (vv:=(AV.int .u64)) rfl rfl Tryz.underlying161 rfl (zz w) rfl (sx 14) rfl ?_;refine yB (wt (mo ?_));refine zft (λ(E:List (GH×Int))=>[(3,.any),(4,.any),(5,.any),(6,.any),(8,.any),(9,.any),(10,.any),(11,.any),(12,.any),(13,.any),(15,.any),(16,.any),(17,.any),(18,.any),(19,.any),(20,.any),(21,.any),(22,.any),(23,.any),(24,.any),(25,.any),(26,.any),(27,.any),(28,.any),(29,.any),(30,.any),(31,.any),(32,.any),(33,.any),(34,.any),(35,.any),(36,.any),(37,.any),(38,.any),(39,.any),(40,.any),(41,.any),(42,.any),(43,.any)]) (λl E=>h.ext [.q7 (E.map (zZ (λx=>zK x) (AV.int .u64))) 0,.fF r (ak a0) l] []) a (λ_=>by simp only[bi,kj,kJ];try rfl) (wk.le (by exact(.eq (.eq (.eq (.d4 (.eq (.d4 (.drop (.drop (.eq (.d16 (.d4 (.d4 (.d4 (.drop fc.nil)))))))))))))))) ?_;intro l E a;refine wr (yF ?_);refine zbn rfl rfl rfl rfl (zz w) (sx 15) a (λX A o1 N P a R=>⟨_,(sx 15),?_⟩) (λa=>?_)
 ·refine zt rfl (xI rfl rfl rfl (zc rfl)) (sx 16) ?_;refine yB (wt (wr ?_));refine oY rfl (λ_=>?_) (λhh=>by cases hh);refine zjD (wt (mo (wr (yF ?_))));refine mr rfl rfl rfl rfl (zz w) N (sx 17) ?_;refine zt rfl (xI rfl rfl rfl (zc rfl)) (sx 18) ?_;refine zt rfl (xI rfl rfl rfl (zc rfl)) (sx 19) ?_;refine zt rfl (mB (n:=2) rfl zss rfl) (sx 8) ?_;refine zt rfl (tc (cs':=(GH.row A.1)) rfl eE.choose_spec.1 rfl rfl (zc rfl) rfl rfl rfl rfl rfl) rfl ?_;refine zt rfl (xJ rfl rfl (zc rfl)) (sx 9) ?_;refine yB (wt ?_);refine zkn (by kernel_rfl) ?_;refine yq rfl rfl (yS rfl rfl (zc rfl)) (sx 20) ?_;refine yq rfl rfl (yT rfl eE.choose_spec.1 rfl rfl (z7 (cs':=(GH.row A.1)) eE.choose_spec.2 rfl rfl) (zc rfl)) (sx 21) ?_;refine yq rfl rfl (yS rfl rfl (zc rfl)) (sx 22) ?_;refine yq rfl rfl (yS rfl rfl (zc rfl)) (sx 23) ?_;refine yq rfl rfl (yS rfl rfl (zc rfl)) (sx 24) ?_;refine yq rfl rfl (yT rfl eE.choose_spec.1 rfl rfl (z7 (cs':=(GH.row A.1)) eE.choose_spec.2 rfl rfl) (zc rfl)) (sx 25) ?_;refine yq rfl rfl (za5 (m:=b1) (k:=A.1) (d:=(0:Int)) (kv:=(λx=>zK x)) (vv:=(AV.int .u64)) rfl Tryz.underlying161 aN zsb rfl (zz y) rfl) (sx 26) ?_;refine zd a (λv4 I a=>wC rfl rfl (zcM rfl rfl rfl (xy rfl (xy rfl vK)) (.cons (zc rfl) (.cons (zc rfl) .nil)) rfl) (B _ _ _ _ _ I) (sx 27) ?_);refine uY rfl f0.nil (by kernel_rfl) rfl (zga (m:=E) (k:=A.1) (v:=v4) (j:=0) (kv:=(λx=>zK x)) (vv:=(AV.int .u64)) rfl Tryz.underlying161 aN rfl rfl rfl rfl rfl rfl) rfl ?_;refine zgc ?_;refine zin (zmf ?_);obtain rfl:=ky a;exact⟨X,(wM GH.fh E A.1 v4),P,R,wk.trans (wk.le (by exact(.eq (.eq (.eq (.d4 (.eq (.d4 (.drop (.drop (.eq (.d16 (.d4 (.d4 (.d4 (.drop fc.nil)))))))))))))))) (yH (by simp[zB,AV.low,c,f,i,e,g,b]) rfl rfl (by simp[q6.low,zB,AV.low,c,f,i,e,g,b,GH.row,zZ]))⟩
 ·refine zt rfl (xI rfl rfl rfl (zc rfl)) (sx 16) ?_;refine yB (wt (wr ?_));refine oY rfl (λhh=>by cases hh) (λ_=>zmc ?_);refine zbk ?_;refine zat ?_;refine zau ?_;refine wt (wr (wr (yF ?_)));refine zt rfl (yS rfl rfl (zc rfl)) (sx 28) ?_;refine mq (kv:=(λx=>zK x)) (vv:=(AV.int .u64)) rfl rfl Tryz.underlying161 rfl (zz y) rfl (sx 29) rfl ?_;refine yB (wt (mo ?_));refine zft (λ(s2:List (GH×Int))=>[(1,.any),(3,.any),(4,.any),(5,.any),(6,.any),(8,.any),(9,.any),(10,.any),(11,.any),(12,.any),(13,.any),(14,.any),(15,.any),(16,.any),(17,.any),(18,.any),(19,.any),(20,.any),(21,.any),(22,.any),(23,.any),(24,.any),(25,.any),(26,.any),(27,.any),(28,.any),(30,.any),(31,.any),(32,.any),(33,.any),(34,.any),(35,.any),(36,.any),(37,.any),(38,.any),(39,.any),(40,.any),(41,.any),(42,.any),(43,.any)]) (λt s2=>h.ext [.q7 (s2.map (zZ (λx=>zK x) (AV.int .u64))) 0,.fF r (ak a0) l,.fF z (ak b1) t] []) a (λ_=>by simp only[bi,kj,kJ];try rfl) (wk.le (by exact(.eq (.drop (.eq (.d4 (.eq (.d16 (.d4 (.drop (.eq (.d4 (.d4 (.d4 (.drop (.drop fc.nil)))))))))))))))) ?_;intro t s2 a;refine wr (yF ?_);refine zbn rfl rfl rfl rfl (zz y) (sx 30) a (λV C Z G Q a O=>⟨_,(sx 30),?_⟩) (λa=>?_)
  ·refine zt rfl (xI rfl rfl rfl (zc rfl)) (sx 31) ?_;refine yB (wt (wr ?_));refine oY rfl (λ_=>?_) (λhh=>by cases hh);refine zjD (wt (mo (wr (yF ?_))));refine mr rfl rfl rfl rfl (zz y) G (sx 32) ?_;refine zt rfl (xI rfl rfl rfl (zc rfl)) (sx 33) ?_;refine zt rfl (xI rfl rfl rfl (zc rfl)) (sx 34) ?_;refine zt rfl (mB (n:=3) rfl zss rfl) (sx 10) ?_;refine zt rfl (tc (cs':=(GH.row C.1)) rfl eE.choose_spec.1 rfl rfl (zc rfl) rfl rfl rfl rfl rfl) rfl ?_;refine zt rfl (xJ rfl rfl (zc rfl)) (sx 11) ?_;refine yB (wt ?_);refine zkn (by kernel_rfl) ?_;refine yq rfl rfl (yS rfl rfl (zc rfl)) (sx 35) ?_;refine yq rfl rfl (yT rfl eE.choose_spec.1 rfl rfl (z7 (cs':=(GH.row C.1)) eE.choose_spec.2 rfl rfl) (zc rfl)) (sx 36) ?_;refine yq rfl rfl (yS rfl rfl (zc rfl)) (sx 37) ?_;refine yq rfl rfl (yS rfl rfl (zc rfl)) (sx 38) ?_;refine yq rfl rfl (yT rfl eE.choose_spec.1 rfl rfl (z7 (cs':=(GH.row C.1)) eE.choose_spec.2 rfl rfl) (zc rfl)) (sx 39) ?_;refine yq rfl rfl (za5 (m:=a0) (k:=C.1) (d:=(0:Int)) (kv:=(λx=>zK x)) (vv:=(AV.int .u64)) rfl Tryz.underlying161 aN zsb rfl (zz w) rfl) (sk (sx 0)) ?_;refine yq rfl rfl (yS rfl rfl (zc rfl)) (sk (sx 1)) ?_;refine zd a (λU K a=>wC rfl rfl (zcM rfl rfl rfl (xy (gk rfl) (xy (gk rfl) vK)) (.cons (zc rfl) (.cons (zc rfl) .nil)) rfl) (B _ _ _ _ _ K) (sk (sx 2)) ?_);refine uY rfl f0.nil (by kernel_rfl) rfl (zga (m:=s2) (k:=C.1) (v:=U) (j:=0) (kv:=(λx=>zK x)) (vv:=(AV.int .u64)) rfl Tryz.underlying161 aN rfl rfl rfl (gk rfl) rfl rfl) rfl ?_;refine zgc ?_;refine zin (zmf ?_);obtain rfl:=ky a;exact⟨V,(wM GH.fh s2 C.1 U),Q,O,wk.trans (wk.le (by exact(.eq (.drop (.eq (.d4 (.eq (.d16 (.d4 (.drop (.eq (.d4 (.d4 (.d4 (.drop (.drop fc.nil)))))))))))))))) (yH (by simp[zB,AV.low,c,f,i,e,g,b]) rfl rfl (by simp[q6.low,zB,AV.low,c,f,i,e,g,b,GH.row,zZ]))⟩
  ·refine zt rfl (xI rfl rfl rfl (zc rfl)) (sx 31) ?_;refine yB (wt (wr ?_));refine oY rfl (λhh=>by cases hh) (λ_=>zmc ?_);refine zbk ?_;refine zat ?_;refine zau ?_;refine wt (wr (yF ?_));refine zt rfl (yS rfl rfl (zc rfl)) (sk (sx 3)) ?_;refine zt rfl (xJ rfl (gk rfl) (zc rfl)) (sx 6) ?_;refine yB (wt (zor ?_));obtain rfl:=ky a;refine zil rfl (zjB rfl zl5) (zkg (by simp[q6.low,zB,AV.low,zZ,GH.row,GA.row,GF.row,GE.row,GL.row,GN.row,GI.row]) ?_);exact⟨_,(zjN _).symm,rfl,rfl⟩
theorem zwG{res:Int}(a:zaY xx0 yy1=aa res):Sp 110 [.int .u64 xx0,.int .u64 yy1] h (yb (.int .u64 res) h):=by
 unfold zaY at a;refine xb Tryz.func110 8 ?_;refine zt rfl (zu8 true rfl rfl (xy (gx 5) (xy (gx 6) vK)) rfl rfl) (sx 7) (R.r ?_);exact Z
theorem zs7{res:(List GA)}(a:vW a0 b1=aa res):Sp 43 [zb a0,zb b1] h (yb (zb res) h):=by
 unfold vW at a;refine xb Tryz.func43 11 ?_;refine zd a (λj e a=>e7 (rV (w:=.map (ak h.zh+0)) (zg2 (by first|rfl|(rw[xn];rfl)) e) (by first|rfl|(rw[xn];rfl))) ?_);refine zd a (λi c a=>e7 (rV (w:=.map (ak h.zh+1)) (zg2 (by first|rfl|(rw[xn];rfl)) c) (by first|rfl|(rw[xn];rfl))) ?_);refine zd a (λv3 d a=>pz (α:=List (GH×Int)) (R:=λp=>p.Perm v3) (vf:=λb=>.map (ak h.zh+2)) (L:=λb=>[.q7 (b.map (zZ (λx=>zK x) (AV.int .u64))) 0]) (M:=λb=>[]) (B':=λb=>[.q7 (j.map (zZ (λx=>zK x) (AV.int .u64))) 0,.q7 (i.map (zZ (λx=>zK x) (AV.int .u64))) 0,.q7 (b.map (zZ (λx=>zK x) (AV.int .u64))) 0]) (T':=λb=>[]) rfl (sc rfl) (ztG (by first|rfl|(rw[xn];rfl)) (yJ rfl rfl) (yJ rfl rfl) (λ_ _ v L M g=>zwG  g) d) (λ_=>rfl) (λ_=>ko _) (λ_=>ss) (λb f=>?_));replace a:=zdM a b f;refine cB a (λ_=>zrj (yJ rfl rfl)) λv5 a=>?_;exact Z
abbrev qf(x:GJ):AV:=.agg (GJ.row x)
theorem zxC{res:GJ}(a:r6 cc0=aa res):Sp 36 [zq cc0] h (yb (qf res) h):=by
 unfold r6 at a;refine xb Tryz.func36 10 ?_;refine zO sb ?_;exact Z
theorem ztA(a:qP l0 cc1=aa res):Sp 133 [zb l0,zq cc1] h (yb (.bool res) h):=by
 unfold qP at a;refine xb Tryz.func133 40 ?_;refine xP λm=>qg (λ(f:Nat)(g:Unit)=>zo 1 2 (zo 4 3 (zo 10 30 [(9,.int .i64 (f:Int))]))) (λg=>h.ext [.cells (GI.row cc1)] []) a (λf g j a=>cL a (λn o k e a d=>?_) (λa=>?_))
 ·refine ix (zu e) (R.r ?_);refine dr [] ?_;refine zJ a (λb a=>qd b (R.r ?_));refine cH a (λ_=>zp2) λl a=>?_;refine vh rfl rfl (λi=>wp rfl (zM gg i) (zM gg i) (ph oZ rfl)) ss (R.r ?_);refine cH a (λ_=>zp4) λv22 a=>cF a (λc a=>?_) (λc a=>?_)
  ·cases a;replace a:=d;apply R.r;exact Z
  ·exact ZL
 ·exact Z
theorem zvP{ss0:(List zp)}{p:(zp->Option Bool)}{res:Int}(k:∀o v (L:List q6) (M:List Nat),p o=aa v->Sp ff1 (af1++[.str o]++kf1) (h.ext L M) (yb (.bool v) (h.ext L M)))(a:vd ss0 p=aa res):Sp 286 [yD ss0,.fn (.func ff1) af1 kf1] h (yb (.int .i64 res) h):=by
 unfold vd at a;refine zy Tryz.func286 rfl kr (sL 19 rfl) (λb x=>?_);simp only[zB,AV.low,tx,lq,kA]at b;have g:∀n m,ak h.zh<=n->ak h.zs<=m->zB n m af1=true:=λn m e c=>zT e c _ (by simp[b]);have d:∀n m,ak h.zh<=n->ak h.zs<=m->zB n m kf1=true:=λn m e c=>zT e c _ (by simp[b]);apply R.r;refine xP λu=>qg (λ(s:Nat)(q:Unit)=>zo 2 5 (zo 9 10 [(8,.int .i64 (s:Int))])) (λq=>h.ext [] []) a (λs q t a=>cL a (λA z w f a l=>?_) (λa=>?_))
 ·refine ix (zu f) (R.r ?_);refine zd a (λy j a=>yf rfl (cg rfl) (k _ _ _ _ j) ss (R.r ?_));refine cF a (λi a=>?_) (λi a=>?_)
  ·cases a;replace a:=l;apply R.r;exact Z
  ·exact ZL
 ·exact Z
theorem zv1{ss0:(List zp)}{j:(zp->Option Bool)}(e:∀c v (L:List q6) (M:List Nat),j c=aa v->Sp ff1 (af1++[.str c]++kf1) (h.ext L M) (yb (.bool v) (h.ext L M)))(a:xz ss0 j=aa res):Sp 241 [yD ss0,.fn (.func ff1) af1 kf1] h (yb (.bool res) h):=by
 unfold xz at a;refine zy Tryz.func241 rfl kr (sL 9 rfl) (λb l=>?_);simp only[zB,AV.low,tx,lq,kA]at b;have d:∀n m,ak h.zh<=n->ak h.zs<=m->zB n m af1=true:=λn m i f=>zT i f _ (by simp[b]);have g:∀n m,ak h.zh<=n->ak h.zs<=m->zB n m kf1=true:=λn m i f=>zT i f _ (by simp[b]);apply R.r;refine cB a (λ_=>zvP (λc v L M k=>by rw[x5];exact e c v _ _ k)) λo a=>?_;exact Z
theorem zv0{ss0:zp}(a:oJ ss0=aa res):Sp 242 [.str ss0] h (yb (.bool res) h):=by
 unfold oJ at a;refine xb Tryz.func242 6 ?_;refine cB a (λ_=>zto) λb a=>?_;exact Z
theorem zwg{b:(List zp)}(a:nz b=aa res):Sp 184 [yD b] h (yb (.bool res) h):=by
 unfold nz at a;refine xb Tryz.func184 16 ?_;refine xP λd=>dE λe=>R.r ?_;refine cG a (λ_=>zv1 (λ_ v L M c=>zv0  c)) λv3 a=>?_;exact Z
abbrev ze2(x:GN):AV:=.agg (GN.row x)
theorem zv2(a:zaR oo0=aa res):Sp 240 [ze2 oo0] h (yb (.bool res) h):=by
 unfold zaR at a;refine xb Tryz.func240 47 ?_;refine dE λm=>R.r ?_;refine dE λo=>R.r ?_;refine cF a (λg a=>?_) (λg a=>?_)
 ·exact Z
 ·refine xP λk=>qg (λ(j:Nat)(i:Unit)=>zo 2 19 (zo 24 23 [(0,.any),(23,.int .i64 (j:Int))])) (λi=>h.ext [.cells (GN.row oo0)] []) a (λj i l a=>cL a (λt s q d a f=>?_) (λa=>?_))
  ·refine ix (zu d) (R.r ?_);refine dr [1] ?_;refine cM a (λ_ e _=>zra e) λp a=>zJ a (λc a=>qd c (R.r ?_));refine cH a (λ_=>zp2) λn a=>cF a (λb a=>?_) (λb a=>?_)
   ·cases a;replace a:=f;apply R.r;exact Z
   ·exact ZL
  ·exact Z
theorem zv4(a:zfA oo0=aa res):Sp 238 [ze2 oo0] h (yb (.bool res) h):=by
 unfold zfA at a;refine xb Tryz.func238 22 ?_;refine dE λb=>R.r ?_;exact Z
theorem zv3(a:zck oo0=aa res):Sp 239 [ze2 oo0] h (yb (.bool res) h):=by
 unfold zck at a;refine xb Tryz.func239 18 ?_;refine dE λc=>R.r ?_;refine dE λb=>R.r ?_;exact Z
theorem ztn{k0:Int}{res:(GR×Bool)}(a:zk0 k0=aa res):Sp 183 [.int .u8 k0] h (yb (.fl [.agg (GR.row res.1),.bool res.2]) h):=by
 unfold zk0 at a;refine xb Tryz.func183 21 ?_;refine zO sb ?_;refine zO sb ?_;refine zO sb ?_;refine zO sb ?_;refine zO sb ?_;refine zO (zbe (cs':=[.int .u8 (0:Int),.fC,.int .u8 (1:Int),.fn (.func 238) [] [],.int .u8 (2:Int),.fn (.func 239) [] [],.int .u8 (3:Int),.fn (.func 239) [] [],.int .u8 (3:Int),.fn (.func 240) [] [],.int .u8 (4:Int),.fn (.func 239) [] []]) rfl zzu.u zst cX.choose_spec.1 cQ.o cO.o rfl rfl) ?_;refine cF a (λd a=>?_) (λd a=>?_)
 ·refine zO sb ?_;exact Z
 ·refine zd a (λe c a=>zO (zjy rfl zzu cX.choose_spec.1 gg gg rfl c) ?_);refine zO (yT rfl cX.choose_spec.1 gg rfl ((congrArg (λb=>cj b _ _ _) cX.choose_spec.2).trans (zrw (row:=GR.row) (L:=([(GR.mk (0:Int) 0),(GR.mk (1:Int) 1),(GR.mk (2:Int) 2),(GR.mk (3:Int) 2),(GR.mk (3:Int) 3),(GR.mk (4:Int) 2)]:List GR)) (λ_=>rfl) c rfl)) (zc rfl)) ?_;cases a;refine fr rfl (wm (g6.refl _) (by simp[AV.low,zB,zwT]) ?_);exact⟨rfl,rfl⟩
theorem zt6{c:Nat}{a:GN}{v:Bool}(h:zeX c a=aa v):zrH c=.fn (.func (zyd c)) [] []:=by
  unfold zeX at h;split at h<;>first|rfl|cases h
theorem zsM{c:Nat}{b:GN}(a:zeX c b=aa res):Sp (zyd c) [ze2 b] h (yb (.bool res) h):=by
 unfold zeX at a;split at a
 ·exact zv4 a
 ·exact zv3 a
 ·exact zv2 a
 ·cases a
theorem zwr(a:zms oo0=aa res):Sp 143 [ze2 oo0] h (yb (.bool res) h):=by
 unfold zms at a;refine xb Tryz.func143 23 ?_;refine cB a (λ_=>ztn) λe a=>cG a (λ_=>zwg) λd a=>?_;refine qr rfl (λb=>yT rfl zuW (zM gg b) rfl (zA rfl) (zwS _ _ _)) ss (R.r ?_);refine qQ a (λv3 c a=>?_);refine vr rfl (λb=>ye rfl rfl (zqe (zM gg b) (zt6 (c b))) (xy (zM gg b) vK) fZ.o) (λb=>zsM (c b)) ss (R.r ?_);exact Z
theorem zux(a:uk e0=aa res):Sp 94 [qf e0] h (yb (.bool res) h):=by
 unfold uk at a;refine xb Tryz.func94 21 ?_;refine cB a (λ_=>zra) λc a=>cG a (λ_=>zwr) λb a=>?_;exact Z
theorem zvu(a:tU cc0=aa res):Sp 77 [zq cc0] h (yb (.bool res) h):=by
 unfold tU at a;refine xb Tryz.func77 45 ?_;refine dr [1,2] ?_;refine zd a (λi b a=>yV rfl rfl (λ_=>sc rfl) (by rintro _ ⟨B2,T2,rfl,c⟩;exact zxC b) ss ?_);refine cM a (λ_ e _=>zux e) λg a=>cH a (λ_=>zvB) λv3 a=>cH a (λ_=>zvC) λv4 a=>cH a (λ_=>zxw) λv5 a=>?_;refine uK rfl rfl (λd=>wj rfl rfl rfl rfl o7 (zM gg d) vO) ss (R.r ?_);refine cH a (λ_=>ztA) λj a=>cH a (λ_=>ztA) λf a=>?_;exact Z
theorem zp3{g0:GP}(e:h.g7 pg0=aa (.cells [.int .u64 g0.base.num,zb g0.base.f,zb g0.base.fb,.int .u64 g0.base.time,za g0.base.tree,.map mg0commits,zb g0.vv]))(c:h.g7 mg0commits=aa (.q7 (g0.g9.map (zZ (λx=>zn x) (λx=>zq x))) 0))(a:zV g0=aa res):Sp 60 [.ptr pg0 0] h (yb (.bool res) h):=by
 unfold zV at a;refine zw Tryz.func60 rfl (by kernel_rfl) (env:=[.ptr pg0 0,wb,wb,wb,wb,wb,wb,wb,wb,wb,wb,wb]) (by rfl) ?_;have b:=yj c rfl;have d:∀k,mg0commits<(ak h.zh)+k:=λk=>o4 b (nv _ _);have g:=yj e rfl;have i:∀k,pg0<(ak h.zh)+k:=λk=>o4 g (nv _ _);refine wr (yF ?_);refine zt rfl (xJ rfl rfl (zc rfl)) (sx 2) ?_;refine yB (wt (wr (yF ?_)));refine zt rfl (yS rfl rfl (zc rfl)) (sx 3) ?_;refine zt rfl (wp rfl rfl rfl (zcx zuu rfl)) (sx 4) ?_;refine zt rfl (yS rfl rfl (zc rfl)) (sx 5) ?_;refine zt rfl (yS rfl rfl (zc rfl)) (sx 6) ?_;refine zt rfl (me rfl rfl rfl) (sx 7) ?_;refine zt rfl (oI rfl zrL rfl rfl) (sx 8) ?_;refine zt rfl (xk rfl zfa rfl e (zA rfl) (zc rfl)) (sx 9) ?_;refine zt rfl (wp rfl rfl rfl (zcx zfa rfl)) (sx 10) ?_;refine zt rfl (zqG rfl rfl rfl rfl) (sx 11) ?_;refine zt rfl (xJ rfl rfl (zc rfl)) (sx 2) ?_;refine yB (wt (zor ?_));obtain rfl:=ky a;refine zil rfl (zjB rfl zl5) (wm (g6.refl _) rfl ?_);exact⟨rfl,rfl⟩
theorem zvt{g0:GP}(e:h.g7 pg0=aa (.cells [.int .u64 g0.base.num,zb g0.base.f,zb g0.base.fb,.int .u64 g0.base.time,za g0.base.tree,.map mg0commits,zb g0.vv]))(b:h.g7 mg0commits=aa (.q7 (g0.g9.map (zZ (λx=>zn x) (λx=>zq x))) 0))(a:wU g0 d1=aa res):Sp 78 [.ptr pg0 0,zn d1] h (yb (.bool res) h):=by
 unfold wU at a;refine zw Tryz.func78 rfl kr (sL 28 rfl) ?_;have c:=yj b rfl;have g:∀k,mg0commits<(ak h.zh)+k:=λk=>o4 c (nv _ _);have j:=yj e rfl;have l:∀k,pg0<(ak h.zh)+k:=λk=>o4 j (nv _ _);apply R.r;refine cB a (λ_=>zp3 (zz e) (zz b)) λp a=>cF a (λn a=>?_) (λn a=>?_)
 ·exact Z
 ·refine dk [3,4,5] [(4,[(0,.cells (GA.row d1))])] ?_;refine yg rfl rfl (by rintro _ ⟨B2,T2,rfl,i⟩;exact xk rfl zfa (gx 12) e (zA rfl) (zc rfl)) (sx 13) ?_;refine yg rfl rfl (by rintro _ ⟨B2,T2,rfl,i⟩;exact yT rfl fO.choose_spec.1 gg (wH i) (z7 (cs':=(GA.row d1)) fO.choose_spec.2 rfl rfl) (zc rfl)) ss ?_;refine yg rfl rfl (by rintro _ ⟨B2,T2,rfl,i⟩;exact zbH (m:=g0.g9) (k:=d1) (d:=(GI.mk (GA.mk (GH.mk (0:Int) (0:Int)) (0:Int)) ([]:List GA) ([]:List GA) (0:Int) (GN.mk (0:Int) ([]:List zp) (0:Int) ([]:zp) ([]:List GA)))) (kv:=(λx=>zn x)) (vv:=(λx=>zq x)) rfl Tryz.underlying115 bP zuL gg (zz b) rfl) ss (R.r ?_);refine qs fN.out ?_;refine qs fN.out ?_;refine dr [] ?_;refine vh rfl rfl (λo=>xk rfl bF (zM gg o) e (zA rfl) (zc rfl)) ss (R.r ?_);refine cH a (λ_=>zp4) λv3 a=>?_;exact Z
theorem zwi{res:Int}(a:zaX xx0 yy1=aa res):Sp 179 [.int .u64 xx0,.int .u64 yy1] h (yb (.int .u64 res) h):=by
 unfold zaX at a;refine xb Tryz.func179 8 ?_;refine zt rfl (zu8 false rfl rfl (xy (gx 5) (xy (gx 6) vK)) rfl rfl) (sx 7) (R.r ?_);exact Z
theorem zwy{res:(List GA)}(a:zdx a0 b1=aa res):Sp 134 [zb a0,zb b1] h (yb (zb res) h):=by
 unfold zdx at a;refine xb Tryz.func134 11 ?_;refine zd a (λj e a=>e7 (rV (w:=.map (ak h.zh+0)) (zg2 (by first|rfl|(rw[xn];rfl)) e) (by first|rfl|(rw[xn];rfl))) ?_);refine zd a (λi c a=>e7 (rV (w:=.map (ak h.zh+1)) (zg2 (by first|rfl|(rw[xn];rfl)) c) (by first|rfl|(rw[xn];rfl))) ?_);refine zd a (λv3 d a=>pz (α:=List (GH×Int)) (R:=λp=>p.Perm v3) (vf:=λb=>.map (ak h.zh+2)) (L:=λb=>[.q7 (b.map (zZ (λx=>zK x) (AV.int .u64))) 0]) (M:=λb=>[]) (B':=λb=>[.q7 (j.map (zZ (λx=>zK x) (AV.int .u64))) 0,.q7 (i.map (zZ (λx=>zK x) (AV.int .u64))) 0,.q7 (b.map (zZ (λx=>zK x) (AV.int .u64))) 0]) (T':=λb=>[]) rfl (sc rfl) (ztG (by first|rfl|(rw[xn];rfl)) (yJ rfl rfl) (yJ rfl rfl) (λ_ _ v L M g=>zwi  g) d) (λ_=>rfl) (λ_=>ko _) (λ_=>ss) (λb f=>?_));replace a:=zdM a b f;refine cB a (λ_=>zrj (yJ rfl rfl)) λv5 a=>?_;exact Z
theorem zxy{g0:GP}{res:(List GA)}(l:h.g7 pg0=aa (.cells [.int .u64 g0.base.num,zb g0.base.f,zb g0.base.fb,.int .u64 g0.base.time,za g0.base.tree,.map mg0commits,zb g0.vv]))(g:h.g7 mg0commits=aa (.q7 (g0.g9.map (zZ (λx=>zn x) (λx=>zq x))) 0))(a:wc g0 cc1=aa res):Sp 79 [.ptr pg0 0,zq cc1] h (yb (zb res) h):=by
 unfold wc at a;refine zw Tryz.func79 rfl kr (sL 41 rfl) ?_;have b:=yj g rfl;have c:∀k,mg0commits<(ak h.zh)+k:=λk=>o4 b (nv _ _);have i:=yj l rfl;have j:∀k,pg0<(ak h.zh)+k:=λk=>o4 i (nv _ _);apply R.r;refine dr [7,14] ?_;refine yq rfl rfl (xk rfl bF (gx 13) l (zA rfl) (zc rfl)) (sx 14) ?_;refine cM a (λ_ e _=>zwy e) λB a=>wl (bs (([cc1.z6]:List GA).map GA.row)) ?_;refine zJ a (λo a=>dL (eN o) ?_);refine zd a (λv3 q a=>ay (by rintro _ ⟨B2,T2,rfl,z⟩;exact(zs7 q).le (.eq (.cons (g6.gW _ _ _) fc.nil))) ?_);refine xP λw=>qg (λ(v:Nat)(s:(List GA))=>zo 1 4 (zo 6 18 (zo 27 14 [(5,zb s),(26,.int .i64 (v:Int))]))) (λs=>h.ext [.cells (GI.row cc1)] [ak ((([cc1.z6]:List GA)++cc1.xo))]) a (λv s y a=>cL a (λA C t p a u=>?_) (λa=>?_))
 ·refine ix (zu p) (R.r ?_);refine dr [8] ?_;refine yq rfl rfl (xk rfl zfa (gx 33) l (zA rfl) (zc rfl)) (sx 34) (R.r ?_);refine wl (za5 (m:=g0.g9) (k:=A) (d:=(GI.mk (GA.mk (GH.mk (0:Int) (0:Int)) (0:Int)) ([]:List GA) ([]:List GA) (0:Int) (GN.mk (0:Int) ([]:List zp) (0:Int) ([]:zp) ([]:List GA)))) (kv:=(λx=>zn x)) (vv:=(λx=>zq x)) rfl Tryz.underlying115 bP zuL gg (zz g) rfl) ?_;refine wl (zcL rfl zt3 bF gg rfl (zc rfl)) ?_;refine cM a (λ_ e _=>zs7 e) λn a=>?_;cases a;exact⟨n,t,u,wk.trans (wk.le (by exact(.eq (.d4 (.cons (g6.of_eq rfl) (.d16 (.drop (.drop (.eq (.eq (.cons (g6.of_eq (oE (by omega) (by omega))) (.d4 (.d4 (.d4 (.drop (.drop fc.nil)))))))))))))))) (yH (by simp[zB,AV.low,b,c,i,j]) rfl rfl (by simp[q6.low,zB,AV.low,b,c,i,j]))⟩
 ·exact Z
theorem zuz{p:GA}{c0:GP}{i:Nat}{b:Nat}(g:h.g7 i=aa (.cells [.int .u64 c0.base.num,zb c0.base.f,zb c0.base.fb,.int .u64 c0.base.time,za c0.base.tree,.map b,zb c0.vv]))(c:h.g7 b=aa (.q7 (c0.g9.map (zZ (λx=>zn x) (λx=>zq x))) 0))(l:h.g7 i0=aa (.cells [.ptr i 0]))(a:yi p c0=aa res):Sp 80 [zn p,.ptr i0 0] h (yb (.bool res) h):=by
 unfold yi at a;refine zw Tryz.func80 rfl kr (sL 8 rfl) ?_;have d:=yj c rfl;have e:∀k,b<(ak h.zh)+k:=λk=>o4 d (nv _ _);have j:=yj g rfl;have n:∀k,i<(ak h.zh)+k:=λk=>o4 j (nv _ _);have m:=yj l rfl;have o:∀k,i0<(ak h.zh)+k:=λk=>o4 m (nv _ _);apply R.r;refine zO (xk rfl zuu gg l (zA rfl) (zc rfl)) ?_;refine cB a (λ_=>zvt (zz g) (zz c)) λq a=>?_;exact Z
theorem zrb(a:wD a0 b1=aa res):Sp 47 [zb a0,zb b1] h (yb (.bool res) h):=by
 unfold wD at a;refine xb Tryz.func47 23 ?_;refine zd a (λm f a=>e7 (rV (w:=.map (ak h.zh+0)) (zg2 (by first|rfl|(rw[xn];rfl)) f) (by first|rfl|(rw[xn];rfl))) ?_);refine zd a (λj d a=>zaQ rfl (sc rfl) (rV (w:=.map (ak h.zh+1)) (zg2 (by first|rfl|(rw[xn];rfl)) d) (by first|rfl|(rw[xn];rfl))) ss ?_);refine mq (kv:=(λx=>zK x)) (vv:=(AV.int .u64)) rfl rfl Tryz.underlying161 gg (yJ rfl rfl) rfl ss rfl (R.r ?_);refine zft (λ(k:Unit)=>[(0,.any),(1,.any),(2,.any),(3,.any),(4,.any),(6,.any),(7,.any),(8,.any),(9,.any),(10,.any),(11,.any),(13,.any),(14,.any),(15,.any),(16,.any),(17,.any),(18,.any),(19,.any),(20,.any),(21,.any),(22,.any)]) (λb k=>h.ext [.q7 (m.map (zZ (λx=>zK x) (AV.int .u64))) 0,.q7 (j.map (zZ (λx=>zK x) (AV.int .u64))) 0,.fF (ak h.zh+1) (ak j) b] []) a (λ_=>by simp only[bi,kj,kJ];try rfl) (wk.le ej.o) ?_;intro b k a;apply R.r;refine zbn rfl rfl gg rfl (yJ rfl rfl) ss a (λl n p i e a c=>⟨_,ss,?_⟩) (λa=>?_)
 ·apply R.r;refine c1 ?_;refine mr rfl rfl gg rfl (yJ rfl rfl) i ss (R.r ?_);refine zO (mL Tryz.underlying161 aN zsb) ?_;refine cF a (λg a=>?_) (λg a=>?_)
  ·cases a;replace a:=c;apply R.r;exact Z
  ·cases a;exact⟨l,(),e,c,wk.trans (wk.le ej.o) (yH (by simp[zB,AV.low]) rfl rfl (by simp[q6.low,zB,AV.low,GH.row,zZ]))⟩
 ·apply R.r;refine c0 ?_;exact Z
theorem zww{e:GA}{c0:GA}{c1:GI}{g:Nat}(b:h.g7 i0=aa (.cells (GA.row c0)))(d:h.g7 g=aa (.cells (GI.row c1)))(a:vF e c0 c1=aa res):Sp 136 [zn e,.ptr i0 0,.ptr g 0] h (yb (.bool res) h):=by
 unfold vF at a;refine zw Tryz.func136 rfl kr (sL 14 rfl) ?_;have c:=yj b rfl;have i:∀k,i0<(ak h.zh)+k:=λk=>o4 c (nv _ _);have f:=yj d rfl;have j:∀k,g<(ak h.zh)+k:=λk=>o4 f (nv _ _);apply R.r;refine zO (xk rfl fO.choose_spec.1 gg b (z7 (cs':=(GA.row c0)) fO.choose_spec.2 rfl rfl) (zc rfl)) ?_;refine zO (wp rfl gg gg (ow oZ rfl)) ?_;refine qr rfl (λl=>xk rfl bF (zM gg l) d (zA rfl) (zc rfl)) ss (R.r ?_);refine cG a (λ_=>zp4) λm a=>?_;exact Z
theorem zxx{g0:GP}{l:GA}(n:h.g7 pg0=aa (.cells [.int .u64 g0.base.num,zb g0.base.f,zb g0.base.fb,.int .u64 g0.base.time,za g0.base.tree,.map mg0commits,zb g0.vv]))(e:h.g7 mg0commits=aa (.q7 (g0.g9.map (zZ (λx=>zn x) (λx=>zq x))) 0))(a:xD g0 cc1 l=aa res):Sp 82 [.ptr pg0 0,zq cc1,zn l] h (yb (.bool res) h):=by
 unfold xD at a;refine zw Tryz.func82 rfl kr (sL 65 rfl) ?_;have b:=yj e rfl;have c:∀k,mg0commits<(ak h.zh)+k:=λk=>o4 b (nv _ _);have i:=yj n rfl;have g:∀k,pg0<(ak h.zh)+k:=λk=>o4 i (nv _ _);apply R.r;refine dr [] ?_;refine vh rfl rfl (λB=>xk rfl bF (zM gg B) n (zA rfl) (zc rfl)) ss (R.r ?_);refine cH a (λ_=>zp4) λF a=>xP λD=>qg (λ(z:Nat)(t:Bool)=>zo 1 3 (zo 8 19 (zo 30 35 [(6,.any),(7,.bool t),(29,.int .i64 (z:Int))]))) (λt=>h.ext [.cells (GI.row cc1),.cells (GA.row l)] []) a (λz t A a=>cL a (λy G u w a p=>?_) (λa=>?_))
 ·refine ix (zu w) (R.r ?_);refine dk [3,4,5] [(4,[(2,.cells (GA.row y))])] ?_;refine yg rfl rfl (by rintro _ ⟨B2,T2,rfl,o⟩;exact xk rfl zfa (gx 36) n (zA rfl) (zc rfl)) (sx 37) ?_;refine yg rfl rfl (by rintro _ ⟨B2,T2,rfl,o⟩;exact yT rfl fO.choose_spec.1 gg (wH o) (z7 (cs':=(GA.row y)) fO.choose_spec.2 rfl rfl) (zc rfl)) ss ?_;refine yg rfl rfl (by rintro _ ⟨B2,T2,rfl,o⟩;exact zbH (m:=g0.g9) (k:=y) (d:=(GI.mk (GA.mk (GH.mk (0:Int) (0:Int)) (0:Int)) ([]:List GA) ([]:List GA) (0:Int) (GN.mk (0:Int) ([]:List zp) (0:Int) ([]:zp) ([]:List GA)))) (kv:=(λx=>zn x)) (vv:=(λx=>zq x)) rfl Tryz.underlying115 bP zuL gg (zz e) rfl) ss (R.r ?_);refine qs fN.out ?_;refine qs fN.out ?_;refine cF a (λq a=>?_) (λq a=>?_)
  ·cases a;exact⟨t,u,p,wk.trans (wk.le (by exact(.eq (.drop (.drop (.drop (.eq (.eq (.drop (.cons (g6.of_eq rfl) (.d16 (.drop (.drop (.drop (.eq (.eq (.cons (g6.of_eq (oE (by omega) (by omega))) (.d16 (.d16 (.drop (.drop (.drop fc.nil)))))))))))))))))))))) (yH (by simp[zB,AV.low,b,c,i,g]) rfl rfl (by simp[q6.low,zB,AV.low,b,c,i,g]))⟩
  ·refine cG a (λ_=>zp4) λv26 a=>zO mF ?_;refine cB a (λ_=>zuy (λ_ v L M E=>zww (vI (j:=2) rfl) (vI (j:=3) rfl) E)) λC a=>cF a (λs a=>?_) (λs a=>?_)
   ·cases a;replace a:=p;apply R.r;exact Z
   ·cases a;exact⟨(t || v26),u,p,wk.trans (wk.le (by exact(.eq (.drop (.drop (.drop (.eq (.eq (.drop (.cons (g6.of_eq rfl) (.d16 (.drop (.drop (.drop (.eq (.eq (.cons (g6.of_eq (oE (by omega) (by omega))) (.d16 (.d16 (.drop (.drop (.drop fc.nil)))))))))))))))))))))) (yH (by simp[zB,AV.low,b,c,i,g]) rfl rfl (by simp[q6.low,zB,AV.low,b,c,i,g]))⟩
 ·exact Z
theorem zyL{res:GJ}(a:mg cc0=aa res):Sp 99 [zq cc0] h (yb (qf res) h):=by
 unfold mg at a;refine xb Tryz.func99 10 ?_;refine zO sb ?_;exact Z
theorem zwn{b:Int}{res:Int}(a:s7 b=aa res):Sp 153 [.int .u8 b] h (yb (.int .u8 res) h):=by
 unfold s7 at a;refine xb Tryz.func153 13 ?_;refine cF a (λj a=>?_) (λj a=>?_)
 ·exact Z
 ·refine cF a (λg a=>?_) (λg a=>?_)
  ·exact Z
  ·refine cF a (λi a=>?_) (λi a=>?_)
   ·refine cF a (λd a=>?_) (λd a=>?_)
    ·exact Z
    ·refine cF a (λc a=>?_) (λc a=>?_)
     ·exact Z
     ·exact Z
   ·refine cF a (λe a=>?_) (λe a=>?_)
    ·exact Z
    ·refine cF a (λf a=>?_) (λf a=>?_)
     ·exact Z
     ·exact Z
theorem zv8{c:(List zp)}(a:pj c=aa res):Sp 231 [yD c] h (yb (.bool res) h):=by
 unfold pj at a;refine xb Tryz.func231 24 ?_;refine qg (λ(g:Nat)(j:Unit)=>zo 1 2 (zo 4 20 [(3,.int .i64 (g:Int))])) (λj=>h.ext [] []) a (λg j k a=>xP λm=>cL a (λo n l e a d=>?_) (λa=>?_))
 ·refine ix (zu e) (R.r ?_);refine cB a (λ_=>ztq) λv9 a=>cF a (λb a=>?_) (λb a=>?_)
  ·cases a;replace a:=d;apply R.r;exact Z
  ·exact ZL
 ·refine xP λi=>dE λf=>R.r ?_;exact Z
theorem zwh(a:zaO oo0=aa res):Sp 180 [ze2 oo0] h (yb (.bool res) h):=by
 unfold zaO at a;refine xb Tryz.func180 95 ?_;refine cB a (λ_=>zwn) λw a=>cG a (λ_=>zv8) λy a=>dE λs=>R.r ?_;refine dE λo=>R.r ?_;refine cF a (λf a=>?_) (λf a=>?_)
 ·exact Z
 ·refine cF a (λj a=>?_) (λj a=>?_)
  ·refine dE λt=>R.r ?_;exact Z
  ·refine dE λq=>R.r ?_;refine cF a (λi a=>?_) (λi a=>?_)
   ·exact Z
   ·refine qg (λ(n:Nat)(m:Unit)=>zo 4 91 [(0,.any),(2,.any),(3,.int .i64 (n:Int))]) (λm=>h.ext [.cells (GN.row oo0)] []) a (λn m p a=>xP λl=>cL a (λz x v g a k=>?_) (λa=>?_))
    ·refine dr [5] ?_;refine mS (zu g) (R.r ?_);refine cM a (λ_ e _=>zfB e) λv26 a=>zJ a (λc a=>qd c (R.r ?_));refine zJ a (λb a=>qd b (R.r ?_));refine cH a (λ_=>zp1) λu a=>cF a (λd a=>?_) (λd a=>?_)
     ·cases a;replace a:=k;apply R.r;exact Z
     ·exact ZL
    ·exact Z
theorem zwv(a:vM e0=aa res):Sp 137 [qf e0] h (yb (.bool res) h):=by
 unfold vM at a;refine xb Tryz.func137 21 ?_;refine cB a (λ_=>zfB) λc a=>cG a (λ_=>zwh) λb a=>?_;exact Z
theorem ztz{b:GA}{f:(List GA)}(a:uz l0 b f=aa res):Sp 138 [zb l0,zn b,zb f] h (yb (.bool res) h):=by
 unfold uz at a;refine xb Tryz.func138 44 ?_;refine qg (λ(n:Nat)(m:Unit)=>zo 5 2 (zo 8 36 [(1,.any),(3,.any),(7,.int .i64 (n:Int))])) (λm=>h.ext [.cells (GA.row b)] []) a (λn m o a=>xP λl=>cL a (λt s q k a j=>?_) (λa=>?_))
 ·refine dr [] ?_;refine zJ a (λi a=>qd i (R.r ?_));refine zJ a (λg a=>qd g (R.r ?_));refine cH a (λ_=>zp1) λp a=>cF a (λe a=>?_) (λe a=>?_)
  ·cases a;replace a:=j;apply R.r;exact Z
  ·refine dr [] ?_;refine mS (zu k) (R.r ?_);refine wl (wp rfl gg gg (ph oZ rfl)) ?_;refine zJ a (λd a=>qd d (R.r ?_));refine cH a (λ_=>zsk) λv22 a=>cF a (λc a=>?_) (λc a=>?_)
   ·cases a;replace a:=j;apply R.r;exact Z
   ·exact ZL
 ·exact Z
theorem zyT(a:nq cc0=aa res):Sp 83 [zq cc0] h (yb (.bool res) h):=by
 unfold nq at a;refine xb Tryz.func83 51 ?_;refine dr [1,2] ?_;refine zd a (λj c a=>yV rfl rfl (λ_=>sc rfl) (by rintro _ ⟨B2,T2,rfl,d⟩;exact zyL c) ss ?_);refine cM a (λ_ e _=>zwv e) λi a=>cH a (λ_=>zs6) λv3 a=>cH a (λ_=>zxF) λv4 a=>cH a (λ_=>zsj) λv5 a=>cF a (λb a=>?_) (λb a=>?_)
 ·exact Z
 ·refine xP λf=>cG a (λ_=>ztz) λg a=>cG a (λ_=>ztz) λv9 a=>?_;exact Z
abbrev yM(x:List GI):AV:=.sl 11 (x.map GI.row)
theorem zvD{g0:GS}{res:Int}(c:h.g7 pg0=aa (.cells [.int .u64 g0.b.num,zb g0.b.f,zb g0.b.fb,.int .u64 g0.b.time,za g0.b.tree,yM g0.l]))(a:xU g0 d1=aa res):Sp 44 [.ptr pg0 0,zn d1] h (yb (.int .i64 res) h):=by
 unfold xU at a;refine zw Tryz.func44 rfl kr (sL 26 rfl) ?_;have d:=yj c rfl;have g:∀k,pg0<(ak h.zh)+k:=λk=>o4 d (nv _ _);apply R.r;refine qg (λ(n:Nat)(o:Unit)=>zo 1 2 (zo 6 20 [(4,.any),(5,.int .i64 (n:Int))])) (λo=>h.ext [.cells (GA.row d1)] []) a (λn o p a=>zt rfl (xk rfl zn5 (gx 9) c (zA rfl) (zc rfl)) (sx 10) ?_);refine xP λm=>cL a (λs t q j a i=>?_) (λa=>?_)
 ·refine dr [] ?_;refine yq rfl rfl (xk rfl zn5 (gx 17) c (zA rfl) (zc rfl)) (sx 18) (R.r ?_);refine mS (zu j) (R.r ?_);refine wl (wp rfl gg gg (ph oZ rfl)) ?_;refine cF a (λe a=>?_) (λe a=>?_)
  ·cases a;replace a:=i;apply R.r;exact Z
  ·exact ZL
 ·exact Z
theorem zvs{g0:GS}(c:h.g7 pg0=aa (.cells [.int .u64 g0.b.num,zb g0.b.f,zb g0.b.fb,.int .u64 g0.b.time,za g0.b.tree,yM g0.l]))(a:xc g0 d1=aa res):Sp 84 [.ptr pg0 0,zn d1] h (yb (.bool res) h):=by
 unfold xc at a;refine zw Tryz.func84 rfl kr (sL 18 rfl) ?_;have d:=yj c rfl;have e:∀k,pg0<(ak h.zh)+k:=λk=>o4 d (nv _ _);apply R.r;refine dr [2] ?_;refine zd a (λn g a=>ay (by rintro _ ⟨B2,T2,rfl,i⟩;exact zvD (zz c) g) ?_);refine vh rfl rfl (λj=>xk rfl bF (zM gg j) c (zA rfl) (zc rfl)) ss (R.r ?_);refine cH a (λ_=>zsk) λm a=>?_;exact Z
end Go.Vv
