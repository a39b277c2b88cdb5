/- Each function that the law reaches computes what its reading says; printed by a program. -/
import Derived.Test.YtgobgfehoplnjaaGreatW1
set_option linter.all false
namespace Go.Vv
open Go Go.Proofs
set_option maxRecDepth 100000
set_option synthInstance.maxSize 100000
set_option synthInstance.maxHeartbeats 1000000
set_option maxHeartbeats 1000000
variable {pg0 mg0commits:Nat} {cc1 cc0:GI} {res:Bool} {h:AH} {d0 ahead2 d1:GA} {ss0 a0 b1 vv0:(List GA)} {f1:(GA->Option Bool)} {ff1:FuncId} {af1 kf1:List AV}
theorem zvL {g0:GO} {res:(List GA)} (l:h.gZ pg0=some (.cells [.int .u64 g0.base.num,za g0.base.f,za g0.base.g9,.int .u64 g0.base.time,zb g0.base.tree,.map mg0commits,za g0.vv])) (g:h.gZ mg0commits=some (.q7 (g0.ff.map (zZ (λx=>zn x) (λx=>zo x))) 0)) (a:xY g0 cc1=some res):Sp 46 [.ptr pg0 0,zo cc1] h (z7 (za res) h):=by
 unfold xY at a;refine zr Tryz.func46 rfl kr (tW 41 rfl) ?_;have b:=yi g rfl;have c:∀k,mg0commits < h.zh.length+k:=λk=>o5 b (n4 _ _);have i:=yi l rfl;have j:∀k,pg0 < h.zh.length+k:=λk=>o5 i (n4 _ _);apply R.r;refine dr [7,14] ?_;refine yn rfl rfl (yU rfl me (gx 13) l (zB rfl) (zc rfl)) (sx 14) ?_;refine cM a (λ_ e _=>zw5 e) λB a=>wo (bs (([cc1.z6]:List GA).map GA.row)) ?_;refine zM a (λo a=>dH (eN o) ?_);refine zd a (λv3 q a=>aP (by rintro _ ⟨B2,T2,rfl,z⟩;exact (zrA q).le (.eq (.cons (g6.gW _ _ _) fd.nil))) ?_);refine xU λw=>qe (λ(v:Nat) (s:(List GA))=>zk 1 4 (zk 6 18 (zk 27 14 [(5,za s),(26,.int .i64 (v:Int))]))) (λs=>h.ext [.cells (GI.row cc1)] [((([cc1.z6]:List GA)++cc1.z8)).length]) a (λv s y a=>cL a (λA C t p a u=>?_) (λa=>?_))
 ·refine ix (zt p) (R.r ?_);refine dr [8] ?_;refine yn rfl rfl (yU rfl aY (gx 33) l (zB rfl) (zc rfl)) (sx 34) (R.r ?_);refine wo (m9 (m:=g0.ff) (k:=A) (d:=(GI.mk (GA.mk (GH.mk (0:Int) (0:Int)) (0:Int)) ([]:List GA) ([]:List GA) (0:Int) (GM.mk (0:Int) ([]:List zq) (0:Int) ([]:zq) ([]:List GA)))) (kv:=(λx=>zn x)) (vv:=(λx=>zo x)) rfl Tryz.underlying82 bD zvo gg (zz g) rfl) ?_;refine wo (zb3 rfl zsv me gg rfl (zc rfl)) ?_;refine cM a (λ_ e _=>zrA e) λn a=>?_;cases a;exact ⟨n,t,u,wk.trans (wk.le (by exact (.eq (.d4 (.cons (g6.of_eq rfl) (.d16 (.drop (.drop (.eq (.eq (.cons (g6.of_eq (oa (by omega) (by omega))) (.d4 (.d4 (.d4 (.drop (.drop fd.nil)))))))))))))))) (yA (by simp [zA,AV.low,b,c,i,j]) rfl rfl (by simp [q6.low,zA,AV.low,b,c,i,j]))⟩
 ·exact Z
theorem zs2 {c0:GO} {i:Nat} {b:Nat} {o:Nat} (g:h.gZ i=some (.cells [.int .u64 c0.base.num,za c0.base.f,za c0.base.g9,.int .u64 c0.base.time,zb c0.base.tree,.map b,za c0.vv])) (c:h.gZ b=some (.q7 (c0.ff.map (zZ (λx=>zn x) (λx=>zo x))) 0)) (l:h.gZ o=some (.cells [.ptr i 0])) (a:yh d0 c0=some res):Sp 47 [zn d0,.ptr o 0] h (z7 (.bool res) h):=by
 unfold yh at a;refine zr Tryz.func47 rfl kr (tW 8 rfl) ?_;have d:=yi c rfl;have e:∀k,b < h.zh.length+k:=λk=>o5 d (n4 _ _);have j:=yi g rfl;have n:∀k,i < h.zh.length+k:=λk=>o5 j (n4 _ _);have m:=yi l rfl;have p:∀k,o < h.zh.length+k:=λk=>o5 m (n4 _ _);apply R.r;refine zO (yU rfl zsV gg l (zB rfl) (zc rfl)) ?_;refine cB a (λ_=>ztU (zz g) (zz c)) λq a=>?_;exact Z
theorem zw4 {res:Int} (k:∀o v (L:List q6) (M:List Nat),f1 o=some v->Sp ff1 (af1++[zn o]++kf1) (h.ext L M) (z7 (.bool v) (h.ext L M))) (a:vW ss0 f1=some res):Sp 96 [za ss0,.fn (.func ff1) af1 kf1] h (z7 (.int .i64 res) h):=by
 unfold vW at a;refine zx Tryz.func96 rfl kr (tW 19 rfl) (λb w=>?_);simp only [zA,AV.low,tr,lA,kJ] at b;have g:∀n m,h.zh.length<=n->h.zs.length<=m->zA n m af1=true:=λn m e c=>zT e c _ (by simp [b]);have d:∀n m,h.zh.length<=n->h.zs.length<=m->zA n m kf1=true:=λn m e c=>zT e c _ (by simp [b]);apply R.r;refine xU λt=>qe (λ(q:Nat) (p:Unit)=>zk 2 5 (zk 9 10 [(8,.int .i64 (q:Int))])) (λp=>h.ext [] []) a (λq p s a=>cL a (λz y u f a l=>?_) (λa=>?_))
 ·refine ix (zt f) (R.r ?_);refine zd a (λx j a=>yf rfl (dU rfl) (k _ _ _ _ j) ss (R.r ?_));refine cF a (λi a=>?_) (λi a=>?_)
  ·cases a;replace a:=l;apply R.r;exact Z
  ·exact ZL
 ·exact Z
theorem zs1 (e:∀c v (L:List q6) (M:List Nat),f1 c=some v->Sp ff1 (af1++[zn c]++kf1) (h.ext L M) (z7 (.bool v) (h.ext L M))) (a:yg ss0 f1=some res):Sp 48 [za ss0,.fn (.func ff1) af1 kf1] h (z7 (.bool res) h):=by
 unfold yg at a;refine zx Tryz.func48 rfl kr (tW 9 rfl) (λb k=>?_);simp only [zA,AV.low,tr,lA,kJ] at b;have d:∀n m,h.zh.length<=n->h.zs.length<=m->zA n m af1=true:=λn m i f=>zT i f _ (by simp [b]);have g:∀n m,h.zh.length<=n->h.zs.length<=m->zA n m kf1=true:=λn m i f=>zT i f _ (by simp [b]);apply R.r;refine cB a (λ_=>zw4 (λc v L M j=>by rw [xG];exact e c v _ _ j)) λl a=>?_;exact Z
theorem zpJ  (a:wj a0 b1=some res):Sp 49 [za a0,za b1] h (z7 (.bool res) h):=by
 unfold wj at a;refine y8 Tryz.func49 23 ?_;refine zd a (λm f a=>e6 (rV (w:=.map (h.zh.length+0)) (zoD (by first | rfl | (rw [xj];rfl)) f) (by first | rfl | (rw [xj];rfl))) ?_);refine zd a (λj d a=>zam rfl (sc rfl) (rV (w:=.map (h.zh.length+1)) (zoD (by first | rfl | (rw [xj];rfl)) d) (by first | rfl | (rw [xj];rfl))) ss ?_);refine nx (kv:=(λx=>zJ x)) (vv:=(AV.int .u64)) rfl rfl Tryz.underlying142 gg (yQ rfl rfl) rfl ss rfl (R.r ?_);refine zeA (λ(k:Unit)=>[(0,.any),(1,.any),(2,.any),(3,.any),(4,.any),(6,.any),(7,.any),(8,.any),(9,.any),(10,.any),(11,.any),(13,.any),(14,.any),(15,.any),(16,.any),(17,.any),(18,.any),(19,.any),(20,.any),(21,.any),(22,.any)]) (λb k=>h.ext [.q7 (m.map (zZ (λx=>zJ x) (AV.int .u64))) 0,.q7 (j.map (zZ (λx=>zJ x) (AV.int .u64))) 0,.fB (h.zh.length+1) j.length b] []) a (λ_=>by simp only [cV,kf,kE];try rfl) (wk.le f9.o) ?_;intro b k a;apply R.r;refine zaL rfl rfl gg rfl (yQ rfl rfl) ss a (λl n p i e a c=>⟨_,ss,?_⟩) (λa=>?_)
 ·apply R.r;refine c1 ?_;refine ny rfl rfl gg rfl (yQ rfl rfl) i ss (R.r ?_);refine zO (mL Tryz.underlying142 ac zqF) ?_;refine cF a (λg a=>?_) (λg a=>?_)
  ·cases a;replace a:=c;apply R.r;exact Z
  ·cases a;exact ⟨l,(),e,c,wk.trans (wk.le f9.o) (yA (by simp [zA,AV.low]) rfl rfl (by simp [q6.low,zA,AV.low,GH.row,zZ]))⟩
 ·apply R.r;refine c0 ?_;exact Z
theorem zw3 {e:GA} {c0:GA} {g:Nat} {c1:GI} {i:Nat} (b:h.gZ g=some (.cells (GA.row c0))) (d:h.gZ i=some (.cells (GI.row c1))) (a:vk e c0 c1=some res):Sp 98 [zn e,.ptr g 0,.ptr i 0] h (z7 (.bool res) h):=by
 unfold vk at a;refine zr Tryz.func98 rfl kr (tW 14 rfl) ?_;have c:=yi b rfl;have j:∀k,g < h.zh.length+k:=λk=>o5 c (n4 _ _);have f:=yi d rfl;have l:∀k,i < h.zh.length+k:=λk=>o5 f (n4 _ _);apply R.r;refine zO (yU rfl f5.choose_spec.1 gg b (yj (cs':=(GA.row c0)) f5.choose_spec.2 rfl rfl) (zc rfl)) ?_;refine zO (wv rfl gg gg (pG p5 rfl)) ?_;refine vN rfl (λm=>yU rfl me (zN gg m) d (zB rfl) (zc rfl)) ss (R.r ?_);refine cG a (λ_=>zoG) λn a=>?_;exact Z
theorem zvK {g0:GO} (l:h.gZ pg0=some (.cells [.int .u64 g0.base.num,za g0.base.f,za g0.base.g9,.int .u64 g0.base.time,zb g0.base.tree,.map mg0commits,za g0.vv])) (e:h.gZ mg0commits=some (.q7 (g0.ff.map (zZ (λx=>zn x) (λx=>zo x))) 0)) (a:xz g0 cc1 ahead2=some res):Sp 50 [.ptr pg0 0,zo cc1,zn ahead2] h (z7 (.bool res) h):=by
 unfold xz at a;refine zr Tryz.func50 rfl kr (tW 65 rfl) ?_;have b:=yi e rfl;have c:∀k,mg0commits < h.zh.length+k:=λk=>o5 b (n4 _ _);have i:=yi l rfl;have g:∀k,pg0 < h.zh.length+k:=λk=>o5 i (n4 _ _);apply R.r;refine dr [] ?_;refine wV rfl rfl (λA=>yU rfl me (zN gg A) l (zB rfl) (zc rfl)) ss (R.r ?_);refine cH a (λ_=>zoG) λE a=>xU λC=>qe (λ(y:Nat) (s:Bool)=>zk 1 3 (zk 8 19 (zk 30 35 [(6,.any),(7,.bool s),(29,.int .i64 (y:Int))]))) (λs=>h.ext [.cells (GI.row cc1),.cells (GA.row ahead2)] []) a (λy s z a=>cL a (λw F t u a o=>?_) (λa=>?_))
 ·refine ix (zt u) (R.r ?_);refine dk [3,4,5] [(4,[(2,.cells (GA.row w))])] ?_;refine yM rfl rfl (by rintro _ ⟨B2,T2,rfl,n⟩;exact yU rfl aY (gx 36) l (zB rfl) (zc rfl)) (sx 37) ?_;refine yM rfl rfl (by rintro _ ⟨B2,T2,rfl,n⟩;exact xM rfl f5.choose_spec.1 gg (qx n) (yj (cs':=(GA.row w)) f5.choose_spec.2 rfl rfl) (zc rfl)) ss ?_;refine yM rfl rfl (by rintro _ ⟨B2,T2,rfl,n⟩;exact zd6 (m:=g0.ff) (k:=w) (d:=(GI.mk (GA.mk (GH.mk (0:Int) (0:Int)) (0:Int)) ([]:List GA) ([]:List GA) (0:Int) (GM.mk (0:Int) ([]:List zq) (0:Int) ([]:zq) ([]:List GA)))) (kv:=(λx=>zn x)) (vv:=(λx=>zo x)) rfl Tryz.underlying82 bD zvo gg (zz e) rfl) ss (R.r ?_);refine ur fS.out ?_;refine ur fS.out ?_;refine cF a (λp a=>?_) (λp a=>?_)
  ·cases a;exact ⟨s,t,o,wk.trans (wk.le (by exact (.eq (.drop (.drop (.drop (.eq (.eq (.drop (.cons (g6.of_eq rfl) (.d16 (.drop (.drop (.drop (.eq (.eq (.cons (g6.of_eq (oa (by omega) (by omega))) (.d16 (.d16 (.drop (.drop (.drop fd.nil)))))))))))))))))))))) (yA (by simp [zA,AV.low,b,c,i,g]) rfl rfl (by simp [q6.low,zA,AV.low,b,c,i,g]))⟩
  ·refine cG a (λ_=>zoG) λv26 a=>zO mF ?_;refine cB a (λ_=>zs1 (λ_ v L M D=>zw3 (vq (j:=2) rfl) (vq (j:=3) rfl) D)) λB a=>cF a (λq a=>?_) (λq a=>?_)
   ·cases a;replace a:=o;apply R.r;exact Z
   ·cases a;exact ⟨(s || v26),t,o,wk.trans (wk.le (by exact (.eq (.drop (.drop (.drop (.eq (.eq (.drop (.cons (g6.of_eq rfl) (.d16 (.drop (.drop (.drop (.eq (.eq (.cons (g6.of_eq (oa (by omega) (by omega))) (.d16 (.d16 (.drop (.drop (.drop fd.nil)))))))))))))))))))))) (yA (by simp [zA,AV.low,b,c,i,g]) rfl rfl (by simp [q6.low,zA,AV.low,b,c,i,g]))⟩
 ·exact Z
theorem zvF {ss0:(List zq)} {res:(List zq)}  (a:vd ss0=some res):Sp 99 [yR ss0] h (zsU h 1 res.length (res.map yp)):=by
 unfold vd at a;refine y8 Tryz.func99 8 ?_;refine uX rfl rfl bI gg oL rfl (λ_=>ss) a (λb1 d a=>R.r ?_);refine cF a (λb a=>?_) (λb a=>?_)
 ·exact Z
 ·refine zO (bs (([]:List zq).map yp)) ?_;refine zM a (λc a=>zO (eN c) ?_);exact Z
theorem zpH {res:(List GA)}  (a:yk ss0=some res):Sp 92 [za ss0] h (zsU h 3 res.length (res.map GA.row)):=by
 unfold yk at a;refine y8 Tryz.func92 8 ?_;refine uX rfl rfl p6 gg oL rfl (λ_=>ss) a (λb1 d a=>R.r ?_);refine cF a (λb a=>?_) (λb a=>?_)
 ·exact Z
 ·refine zO (bs (([]:List GA).map GA.row)) ?_;refine zM a (λc a=>zO (eN c) ?_);exact Z
theorem ztJ {res:(List GA)}  (a:yk ss0=some res):Sp 92 [za ss0] h (zqU h 3 res.length (res.map GA.row)):=by
 unfold yk at a;refine y8 Tryz.func92 8 ?_;refine uX rfl rfl p6 gg oL rfl (λ_=>ss) a (λb1 d a=>R.r ?_);refine cF a (λb a=>?_) (λb a=>?_)
 ·exact Z
 ·refine zO (bs (([]:List GA).map GA.row)) ?_;refine vH (qF (gx 5) rfl rfl (sx 5) rfl rfl) ?_;refine zM a (λc a=>zO (zdV (i:=0) (j:=0) (B':=[yq h 0 3 ((([]:List GA)++ss0).map GA.row)]) (T':=[((([]:List GA)++ss0)).length]) rfl rfl rfl rfl p6 p6 gg gg rfl (zc rfl) zcm c rfl rfl rfl rfl rfl) ?_);exact Z
theorem zs3 {res:(List GA)}  (a:yD ss0=some res):Sp 28 [za ss0] h (z7 (za res) h):=by
 unfold yD at a;refine y8 Tryz.func28 8 ?_;refine uX rfl rfl zsz gg oL rfl (λ_=>ss) a (λb1 d a=>R.r ?_);refine cF a (λb a=>?_) (λb a=>?_)
 ·exact Z
 ·refine zO (bs (([]:List GA).map GA.row)) ?_;refine zM a (λc a=>zO (eN c) ?_);exact Z
theorem ztT {res:GI}  (a:tc cc0=some res):Sp 51 [zo cc0] h (z7 (zo res) h):=by
 unfold tc at a;refine y8 Tryz.func51 24 ?_;refine dr [5] ?_;refine zd a (λg c a=>?_);refine wq rfl (fY.cons (.inr (oJ trivial)) fY.nil) (by rfl) rfl (sc rfl) (oX (zpH c)) ss (R.r ?_);refine cM a (λ_ e _=>zs3 e) λf a=>ur fS.out ?_;refine ur fS.out ?_;refine dr [] ?_;refine zd a (λv3 b a=>wq rfl fY.nil (by rfl) rfl (sc rfl) (oX (zvF b)) ss (R.r ?_));refine zd a (λv4 d a=>wq rfl fY.nil (by rfl) rfl (sc rfl) (oX (zpH d)) ss (R.r ?_));refine ur fS.out ?_;refine ur fS.out ?_;exact Z
theorem zuK {a0:GH}  (a:ux a0=some res):Sp 127 [zJ a0] h (z7 (.bool res) h):=by
 unfold ux at a;refine y8 Tryz.func127 16 ?_;exact Z
theorem aA  (a:vg d0=some res):Sp 81 [zn d0] h (z7 (.bool res) h):=by
 unfold vg at a;refine y8 Tryz.func81 16 ?_;refine cB a (λ_=>zuK) λb a=>?_;exact Z
theorem zrW {ss0:zq}  (a:uS ss0=some res):Sp 126 [.str ss0] h (z7 (.bool res) h):=by
 unfold uS at a;refine y8 Tryz.func126 45 ?_;refine xU λl=>dm λm=>R.r ?_;refine cF a (λd a=>?_) (λd a=>?_)
 ·exact Z
 ·refine qe (λ(g:Nat) (i:Unit)=>zk 1 2 (zk 4 41 [(3,.int .i64 (g:Int))])) (λi=>h.ext [] []) a (λg i j a=>xU λf=>cL a (λn o k e a c=>?_) (λa=>?_))
  ·refine zO (zm0 rfl cu gg gg (zt e)) ?_;refine cF a (λb a=>?_) (λb a=>?_)
   ·cases a;replace a:=c;apply R.r;exact Z
   ·exact ZL
  ·exact Z
theorem zuJ {c:(List zq)}  (a:rC c=some res):Sp 128 [yR c] h (z7 (.bool res) h):=by
 unfold rC at a;refine y8 Tryz.func128 24 ?_;refine qe (λ(g:Nat) (j:Unit)=>zk 1 2 (zk 4 20 [(3,.int .i64 (g:Int))])) (λj=>h.ext [] []) a (λg j k a=>xU λm=>cL a (λo n l e a d=>?_) (λa=>?_))
 ·refine ix (zt e) (R.r ?_);refine cB a (λ_=>zrW) λv9 a=>cF a (λb a=>?_) (λb a=>?_)
  ·cases a;replace a:=d;apply R.r;exact Z
  ·exact ZL
 ·refine xU λi=>dm λf=>R.r ?_;exact Z
theorem ztZ {b:Int} {res:Int}  (a:sj b=some res):Sp 34 [.int .u8 b] h (z7 (.int .u8 res) h):=by
 unfold sj at a;refine y8 Tryz.func34 13 ?_;refine cF a (λj a=>?_) (λj a=>?_)
 ·exact Z
 ·refine cF a (λg a=>?_) (λg a=>?_)
  ·exact Z
  ·refine cF a (λi a=>?_) (λi a=>?_)
   ·refine cF a (λd a=>?_) (λd a=>?_)
    ·exact Z
    ·refine cF a (λc a=>?_) (λc a=>?_)
     ·exact Z
     ·exact Z
   ·refine cF a (λe a=>?_) (λe a=>?_)
    ·exact Z
    ·refine cF a (λf a=>?_) (λf a=>?_)
     ·exact Z
     ·exact Z
theorem zoF {a0:GA} {b1:GA}  (a:wg a0 b1=some res):Sp 41 [zn a0,zn b1] h (z7 (.bool res) h):=by
 unfold wg at a;refine y8 Tryz.func41 38 ?_;refine cF a (λc a=>?_) (λc a=>?_)
 ·exact Z
 ·refine cF a (λb a=>?_) (λb a=>?_)
  ·exact Z
  ·exact Z
theorem zxb {b:GM}  (a:my b=some res):Sp 82 [zeb b] h (z7 (.bool res) h):=by
 unfold my at a;refine y8 Tryz.func82 95 ?_;refine cB a (λ_=>ztZ) λx a=>cG a (λ_=>zuJ) λz a=>dm λt=>R.r ?_;refine dm λp=>R.r ?_;refine cF a (λg a=>?_) (λg a=>?_)
 ·exact Z
 ·refine cF a (λk a=>?_) (λk a=>?_)
  ·refine dm λu=>R.r ?_;exact Z
  ·refine dm λs=>R.r ?_;refine cF a (λj a=>?_) (λj a=>?_)
   ·exact Z
   ·refine qe (λ(o:Nat) (n:Unit)=>zk 4 91 [(0,.any),(2,.any),(3,.int .i64 (o:Int))]) (λn=>h.ext [.cells (GM.row b)] []) a (λo n q a=>xU λm=>cL a (λA y w i a l=>?_) (λa=>?_))
    ·refine dr [5] ?_;refine eU (zt i) (R.r ?_);refine cM a (λ_ e _=>aA e) λv26 a=>zM a (λd a=>vE d (R.r ?_));refine zM a (λc a=>vE c (R.r ?_));refine cH a (λ_=>zoF) λv a=>cF a (λf a=>?_) (λf a=>?_)
     ·cases a;replace a:=l;apply R.r;exact Z
     ·exact ZL
    ·exact Z
theorem zt0 {b:GJ}  (a:vu b=some res):Sp 33 [wI b] h (z7 (.bool res) h):=by
 unfold vu at a;refine y8 Tryz.func33 21 ?_;refine cB a (λ_=>aA) λd a=>cG a (λ_=>zxb) λc a=>?_;exact Z
theorem zqL {i:GH} {res:Int}  (a:uy vv0 i=some res):Sp 89 [za vv0,zJ i] h (z7 (.int .u64 res) h):=by
 unfold uy at a;refine y8 Tryz.func89 42 ?_;refine qe (λ(l:Nat) (g:Int)=>zk 1 2 (zk 7 35 [(4,.any),(5,.int .u64 g),(6,.int .i64 (l:Int))])) (λg=>h.ext [.cells (GH.row i)] []) a (λl g m a=>xU λk=>cL a (λs q o c a p=>?_) (λa=>?_))
 ·refine dr [4] ?_;refine eU (zt c) (R.r ?_);refine cM a (λ_ e _=>aA e) λn a=>zM a (λf a=>vE f (R.r ?_));refine wV rfl rfl (λj=>wv rfl (zN gg j) (zN gg j) (rz zvE rfl)) ss (R.r ?_);refine zM a (λd a=>vE d (R.r ?_));refine cF a (λb a=>?_) (λb a=>?_)
  ·refine ix (zt c) (R.r ?_);exact ZL
  ·exact ZL
 ·exact Z
theorem zqN  (a:qN vv0 d1=some res):Sp 40 [za vv0,zn d1] h (z7 (.bool res) h):=by
 unfold qN at a;refine y8 Tryz.func40 16 ?_;refine dr [1] ?_;refine cM a (λ_ e _=>aA e) λc a=>cH a (λ_=>zqL) λb a=>?_;exact Z
theorem zr6 {m:(List GA)} {b:GA} {f:(List GA)}  (a:ua m b f=some res):Sp 103 [za m,zn b,za f] h (z7 (.bool res) h):=by
 unfold ua at a;refine y8 Tryz.func103 44 ?_;refine qe (λ(o:Nat) (n:Unit)=>zk 5 2 (zk 8 36 [(1,.any),(3,.any),(7,.int .i64 (o:Int))])) (λn=>h.ext [.cells (GA.row b)] []) a (λo n p a=>xU λl=>cL a (λu t s k a j=>?_) (λa=>?_))
 ·refine dr [] ?_;refine zM a (λi a=>vE i (R.r ?_));refine zM a (λg a=>vE g (R.r ?_));refine cH a (λ_=>zoF) λq a=>cF a (λe a=>?_) (λe a=>?_)
  ·cases a;replace a:=j;apply R.r;exact Z
  ·refine dr [] ?_;refine eU (zt k) (R.r ?_);refine wo (wv rfl gg gg (rz p5 rfl)) ?_;refine zM a (λd a=>vE d (R.r ?_));refine cH a (λ_=>zqN) λv22 a=>cF a (λc a=>?_) (λc a=>?_)
   ·cases a;replace a:=j;apply R.r;exact Z
   ·exact ZL
 ·exact Z
theorem zrB {res:(List GA)}  (a:vz vv0=some res):Sp 39 [za vv0] h (z7 (za res) h):=by
 unfold vz at a;refine y8 Tryz.func39 76 ?_;refine qe (h0:=wk.le (by exact (.eq (.drop (.drop (.cons (g6.gW _ _ _) (.cons (g6.of_eq rfl) (.d16 (.d16 (.d16 (.d16 (.d4 (.drop (.drop (.drop fd.nil))))))))))))))) (λ(u:Nat) (t:(List GA))=>zk 1 2 (zk 5 71 [(3,za t),(4,.int .i64 (u:Int))])) (λt=>h.ext [] []) a (λu t w a=>xU λv=>cL a (λB E A i a C=>?_) (λa=>?_))
 ·refine dr [4] ?_;refine eU (zt i) (R.r ?_);refine cM a (λ_ e _=>aA e) λv39 a=>zM a (λp a=>vE p (R.r ?_));refine zM a (λg a=>vE g (R.r ?_));refine cH a (λ_=>zqL) λy a=>zM a (λf a=>vE f (R.r ?_));refine cH a (λ_=>zqL) λv44 a=>cF a (λk a=>?_) (λk a=>?_)
  ·exact ZL
  ·refine xd (λ(s2:Int)=>zk 1 2 (zk 6 70 [(5,.int .i64 s2)])) (λs2=>h.ext [] []) a (λ_=>UE) (wk.le f9.o) ?_;intro n2 s2 D a s;apply R.r;refine dr [] ?_;refine qm rfl rfl (x9 rfl rfl rfl rfl zsz gg vC) ss (R.r ?_);refine zM a (λl a=>vE l (R.r ?_));refine zM a (λd a=>vE d (R.r ?_));refine cH a (λ_=>zoF) λv55 a=>cF a (λq a=>?_) (λq a=>?_)
   ·exact ZL
   ·cases a;replace a:=s;apply R.r;refine zmc kr ?_;refine wo (bs (([]:List GA).map GA.row)) ?_;refine zd a (λz m a=>wo (qB rfl zsz gg (.inl rfl) .none (.some gg) m) ?_);refine zM a (λj a=>dH (eN j) ?_);refine eU (zt i) (R.r ?_);refine wo (bs (([B]:List GA).map GA.row)) ?_;refine zM a (λc a=>dH (eT c) ?_);refine zd a (λx b a=>wo (qB rfl zsz gg (.inl rfl) (.some gg) .none b) ?_);refine zM a (λn a=>dH (eT n) ?_);exact ZL
 ·exact Z
theorem ok7  (a:qs a0 b1=some res):Sp 7 [za a0,za b1] h (z7 (.bool res) h):=by
 unfold qs at a;refine y8 Tryz.func7 26 ?_;refine xU λm=>xU λo=>cF a (λe a=>?_) (λe a=>?_)
 ·exact Z
 ·refine qe (λ(g:Nat) (j:Unit)=>zk 2 3 (zk 6 20 [(5,.int .i64 (g:Int))])) (λj=>h.ext [] []) a (λg j k a=>xU λi=>cL a (λp q l f a d=>?_) (λa=>?_))
  ·refine dr [] ?_;refine eU (zt f) (R.r ?_);refine zd a (λn c a=>eU c (R.r ?_));refine wo (wv rfl gg gg (pG p5 rfl)) ?_;refine cF a (λb a=>?_) (λb a=>?_)
   ·cases a;replace a:=d;apply R.r;exact Z
   ·exact ZL
  ·exact Z
theorem zvT {res:GJ}  (a:uH cc0=some res):Sp 11 [zo cc0] h (z7 (wI res) h):=by
 unfold uH at a;refine y8 Tryz.func11 10 ?_;refine zO sb ?_;exact Z
theorem zxo  (a:ot cc0=some res):Sp 53 [zo cc0] h (z7 (.bool res) h):=by
 unfold ot at a;refine y8 Tryz.func53 51 ?_;refine dr [1,2] ?_;refine zd a (λj c a=>yH rfl rfl (λ_=>sc rfl) (by rintro _ ⟨B2,T2,rfl,d⟩;exact zvT c) ss ?_);refine cM a (λ_ e _=>zt0 e) λi a=>cH a (λ_=>zrB) λv3 a=>cH a (λ_=>ok7) λv4 a=>cH a (λ_=>zqL) λv5 a=>cF a (λb a=>?_) (λb a=>?_)
 ·exact Z
 ·refine xU λf=>cG a (λ_=>zr6) λg a=>cG a (λ_=>zr6) λv9 a=>?_;exact Z
abbrev zK (x:List GI):AV:=.sl 11 (x.map GI.row)
theorem zpQ {g0:GR} {res:Int} (c:h.gZ pg0=some (.cells [.int .u64 g0.b.num,za g0.b.f,za g0.b.g9,.int .u64 g0.b.time,zb g0.b.tree,zK g0.l])) (a:xQ g0 d1=some res):Sp 104 [.ptr pg0 0,zn d1] h (z7 (.int .i64 res) h):=by
 unfold xQ at a;refine zr Tryz.func104 rfl kr (tW 26 rfl) ?_;have d:=yi c rfl;have g:∀k,pg0 < h.zh.length+k:=λk=>o5 d (n4 _ _);apply R.r;refine qe (λ(n:Nat) (o:Unit)=>zk 1 2 (zk 6 20 [(4,.any),(5,.int .i64 (n:Int))])) (λo=>h.ext [.cells (GA.row d1)] []) a (λn o p a=>zy rfl (yU rfl ai (gx 9) c (zB rfl) (zc rfl)) (sx 10) ?_);refine xU λm=>cL a (λs t q j a i=>?_) (λa=>?_)
 ·refine dr [] ?_;refine yn rfl rfl (yU rfl ai (gx 17) c (zB rfl) (zc rfl)) (sx 18) (R.r ?_);refine eU (zt j) (R.r ?_);refine wo (wv rfl gg gg (rz p5 rfl)) ?_;refine cF a (λe a=>?_) (λe a=>?_)
  ·cases a;replace a:=i;apply R.r;exact Z
  ·exact ZL
 ·exact Z
theorem ztS {g0:GR} (c:h.gZ pg0=some (.cells [.int .u64 g0.b.num,za g0.b.f,za g0.b.g9,.int .u64 g0.b.time,zb g0.b.tree,zK g0.l])) (a:xb g0 d1=some res):Sp 54 [.ptr pg0 0,zn d1] h (z7 (.bool res) h):=by
 unfold xb at a;refine zr Tryz.func54 rfl kr (tW 18 rfl) ?_;have d:=yi c rfl;have e:∀k,pg0 < h.zh.length+k:=λk=>o5 d (n4 _ _);apply R.r;refine dr [2] ?_;refine zd a (λn g a=>aP (by rintro _ ⟨B2,T2,rfl,i⟩;exact zpQ (zz c) g) ?_);refine wV rfl rfl (λj=>yU rfl me (zN gg j) c (zB rfl) (zc rfl)) ss (R.r ?_);refine cH a (λ_=>zqN) λm a=>?_;exact Z
theorem zr5  (a:uT a0 b1=some res):Sp 105 [za a0,za b1] h (z7 (.bool res) h):=by
 unfold uT at a;refine y8 Tryz.func105 32 ?_;refine qe (λ(j:Nat) (k:Unit)=>zk 2 3 (zk 6 26 [(5,.int .i64 (j:Int))])) (λk=>h.ext [] []) a (λj k l a=>xU λi=>cL a (λp q m g a f=>?_) (λa=>?_))
 ·refine dr [4] ?_;refine eU (zt g) (R.r ?_);refine cM a (λ_ e _=>aA e) λn a=>zM a (λb a=>vE b (R.r ?_));refine zM a (λc a=>vE c (R.r ?_));refine cH a (λ_=>zqL) λo a=>cF a (λd a=>?_) (λd a=>?_)
  ·cases a;replace a:=f;apply R.r;exact Z
  ·exact ZL
 ·exact Z
theorem zpO {res:(List GA)}  (a:uU a0 b1=some res):Sp 137 [za a0,za b1] h (z7 (za res) h):=by
 unfold uU at a;refine y8 Tryz.func137 11 ?_;refine zO (bs (([]:List GA).map GA.row)) ?_;refine zM a (λc a=>zO (eN c) ?_);refine zM a (λd a=>zO (eT d) ?_);refine zd a (λv3 b a=>cp ((zrB b).le (.cons (g6.gW _ _ _) fd.nil)) (R.r ?_));exact Z
theorem zuF {res:(List GA)}  (a:rO a0 b1=some res):Sp 138 [za a0,za b1] h (z7 (za res) h):=by
 unfold rO at a;refine y8 Tryz.func138 48 ?_;refine cB a (λ_=>zrB) λq a=>qe (h0:=wk.trans (t8 rfl rfl (sx 5) rfl) (wk.le (by exact (.drop (.eq (.drop (.drop (.drop (.cons (g6.of_eq rfl) (.eq (.cons (g6.of_eq rfl) (.d16 (.d16 (.d4 (.d4 fd.nil))))))))))))))) (λ(k:Nat) (g:(List GA))=>zk 2 3 (zk 8 40 [(0,.any),(5,dM h 0 3 (g.map GA.row)),(7,.int .i64 (k:Int))])) (λg=>h.ext [] [g.length]) a (λk g m a=>xU λj=>cL a (λl s o b a p=>?_) (λa=>?_))
 ·refine ix (zt b) (R.r ?_);refine cB a (λ_=>zqL) λi a=>ix (zt b) (R.r ?_);refine cF a (λc a=>?_) (λc a=>?_)
  ·refine ix (zt b) (R.r ?_);refine ix (zt b) (R.r ?_);refine zO sb ?_;refine zO (bs (([l]:List GA).map GA.row)) ?_;refine zM a (λf a=>zO (eT f) ?_);exact ZL
  ·refine ix (zt b) (R.r ?_);refine zO sb ?_;refine zO (bs (([(GA.mk l.zi i)]:List GA).map GA.row)) ?_;refine zM a (λd a=>zO (eT d) ?_);exact ZL
 ·refine zd a (λn e a=>cp ((zrB e).le (.cons (g6.gW _ _ _) fd.nil)) (R.r ?_));exact Z
theorem zr4 {g0:GR} {res:(List GA)} (c:h.gZ pg0=some (.cells [.int .u64 g0.b.num,za g0.b.f,za g0.b.g9,.int .u64 g0.b.time,zb g0.b.tree,zK g0.l])) (a:xA g0 cc1=some res):Sp 106 [.ptr pg0 0,zo cc1] h (z7 (za res) h):=by
 unfold xA at a;refine zr Tryz.func106 rfl kr (tW 55 rfl) ?_;have d:=yi c rfl;have n:∀k,pg0 < h.zh.length+k:=λk=>o5 d (n4 _ _);apply R.r;refine dr [7,11] ?_;refine yn rfl rfl (yU rfl me (gx 13) c (zB rfl) (zc rfl)) (sx 14) ?_;refine cM a (λ_ e _=>zuF e) λC a=>wo (bs (([cc1.z6]:List GA).map GA.row)) ?_;refine zd a (λE o a=>aP (by rintro _ ⟨B2,T2,rfl,u⟩;exact (zpO o).le (.eq (.cons (g6.gW _ _ _) fd.nil))) ?_);refine qe (λ(s:Nat) (p:(List GA))=>zk 1 2 (zk 7 48 [(4,.any),(5,za p),(6,.int .i64 (s:Int))])) (λp=>h.ext [.cells (GI.row cc1)] []) a (λs p t a=>xU λq=>cL a (λA D z j a B=>?_) (λa=>?_))
 ·refine ix (zt j) (R.r ?_);refine zO (bs (([A]:List GA).map GA.row)) ?_;refine zd a (λw m a=>cp ((zpO m).le (.eq (.cons (g6.gW _ _ _) fd.nil))) (R.r ?_));refine ix (zt j) (R.r ?_);refine cB a (λ_=>zpQ (zz c)) λx a=>cF a (λg a=>?_) (λg a=>?_)
  ·refine zO (yU rfl ai gg c (zB rfl) (zc rfl)) ?_;refine zd a (λy i a=>ix i (R.r ?_));refine cB a (λ_=>zpO) λv a=>?_;exact ZL
  ·exact ZL
 ·exact Z
theorem zxn {g0:GR} (c:h.gZ pg0=some (.cells [.int .u64 g0.b.num,za g0.b.f,za g0.b.g9,.int .u64 g0.b.time,zb g0.b.tree,zK g0.l])) (a:xP g0 cc1 ahead2=some res):Sp 55 [.ptr pg0 0,zo cc1,zn ahead2] h (z7 (.bool res) h):=by
 unfold xP at a;refine zr Tryz.func55 rfl kr (tW 42 rfl) ?_;have d:=yi c rfl;have i:∀k,pg0 < h.zh.length+k:=λk=>o5 d (n4 _ _);apply R.r;refine qe (λ(p:Nat) (o:Unit)=>zk 1 3 (zk 8 34 [(6,.any),(7,.int .i64 (p:Int))])) (λo=>h.ext [.cells (GI.row cc1),.cells (GA.row ahead2)] []) a (λp o q a=>xU λn=>cL a (λw v u j a m=>?_) (λa=>?_))
 ·refine ix (zt j) (R.r ?_);refine cB a (λ_=>ztS (zz c)) λv23 a=>cF a (λe a=>?_) (λe a=>?_)
  ·cases a;replace a:=m;apply R.r;exact Z
  ·exact ZL
 ·refine dr [] ?_;refine cH a (λ_=>ztS (zz c)) λv25 a=>qc a (λv26 g a=>?_);refine uK rfl rfl sc (λs=>zr4 (zz c) (g s)) ss ?_;refine cH a (λ_=>zr5) λt a=>?_;exact Z
end Go.Vv
