/- Each function that the law reaches computes what its reading says; printed by a program. -/
import Derived.Test.YtcdgimmdofbjdaaGreatW1
set_option linter.all false
open Option renaming some→aa
open List renaming length→ak
namespace Go.Vv
open Go Go.Proofs
set_option maxRecDepth 100000
set_option synthInstance.maxSize 100000
set_option synthInstance.maxHeartbeats 1000000
set_option maxHeartbeats 1000000
variable{vv0 s10 s21:(List GA)}{res:Bool}{h:AH}{d1 oo3:GA}{i0 bl tl mm:Nat}{xx0 yy1:Int}{l0 ss0:(List GF)}{f1:(GF->Option Bool)}{ff1:FuncId}{af1 kf1:List AV}{t0:(List GC)}{m:List (GH×Int)}
theorem zxw{b:GH}{res:Int}(a:zeN vv0 b=aa res):Sp 90 [zb vv0,zK b] h (yb (.int .u64 res) h):=by
 unfold zeN at a;refine xb Tryz.func90 9 ?_;refine dk [2] [(2,[(0,.cells (GH.row b))])] ?_;refine zd a (λe d a=>oj kr rfl (f0.cons (.inr (nG ⟨rfl,trivial⟩)) f0.nil) rfl (sc rfl) (rV (w:=.map (ak h.zh+1)) (zg2 (by first|rfl|(rw[xn];rfl)) d) (by first|rfl|(rw[xn];rfl))) ss ?_);refine yg rfl rfl (by rintro _ ⟨B2,T2,rfl,c⟩;exact yT rfl eE.choose_spec.1 gg (wH c) (z7 (cs':=(GH.row b)) eE.choose_spec.2 rfl rfl) (zc rfl)) ss ?_;refine dL (mL Tryz.underlying161 aN zsb) ?_;exact Z
theorem zp4(a:sH vv0 d1=aa res):Sp 35 [zb vv0,zn d1] h (yb (.bool res) h):=by
 unfold sH at a;refine xb Tryz.func35 16 ?_;refine dr [1] ?_;refine cM a (λ_ e _=>zra e) λc a=>cH a (λ_=>zxw) λb a=>?_;exact Z
theorem zwA{e:GA}{c0:GL}(b:h.g7 i0=aa (.cells (GL.row c0)))(a:sB e c0=aa res):Sp 131 [zn e,.ptr i0 0] h (yb (.bool res) h):=by
 unfold sB at a;refine zw Tryz.func131 rfl kr (sL 9 rfl) ?_;have c:=yj b rfl;have d:∀k,i0<(ak h.zh)+k:=λk=>o4 c (nv _ _);apply R.r;refine zO (xk rfl bF gg b (zA rfl) (zc rfl)) ?_;refine cB a (λ_=>zp4) λf a=>?_;exact Z
theorem ztF(a:qH xx0=aa res):Sp 120 [.int .u64 xx0] h (yb (.bool res) h):=by
 unfold qH at a;refine xb Tryz.func120 6 ?_;exact Z
theorem zvA{res:Int}(a:wg xx0 yy1=aa res):Sp 65 [.int .u64 xx0,.int .u64 yy1] h (yb (.int .i64 res) h):=by
 unfold wg at a;refine xb Tryz.func65 20 ?_;refine cB a (λ_=>ztF) λi a=>cB a (λ_=>ztF) λg a=>cF a (λf a=>?_) (λf a=>?_)
 ·refine cF a (λc a=>?_) (λc a=>?_)
  ·exact Z
  ·exact Z
 ·refine cF a (λb a=>?_) (λb a=>?_)
  ·exact Z
  ·refine cF a (λd a=>?_) (λd a=>?_)
   ·exact Z
   ·refine cF a (λe a=>?_) (λe a=>?_)
    ·exact Z
    ·exact Z
theorem zuC{b:(List Int)}{res:Int}(a:r7 b=aa res):Sp 64 [.sl 1 (b.map (zeA .i64))] h (yb (.int .i64 res) h):=by
 unfold r7 at a;refine xb Tryz.func64 18 ?_;refine xP λk=>qg (λ(f:Nat)(g:Unit)=>zo 0 3 (zo 4 2 (zo 9 9 [(8,.int .i64 (f:Int))]))) (λg=>h.ext [] []) a (λf g i a=>cL a (λl n j e a d=>?_) (λa=>?_))
 ·refine ix (zu e) (R.r ?_);refine cF a (λc a=>?_) (λc a=>?_)
  ·cases a;replace a:=d;apply R.r;exact Z
  ·exact ZL
 ·exact Z
theorem ztg(a:uq xx0=aa res):Sp 229 [.int .u8 xx0] h (yb (.bool res) h):=by
 unfold uq at a;refine xb Tryz.func229 6 ?_;exact Z
theorem zts{res:Int}(a:wJ xx0 yy1=aa res):Sp 170 [.int .u8 xx0,.int .u8 yy1] h (yb (.int .i64 res) h):=by
 unfold wJ at a;refine xb Tryz.func170 20 ?_;refine cB a (λ_=>ztg) λi a=>cB a (λ_=>ztg) λg a=>cF a (λf a=>?_) (λf a=>?_)
 ·refine cF a (λc a=>?_) (λc a=>?_)
  ·exact Z
  ·exact Z
 ·refine cF a (λb a=>?_) (λb a=>?_)
  ·exact Z
  ·refine cF a (λd a=>?_) (λd a=>?_)
   ·exact Z
   ·refine cF a (λe a=>?_) (λe a=>?_)
    ·exact Z
    ·exact Z
theorem ztf(a:qI xx0=aa res):Sp 230 [.int .u32 xx0] h (yb (.bool res) h):=by
 unfold qI at a;refine xb Tryz.func230 6 ?_;exact Z
theorem zwk{res:Int}(a:qe xx0 yy1=aa res):Sp 171 [.int .u32 xx0,.int .u32 yy1] h (yb (.int .i64 res) h):=by
 unfold qe at a;refine xb Tryz.func171 20 ?_;refine cB a (λ_=>ztf) λi a=>cB a (λ_=>ztf) λg a=>cF a (λf a=>?_) (λf a=>?_)
 ·refine cF a (λc a=>?_) (λc a=>?_)
  ·exact Z
  ·exact Z
 ·refine cF a (λb a=>?_) (λb a=>?_)
  ·exact Z
  ·refine cF a (λd a=>?_) (λd a=>?_)
   ·exact Z
   ·refine cF a (λe a=>?_) (λe a=>?_)
    ·exact Z
    ·exact Z
theorem ztE{a0:GH}{f:GH}{res:Int}(a:uo a0 f=aa res):Sp 121 [zK a0,zK f] h (yb (.int .i64 res) h):=by
 unfold uo at a;refine xb Tryz.func121 17 ?_;refine dr [4,9,11] ?_;refine cM a (λ_ e _=>zts e) λi a=>zd a (λg b a=>yV rfl rfl (λ_=>sc rfl) (by rintro _ ⟨B2,T2,rfl,d⟩;exact zwk b) ss ?_);refine wl (bs (([i,g]:List Int).map (zeA .i64))) ?_;refine zd a (λv3 c a=>ay (by rintro _ ⟨B2,T2,rfl,d⟩;exact(zuC c).le (.cons (g6.gW _ _ _) fc.nil)) ?_);exact Z
theorem zp2{a0:GA}{f:GA}{res:Int}(a:xR a0 f=aa res):Sp 66 [zn a0,zn f] h (yb (.int .i64 res) h):=by
 unfold xR at a;refine xb Tryz.func66 17 ?_;refine dr [4,9,11] ?_;refine cM a (λ_ e _=>ztE e) λi a=>zd a (λg b a=>yV rfl rfl (λ_=>sc rfl) (by rintro _ ⟨B2,T2,rfl,d⟩;exact zvA b) ss ?_);refine wl (bs (([i,g]:List Int).map (zeA .i64))) ?_;refine zd a (λv3 c a=>ay (by rintro _ ⟨B2,T2,rfl,d⟩;exact(zuC c).le (.cons (g6.gW _ _ _) fc.nil)) ?_);exact Z
theorem zwz{l0:(List GA)}(a:sA l0=aa res):Sp 132 [zb l0] h (yb (.bool res) h):=by
 unfold sA at a;refine xb Tryz.func132 21 ?_;refine xl (λ(i:Int)=>zo 1 2 (zo 4 17 [(3,.int .i64 i)])) (λi=>h.ext [] []) a (λ_=>UE) (wk.le ej.o) ?_;intro p i q a d;apply R.r;refine xP λj=>cF a (λg a=>?_) (λg a=>?_)
 ·refine dr [9] ?_;refine zd a (λl f a=>mS f (R.r ?_));refine zd a (λn c a=>mS c (R.r ?_));refine cM a (λ_ e _=>zp2 e) λk a=>cF a (λb a=>?_) (λb a=>?_)
  ·cases a;replace a:=d;apply R.r;exact Z
  ·exact ZL
 ·cases a;replace a:=d;apply R.r;exact Z
theorem zte{b:Int}(a:rT b=aa res):Sp 234 [.int .u64 b] h (yb (.bool res) h):=by
 unfold rT at a;refine xb Tryz.func234 9 ?_;exact Z
theorem ztd{ss0:zp}(a:tP ss0=aa res):Sp 235 [.str ss0] h (yb (.bool res) h):=by
 unfold tP at a;refine xb Tryz.func235 6 ?_;refine xP λb=>?_;exact Z
theorem zvQ(a:pY l0=aa res):Sp 284 [yE l0] h (yb (.bool res) h):=by
 unfold pY at a;refine xb Tryz.func284 26 ?_;refine zO (tS (n:=0) rfl rfl) ?_;refine xP λl=>qg (λ(f:Nat)(b:List (GA×Int))=>zo 1 2 (zo 4 3 (zo 10 16 [(9,.int .i64 (f:Int))]))) (λb=>h.ext [.q7 (b.map (zZ (λx=>zn x) (AV.int .i64))) 0] []) a (λf b g a=>cL a (λc q i e a o=>?_) (λa=>?_))
 ·refine ix (zu e) (R.r ?_);refine zfu [3] (λ_=>zuN h 0 (b.map (zZ (λx=>zn x) (AV.int .i64))) ((bZ GA.fh (0:Int) b c.z6).map (zZ (λx=>zn x) (AV.int .i64)))) (λ_=>⟨_,_,rfl,.inl rfl⟩) mixed kr (R.r ?_);refine yg rfl rfl (zdt (m:=b) (k:=c.z6) (d:=(0:Int)) (j:=0) (kv:=(λx=>zn x)) (vv:=(AV.int .i64)) rfl Tryz.underlying147 bP az3 gg gg) ss (R.r ?_);refine uY rfl (f0.all ⟨_,_,rfl,.inr rfl⟩) kr rfl (ziV (m:=b) (k:=c.z6) (d:=(0:Int)) (j:=0) (kv:=(λx=>zn x)) (vv:=(AV.int .i64)) rfl Tryz.underlying147 bP az3 gg rfl gg rfl) ss (R.r ?_);refine uY rfl (f0.skip kr) kr rfl (mA (m:=b) (k:=c.z6) (d:=(0:Int)) (v:=(IntKind.wrap .i64 ((zG GA.fh (0:Int) b c.z6)+(1:Int)))) (j:=0) (eq:=GA.fh) (kv:=(λx=>zn x)) (vv:=(AV.int .i64)) rfl gg rfl gg rfl gg rfl rfl) rfl (R.r ?_);exact ZL
 ·refine zcj (m:=b) (j:=0) (kv:=(λx=>zn x)) (vv:=(AV.int .i64)) rfl rfl rfl rfl rfl Tryz.underlying147 gg rfl ss (R.r ?_);refine xP λp=>?_;exact Z
theorem ztb{a0:Int}{f:Int}{res:Int}(a:uE a0 d1 f oo3=aa res):Sp 292 [.int .u64 a0,zn d1,.int .u64 f,zn oo3] h (yb (.int .i64 res) h):=by
 unfold uE at a;refine xb Tryz.func292 17 ?_;refine dr [2,5,7] ?_;refine cM a (λ_ e _=>zvA e) λi a=>zd a (λg b a=>yV rfl rfl (λ_=>sc rfl) (by rintro _ ⟨B2,T2,rfl,d⟩;exact zp2 b) ss ?_);refine wl (bs (([i,g]:List Int).map (zeA .i64))) ?_;refine zd a (λv3 c a=>ay (by rintro _ ⟨B2,T2,rfl,d⟩;exact(zuC c).le (.cons (g6.gW _ _ _) fc.nil)) ?_);exact Z
theorem zk2{c:Int}{b:Int}(a:qM c d1 b oo3=aa res):Sp 251 [.int .u64 c,zn d1,.int .u64 b,zn oo3] h (yb (.bool res) h):=by
 unfold qM at a;refine xb Tryz.func251 15 ?_;refine cB a (λ_=>ztb) λd a=>?_;exact Z
theorem ztc{b:Bool}(a:rf l0 b=aa res):Sp 236 [yE l0,.bool b] h (yb (.bool res) h):=by
 unfold rf at a;refine xb Tryz.func236 66 ?_;refine xP λs=>qg (λ(n:Nat)(l:Unit)=>zo 2 5 (zo 10 56 [(9,.int .i64 (n:Int))])) (λl=>h.ext [] []) a (λn l o a=>cL a (λy x w k a i=>?_) (λa=>?_))
 ·refine ix (zu k) (R.r ?_);refine cB a (λ_=>zra) λp a=>cG a (λ_=>ztd) λv a=>qQ a (λt c a=>?_);refine vr rfl sc (λj=>zte (c j)) ss ?_;refine qr rfl (λj=>wp rfl (zM gg j) (zM gg j) (znO ty4)) ss (R.r ?_);refine cF a (λe a=>?_) (λe a=>?_)
  ·cases a;replace a:=i;apply R.r;exact Z
  ·refine dr [] ?_;refine zJ a (λg a=>qd g (R.r ?_));refine zJ a (λf a=>qd f (R.r ?_));refine cH a (λ_=>zk2) λu a=>cF a (λd a=>?_) (λd a=>?_)
   ·cases a;replace a:=i;apply R.r;exact Z
   ·exact ZL
 ·refine cB a (λ_=>zvQ) λq a=>?_;exact Z
abbrev va(x:GF):AV:=.agg (GF.row x)
theorem zvJ{res:Int}(k:∀o v (L:List q6) (M:List Nat),f1 o=aa v->Sp ff1 (af1++[va o]++kf1) (h.ext L M) (yb (.bool v) (h.ext L M)))(a:yA ss0 f1=aa res):Sp 298 [yE ss0,.fn (.func ff1) af1 kf1] h (yb (.int .i64 res) h):=by
 unfold yA at a;refine zy Tryz.func298 rfl kr (sL 19 rfl) (λb w=>?_);simp only[zB,AV.low,tx,lq,kA]at b;have g:∀n m,ak h.zh<=n->ak h.zs<=m->zB n m af1=true:=λn m e c=>zT e c _ (by simp[b]);have d:∀n m,ak h.zh<=n->ak h.zs<=m->zB n m kf1=true:=λn m e c=>zT e c _ (by simp[b]);apply R.r;refine xP λt=>qg (λ(q:Nat)(p:Unit)=>zo 2 5 (zo 9 10 [(8,.int .i64 (q:Int))])) (λp=>h.ext [] []) a (λq p s a=>cL a (λz y u f a l=>?_) (λa=>?_))
 ·refine ix (zu f) (R.r ?_);refine zd a (λx j a=>yf rfl (cg rfl) (k _ _ _ _ j) ss (R.r ?_));refine cF a (λi a=>?_) (λi a=>?_)
  ·cases a;replace a:=l;apply R.r;exact Z
  ·exact ZL
 ·exact Z
theorem zsT{res:Int}(c:ak h.zh=bl)(e:ak h.zs=tl)(k:∀p v (L:List q6) (M:List Nat),f1 p=aa v->Sp ff1 (af1++[va p]++kf1) (h.ext L M) (yb (.bool v) (h.ext L M)))(g:∀n m,ak h.zh<=n->ak h.zs<=m->zB n m af1=true)(d:∀n m,ak h.zh<=n->ak h.zs<=m->zB n m kf1=true)(a:yA ss0 f1=aa res):Sp 298 [.fo bl tl 5 (ak ss0),.fn (.func ff1) af1 kf1] (h.ext [.row tl 5 (ss0.map GF.row)] [ak ss0]) (yb (.int .i64 res) (h.ext [.row tl 5 (ss0.map GF.row)] [ak ss0])):=by
 unfold yA at a;subst c e;refine df Tryz.func298 19 ?_;refine xP λu=>qg (λ(l:Nat)(s:Unit)=>zo 2 5 (zo 9 10 [(8,.int .i64 (l:Int))])) (λs=>h.ext [yr h 0 5 (ss0.map GF.row)] [ak ss0]) a (λl s t a=>cL a (λx y w b a o=>?_) (λa=>?_))
 ·refine zO (iR (y8 (zu b) rfl)) ?_;refine zO (vH (off:=0) (i:=0) (q:=ak h.zs+0) (z:=(l:Int).toNat) (row:=GF.row) (λ_=>rfl) rfl dI.choose_spec.1 (by decide) gg rfl rfl (wN (zu b)).2.2 (z7 (cs':=(GF.row x)) dI.choose_spec.2 rfl rfl) (zc rfl)) ?_;refine zd a (λA f a=>yf rfl (cg rfl) (k _ _ _ _ f) ss (R.r ?_));refine cF a (λj a=>?_) (λj a=>?_)
  ·cases a;replace a:=o;apply R.r;cases a;refine fr rfl (zki (L:=[]) (M:=[]) rfl rfl (g6.refl _) rfl ?_);exact⟨rfl,rfl⟩
  ·exact ZL
 ·cases a;refine fr rfl (zki (L:=[]) (M:=[]) rfl rfl (g6.refl _) rfl ?_);exact⟨rfl,rfl⟩
theorem zvH(e:∀c v (L:List q6) (M:List Nat),f1 c=aa v->Sp ff1 (af1++[va c]++kf1) (h.ext L M) (yb (.bool v) (h.ext L M)))(a:xQ ss0 f1=aa res):Sp 318 [yE ss0,.fn (.func ff1) af1 kf1] h (yb (.bool res) h):=by
 unfold xQ at a;refine zy Tryz.func318 rfl kr (sL 9 rfl) (λb k=>?_);simp only[zB,AV.low,tx,lq,kA]at b;have d:∀n m,ak h.zh<=n->ak h.zs<=m->zB n m af1=true:=λn m i f=>zT i f _ (by simp[b]);have g:∀n m,ak h.zh<=n->ak h.zs<=m->zB n m kf1=true:=λn m i f=>zT i f _ (by simp[b]);apply R.r;refine cB a (λ_=>zvJ (λc v L M j=>by rw[x5];exact e c v _ _ j)) λl a=>?_;exact Z
theorem zvG{xx0:GF}{c0:GA}(b:h.g7 i0=aa (.cells (GA.row c0)))(a:mu xx0 c0=aa res):Sp 319 [va xx0,.ptr i0 0] h (yb (.bool res) h):=by
 unfold mu at a;refine zw Tryz.func319 rfl kr (sL 8 rfl) ?_;have c:=yj b rfl;have d:∀k,i0<(ak h.zh)+k:=λk=>o4 c (nv _ _);apply R.r;refine zO (xk rfl fO.choose_spec.1 gg b (z7 (cs':=(GA.row c0)) fO.choose_spec.2 rfl rfl) (zc rfl)) ?_;refine zO (wp rfl gg gg (ph oZ rfl)) ?_;exact Z
theorem zrc(a:rU l0 d1=aa res):Sp 285 [yE l0,zn d1] h (yb (.bool res) h):=by
 unfold rU at a;refine xb Tryz.func285 8 ?_;refine zO mF ?_;refine cB a (λ_=>zvH (λ_ v L M b=>zvG (vI (j:=0) rfl) b)) λc a=>?_;exact Z
theorem zv5{l0:GE}(a:pZ l0=aa res):Sp 237 [zD l0] h (yb (.bool res) h):=by
 unfold pZ at a;refine xb Tryz.func237 38 ?_;refine xP λo=>qg (λ(g:Nat)(i:Unit)=>zo 2 4 (zo 9 29 [(0,.any),(8,.int .i64 (g:Int))])) (λi=>h.ext [.cells (GE.row l0)] []) a (λg i j a=>cL a (λp q k f a d=>?_) (λa=>?_))
 ·refine ix (zu f) (R.r ?_);refine dr [1] ?_;refine cM a (λ_ e _=>zra e) λl a=>zJ a (λb a=>qd b (R.r ?_));refine cH a (λ_=>zp2) λn a=>cH a (λ_=>zrc) λv22 a=>cF a (λc a=>?_) (λc a=>?_)
  ·cases a;replace a:=d;apply R.r;exact Z
  ·exact ZL
 ·exact Z
theorem zwb{s10:(List GF)}{s21:(List GF)}(a:qz s10 s21=aa res):Sp 211 [yE s10,yE s21] h (yb (.bool res) h):=by
 unfold qz at a;refine xb Tryz.func211 26 ?_;refine xP λo=>xP λp=>cF a (λd a=>?_) (λd a=>?_)
 ·exact Z
 ·refine xP λj=>qg (λ(g:Nat)(i:Unit)=>zo 2 10 (zo 14 12 [(13,.int .i64 (g:Int))])) (λi=>h.ext [] []) a (λg i k a=>cL a (λq s l f a e=>?_) (λa=>?_))
  ·refine dr [] ?_;refine mS (zu f) (R.r ?_);refine zd a (λn c a=>mS c (R.r ?_));refine wl (wp rfl gg gg (ow zsJ rfl)) ?_;refine cF a (λb a=>?_) (λb a=>?_)
   ·cases a;replace a:=e;apply R.r;exact Z
   ·exact ZL
  ·exact Z
theorem zwa(a:ud s10 s21=aa res):Sp 212 [zb s10,zb s21] h (yb (.bool res) h):=by
 unfold ud at a;refine xb Tryz.func212 26 ?_;refine xP λo=>xP λp=>cF a (λe a=>?_) (λe a=>?_)
 ·exact Z
 ·refine xP λj=>qg (λ(g:Nat)(i:Unit)=>zo 2 10 (zo 14 12 [(13,.int .i64 (g:Int))])) (λi=>h.ext [] []) a (λg i k a=>cL a (λq s l f a d=>?_) (λa=>?_))
  ·refine dr [] ?_;refine mS (zu f) (R.r ?_);refine zd a (λn c a=>mS c (R.r ?_));refine wl (wp rfl gg gg (ow oZ rfl)) ?_;refine cF a (λb a=>?_) (λb a=>?_)
   ·cases a;replace a:=d;apply R.r;exact Z
   ·exact ZL
  ·exact Z
theorem zoO{a0:GE}{b:GE}(a:rW a0 b=aa res):Sp 158 [zD a0,zD b] h (yb (.bool res) h):=by
 unfold rW at a;refine xb Tryz.func158 52 ?_;refine qr rfl (λc=>wp rfl (zM gg c) (zM gg c) (ph oZ rfl)) ss (R.r ?_);refine cG a (λ_=>zwb) λe a=>cG a (λ_=>zwa) λd a=>?_;exact Z
theorem zmv{l0:GE}(a:sq l0=aa res):Sp 182 [zD l0] h (yb (.bool res) h):=by
 unfold sq at a;refine xb Tryz.func182 89 ?_;refine zO sb ?_;refine cF a (λo a=>?_) (λo a=>?_)
 ·refine zd a (λw i a=>cp ((zoO i).le (.eq (.cons (g6.agg (.eq (.eq (.eq (.eq (.eq (.eq (.eq (.cons (g6.gW _ _ _) (.cons (g6.gW _ _ _) fc.nil))))))))) rfl) fc.nil))) (R.r ?_));exact Z
 ·refine cF a (λn a=>?_) (λn a=>?_)
  ·refine dk [3,5] [(3,[(0,.cells (GE.row l0))]),(5,[(0,.cells (GE.row l0))])] ?_;refine yg rfl rfl (by rintro _ ⟨B2,T2,rfl,b⟩;exact yT rfl fO.choose_spec.1 gg (wH b) (z7 (cs':=(GA.row l0.z6)) fO.choose_spec.2 rfl rfl) (zc rfl)) ss (R.r ?_);refine yg rfl rfl (by rintro _ ⟨B2,T2,rfl,b⟩;exact yT rfl cd gg (wH b) (zA rfl) (zc rfl)) ss (R.r ?_);refine qs fN.out ?_;refine qs fN.out ?_;refine qs fN.out ?_;refine cG a (λ_=>zte) λv4 a=>cG a (λ_=>zra) λv5 a=>cG a (λ_=>ztd) λv a=>?_;refine qr (zlt rfl rfl rfl) (λg=>zl0 (cs':=zmE) rfl zxp zsg zyK zaP .nil rfl rfl) ss ?_;refine qr (zlt rfl rfl rfl) (λg=>wp rfl (zM gg g) (zM gg g) (ow oZ rfl)) ss (R.r ?_);refine cF a (λl a=>?_) (λl a=>?_)
   ·exact Z
   ·refine zd a (λx j a=>cp ((zoO j).le (.eq (.cons (g6.agg (.eq (.eq (.eq (.eq (.eq (.eq (.eq (.cons (g6.gW _ _ _) (.cons (g6.gW _ _ _) fc.nil))))))))) rfl) fc.nil))) (R.r ?_));exact Z
  ·refine cF a (λk a=>?_) (λk a=>?_)
   ·refine dk [3] [(3,[(0,.cells (GE.row l0))])] ?_;refine yg rfl rfl (by rintro _ ⟨B2,T2,rfl,b⟩;exact yT rfl zsC gg (wH b) (zA rfl) (zc rfl)) ss (R.r ?_);refine qs fN.out ?_;refine qs fN.out ?_;refine cB a (λ_=>ztc) λq a=>cG a (λ_=>zv5) λu a=>cF a (λf a=>?_) (λf a=>?_)
    ·exact Z
    ·refine cB a (λ_=>zoO) λp a=>?_;exact Z
   ·refine cF a (λc a=>?_) (λc a=>?_)
    ·refine cB a (λ_=>ztc) λs a=>cF a (λe a=>?_) (λe a=>?_)
     ·exact Z
     ·refine zd a (λt d a=>cp ((zoO d).le (.eq (.cons (g6.agg (.eq (.eq (.eq (.eq (.eq (.eq (.eq (.eq (.cons (g6.gW _ _ _) fc.nil))))))))) rfl) fc.nil))) (R.r ?_));exact Z
    ·exact Z
theorem zv7{b:Int}(a:s9 b=aa res):Sp 232 [.int .i32 b] h (yb (.bool res) h):=by
 unfold s9 at a;refine xb Tryz.func232 25 ?_;exact Z
theorem zvI{ss0:zp}{f1:(Int->Option Bool)}{b:Bool}{res:Int}(p:∀q v (L:List q6) (M:List Nat),f1 q=aa v->Sp ff1 (af1++[.int .i32 q]++kf1) (h.ext L M) (yb (.bool v) (h.ext L M)))(a:qS ss0 f1 b=aa res):Sp 317 [.str ss0,.fn (.func ff1) af1 kf1,.bool b] h (yb (.int .i64 res) h):=by
 unfold qS at a;refine zy Tryz.func317 rfl kr (sL 21 rfl) (λc t=>?_);simp only[zB,AV.low,tx,lq,kA]at c;have i:∀n m,ak h.zh<=n->ak h.zs<=m->zB n m af1=true:=λn m g e=>zT g e _ (by simp[c]);have f:∀n m,ak h.zh<=n->ak h.zs<=m->zB n m kf1=true:=λn m g e=>zT g e _ (by simp[c]);apply R.r;refine zO (zrX (n:=0) rfl cd gg rfl) ?_;refine xl (λ(k:Nat)=>zo 3 7 (zo 11 10 [(0,.any)])) (λk=>h.ext [.ec ss0 k] []) a (λ_=>UE) (wk.le ej.o) ?_;intro x k w a d;apply R.r;refine zmr rfl rfl gg rfl ss ss a (λs a=>?_) (λa=>?_)
 ·apply R.r;refine c1 ?_;refine zd a (λu l a=>yf rfl (cg rfl) (p _ _ _ _ l) ss (R.r ?_));refine zO (wp rfl gg gg (zdH ty4)) ?_;refine cF a (λj a=>?_) (λj a=>?_)
  ·cases a;replace a:=d;apply R.r;exact Z
  ·exact ZL
 ·apply R.r;refine c0 ?_;cases a;replace a:=d;apply R.r;exact Z
theorem zvR{ss0:zp}{f1:(Int->Option Bool)}{res:Int}(e:∀c v (L:List q6) (M:List Nat),f1 c=aa v->Sp ff1 (af1++[.int .i32 c]++kf1) (h.ext L M) (yb (.bool v) (h.ext L M)))(a:uv ss0 f1=aa res):Sp 283 [.str ss0,.fn (.func ff1) af1 kf1] h (yb (.int .i64 res) h):=by
 unfold uv at a;refine zy Tryz.func283 rfl kr (sL 8 rfl) (λb k=>?_);simp only[zB,AV.low,tx,lq,kA]at b;have d:∀n m,ak h.zh<=n->ak h.zs<=m->zB n m af1=true:=λn m i f=>zT i f _ (by simp[b]);have g:∀n m,ak h.zh<=n->ak h.zs<=m->zB n m kf1=true:=λn m i f=>zT i f _ (by simp[b]);apply R.r;refine cB a (λ_=>zvI (λc v L M j=>by rw[x5];exact e c v _ _ j)) λl a=>?_;exact Z
theorem zv6{ss0:zp}{f1:(Int->Option Bool)}(e:∀c v (L:List q6) (M:List Nat),f1 c=aa v->Sp ff1 (af1++[.int .i32 c]++kf1) (h.ext L M) (yb (.bool v) (h.ext L M)))(a:wL ss0 f1=aa res):Sp 233 [.str ss0,.fn (.func ff1) af1 kf1] h (yb (.bool res) h):=by
 unfold wL at a;refine zy Tryz.func233 rfl kr (sL 9 rfl) (λb k=>?_);simp only[zB,AV.low,tx,lq,kA]at b;have d:∀n m,ak h.zh<=n->ak h.zs<=m->zB n m af1=true:=λn m i f=>zT i f _ (by simp[b]);have g:∀n m,ak h.zh<=n->ak h.zs<=m->zB n m kf1=true:=λn m i f=>zT i f _ (by simp[b]);apply R.r;refine cB a (λ_=>zvR (λc v L M j=>by rw[x5];exact e c v _ _ j)) λl a=>?_;exact Z
theorem zto{ss0:zp}(a:nA ss0=aa res):Sp 181 [.str ss0] h (yb (.bool res) h):=by
 unfold nA at a;refine xb Tryz.func181 18 ?_;refine xP λc=>dE λd=>R.r ?_;refine cG a (λ_=>zv6 (λ_ v L M b=>zv7  b)) λv3 a=>?_;exact Z
theorem ztx(n:Nat):∀{t0:(List GC)} {b:Int} {res:Bool} {h:AH} , tF n t0 b=aa res->Sp 141 [za t0,.int .i64 b] h (yb (.bool res) h):=by
 induction n with
 |zero=>intro t0 b res h  a;simp[tF]at a
 |succ n ih =>
  intro t0 b res h  a;unfold tF at a;refine xb Tryz.func141 89 ?_;refine xP λy=>cF a (λq a=>?_) (λq a=>?_)
  ·exact Z
  ·refine xP λC=>qg (λ(v:Nat)(u:Unit)=>zo 2 14 (zo 19 70 [(18,.int .i64 (v:Int))])) (λu=>h.ext [] []) a (λv u w a=>cL a (λs G E p a k=>?_) (λa=>?_))
   ·refine zO (yu rfl wd gg gg oF (zu p) (GC.q8 _)) ?_;refine dr [2] ?_;refine cM a (λ_ e _=>zto e) λB a=>zJ a (λf a=>?_);refine vh rfl (zlt rfl rfl rfl) (λc=>qn default rfl wd (zM gg c) (zM gg c) oF (f c) (GC.q8 _)) ss (R.r ?_);refine uK rfl rfl (λc=>wj rfl rfl rfl rfl al (zM gg c) vO) ss (R.r ?_);refine uK rfl rfl (λc=>wj rfl rfl rfl rfl wd (zM gg c) vO) ss (R.r ?_);refine qQ a (λx d a=>?_);refine rp rfl rfl sc (λc=>ih (d c)) ss (R.r ?_);refine cF a (λg a=>?_) (λg a=>?_)
    ·cases a;replace a:=k;apply R.r;exact Z
    ·refine xP λt=>qg (λ(n2:Nat)(s2:Unit)=>zo 2 4 (zo 7 9 (zo 19 42 (zo 64 25 [(63,.int .i64 (n2:Int))])))) (λs2=>h.ext [.cells [.str s.name,zH s.leaves,za s.wa]] []) a (λn2 s2 A a=>cL a (λH F z l a o=>?_) (λa=>?_))
     ·refine ix (zu l) (R.r ?_);refine dr [1] ?_;refine cM a (λ_ e _=>zmv e) λD a=>zJ a (λj a=>qd j (R.r ?_));refine cF a (λi a=>?_) (λi a=>?_)
      ·cases a;replace a:=o;apply R.r;cases a;replace a:=k;apply R.r;exact Z
      ·exact ZL
     ·exact ZL
   ·exact Z
theorem zwt{b:Int}(a:zfc t0 b=aa res):Sp 141 [za t0,.int .i64 b] h (yb (.bool res) h):=by
 obtain⟨n,c⟩:=rE a;exact ztx n c
theorem zsi(a:uZ t0=aa res):Sp 91 [za t0] h (yb (.bool res) h):=by
 unfold uZ at a;refine xb Tryz.func91 5 ?_;refine cB a (λ_=>zwt) λb a=>?_;exact Z
theorem zvC(a:xG s10 s21=aa res):Sp 45 [zb s10,zb s21] h (yb (.bool res) h):=by
 unfold xG at a;refine xb Tryz.func45 26 ?_;refine xP λo=>xP λp=>cF a (λe a=>?_) (λe a=>?_)
 ·exact Z
 ·refine xP λj=>qg (λ(g:Nat)(i:Unit)=>zo 2 10 (zo 14 12 [(13,.int .i64 (g:Int))])) (λi=>h.ext [] []) a (λg i k a=>cL a (λq s l f a d=>?_) (λa=>?_))
  ·refine dr [] ?_;refine mS (zu f) (R.r ?_);refine zd a (λn c a=>mS c (R.r ?_));refine wl (wp rfl gg gg (ow oZ rfl)) ?_;refine cF a (λb a=>?_) (λb a=>?_)
   ·cases a;replace a:=d;apply R.r;exact Z
   ·exact ZL
  ·exact Z
def zdW:Go.Shelf.Ren :=
  { f:=λx=>match x with
      |6=>217
      |15=>169
      |14=>277
      |28=>227
      |29=>228
      |20=>308
      |21=>309
      |22=>310
      |23=>311
      |24=>312
      |25=>313
      |26=>314
      |27=>315
      |46=>345
      |47=>279
      |48=>280
      |49=>346
      |50=>347
      |57=>360
      |n=>n
    t:=λx=>match x with
      |22=>214
      |24=>32
      |25=>175
      |3=>3
      |39=>222
      |0=>0
      |53=>30
      |55=>22
      |4=>4
      |46=>280
      |45=>279
      |50=>255
      |5=>5
      |9=>9
      |66=>323
      |70=>327
      |76=>353
      |77=>354
      |n=>n
    g:=λn=>n }
theorem zcG:Go.Proofs.SlLaysF0.n6 Tryz.prog zdW where
  mixed:=mixed
  f6:=⟨Tryz.f217.name,by kernel_rfl,Tryz.func217.trans (by kernel_rfl)⟩
  f15:=Tryz.func169.trans (by kernel_rfl)
  f14:=⟨Tryz.f277.name,by kernel_rfl,Tryz.func277.trans (by kernel_rfl)⟩
  f28:=Tryz.func227.trans (by kernel_rfl)
  f29:=Tryz.func228.trans (by kernel_rfl)
  f20:=⟨Tryz.f308.name,by kernel_rfl,Tryz.func308.trans (by kernel_rfl)⟩
  f21:=⟨Tryz.f309.name,by kernel_rfl,Tryz.func309.trans (by kernel_rfl)⟩
  f22:=⟨Tryz.f310.name,by kernel_rfl,Tryz.func310.trans (by kernel_rfl)⟩
  f23:=⟨Tryz.f311.name,by kernel_rfl,Tryz.func311.trans (by kernel_rfl)⟩
  f24:=⟨Tryz.f312.name,by kernel_rfl,Tryz.func312.trans (by kernel_rfl)⟩
  f25:=⟨Tryz.f313.name,by kernel_rfl,Tryz.func313.trans (by kernel_rfl)⟩
  f26:=⟨Tryz.f314.name,by kernel_rfl,Tryz.func314.trans (by kernel_rfl)⟩
  f27:=⟨Tryz.f315.name,by kernel_rfl,Tryz.func315.trans (by kernel_rfl)⟩
  f46:=⟨Tryz.f345.name,by kernel_rfl,Tryz.func345.trans (by kernel_rfl)⟩
  f47:=Tryz.func279.trans (by kernel_rfl)
  f48:=Tryz.func280.trans (by kernel_rfl)
  f49:=⟨Tryz.f346.name,by kernel_rfl,Tryz.func346.trans (by kernel_rfl)⟩
  f50:=⟨Tryz.f347.name,by kernel_rfl,Tryz.func347.trans (by kernel_rfl)⟩
  f57:=⟨Tryz.f360.name,by kernel_rfl,Tryz.func360.trans (by kernel_rfl)⟩
  t0:=Tryz.underlying0
  a0:=Tryz.isAgg0
  z0:=Tryz.sizeOf0
  v0:=Tryz.zeroValue0
  t3:=Tryz.underlying3
  a3:=Tryz.isAgg3
  z3:=Tryz.sizeOf3
  v3:=Tryz.zeroValue3
  t4:=Tryz.underlying4
  a4:=Tryz.isAgg4
  z4:=Tryz.sizeOf4
  v4:=Tryz.zeroValue4
  t5:=Tryz.underlying5
  a5:=Tryz.isAgg5
  z5:=Tryz.sizeOf5
  v5:=Tryz.zeroValue5
  t9:=Tryz.underlying9
  a9:=Tryz.isAgg9
  z9:=Tryz.sizeOf9
  v9:=Tryz.zeroValue9
  t22:=Tryz.underlying214
  a22:=Tryz.isAgg214
  z22:=Tryz.sizeOf214
  v22:=Tryz.zeroValue214
  t25:=Tryz.underlying175
  a25:=Tryz.isAgg175
  z25:=Tryz.sizeOf175
  v25:=Tryz.zeroValue175
  t39:=Tryz.underlying222
  a39:=Tryz.isAgg222
  z39:=Tryz.sizeOf222
  v39:=Tryz.zeroValue222
  t45:=Tryz.underlying279
  a45:=Tryz.isAgg279
  z45:=Tryz.sizeOf279
  v45:=Tryz.zeroValue279
  t46:=Tryz.underlying280
  a46:=Tryz.isAgg280
  z46:=Tryz.sizeOf280
  v46:=Tryz.zeroValue280
  t50:=Tryz.underlying255
  a50:=Tryz.isAgg255
  z50:=Tryz.sizeOf255
  v50:=Tryz.zeroValue255
  t53:=Tryz.underlying30
  a53:=Tryz.isAgg30
  z53:=Tryz.sizeOf30
  v53:=Tryz.zeroValue30
  t55:=Tryz.underlying22
  a55:=Tryz.isAgg22
  z55:=Tryz.sizeOf22
  v55:=Tryz.zeroValue22
  t66:=Tryz.underlying323
  a66:=Tryz.isAgg323
  z66:=Tryz.sizeOf323
  v66:=Tryz.zeroValue323
  t70:=Tryz.underlying327
  a70:=Tryz.isAgg327
  z70:=Tryz.sizeOf327
  v70:=Tryz.zeroValue327
  t76:=Tryz.underlying353
  a76:=Tryz.isAgg353
  z76:=Tryz.sizeOf353
  v76:=Tryz.zeroValue353
  t77:=Tryz.underlying354
  a77:=Tryz.isAgg354
  z77:=Tryz.sizeOf354
  v77:=Tryz.zeroValue354
theorem zs1{n:Nat}(a:ak h.zh=n)(b:mm<(ak h.zh)):Sp 165 [.map mm] h (yb (.fn (.func 218) [] [.ptr n 0]) (h.ext [.cells [.map mm]] [])):=by
 subst a;refine xb Tryz.func165 4 ?_;refine zO mF ?_;refine fr rfl (zni (bs:=[.cells [.map mm]]) (by simp[AV.low,zB]) rfl (by simp[q6.low,zB,AV.low];omega) ?_);exact⟨rfl,rfl⟩
theorem zsN{S:Type}{Hy:S->AH}{nb nt:Nat}{y:S->GH->Option (Bool×S)}{c:Nat}{st:List (GH×Int)->S}(a:∀s,(Hy s).zh.length=nb)(d:∀s,(Hy s).zs.length=nt)(D:∀s,(Hy s).closed nb nt)(j:c<nb)(K:∀s x b C L M,y s x=aa (b,C)->ez Tryz.prog c [zK x] ((Hy s).ext L M) (yb (.bool b) ((Hy C).ext L M)))(u:∀s,(Hy s).g7 i0=aa (.cells [.map mm]))(v:∀s,(Hy s).g7 mm=aa (.q7 (m.map (zZ (λx=>zK x) (AV.int .u64))) 0))(z:∀q x,(ak q)<(ak m)->y (st q) x.1=aa (true,st (q++[x]))):Sp 218 [.ca c,.ptr i0 0] (Hy (st [])) (λI hh=>I=.fl []/\∃p,p.Perm m/\hh=Hy (st p)):=by
 refine zw Tryz.func218 rfl kr (sL 14 rfl) ?_;have f:∀k,c<nb+k:=λk=>o4 j (nv _ _);have t:=yj (u (st [])) (a _);have g:∀k,i0<nb+k:=λk=>o4 t (nv _ _);have l:=yj (v (st [])) (a _);have e:∀k,mm<nb+k:=λk=>o4 l (nv _ _);apply R.r;refine zO (xk rfl zuX gg (u _) (zA rfl) (zc rfl)) ?_;refine zcX (kv:=(λx=>zK x)) (vv:=(AV.int .u64)) (a _) rfl rfl Tryz.underlying161 gg (zz (v _)) rfl ss rfl (R.r ?_);refine zjF (m:=m) [(2,.any),(3,.any),(4,.any),(6,.any),(7,.any),(8,.any),(9,.any),(10,.any),(11,.any),(12,.any),(13,.any)] (λseen q=>(Hy (st q)).ext [.fF mm (ak m) seen] []) (E:=[.ca c,.ptr i0 0,.any,.any,.any,.ptr (nb+0) 0,.any,.any,.any,.any,.any,.any,.any,.any]) (by simp only[bi,kj,kJ];try rfl) (wk.le ej.o) ?_;intro seen q N A;apply R.r;refine zej (kv:=(λx=>zK x)) (vv:=(AV.int .u64)) (a _) rfl rfl gg rfl (zz (v _)) ss (λi w B hs=>⟨_,ss,?_⟩) (λJ=>?_)
 ·have G:(ak q)<(ak m):=by
   have H:=A.length_eq;have F:=(pX B hs).length_eq;simp only[oA,nr]at H F;omega
  apply R.r;refine c1 ?_;refine zcY (kv:=(λx=>zK x)) (vv:=(AV.int .u64)) (a _) rfl rfl gg rfl (zz (v _)) B ss ?_;refine zt rfl (xI rfl gg rfl (zc rfl)) ss ?_;refine zt rfl (zfF (a _) (n:=1) rfl zss rfl) ss ?_;refine zO (zfE (a _) (cs':=(GH.row w.1)) rfl eE.choose_spec.1 gg gg (zc rfl) rfl rfl rfl rfl rfl) ?_;refine zO (zjQ (a _) rfl eE.choose_spec.1 gg rfl (z7 (cs':=(GH.row w.1)) eE.choose_spec.2 rfl rfl) (zc rfl)) ?_;refine zgW rfl (zlY rfl rfl gg f9.o fZ.o) (K _ _ _ _ _ _ (z q w G)) ss (R.r ?_);refine c0 ?_;exact⟨i,w,B,hs,wk.trans (wk.le ej.o) (ze8 (a _) (d _) (a _) (d _) (D _) (by simp[zB,AV.low,j,f,t,g,l,e]) rfl rfl (by simp[q6.low,j,f,t,g,l,e]))⟩
 ·apply R.r;refine c0 ?_;refine fr rfl (zkh (a _) (d _) (a _) (d _) (D _) (g6.refl _) rfl ?_);exact⟨rfl,q,by rw[J,ko]at A;exact A,rfl⟩
theorem zs2{b:Nat}(u:ak h.zh=bl)(v:ak h.zs=tl)(D:h.g7 b=aa (.cells [.map mm]))(I:h.g7 mm=aa (.q7 (m.map (zZ (λx=>zK x) (AV.int .u64))) 0))(F:ak m<=lim):Sp 276 [.gW none 2 [],.fn (.func 218) [] [.ptr b 0]] h (λH hh=>∃p:List (GH×Int),p.Perm m/\H=.fo bl tl 2 (ak (p.map (λx=>x.1)))/\hh=h.ext [.row tl 2 ((p.map (λx=>x.1)).map GH.row)] [ak (p.map (λx=>x.1))]):=by
 subst u v;refine zy Tryz.func276 rfl kr (sL 13 rfl) (λB C=>?_);have l:=yj D rfl;have f:∀k,b<(ak h.zh)+k:=λk=>o4 l (nv _ _);refine wr (yF ?_);refine vS (q9 (gx 0) rfl rfl (sx 0) rfl rfl) (R.r ?_);refine zjE (k:=2) (λ(c:(List GH))=>h) (λ(c:(List GH))=>[yr h 0 2 (c.map GH.row),.cells [zU h 0 0 2 (ak c)]]) (λ(c:(List GH))=>[ak c]) ([]:List GH) (λs=>∃p:List (GH×Int),p.Perm m/\s=p.map (λx=>x.1)) (wk.le (by exact(.drop (.drop (.eq (.drop (.drop (.drop (.eq (.d4 (.drop (.drop fc.nil)))))))))))) (λ_=>rfl) rfl rfl rfl (λ_=>rfl) rfl (gx 6) rfl (λg o=>?_) (λc H1 J A=>?_)
 ·have d:∀E G,(g E G).low (ak h.zh+3) (ak h.zs+1)=true:=by intro E G;rw[o];simp[q6.low,zB,AV.low,l,f]
  refine Spec.mono (zsN (Hy:=(dU (λ(c:(List GH))=>h) (λ(c:(List GH))=>[yr h 0 2 (c.map GH.row),.cells [zU h 0 0 2 (ak c)]]) (λ(c:(List GH))=>[ak c]) g)) (nb:=(ak h.zh+3)) (nt:=(ak h.zs+1)) (y:=stp (λ(s:List GH)(x:GH)=>zN (ak s+ak ([x]:List GH)<=lim) (aa (true,(s++([x]:List GH),none))))) (st:=λq=>(q.map (λx=>x.1),none)) (λ_=>by simp only[dU];rw[ziS rfl];rfl) (λ_=>by simp only[dU];rw[zf4 rfl];rfl) (λ_=>zeT C (nv _ _) (nv _ _) (by simp only[jM,l7,gI,k9,nr,lC,Nat.reduceAdd,l8,d]<;>simp[q6.low,zB,AV.low,l,f])) (jE _) (zpO o (xs:=λ(x:GH)=>[zK x]) (λ_=>rfl) (λ_=>rfl) rfl (λ_=>rfl) (λ_=>by simp only[zof,kj,kJ];try rfl) (λc t L L1 M1 H1 A a=>?_)) (λ_=>by simp only[dU];exact zz D) (λ_=>by simp only[dU];exact zz I) (λq x K=>by simp only[stp,zN,oa,nr,lC,lZ,m4,l9];rw[nK (by omega)])) (λ_ _ h=>by obtain⟨_,p,z,e⟩:=h;exact⟨p.map (λx=>x.1),⟨p,z,rfl⟩,e⟩);obtain rfl:H1=((h.ext ([yr h 0 2 (c.map GH.row),.cells [zU h 0 0 2 (ak c)]]++[g .ready none]) [ak c]).ext L1 M1).ext [] []:=A;refine yF ?_;refine zt rfl (zfF (rZ rfl rfl) (n:=0) rfl zss rfl) ss ?_;refine zO (zfE (rZ rfl rfl) (cs':=(GH.row t)) rfl eE.choose_spec.1 gg gg (zc rfl) rfl rfl rfl rfl rfl) ?_;refine zjH rfl rfl (R.r ?_);refine zt rfl (zqi rfl rfl zsD gg rfl (zA rfl) (zc rfl)) ss ?_;refine zO (zjQ (rZ rfl rfl) rfl eE.choose_spec.1 gg rfl (z7 (cs':=(GH.row t)) eE.choose_spec.2 rfl rfl) (zc rfl)) ?_;refine zO (bs (([t]:List GH).map GH.row)) ?_;refine zJ a (λw a=>zO (zqj (i:=0) (j:=0) (A':=[yr h 0 2 ((c++([t]:List GH)).map GH.row),.cells [zU h 0 0 2 (ak c)]]++[g .busy none]) (T':=[ak ((c++([t]:List GH)))]) rfl rfl rfl rfl rfl rfl zua zua gg gg rfl (zc rfl) zfD w rfl rfl rfl rfl rfl) ?_);refine zO (znC (A':=[yr h 0 2 ((c++([t]:List GH)).map GH.row),.cells [zU h 0 0 2 (ak ((c++([t]:List GH))))]]++[g .busy none]) (cs':=[zU h 0 0 2 (ak ((c++([t]:List GH))))]) rfl rfl zsD gg gg (zc rfl) rfl rfl rfl rfl rfl rfl) ?_;cases a;exact zjG C rfl rfl rfl rfl rfl rfl rfl rfl rfl rfl rfl (by simp only[jM,l7,gI,k9,nr,lC,Nat.reduceAdd,l8,d]<;>simp[q6.low,zB,AV.low,l,f])
 ·obtain⟨p,z,rfl⟩:=J;obtain rfl:H1=h.ext [yr h 0 2 ((p.map (λx=>x.1)).map GH.row),.cells [zU h 0 0 2 (ak ((p.map (λx=>x.1))))],.dead] [ak ((p.map (λx=>x.1)))]:=A;apply R.r;refine fr rfl (sG (pm (j:=0) (i:=0) rfl (by simp)) ?_);exact⟨p,z,by simp only[oa];try rfl,by simp only[oa];try rfl⟩
theorem zs3{b:Nat}(c:ak h.zh=bl)(d:ak h.zs=tl)(k:h.g7 b=aa (.cells [.map mm]))(g:h.g7 mm=aa (.q7 (m.map (zZ (λx=>zK x) (AV.int .u64))) 0))(a:ak m<=lim):Sp 216 [.fn (.func 218) [] [.ptr b 0]] h (λl hh=>∃p:List (GH×Int),p.Perm m/\l=.fo bl tl 2 (ak (p.map (λx=>x.1)))/\hh=h.ext [.row tl 2 ((p.map (λx=>x.1)).map GH.row)] [ak (p.map (λx=>x.1))]):=by
 subst c d;refine zy Tryz.func216 rfl kr (sL 5 rfl) (λe n=>R.r ?_);refine pz (α:=List (GH×Int)) (R:=λp=>p.Perm m) (vf:=λp=>zU h 0 0 2 (ak (p.map (λx=>x.1)))) (L:=λp=>[yr h 0 2 ((p.map (λx=>x.1)).map GH.row)]) (M:=λp=>[ak (p.map (λx=>x.1))]) rfl (sc rfl) (zs2 (by rw[xn];rfl) (by rw[rn];rfl) (zz k) (zz g) a) (λ_=>rfl) (λ_=>rfl) (λ_=>ss) (λp f=>R.r ?_);refine fr rfl (sG (pm (j:=0) (i:=0) rfl (by simp)) ?_);exact⟨p,f,by simp only[oa];try rfl,by simp only[oa];try rfl⟩
theorem zrj{g:List (GH×Int)}{e:Nat}{res:(List GA)}(f:h.g7 e=aa (.q7 (g.map (zZ (λx=>zK x) (AV.int .u64))) 0))(a:qv g=aa res):Sp 107 [.map e] h (yb (zb res) h):=by
 unfold qv at a;refine zw Tryz.func107 rfl kr (sL 27 rfl) ?_;have c:=yj f rfl;have b:∀k,e<(ak h.zh)+k:=λk=>o4 c (nv _ _);apply R.r;refine e7 (rV (w:=.fn (.func 218) [] [.ptr (ak h.zh+0) 0]) (zs1 (by first|rfl|(rw[xn];rfl)) (znM (zz f))) rfl) ?_;refine zd a (λu F a=>yP (X:=Unit) (v:=zU h 1 0 2 (ak u)) (H':=λ_=>h.ext [.cells [.map e],yr h 0 2 (u.map GH.row)] [ak u]) rfl (ye rfl rfl rfl f9.o fZ.o) ?_ ss (λ_=>?_))
 ·replace a:=F;refine df Tryz.func164 12 ?_;refine zJ a (λG a=>pz (α:=List (GH×Int)) (R:=λp=>p.Perm g) (vf:=λl=>zU h 1 0 2 (ak (l.map (λx=>x.1)))) (L:=λl=>[yr h 0 2 ((l.map (λx=>x.1)).map GH.row)]) (M:=λl=>[ak (l.map (λx=>x.1))]) (B':=λl=>[.cells [.map e],yr h 0 2 ((l.map (λx=>x.1)).map GH.row)]) (T':=λl=>[ak (l.map (λx=>x.1))]) rfl (sc rfl) (zs3 (by first|rfl|(rw[xn];rfl)) (by first|rfl|(rw[rn];rfl)) (yJ rfl rfl) (zz f) G) (λ_=>rfl) (λ_=>rfl) (λ_=>ss) (λl D=>?_));replace a:=zdM a l D;apply R.r;refine zd a (λE n a=>e7 (pL zcG Tryz.isAgg32 Tryz.sizeOf32 (λ_=>rfl) (λ_=>rfl) (nR Tryz.func121 rfl kr) (λ_ _ _ h=>ztE h) n (i:=1) (B':=[.cells [.map e],yr h 0 2 (E.map GH.row)]) rfl rfl) ?_);cases a;refine fr rfl (zeI ?_);refine⟨by first|rfl|simp only[qK n],(),?_⟩;first|rfl|simp only[qK n]
 ·refine ln λI=>R.r ?_;refine zJ a (λO a=>qg (h0:=wk.trans (tZ rfl rfl (sx 2) rfl) (wk.le (by exact(.eq (.drop (.cons (g6.of_eq rfl) (.d4 (.eq (.eq (.cons (g6.of_eq rfl) (.d16 (.drop fc.nil)))))))))))) (λ(H:Nat)(t:(List GA))=>zo 3 4 (zo 10 17 [(1,.any),(2,cP h 1 3 (t.map GA.row)),(9,.int .i64 (H:Int))])) (λt=>h.ext [.cells [.map e],yr h 0 2 (u.map GH.row)] [ak u,ak t]) a (λH t J a=>?_));refine zbj gg a (λQ P A K N a B=>?_) (λa=>?_)
  ·apply R.r;refine zd a (λj s a=>zO (iR (y8 s rfl)) ?_);refine zO (vH (off:=0) (i:=1) (q:=ak h.zs+0) (z:=(H:Int).toNat) (row:=GH.row) (λ_=>rfl) rfl eE.choose_spec.1 (by decide) gg rfl rfl (wN s).2.2 (z7 (cs':=(GH.row j)) eE.choose_spec.2 rfl rfl) (zc rfl)) ?_;refine zO (za5 (m:=g) (k:=j) (d:=(0:Int)) (kv:=(λx=>zK x)) (vv:=(AV.int .u64)) rfl Tryz.underlying161 aN zsb gg (zz f) rfl) ?_;refine si gg a (λy a=>?_) (λy a=>?_)
   ·refine dr [] ?_;refine wl (za5 (m:=g) (k:=j) (d:=(0:Int)) (kv:=(λx=>zK x)) (vv:=(AV.int .u64)) rfl Tryz.underlying161 aN zsb gg (zz f) rfl) ?_;refine wl sb ?_;refine wl (bs (([(GA.mk j (zG GH.fh (0:Int) g j))]:List GA).map GA.row)) ?_;refine zJ a (λC a=>dL (eT C) ?_);cases a;exact⟨(t++([(GA.mk j (zG GH.fh (0:Int) g j))]:List GA)),A,B,wk.trans (wk.le (by exact(.eq (.drop (.cons (g6.of_eq rfl) (.d4 (.eq (.eq (.cons (g6.of_eq (oE (by omega) (by omega))) (.d16 (.drop fc.nil))))))))))) (yH (by simp[zB,AV.low,c,b]) rfl rfl (by simp[q6.low,zB,AV.low,c,b]))⟩
   ·apply R.r;cases a;exact⟨t,A,B,wk.trans (wk.le (by exact(.eq (.drop (.cons (g6.of_eq rfl) (.d4 (.eq (.eq (.cons (g6.of_eq (oE (by omega) (by omega))) (.d16 (.drop fc.nil))))))))))) (yH (by simp[zB,AV.low,c,b]) rfl rfl (by simp[q6.low,zB,AV.low,c,b]))⟩
  ·apply R.r;exact Z
theorem zvB{res:(List GA)}(a:rY vv0=aa res):Sp 46 [zb vv0] h (yb (zb res) h):=by
 unfold rY at a;refine xb Tryz.func46 6 ?_;refine zd a (λd b a=>e7 (rV (w:=.map (ak h.zh+0)) (zg2 (by first|rfl|(rw[xn];rfl)) b) (by first|rfl|(rw[xn];rfl))) ?_);refine cB a (λ_=>zrj (yJ rfl rfl)) λc a=>?_;exact Z
theorem zxz{b0:GL}(a:wQ b0=aa res):Sp 76 [nV b0] h (yb (.bool res) h):=by
 unfold wQ at a;refine xb Tryz.func76 58 ?_;refine zO mF ?_;refine dr [2,5] ?_;refine cM a (λ_ e _=>zvB e) λk a=>cM a (λ_ e _=>zvC e) λi a=>?_;refine uK rfl rfl (λb=>wj rfl rfl rfl rfl o7 (zM gg b) vO) ss (R.r ?_);refine cH a (λ_=>zwz) λv4 a=>cH a (λ_=>zuy (λ_ v L M f=>zwA (vI (j:=0) rfl) f)) λv5 a=>cF a (λc a=>?_) (λc a=>?_)
 ·exact Z
 ·refine xP λg=>?_;refine qr rfl (λb=>wp rfl (zM gg b) (zM gg b) (zdH ty4)) ss (R.r ?_);refine dE λd=>R.r ?_;refine qr rfl (λb=>wp rfl (zM gg b) (zM gg b) (zdH ty4)) ss (R.r ?_);refine cG a (λ_=>zsi) λv9 a=>?_;exact Z
theorem zit{ss0:(List GA)}{res:(List GA)}(a:ym ss0=aa res):Sp 122 [zb ss0] h (zsf h 3 (ak res) (res.map GA.row)):=by
 unfold ym at a;refine xb Tryz.func122 8 ?_;refine tN rfl rfl o7 gg oF rfl (λ_=>ss) a (λe d a=>R.r ?_);refine cF a (λb a=>?_) (λb a=>?_)
 ·exact Z
 ·refine zO (bs (([]:List GA).map GA.row)) ?_;refine zJ a (λc a=>zO (eN c) ?_);exact Z
theorem zs0{ss0:(List GA)}{res:(List GA)}(a:ym ss0=aa res):Sp 122 [zb ss0] h (zsq h 3 (ak res) (res.map GA.row)):=by
 unfold ym at a;refine xb Tryz.func122 8 ?_;refine tN rfl rfl o7 gg oF rfl (λ_=>ss) a (λe d a=>R.r ?_);refine cF a (λb a=>?_) (λb a=>?_)
 ·exact Z
 ·refine zO (bs (([]:List GA).map GA.row)) ?_;refine vS (q9 (gx 5) rfl rfl (sx 5) rfl rfl) ?_;refine zJ a (λc a=>zO (zeM (i:=0) (j:=0) (B':=[yr h 0 3 ((([]:List GA)++ss0).map GA.row)]) (T':=[ak ((([]:List GA)++ss0))]) rfl rfl rfl rfl o7 o7 gg gg rfl (zc rfl) zc2 c rfl rfl rfl rfl rfl) ?_);exact Z
theorem zp0{ss0:(List GC)}{res:(List GC)}(a:yR ss0=aa res):Sp 173 [za ss0] h (zsq h 3 (ak res) (res.map GC.row)):=by
 unfold yR at a;refine xb Tryz.func173 8 ?_;refine tN rfl rfl wd gg oF rfl (λ_=>ss) a (λe d a=>R.r ?_);refine cF a (λb a=>?_) (λb a=>?_)
 ·exact Z
 ·refine zO (xh (es:=([]:List GC).map GC.row) rfl wd o9 rfl rfl zaP .nil rfl rfl (by simp only[m4,l9,GC.q8];rfl)) ?_;refine vS (q9 (gx 5) rfl rfl (sx 5) rfl rfl) ?_;refine zJ a (λc a=>zO (zeM (i:=0) (j:=0) (B':=[yr h 0 3 ((([]:List GC)++ss0).map GC.row)]) (T':=[ak ((([]:List GC)++ss0))]) rfl rfl rfl rfl wd wd gg gg rfl (zc rfl) zc2 c rfl rfl rfl rfl rfl) ?_);exact Z
theorem zmu{ss0:(List GE)}{res:(List GE)}(a:xB ss0=aa res):Sp 174 [zH ss0] h (zsq h 9 (ak res) (res.map GE.row)):=by
 unfold xB at a;refine xb Tryz.func174 8 ?_;refine tN rfl rfl al gg oF rfl (λ_=>ss) a (λe d a=>R.r ?_);refine cF a (λb a=>?_) (λb a=>?_)
 ·exact Z
 ·refine zO (bs (([]:List GE).map GE.row)) ?_;refine vS (q9 (gx 5) rfl rfl (sx 5) rfl rfl) ?_;refine zJ a (λc a=>zO (zeM (i:=0) (j:=0) (B':=[yr h 0 9 ((([]:List GE)++ss0).map GE.row)]) (T':=[ak ((([]:List GE)++ss0))]) rfl rfl rfl rfl al al gg gg rfl (zc rfl) zc2 c rfl rfl rfl rfl rfl) ?_);exact Z
end Go.Vv
