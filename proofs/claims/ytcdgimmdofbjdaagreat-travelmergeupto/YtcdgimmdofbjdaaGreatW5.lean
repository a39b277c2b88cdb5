/- Each function that the law reaches computes what its reading says; printed by a program. -/
import Derived.Test.YtcdgimmdofbjdaaGreatW4
set_option linter.all false
open Go.IntKind renaming wrap→ai
open List renaming length→ak
namespace Go.Vv
open Go Go.Proofs
set_option maxRecDepth 100000
set_option synthInstance.maxSize 100000
set_option synthInstance.maxHeartbeats 1000000
set_option maxHeartbeats 1000000
variable{res:Int}{h:AH}{ss0:(List GA)}{vv1:GA}
theorem ztv{t0:(List GC)}{b:(List zp)}{ff:Int}{res:(GE×Bool)}(a:uO t0 b ff=some res):Sp 148 [za t0,yD b,.int .u8 ff] h (yb (.fl [zD res.1,.bool res.2]) h):=by
 unfold uO at a;refine xb Tryz.func148 66 ?_;refine ln λg=>?_;replace g:=zwL g;refine zt rfl (wp rfl gg rfl rfl) ss ?_;refine zt rfl (xJ rfl gg (zc rfl)) ss ?_;refine yB (wt ?_);refine zee (λ(c:Bool×zp×(List GE)×(List GC))=>zo 0 5 (zo 10 56 [(7,.any),(9,.bool c.1)])) (λc=>h.ext [.cells [.int .u8 ff],.cells wA,.cells [.str c.2.1,zH c.2.2.1,za c.2.2.2]] []) a (λ_=>UE) (λC a A=>?_) (λc a=>?_)
 ·apply R.r;refine xP λp=>qg (h0:=wk.trans (zd5 (j:=2) rfl (by exact(.eq (.cons (g6.gW _ _ _) (.cons (g6.gW _ _ _) fc.nil)))) rfl rfl) (wk.le (by exact(.cons (g6.of_eq rfl) (.d4 (.eq (.eq (.drop (.eq (.cons (g6.of_eq rfl) (.d4 (.drop (.drop (.drop (.eq (.eq (.cons (g6.of_eq rfl) (.d16 (.d16 (.d4 (.d4 (.d4 (.drop (.drop fc.nil)))))))))))))))))))))))) (λ(n2:Nat)(s2:(List GC)×Bool×zp×(List GE)×(List GC))=>zo 1 4 (zo 10 7 (zo 20 46 [(7,.any),(0,za s2.1),(9,.bool s2.2.1),(19,.int .i64 (n2:Int))]))) (λs2=>h.ext [.cells [.int .u8 ff],.cells wA,.cells [.str s2.2.2.1,zH s2.2.2.2.1,za s2.2.2.2.2]] []) a (λn2 s2 w a=>cL a (λD B t m a o=>?_) (λa=>?_))
  ·refine ix (zu m) (R.r ?_);refine cB a (λ_=>zg1) λs a=>cF a (λl a=>?_) (λl a=>?_)
   ·refine sm (by decide) (R.r ?_);cases a;replace a:=o;apply R.r;refine sj ?_;exact ZL
   ·exact ZL
  ·refine sj ?_;exact ZL
 ·apply R.r;refine zO mF ?_;refine cB a (λ_=>zwf (λ_ v L M y=>zwe (vI (j:=0) rfl) y)) λz a=>qQ a (λv50 e a=>?_);refine vr rfl sc (λn=>ztk (e n)) ss ?_;refine qr rfl (λn=>zcL rfl zt2 ty5 (zM gg n) rfl (zc rfl)) ss (R.r ?_);refine cF a (λd a=>?_) (λd a=>?_)
  ·refine cB a (λ_=>ztk) λq a=>?_;exact Z
  ·refine zd a (λu i a=>ix i (R.r ?_));refine dr [] ?_;refine zd a (λx k a=>wI rfl f0.nil (by rfl) rfl (sc rfl) (oX (zrg k)) ss (R.r ?_));refine zd a (λv55 f a=>wI rfl f0.nil (by rfl) rfl (sc rfl) (oX (zit f)) ss (R.r ?_));refine qs fN.out ?_;refine qs fN.out ?_;exact Z
theorem ztu{k0:Int}(a:zek k0=some res):Sp 149 [.int .u8 k0] h (yb (.int .u8 res) h):=by
 unfold zek at a;refine xb Tryz.func149 12 ?_;refine cB a (λ_=>ztn) λb a=>?_;exact Z
theorem zvK(a:sa ss0 vv1=some res):Sp 293 [zb ss0,zn vv1] h (yb (.int .i64 res) h):=by
 unfold sa at a;refine xb Tryz.func293 19 ?_;refine xP λj=>qg (λ(e:Nat)(f:Unit)=>zo 1 2 (zo 4 3 (zo 9 10 [(8,.int .i64 (e:Int))]))) (λf=>h.ext [.cells (GA.row vv1)] []) a (λe f g a=>cL a (λk l i d a c=>?_) (λa=>?_))
 ·refine dr [] ?_;refine mS (zu d) (R.r ?_);refine wl (wp rfl gg gg (ph oZ rfl)) ?_;refine cF a (λb a=>?_) (λb a=>?_)
  ·cases a;replace a:=c;apply R.r;exact Z
  ·exact ZL
 ·exact Z
theorem zrd{res:Bool}(a:xq ss0 vv1=some res):Sp 252 [zb ss0,zn vv1] h (yb (.bool res) h):=by
 unfold xq at a;refine xb Tryz.func252 9 ?_;refine cB a (λ_=>zvK) λb a=>?_;exact Z
def zfV:Go.Shelf.Ren :=
  { f:=λx=>match x with
      |22=>296
      |29=>331
      |30=>332
      |n=>n
    t:=λx=>match x with
      |0=>0
      |3=>3
      |4=>4
      |9=>167
      |24=>82
      |n=>n
    g:=λn=>n }
theorem zah:eC Tryz.prog zfV 82 5 where
  mixed:=by kernel_rfl
  f22:=⟨Tryz.f296.name,Tryz.f296.targs,Tryz.func296.trans (by kernel_rfl),by kernel_rfl⟩
  f29:=λargs w=>run_callFunc_extern Tryz.func331 (by kernel_rfl) (by kernel_rfl) (by kernel_rfl) (e:=Extern.SlicesOverlaps.overlaps #[82,82] #[4]) (by kernel_rfl) args w
  t0:=Tryz.underlying0
  a0:=Tryz.isAgg0
  z0:=Tryz.sizeOf0
  v0:=Tryz.zeroValue0
  t3:=Tryz.underlying3
  a3:=Tryz.isAgg3
  z3:=Tryz.sizeOf3
  v3:=Tryz.zeroValue3
  t4:=Tryz.underlying4
  a4:=Tryz.isAgg4
  z4:=Tryz.sizeOf4
  v4:=Tryz.zeroValue4
  t24:=Tryz.underlying82
  a24:=Tryz.isAgg82
  z24:=Tryz.sizeOf82
  v24:=Tryz.zeroValue82
  t23:=Tryz.underlying82
  a23:=Tryz.isAgg82
  z23:=Tryz.sizeOf82
  v23:=Tryz.zeroValue82
  i9:=⟨_,_,rfl,rfl,rfl,rfl,by decide⟩
  k0:=by decide
theorem zta{j:(List GF)}{b:GF}{i:(GF->GF->Option Int)}{g:FuncId}{d c:List AV}{res:(Int×Bool)}(f:∀B C v (L:List q6) (M:List Nat),i B C=some v->Sp g (d++[va B,va C]++c) (h.ext L M) (yb (.int .i64 v) (h.ext L M)))(a:zS j b i=some res):Sp 294 [yE j,va b,.fn (.func g) d c] h (yb (.fl [.int .i64 res.1,.bool res.2]) h):=by
 unfold zS at a;refine zy Tryz.func294 rfl kr (sL 49 rfl) (λe I=>?_);simp only[zB,AV.low,tx,lq,kA]at e;have s:∀n m,ak h.zh<=n->ak h.zs<=m->zB n m d=true:=λn m z y=>zT z y _ (by simp[e]);have k:∀n m,ak h.zh<=n->ak h.zs<=m->zB n m c=true:=λn m z y=>zT z y _ (by simp[e]);apply R.r;refine xP λD=>xl (λ(x:Int×Int)=>zo 5 3 (zo 11 38 [(1,.any),(3,.any),(9,.int .i64 x.1),(10,.int .i64 x.2)])) (λx=>h.ext [.cells (GF.row b)] []) a (λ_=>UE) (wk.le ej.o) ?_;intro K x J a A;apply R.r;refine cF a (λq a=>?_) (λq a=>?_)
 ·refine zO (tI rfl ap zkG gg rfl) ?_;refine zO (tI rfl zkG ap gg rfl) ?_;refine dr [] ?_;refine zd a (λH l a=>mS l (R.r ?_));refine zd a (λE p a=>wC rfl rfl (cg rfl) (f _ _ _ _ _ p) ss (R.r ?_));refine cF a (λw a=>?_) (λw a=>?_)
  ·exact ZL
  ·exact ZL
 ·cases a;replace a:=A;apply R.r;refine dr [] ?_;refine zJ a (λu a=>qd u (R.r ?_));refine qQ a (λG t a=>?_);refine rp rfl rfl cg (λF=>f _ _ _ _ _ (t F)) ss (R.r ?_);exact Z
theorem zs9{a0:GF}{b:GF}(a:yW a0 b=some res):Sp 295 [va a0,va b] h (yb (.int .i64 res) h):=by
 unfold yW at a;refine xb Tryz.func295 14 ?_;refine cB a (λ_=>ztb) λc a=>?_;exact Z
theorem zsU{N G:Nat}{ss0:(List GF)}{x:(GF->Option Bool)}{t:FuncId}{f g:List AV}{res:(List GF)}(H:ak h.zh=N)(K:ak h.zs=G)(p:∀F v (L:List q6) (M:List Nat),x F=some v->Sp t (f++[va F]++g) (h.ext L M) (yb (.bool v) (h.ext L M)))(c:∀n m,ak h.zh<=n->ak h.zs<=m->zB n m f=true)(b:∀n m,ak h.zh<=n->ak h.zs<=m->zB n m g=true)(a:x7 ss0 x=some res):Sp 256 [.fo N G 5 (ak ss0),.fn (.func t) f g] (h.ext [.row G 5 (ss0.map GF.row)] [ak ss0]) (zpN h N G 5 (ak res) (res.map GF.row)):=by
 unfold x7 at a;subst H K;refine df Tryz.func256 42 ?_;refine zd a (λV J a=>cp (zol (B1:=[]) (T1:=[]) (zsT (by simp[AH.ext]) (by simp[AH.ext]) (λF v L M U=>by rw[x5];exact p F v _ _ U) (λn m O I=>c n m (by simp[AH.ext]at O;omega) (by simp[AH.ext]at I;omega)) (λn m O I=>b n m (by simp[AH.ext]at O;omega) (by simp[AH.ext]at I;omega)) J) rfl rfl) (R.r ?_));refine cF a (λP a=>?_) (λP a=>?_)
 ·cases a;refine fr rfl (nO (row:=GF.row) ?_);exact⟨rfl,_,rfl⟩
 ·refine xl (λ(e:Int×Int×(List GF))=>zo 2 3 (zo 7 35 [(5,.int .i64 e.1),(6,.int .i64 e.2.1)])) (λe=>h.ext [yr h 0 5 (e.2.2.map GF.row)] [ak ss0]) a (λ_=>UE) (wk.le ej.o) ?_;intro X e W a y;refine zJ a (λl a=>R.r ?_);refine ln λQ=>R.r ?_;refine cF a (λC a=>?_) (λC a=>?_)
  ·refine zd a (λk u a=>zO (iR (y8 u l)) ?_);refine zO (vH (off:=0) (i:=0) (q:=ak h.zs+0) (z:=e.2.1.toNat) (row:=GF.row) (λ_=>rfl) rfl dI.choose_spec.1 (by decide) gg rfl l (wN u).2.2 (z7 (cs':=(GF.row k)) dI.choose_spec.2 rfl rfl) (zc rfl)) ?_;refine zd a (λS B a=>yf rfl (cg rfl) (p _ _ _ _ B) ss (R.r ?_));refine cF a (λD a=>?_) (λD a=>?_)
   ·refine zd a (λT w a=>zO (iR (y8 w l)) ?_);refine zO (qF (off:=0) (i:=0) (q:=ak h.zs+0) (z:=e.1.toNat) (row:=GF.row) (y':=k) (us:=(GF.row k)) (B':=[yr h 0 5 ((e.2.2.set e.1.toNat k).map GF.row),.cells (GF.row k)]) (λ_=>rfl) rfl dI.choose_spec.1 gg gg (zc rfl) rfl rfl rfl rfl l (wN w).2.2 (by decide) rfl rfl) ?_;cases a;exact⟨((ai .i64 (e.1+(1:Int))),(ai .i64 (e.2.1+(1:Int))),(e.2.2.set e.1.toNat k)),y,wk.trans (wk.le ej.o) (yH (by simp[zB,AV.low,c,b]) rfl rfl (by simp[q6.low,zB,AV.low,c,b]))⟩
   ·cases a;exact⟨(e.1,(ai .i64 (e.2.1+(1:Int))),e.2.2),y,wk.trans (wk.le ej.o) (yH (by simp[zB,AV.low,c,b]) rfl rfl (by simp[q6.low,zB,AV.low,c,b]))⟩
  ·cases a;replace a:=y;apply R.r;refine zJ a (λs a=>mX (zhx rfl bD gg gg s) ?_);refine mX (znq (i:=0) (q:=ak h.zs+0) (L:=e.2.2) (row:=GF.row) (d:=(GF.mk (0:Int) (GA.mk (GH.mk (0:Int) (0:Int)) (0:Int)) ([]:zp))) (B':=[yr h 0 5 ((e.2.2.take e.1.toNat++List.replicate ((ak ss0)-e.1.toNat) (GF.mk (0:Int) (GA.mk (GH.mk (0:Int) (0:Int)) (0:Int)) ([]:zp))).map GF.row)]) (λ_=>rfl) rfl rfl rfl rfl bD zqr rfl gg rfl l (iQ.2 s.2) rfl) ?_;refine zd a (λA E a=>mX (zeL (i:=0) (j:=0) (L:=(e.2.2.take e.1.toNat++List.replicate ((ak ss0)-e.1.toNat) (GF.mk (0:Int) (GA.mk (GH.mk (0:Int) (0:Int)) (0:Int)) ([]:zp)))) (row:=GF.row) (B':=[.dead,yr h 1 5 (A.map GF.row)]) (T':=[ak ss0+1,ak A]) rfl bD gg gg rfl (zi3 l (iQ.2 s.2)) E rfl rfl rfl rfl) ?_);exact Z
theorem zvV{c:GF}{c0:GJ}{e:Nat}{res:Bool}(b:h.g7 e=some (.cells (GJ.row c0)))(a:wY c c0=some res):Sp 257 [va c,.ptr e 0] h (yb (.bool res) h):=by
 unfold wY at a;refine zw Tryz.func257 rfl kr (sL 10 rfl) ?_;have d:=yj b rfl;have f:∀k,e<(ak h.zh)+k:=λk=>o4 d (nv _ _);apply R.r;refine zO (xk rfl zsC gg b (zA rfl) (zc rfl)) ?_;refine cB a (λ_=>zrd) λg a=>?_;exact Z
def zdV:Go.Shelf.Ren :=
  { f:=λx=>match x with
      |6=>254
      |15=>169
      |14=>297
      |28=>227
      |29=>228
      |20=>333
      |21=>334
      |22=>335
      |23=>336
      |24=>337
      |25=>338
      |26=>339
      |27=>340
      |46=>357
      |47=>279
      |48=>280
      |49=>358
      |50=>359
      |57=>365
      |n=>n
    t:=λx=>match x with
      |22=>23
      |24=>34
      |25=>124
      |3=>3
      |39=>222
      |0=>0
      |53=>30
      |55=>22
      |4=>4
      |46=>280
      |45=>279
      |50=>255
      |5=>5
      |9=>9
      |66=>323
      |70=>327
      |76=>353
      |77=>354
      |n=>n
    g:=λn=>n }
theorem mM:Go.Proofs.SlLaysF0.n6 Tryz.prog zdV where
  mixed:=mixed
  f6:=⟨Tryz.f254.name,by kernel_rfl,Tryz.func254.trans (by kernel_rfl)⟩
  f15:=Tryz.func169.trans (by kernel_rfl)
  f14:=⟨Tryz.f297.name,by kernel_rfl,Tryz.func297.trans (by kernel_rfl)⟩
  f28:=Tryz.func227.trans (by kernel_rfl)
  f29:=Tryz.func228.trans (by kernel_rfl)
  f20:=⟨Tryz.f333.name,by kernel_rfl,Tryz.func333.trans (by kernel_rfl)⟩
  f21:=⟨Tryz.f334.name,by kernel_rfl,Tryz.func334.trans (by kernel_rfl)⟩
  f22:=⟨Tryz.f335.name,by kernel_rfl,Tryz.func335.trans (by kernel_rfl)⟩
  f23:=⟨Tryz.f336.name,by kernel_rfl,Tryz.func336.trans (by kernel_rfl)⟩
  f24:=⟨Tryz.f337.name,by kernel_rfl,Tryz.func337.trans (by kernel_rfl)⟩
  f25:=⟨Tryz.f338.name,by kernel_rfl,Tryz.func338.trans (by kernel_rfl)⟩
  f26:=⟨Tryz.f339.name,by kernel_rfl,Tryz.func339.trans (by kernel_rfl)⟩
  f27:=⟨Tryz.f340.name,by kernel_rfl,Tryz.func340.trans (by kernel_rfl)⟩
  f46:=⟨Tryz.f357.name,by kernel_rfl,Tryz.func357.trans (by kernel_rfl)⟩
  f47:=Tryz.func279.trans (by kernel_rfl)
  f48:=Tryz.func280.trans (by kernel_rfl)
  f49:=⟨Tryz.f358.name,by kernel_rfl,Tryz.func358.trans (by kernel_rfl)⟩
  f50:=⟨Tryz.f359.name,by kernel_rfl,Tryz.func359.trans (by kernel_rfl)⟩
  f57:=⟨Tryz.f365.name,by kernel_rfl,Tryz.func365.trans (by kernel_rfl)⟩
  t0:=Tryz.underlying0
  a0:=Tryz.isAgg0
  z0:=Tryz.sizeOf0
  v0:=Tryz.zeroValue0
  t3:=Tryz.underlying3
  a3:=Tryz.isAgg3
  z3:=Tryz.sizeOf3
  v3:=Tryz.zeroValue3
  t4:=Tryz.underlying4
  a4:=Tryz.isAgg4
  z4:=Tryz.sizeOf4
  v4:=Tryz.zeroValue4
  t5:=Tryz.underlying5
  a5:=Tryz.isAgg5
  z5:=Tryz.sizeOf5
  v5:=Tryz.zeroValue5
  t9:=Tryz.underlying9
  a9:=Tryz.isAgg9
  z9:=Tryz.sizeOf9
  v9:=Tryz.zeroValue9
  t22:=Tryz.underlying23
  a22:=Tryz.isAgg23
  z22:=Tryz.sizeOf23
  v22:=Tryz.zeroValue23
  t25:=Tryz.underlying124
  a25:=Tryz.isAgg124
  z25:=Tryz.sizeOf124
  v25:=Tryz.zeroValue124
  t39:=Tryz.underlying222
  a39:=Tryz.isAgg222
  z39:=Tryz.sizeOf222
  v39:=Tryz.zeroValue222
  t45:=Tryz.underlying279
  a45:=Tryz.isAgg279
  z45:=Tryz.sizeOf279
  v45:=Tryz.zeroValue279
  t46:=Tryz.underlying280
  a46:=Tryz.isAgg280
  z46:=Tryz.sizeOf280
  v46:=Tryz.zeroValue280
  t50:=Tryz.underlying255
  a50:=Tryz.isAgg255
  z50:=Tryz.sizeOf255
  v50:=Tryz.zeroValue255
  t53:=Tryz.underlying30
  a53:=Tryz.isAgg30
  z53:=Tryz.sizeOf30
  v53:=Tryz.zeroValue30
  t55:=Tryz.underlying22
  a55:=Tryz.isAgg22
  z55:=Tryz.sizeOf22
  v55:=Tryz.zeroValue22
  t66:=Tryz.underlying323
  a66:=Tryz.isAgg323
  z66:=Tryz.sizeOf323
  v66:=Tryz.zeroValue323
  t70:=Tryz.underlying327
  a70:=Tryz.isAgg327
  z70:=Tryz.sizeOf327
  v70:=Tryz.zeroValue327
  t76:=Tryz.underlying353
  a76:=Tryz.isAgg353
  z76:=Tryz.sizeOf353
  v76:=Tryz.zeroValue353
  t77:=Tryz.underlying354
  a77:=Tryz.isAgg354
  z77:=Tryz.sizeOf354
  v77:=Tryz.zeroValue354
theorem zpZ{F B:Nat}{res:(List GA)}(D:ak h.zh=F)(E:ak h.zs=B)(a:wx ss0=some res):Sp 255 [.fo F B 3 (ak ss0)] (h.ext [.row B 3 (ss0.map GA.row)] [ak ss0]) (zpN h F B 3 (ak res) (res.map GA.row)):=by
 unfold wx at a;subst D E;refine df Tryz.func255 61 ?_;refine xP λO=>cF a (λJ a=>?_) (λJ a=>?_)
 ·cases a;refine fr rfl (nO (row:=GA.row) ?_);exact⟨rfl,_,rfl⟩
 ·refine xl (λ(n:Int)=>zo 1 2 (zo 4 57 [(3,.int .i64 n)])) (λn=>h.ext [yr h 0 3 (ss0.map GA.row)] [ak ss0]) a (λ_=>UE) (wk.le ej.o) ?_;intro T n S a y;apply R.r;refine xP λM=>cF a (λA a=>?_) (λA a=>?_)
  ·refine dr [] ?_;refine zd a (λC m a=>wl (iR (y8 m rfl)) ?_);refine wl (vH (off:=0) (i:=0) (q:=ak h.zs+0) (z:=n.toNat) (row:=GA.row) (λ_=>rfl) rfl fO.choose_spec.1 (by decide) gg rfl rfl (wN m).2.2 (z7 (cs':=(GA.row C)) fO.choose_spec.2 rfl rfl) (zc rfl)) ?_;refine zd a (λG l a=>wl (iR (y8 l rfl)) ?_);refine wl (vH (off:=0) (i:=0) (q:=ak h.zs+0) (z:=(ai .i64 (n-(1:Int))).toNat) (row:=GA.row) (λ_=>rfl) rfl fO.choose_spec.1 (by decide) gg rfl rfl (wN l).2.2 (z7 (cs':=(GA.row G)) fO.choose_spec.2 rfl rfl) (zc rfl)) ?_;refine wl (wp rfl gg gg (ph oZ rfl)) ?_;refine cF a (λu a=>?_) (λu a=>?_)
   ·refine zJ a (λx a=>mX (zhx rfl o7 gg gg x) ?_);refine xl (λ(s2:Int×Int×(List GA))=>zo 1 2 (zo 6 55 [(3,.int .i64 s2.1),(5,.int .i64 s2.2.1)])) (λs2=>h.ext [yr h 0 3 (s2.2.2.map GA.row)] [ak ss0]) a (λ_=>UE) (wk.le ej.o) ?_;intro n2 s2 Q a H;refine zJ a (λb a=>R.r ?_);refine ln λN=>R.r ?_;refine cF a (λs a=>?_) (λs a=>?_)
    ·refine dr [] ?_;refine zd a (λI c a=>?_);replace c:=zsl c;refine wl (zeK rfl o7 gg gg ⟨c.1,by have:=c.2.1;have:=b;omega⟩) ?_;refine wl (vH (off:=0) (i:=0) (q:=ak h.zs+0) (z:=(n.toNat+s2.2.1.toNat)) (row:=GA.row) (λ_=>rfl) rfl fO.choose_spec.1 (by decide) gg rfl b c.2.2 (z7 (cs':=(GA.row I)) fO.choose_spec.2 rfl rfl) (zc rfl)) ?_;refine zd a (λK f a=>?_);replace f:=zsl f;refine wl (zeK rfl o7 gg gg ⟨f.1,by have:=f.2.1;have:=b;omega⟩) ?_;refine wl (vH (off:=0) (i:=0) (q:=ak h.zs+0) (z:=(n.toNat+(ai .i64 (s2.2.1-(1:Int))).toNat)) (row:=GA.row) (λ_=>rfl) rfl fO.choose_spec.1 (by decide) gg rfl b f.2.2 (z7 (cs':=(GA.row K)) fO.choose_spec.2 rfl rfl) (zc rfl)) ?_;refine wl (wp rfl gg gg (ow oZ rfl)) ?_;refine cF a (λt a=>?_) (λt a=>?_)
     ·refine zd a (λk e a=>?_);replace e:=zsl e;refine zO (zeK rfl o7 gg gg ⟨e.1,by have:=e.2.1;have:=b;omega⟩) ?_;refine zO (vH (off:=0) (i:=0) (q:=ak h.zs+0) (z:=(n.toNat+s2.2.1.toNat)) (row:=GA.row) (λ_=>rfl) rfl fO.choose_spec.1 (by decide) gg rfl b e.2.2 (z7 (cs':=(GA.row k)) fO.choose_spec.2 rfl rfl) (zc rfl)) ?_;refine zd a (λP p a=>zO (iR (y8 p b)) ?_);refine zO (qF (off:=0) (i:=0) (q:=ak h.zs+0) (z:=s2.1.toNat) (row:=GA.row) (y':=k) (us:=(GA.row k)) (B':=[yr h 0 3 ((s2.2.2.set s2.1.toNat k).map GA.row)]) (λ_=>rfl) rfl fO.choose_spec.1 gg gg (zc rfl) rfl rfl rfl rfl b (wN p).2.2 (by decide) rfl rfl) ?_;exact ZL
     ·exact ZL
    ·cases a;replace a:=H;apply R.r;refine zJ a (λg a=>mX (zhx rfl o7 gg gg g) ?_);refine mX (znq (i:=0) (q:=ak h.zs+0) (L:=s2.2.2) (row:=GA.row) (d:=(GA.mk (GH.mk (0:Int) (0:Int)) (0:Int))) (B':=[yr h 0 3 ((s2.2.2.take s2.1.toNat++List.replicate ((ak ss0)-s2.1.toNat) (GA.mk (GH.mk (0:Int) (0:Int)) (0:Int))).map GA.row)]) (λ_=>rfl) rfl rfl rfl rfl o7 zsg rfl gg rfl b (iQ.2 g.2) rfl) ?_;refine zd a (λv w a=>mX (zeL (i:=0) (j:=0) (L:=(s2.2.2.take s2.1.toNat++List.replicate ((ak ss0)-s2.1.toNat) (GA.mk (GH.mk (0:Int) (0:Int)) (0:Int)))) (row:=GA.row) (B':=[.dead,yr h 1 3 (v.map GA.row)]) (T':=[ak ss0+1,ak v]) rfl o7 gg gg rfl (zi3 b (iQ.2 g.2)) w rfl rfl rfl rfl) ?_);cases a;replace a:=y;apply R.r;exact Z
   ·exact ZL
  ·cases a;replace a:=y;apply R.r;cases a;refine fr rfl (nO (row:=GA.row) ?_);exact⟨rfl,_,rfl⟩
end Go.Vv
