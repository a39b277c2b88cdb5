/- Each function that the law reaches computes what its reading says; printed by a program. -/
import Derived.Test.YtcdgimmdofbjdaaGreatW3
set_option linter.all false
open Option renaming some→aa
open Go.IntKind renaming wrap→ai
open List renaming length→ak
namespace Go.Vv
open Go Go.Proofs
set_option maxRecDepth 100000
set_option synthInstance.maxSize 100000
set_option synthInstance.maxHeartbeats 1000000
set_option maxHeartbeats 1000000
variable{a0 b1:(List GA)}{res:Bool}{h:AH}{pg0:Nat}{cc1:GI}{ahead2:GA}{rep0 kind0:Int}{t0:(List GC)}{ff1:FuncId}{af1 kf1:List AV}
theorem zxD{res:(List GA)}(a:uC a0 b1=aa res):Sp 24 [zb a0,zb b1] h (yb (zb res) h):=by
 unfold uC at a;refine xb Tryz.func24 48 ?_;refine cB a (λ_=>zs6) λq a=>qg (h0:=wk.trans (tZ rfl rfl (sx 5) rfl) (wk.le (by exact(.drop (.eq (.drop (.drop (.drop (.cons (g6.of_eq rfl) (.eq (.cons (g6.of_eq rfl) (.d16 (.d16 (.d4 (.d4 fc.nil))))))))))))))) (λ(k:Nat)(g:(List GA))=>zo 2 3 (zo 8 40 [(0,.any),(5,cP h 0 3 (g.map GA.row)),(7,.int .i64 (k:Int))])) (λg=>h.ext [] [ak g]) a (λk g m a=>xP λj=>cL a (λl s o b a p=>?_) (λa=>?_))
 ·refine ix (zu b) (R.r ?_);refine cB a (λ_=>zsj) λi a=>ix (zu b) (R.r ?_);refine cF a (λc a=>?_) (λc a=>?_)
  ·refine ix (zu b) (R.r ?_);refine ix (zu b) (R.r ?_);refine zO sb ?_;refine zO (bs (([l]:List GA).map GA.row)) ?_;refine zJ a (λf a=>zO (eT f) ?_);exact ZL
  ·refine ix (zu b) (R.r ?_);refine zO sb ?_;refine zO (bs (([(GA.mk l.zi i)]:List GA).map GA.row)) ?_;refine zJ a (λd a=>zO (eT d) ?_);exact ZL
 ·refine zd a (λn e a=>cp ((zs6 e).le (.cons (g6.gW _ _ _) fc.nil)) (R.r ?_));exact Z
theorem zuE{res:(List GA)}(a:vq a0 b1=aa res):Sp 25 [zb a0,zb b1] h (yb (zb res) h):=by
 unfold vq at a;refine xb Tryz.func25 11 ?_;refine zO (bs (([]:List GA).map GA.row)) ?_;refine zJ a (λc a=>zO (eN c) ?_);refine zJ a (λd a=>zO (eT d) ?_);refine zd a (λv3 b a=>cp ((zs6 b).le (.cons (g6.gW _ _ _) fc.nil)) (R.r ?_));exact Z
theorem zty{g0:GS}{res:(List GA)}(c:h.g7 pg0=aa (.cells [.int .u64 g0.b.num,zb g0.b.f,zb g0.b.fb,.int .u64 g0.b.time,za g0.b.tree,yM g0.l]))(a:xE g0 cc1=aa res):Sp 139 [.ptr pg0 0,zq cc1] h (yb (zb res) h):=by
 unfold xE at a;refine zw Tryz.func139 rfl kr (sL 55 rfl) ?_;have d:=yj c rfl;have n:∀k,pg0<(ak h.zh)+k:=λk=>o4 d (nv _ _);apply R.r;refine dr [7,11] ?_;refine yq rfl rfl (xk rfl bF (gx 13) c (zA rfl) (zc rfl)) (sx 14) ?_;refine cM a (λ_ e _=>zxD e) λC a=>wl (bs (([cc1.z6]:List GA).map GA.row)) ?_;refine zd a (λE o a=>ay (by rintro _ ⟨B2,T2,rfl,u⟩;exact(zuE o).le (.eq (.cons (g6.gW _ _ _) fc.nil))) ?_);refine qg (λ(s:Nat)(p:(List GA))=>zo 1 2 (zo 7 48 [(4,.any),(5,zb p),(6,.int .i64 (s:Int))])) (λp=>h.ext [.cells (GI.row cc1)] []) a (λs p t a=>xP λq=>cL a (λA D z j a B=>?_) (λa=>?_))
 ·refine ix (zu j) (R.r ?_);refine zO (bs (([A]:List GA).map GA.row)) ?_;refine zd a (λw m a=>cp ((zuE m).le (.eq (.cons (g6.gW _ _ _) fc.nil))) (R.r ?_));refine ix (zu j) (R.r ?_);refine cB a (λ_=>zvD (zz c)) λx a=>cF a (λg a=>?_) (λg a=>?_)
  ·refine zO (xk rfl zn5 gg c (zA rfl) (zc rfl)) ?_;refine zd a (λy i a=>ix i (R.r ?_));refine cB a (λ_=>zuE) λv a=>?_;exact ZL
  ·exact ZL
 ·exact Z
theorem zxA(a:tL a0 b1=aa res):Sp 52 [zb a0,zb b1] h (yb (.bool res) h):=by
 unfold tL at a;refine xb Tryz.func52 32 ?_;refine qg (λ(j:Nat)(k:Unit)=>zo 2 3 (zo 6 26 [(5,.int .i64 (j:Int))])) (λk=>h.ext [] []) a (λj k l a=>xP λi=>cL a (λp q m g a f=>?_) (λa=>?_))
 ·refine dr [4] ?_;refine mS (zu g) (R.r ?_);refine cM a (λ_ e _=>zfB e) λn a=>zJ a (λb a=>qd b (R.r ?_));refine zJ a (λc a=>qd c (R.r ?_));refine cH a (λ_=>zsj) λo a=>cF a (λd a=>?_) (λd a=>?_)
  ·cases a;replace a:=f;apply R.r;exact Z
  ·exact ZL
 ·exact Z
theorem zyS{g0:GS}(c:h.g7 pg0=aa (.cells [.int .u64 g0.b.num,zb g0.b.f,zb g0.b.fb,.int .u64 g0.b.time,za g0.b.tree,yM g0.l]))(a:xT g0 cc1 ahead2=aa res):Sp 85 [.ptr pg0 0,zq cc1,zn ahead2] h (yb (.bool res) h):=by
 unfold xT at a;refine zw Tryz.func85 rfl kr (sL 42 rfl) ?_;have d:=yj c rfl;have i:∀k,pg0<(ak h.zh)+k:=λk=>o4 d (nv _ _);apply R.r;refine qg (λ(p:Nat)(o:Unit)=>zo 1 3 (zo 8 34 [(6,.any),(7,.int .i64 (p:Int))])) (λo=>h.ext [.cells (GI.row cc1),.cells (GA.row ahead2)] []) a (λp o q a=>xP λn=>cL a (λw v u j a m=>?_) (λa=>?_))
 ·refine ix (zu j) (R.r ?_);refine cB a (λ_=>zvs (zz c)) λv23 a=>cF a (λe a=>?_) (λe a=>?_)
  ·cases a;replace a:=m;apply R.r;exact Z
  ·exact ZL
 ·refine dr [] ?_;refine cH a (λ_=>zvs (zz c)) λv25 a=>qQ a (λv26 g a=>?_);refine rp rfl rfl sc (λs=>zty (zz c) (g s)) ss ?_;refine cH a (λ_=>zxA) λt a=>?_;exact Z
theorem zyR{g0:GS}(c:h.g7 pg0=aa (.cells [.int .u64 g0.b.num,zb g0.b.f,zb g0.b.fb,.int .u64 g0.b.time,za g0.b.tree,yM g0.l]))(a:xw g0 cc1 ahead2=aa res):Sp 86 [.ptr pg0 0,zq cc1,zn ahead2] h (yb (.bool res) h):=by
 unfold xw at a;refine zw Tryz.func86 rfl kr (sL 98 rfl) ?_;have d:=yj c rfl;have t:∀k,pg0<(ak h.zh)+k:=λk=>o4 d (nv _ _);apply R.r;refine dr [] ?_;refine vh rfl rfl (λv=>xk rfl bF (zM gg v) c (zA rfl) (zc rfl)) ss (R.r ?_);refine cH a (λ_=>zsk) λQ a=>qg (λ(C:Nat)(x:Bool)=>zo 1 3 (zo 9 89 [(6,.any),(7,.bool x),(8,.int .i64 (C:Int))])) (λx=>h.ext [.cells (GI.row cc1),.cells (GA.row ahead2)] []) a (λC x E a=>xP λz=>cL a (λV T K w a q=>?_) (λa=>?_))
 ·refine ix (zu w) (R.r ?_);refine cB a (λ_=>zvD (zz c)) λM a=>cF a (λi a=>?_) (λi a=>?_)
  ·exact ZL
  ·refine dr [] ?_;refine wl (xk rfl zn5 gg c (zA rfl) (zc rfl)) ?_;refine zd a (λG s a=>mS s (R.r ?_));refine si gg a (λp a=>?_) (λp a=>?_)
   ·apply R.r;cases a;replace a:=q;apply R.r;exact Z
   ·refine zjD (wt ?_);refine zee (λ(s2:Bool)=>zo 1 3 (zo 10 88 [(6,.any),(7,.bool s2)])) (λs2=>h.ext [.cells (GI.row cc1),.cells (GA.row ahead2)] []) a (λ_=>UE) (λS a I=>?_) (λs2 a=>?_)
    ·apply R.r;refine dr [9] ?_;refine wl (xk rfl zn5 gg c (zA rfl) (zc rfl)) ?_;refine zd a (λO m a=>mS m (R.r ?_));refine cM a (λ_ e _=>zsk e) λv70 a=>cF a (λg a=>?_) (λg a=>?_)
     ·refine sj ?_;exact ZL
     ·refine sj ?_;exact ZL
    ·apply R.r;refine qg (λ(A:Nat)(B:Unit)=>zo 1 3 (zo 11 87 [(6,.any),(10,.int .i64 (A:Int))])) (λB=>h.ext [.cells (GI.row cc1),.cells (GA.row ahead2)] []) a (λA B L a=>xP λy=>cL a (λP U J F a u=>?_) (λa=>?_))
     ·refine dr [] ?_;refine vh rfl rfl (λv=>xk rfl zn5 (zM gg v) c (zA rfl) (zc rfl)) ss (R.r ?_);refine zJ a (λn a=>qd n (R.r ?_));refine zJ a (λj a=>qd j (R.r ?_));refine cH a (λ_=>zsk) λH a=>cF a (λo a=>?_) (λo a=>?_)
      ·cases a;replace a:=u;apply R.r;cases a;replace a:=q;apply R.r;exact Z
      ·exact ZL
     ·exact ZL
 ·refine dr [] ?_;refine cH a (λ_=>zty (zz c)) λN a=>cH a (λ_=>zxA) λD a=>?_;exact Z
theorem aO{res:GA}(a:yQ rep0=aa res):Sp 32 [.int .u8 rep0] h (yb (zn res) h):=by
 unfold yQ at a;refine xb Tryz.func32 6 ?_;refine zO sb ?_;refine zO sb ?_;exact Z
theorem zvF{e:Int}{c:Int}{d:(List GA)}{b:(List GA)}{res:GI}(a:pB rep0 e c d b=aa res):Sp 33 [.int .u8 rep0,.int .i64 e,.int .u64 c,zb d,zb b] h (yb (zq res) h):=by
 unfold pB at a;refine xb Tryz.func33 21 ?_;refine zO sb ?_;refine zO sb ?_;refine zO (bs (([([97]:zp)]:List zp).map yl)) ?_;refine zO sb ?_;refine zO sb ?_;exact Z
theorem zyP{b:zp}{res:(GC×Bool)}(a:sX t0 b=aa res):Sp 88 [za t0,.str b] h (yb (.fl [.agg [.str res.1.name,zH res.1.leaves,za res.1.wa],.bool res.2]) h):=by
 unfold sX at a;refine xb Tryz.func88 25 ?_;refine qg (λ(g:Nat)(c:Unit)=>zo 2 2 (zo 7 18 [(5,.any),(6,.int .i64 (g:Int))])) (λc=>h.ext [.cells [.str ([]:zp),.gW none 9 (([]:List GE).map GE.row),.gW none 3 (([]:List GC).map GC.row)]] []) a (λg c j a=>xP λi=>cL a (λl m k d a f=>?_) (λa=>?_))
 ·refine zO (yu rfl wd gg gg oF (zu d) (GC.q8 _)) ?_;refine cF a (λe a=>?_) (λe a=>?_)
  ·refine zO (yu rfl wd gg gg oF (zu d) (GC.q8 _)) ?_;cases a;replace a:=f;apply R.r;exact Z
  ·exact ZL
 ·refine zO sb ?_;exact Z
theorem zyQ{res:GE}(a:nx kind0=aa res):Sp 87 [.int .u8 kind0] h (yb (zD res) h):=by
 unfold nx at a;refine xb Tryz.func87 12 ?_;refine cF a (λb a=>?_) (λb a=>?_)
 ·refine zO sb ?_;exact Z
 ·refine zO sb ?_;exact Z
theorem zuD{b:(List zp)}{ff:Int}{res:(GE×Bool)}(a:xV t0 b ff=aa res):Sp 34 [za t0,yD b,.int .u8 ff] h (yb (.fl [zD res.1,.bool res.2]) h):=by
 unfold xV at a;refine xb Tryz.func34 67 ?_;refine cB a (λ_=>zyQ) λp a=>zO sb ?_;refine qg (h0:=wk.trans (zd5 (j:=2) rfl (by exact(.eq (.cons (g6.gW _ _ _) (.cons (g6.gW _ _ _) fc.nil)))) rfl rfl) (wk.le (by exact(.cons (g6.of_eq rfl) (.eq (.eq (.drop (.drop (.drop (.eq (.drop (.eq (.eq (.cons (g6.of_eq rfl) (.d16 (.d16 (.d16 (.d4 (.d4 fc.nil))))))))))))))))))) (λ(s:Nat)(c:(List GC)×zp×(List GE)×(List GC))=>zo 3 3 (zo 11 56 [(7,.any),(0,za c.1),(10,.int .i64 (s:Int))])) (λc=>h.ext [.cells wA,.cells (GE.row p),.cells [.str c.2.1,zH c.2.2.1,za c.2.2.2]] []) a (λs c u a=>xP λq=>cL a (λA z x l a m=>?_) (λa=>?_))
 ·refine ix (zu l) (R.r ?_);refine cB a (λ_=>zyP) λt a=>cF a (λd a=>?_) (λd a=>?_)
  ·cases a;replace a:=m;apply R.r;exact Z
  ·exact ZL
 ·refine xl (λ(s2:Int)=>zo 0 2 (zo 3 3 (zo 10 3 (zo 14 53 [(7,.any),(13,.int .i64 s2)])))) (λs2=>h.ext [.cells wA,.cells (GE.row p),.cells [.str c.2.1,zH c.2.2.1,za c.2.2.2]] []) a (λ_=>UE) (wk.le ej.o) ?_;intro n2 s2 y a g;apply R.r;refine xP λn=>cF a (λf a=>?_) (λf a=>?_)
  ·refine zd a (λv i a=>ix i (R.r ?_));refine cF a (λk a=>?_) (λk a=>?_)
   ·refine zd a (λw e a=>ix e (R.r ?_));cases a;replace a:=g;apply R.r;exact Z
   ·exact ZL
  ·cases a;replace a:=g;apply R.r;exact Z
theorem zwq{d:GJ}{res:GJ}(a:nM d=aa res):Sp 146 [qf d] h (yb (qf res) h):=by
 unfold nM at a;refine xb Tryz.func146 16 ?_;refine dr [] ?_;refine zd a (λf c a=>wI rfl f0.nil (by rfl) rfl (sc rfl) (oX (ztD c)) ss (R.r ?_));refine zd a (λe b a=>wI rfl f0.nil (by rfl) rfl (sc rfl) (oX (zit b)) ss (R.r ?_));refine qs fN.out ?_;refine qs fN.out ?_;exact Z
theorem zoN{c:(List GK)}{d:Int}{k2:Int}(a:yC c d k2=aa res):Sp 397 [.sl 10 (c.map GK.row),.int .i64 d,.int .i64 k2] h (yb (.bool res) h):=by
 unfold yC at a;refine xb Tryz.func397 51 ?_;refine zvi 12 rfl mixed ?_;refine zhT (i:=0) kr kr rfl rfl (λ_=>yS rfl gg (zc rfl)) ss ?_;refine zhT (i:=1) kr kr rfl rfl (λ_=>yS rfl gg (zc rfl)) ss ?_;refine zd a (λl f a=>zhT (i:=2) kr kr rfl rfl (λ_=>nj rfl zrW gg gg oF f) ss ?_);refine zhT (i:=3) kr kr rfl rfl (λ_=>zkj rfl fp.choose_spec.1 gg (z7 (cs':=(GK.row l)) fp.choose_spec.2 rfl rfl) (zc rfl)) ss ?_;refine zhT (i:=4) kr kr rfl rfl (λ_=>yS rfl gg (zc rfl)) ss ?_;refine zhT (i:=5) kr kr rfl rfl (λ_=>yS rfl gg (zc rfl)) ss ?_;refine zd a (λm g a=>zhT (i:=6) kr kr rfl rfl (λ_=>nj rfl zrW gg gg oF g) ss ?_);refine zhT (i:=7) kr kr rfl rfl (λ_=>zkj rfl fp.choose_spec.1 gg (z7 (cs':=(GK.row m)) fp.choose_spec.2 rfl rfl) (zc rfl)) ss ?_;refine zxj (i:=8) (j:=9) kr ?_ ?_
 ·refine zb3 rfl rfl fN.out ss ?_;refine zlq (i:=9) kr (zb3 rfl rfl fN.out ss ?_);refine zlq (i:=10) kr (zb3 rfl rfl fN.out rfl ?_);refine zlq (i:=11) kr (zb3 rfl rfl fN.out rfl ?_);refine znV kr (R.r ?_);refine qr rfl (λe=>wp rfl (zM gg e) (zM gg e) (ph oZ rfl)) ss (R.r ?_);refine cF a (λb a=>?_) (λb a=>?_)
  ·exact Z
  ·refine zd a (λv4 k a=>cp (zk2 k) (R.r ?_));exact Z
 ·refine zb3 rfl rfl fN.out ss ?_;refine zlq (i:=8) kr (zb3 rfl rfl fN.out ss ?_);refine zlq (i:=10) kr (zb3 rfl rfl fN.out rfl ?_);refine zlq (i:=11) kr (zb3 rfl rfl fN.out rfl ?_);refine znV kr (R.r ?_);refine qr rfl (λe=>wp rfl (zM gg e) (zM gg e) (ph oZ rfl)) ss (R.r ?_);refine cF a (λb a=>?_) (λb a=>?_)
  ·exact Z
  ·refine cB a (λ_=>zk2) λv4 a=>?_;exact Z
abbrev sV(x:List GJ):AV:=.sl 9 (x.map GJ.row)
theorem zyM{l0:(List GJ)}{res:(List GJ)}(a:uJ l0=aa res):Sp 96 [sV l0] h (yb (sV res) h):=by
 unfold uJ at a;refine xb Tryz.func96 27 ?_;refine zO (bs (([]:List GK).map GK.row)) ?_;refine xP λhn1=>qg (h0:=wk.trans ((zgz (jb:=0) (o:=0) (B':=[.cells [zU h 1 0 10 (ak (([]:List GK)))],yr h 0 10 (([]:List GK).map GK.row)]) (T':=[ak (([]:List GK))]) rfl rfl rfl rfl rfl rfl rfl).wk) (wk.le ej.o)) (λ(n1:Nat)(w:(List GK))=>zo 0 3 (zo 4 4 (zo 11 16 [(10,.int .i64 (n1:Int))]))) (λw=>h.ext [.cells [zU h 1 0 10 (ak w)],yr h 0 10 (w.map GK.row)] [ak w]) a (λn1 w hi1 a=>cL a (λx1 o1 hl1 hx1 a hK1=>?_) (λa=>?_))
 ·refine ix (zu hx1) (R.r ?_);refine mX (zhM rfl pF rfl gg (zc rfl)) ?_;refine cB a (λ_=>zwq) λf a=>zO sb ?_;refine mX (zhM rfl fp.choose_spec.1 (zcm fp.choose_spec.2) gg (zc rfl)) ?_;refine zd a (λO hv159 a=>yP (X:=Unit) (v:=.fl []) (H':=λ_=>h.ext [.cells [zU h 1 0 10 (ak O)],yr h 0 10 (O.map GK.row),.cells (GJ.row x1)] [ak O]) rfl (ye rfl rfl rfl f9.o fZ.o) ?_ ss (λ_=>?_))
  ·replace a:=hv159;refine df Tryz.func145 12 ?_;refine zd a (λb hv235 a=>yP (args:=[.ptr (ak h.zh+0) 0,.iface 199 (.agg [.int .u8 f.z6.zi.fk,.int .u32 f.z6.zi.inc,.int .u64 f.z6.seq,.int .u64 f.time,.int .u8 f.op.kind,yD f.op.path,.int .i64 f.op.n,.str f.op.text,zb f.op.gZ,.int .i64 (n1:Int)])]) (X:=Unit) (v:=.fl []) (H':=λ_=>h.ext [.cells [zU h 1 0 10 (ak b)],yr h 0 10 (b.map GK.row),.cells (GJ.row x1)] [ak b]) rfl (uw rfl rfl gg (zxt zkW pF) f9.o fZ.o) ?_ ss (λ_=>?_))
   ·replace a:=hv235;refine df Tryz.func399 20 ?_;refine mX (zuq rfl fp.choose_spec.1 (zcm fp.choose_spec.2) gg) ?_;refine oY gg (λ_=>?_) (λhh=>by cases hh);refine dr [] ?_;refine wl (bs (([(GK.mk f (n1:Int))]:List GK).map GK.row)) ?_;refine zJ a (λhm237 a=>qs (eR hm237) ?_);refine qs fN.out ?_;exact ZO
   ·apply R.r;refine zd a (λv238 hv238 a=>yP (args:=[zU h 1 0 10 (ak b)]) (X:=Unit) (v:=.int .i64 v238) (H':=λ_=>h.ext [.cells [zU h 1 0 10 (ak b)],yr h 0 10 (b.map GK.row),.cells (GJ.row x1)] [ak b]) rfl (uw rfl rfl gg (b9 zcS pF m9 (p6 rfl (zA rfl)) (zc rfl)) vK .nil) ?_ ss (λ_=>?_))
    ·replace a:=hv238;refine df Tryz.func396 5 ?_;refine ln λhn240=>R.r ?_;exact Z
    ·apply R.r;refine zd a (λv241 hv241 a=>yP (X:=Unit) (v:=.fl []) (H':=λ_=>h.ext [.cells [zU h 1 0 10 (ak b)],yr h 0 10 (v241.map GK.row),.cells (GJ.row x1)] [ak b]) rfl (ye rfl rfl rfl f9.o fZ.o) ?_ ss (λ_=>?_))
     ·replace a:=hv241;refine df Tryz.func188 23 ?_;refine xl (λ(s2:Int×(List GK))=>zo 2 21 [(1,.int .i64 s2.1)]) (λs2=>h.ext [.cells [zU h 1 0 10 (ak b)],yr h 0 10 (s2.2.map GK.row),.cells (GJ.row x1)] [ak b]) a (λ_=>UE) (wk.le ej.o) ?_;intro n2 s2 o2 a hK2;refine zJ a (λx a=>R.r ?_);refine qQ a (λv298 hv298 a=>?_);refine vr rfl (λhb=>uw rfl rfl (zM gg hb) (b9 mn pF m9 (p6 rfl (zA rfl)) (zc rfl)) (xy (zM gg hb) (xy (zM gg hb) vK)) fZ.o) (λhb=>vn (by exact(.cons (.row _ _ _ _ _ (by rw[zX];rfl) (by rw[oa];exact kO (x))) (.cons (.low _ rfl) (.cons (.low _ rfl) .nil)))) rfl (zoN (hv298 hb)) (λ_ _ h=>h.1)) ss (R.r ?_);refine cF a (λhc299 a=>?_) (λhc299 a=>?_)
      ·refine sm (by decide) (R.r ?_);cases a;replace a:=hK2;apply R.r;exact Z
      ·refine zd a (λv300 hv300 a=>yP (args:=[zU h 1 0 10 (ak b),.int .i64 (ai .i64 (Int.tdiv (ai .i64 (s2.1-(1:Int))) (2:Int))),.int .i64 s2.1]) (X:=Unit) (v:=.fl []) (H':=λ_=>h.ext [.cells [zU h 1 0 10 (ak b)],yr h 0 10 (v300.map GK.row),.cells (GJ.row x1)] [ak b]) rfl (uw rfl rfl gg (b9 mj pF m9 (p6 rfl (zA rfl)) (zc rfl)) f9.o fZ.o) ?_ ss (λ_=>?_))
       ·replace a:=hv300;refine ua Tryz.func400 rfl kr (sL 20 rfl) ?_;refine dr [] ?_;refine zd a (λF hy305 a=>wl (iR (y8 hy305 x)) ?_);refine wl (vH (off:=0) (i:=1) (q:=ak h.zs+0) (z:=s2.1.toNat) (row:=GK.row) (λ_=>rfl) rfl fp.choose_spec.1 (by decide) gg rfl x (wN hy305).2.2 (z7 (cs':=(GK.row F)) fp.choose_spec.2 rfl rfl) (zc rfl)) ?_;refine zd a (λM hy306 a=>wl (iR (y8 hy306 x)) ?_);refine wl (vH (off:=0) (i:=1) (q:=ak h.zs+0) (z:=(ai .i64 (Int.tdiv (ai .i64 (s2.1-(1:Int))) (2:Int))).toNat) (row:=GK.row) (λ_=>rfl) rfl fp.choose_spec.1 (by decide) gg rfl x (wN hy306).2.2 (z7 (cs':=(GK.row M)) fp.choose_spec.2 rfl rfl) (zc rfl)) ?_;refine zd a (λy307 hy307 a=>wl (iR (y8 hy307 x)) ?_);refine qs (qF (off:=0) (i:=1) (q:=ak h.zs+0) (z:=(ai .i64 (Int.tdiv (ai .i64 (s2.1-(1:Int))) (2:Int))).toNat) (row:=GK.row) (y':=F) (us:=(GK.row F)) (B':=[.cells [zU h 1 0 10 (ak b)],yr h 0 10 ((s2.2.set (ai .i64 (Int.tdiv (ai .i64 (s2.1-(1:Int))) (2:Int))).toNat F).map GK.row),.cells (GJ.row x1)]) (λ_=>rfl) rfl fp.choose_spec.1 gg gg (zc rfl) rfl rfl rfl rfl x (wN hy307).2.2 (by decide) rfl rfl) ?_;refine zd a (λy308 hy308 a=>wl (iR (y8 hy308 (lm.trans x))) ?_);refine qs (qF (off:=0) (i:=1) (q:=ak h.zs+0) (z:=s2.1.toNat) (row:=GK.row) (y':=M) (us:=(GK.row M)) (B':=[.cells [zU h 1 0 10 (ak b)],yr h 0 10 (((s2.2.set (ai .i64 (Int.tdiv (ai .i64 (s2.1-(1:Int))) (2:Int))).toNat F).set s2.1.toNat M).map GK.row),.cells (GJ.row x1)]) (λ_=>rfl) rfl fp.choose_spec.1 gg gg (zc rfl) rfl rfl rfl rfl (lm.trans x) (wN hy308).2.2 (by decide) rfl rfl) ?_;exact Z
       ·refine zJ a (λhlv3001 a=>R.r ?_);cases a;exact⟨((ai .i64 (Int.tdiv (ai .i64 (s2.1-(1:Int))) (2:Int))),v300),hK2,wk.le ej.o⟩
     ·refine zJ a (λH a=>R.r ?_);cases a;refine fr rfl (zeI ?_);refine⟨by first|rfl|simp only[H],(),?_⟩;first|rfl|simp only[H]
  ·apply R.r;cases a;exact⟨O,hl1,hK1,wk.trans (wk.le (by exact(.drop (.drop (.drop (.eq (.d4 (.eq (.eq (.cons (g6.of_eq (oE (by omega) (by omega))) (.d16 fc.nil))))))))))) (yH (by simp[zB,AV.low]) rfl rfl (by simp[q6.low,zB,AV.low]))⟩
 ·refine mX (zhM rfl pF rfl gg (zc rfl)) ?_;refine zd a (λT hv309 a=>yP (X:=Nat×Nat) (v:=sV T.1) (H':=λy=>h.ext [.cells [zU h 2 2 10 (ak (T.2))],.dead,yr h 2 10 (T.2.map GK.row)] [y.1,y.2,ak (T.2)]) rfl (ye rfl rfl rfl f9.o fZ.o) ?_ ss (λy=>?_))
  ·replace a:=hv309;refine df Tryz.func147 21 ?_;refine zos (λ(s2:(List GJ)×(List GK))=>[(1,.any),(2,cP h 1 9 (s2.1.map GJ.row)),(3,.any),(4,.any),(5,.any),(6,.any),(7,.any),(8,.any),(9,.any),(10,.any),(11,.any),(12,.any),(13,.any),(14,.any),(15,.any),(16,.any),(17,.any),(18,.any),(19,.any),(20,.any)]) (λs2=>h.ext [.cells [zU h 2 2 10 (ak (s2.2))],.dead,yr h 2 10 (s2.2.map GK.row)] [ak w+1,ak (s2.1),ak (s2.2)]) a (λ_=>UE) (wk.trans (tZ rfl rfl (sx 2) rfl) (wk.trans ((sU (jb:=0) (o:=0) (j:=1) (i:=0) (n2:=ak w) (B':=[.cells [zU h 2 2 10 (ak w)],.dead,yr h 2 10 (w.map GK.row)]) (T':=[ak w+1,ak (([]:List GJ)),ak w]) rfl rfl rfl (by simp) rfl rfl rfl rfl rfl rfl).wk) (wk.le (by exact(.eq (.drop (.cons (g6.of_eq rfl) (.d16 (.drop (.drop fc.nil)))))))))) ?_;intro n2 s2 o2 a hK2;apply R.r;refine zd a (λv1089 hv1089 a=>yP (args:=[zU h 2 2 10 (ak (s2.2))]) (X:=Unit) (v:=.int .i64 v1089) (H':=λ_=>h.ext [.cells [zU h 2 2 10 (ak (s2.2))],.dead,yr h 2 10 (s2.2.map GK.row)] [ak w+1,ak (s2.1),ak (s2.2)]) rfl (uw rfl rfl gg (b9 zcS pF m9 (p6 rfl (zA rfl)) (zc rfl)) vK .nil) ?_ ss (λ_=>?_))
   ·replace a:=hv1089;refine df Tryz.func396 5 ?_;refine ln λhn1091=>R.r ?_;exact Z
   ·apply R.r;refine cF a (λhc1092 a=>?_) (λhc1092 a=>?_)
    ·refine zd a (λg hv1093 a=>yP (X:=Nat) (v:=.iface 199 (.agg (GK.row g.1))) (H':=λG=>h.ext [.cells [zU h 4 3 10 (ak (g.2))],.dead,.dead,.dead,yr h 3 10 (g.2.map GK.row)] [ak w+1,ak (s2.1),G,ak (g.2)]) rfl (ye rfl rfl rfl f9.o fZ.o) ?_ ss (λG=>?_))
     ·replace a:=hv1093;refine df Tryz.func189 15 ?_;refine zd a (λt hv1220 a=>yP (args:=[zU h 2 2 10 (ak (s2.2))]) (X:=Unit) (v:=.int .i64 t) (H':=λ_=>h.ext [.cells [zU h 2 2 10 (ak (s2.2))],.dead,yr h 2 10 (s2.2.map GK.row)] [ak w+1,ak (s2.1),ak (s2.2)]) rfl (uw rfl rfl gg (b9 zcS pF m9 (p6 rfl (zA rfl)) (zc rfl)) vK .nil) ?_ ss (λ_=>?_))
      ·replace a:=hv1220;refine df Tryz.func396 5 ?_;refine ln λhn1222=>R.r ?_;exact Z
      ·apply R.r;refine zd a (λv1223 hv1223 a=>yP (args:=[zU h 2 2 10 (ak (s2.2)),.int .i64 (0:Int),.int .i64 (ai .i64 (t-(1:Int)))]) (X:=Unit) (v:=.fl []) (H':=λ_=>h.ext [.cells [zU h 2 2 10 (ak (s2.2))],.dead,yr h 2 10 (v1223.map GK.row)] [ak w+1,ak (s2.1),ak (s2.2)]) rfl (uw rfl rfl gg (b9 mj pF m9 (p6 rfl (zA rfl)) (zc rfl)) f9.o fZ.o) ?_ ss (λ_=>?_))
       ·replace a:=hv1223;refine ua Tryz.func400 rfl kr (sL 20 rfl) ?_;refine dr [] ?_;refine zd a (λu hy1228 a=>wl (iR (y8 hy1228 rfl)) ?_);refine wl (vH (off:=0) (i:=2) (q:=ak h.zs+2) (z:=(ai .i64 (t-(1:Int))).toNat) (row:=GK.row) (λ_=>rfl) rfl fp.choose_spec.1 (by decide) gg rfl rfl (wN hy1228).2.2 (z7 (cs':=(GK.row u)) fp.choose_spec.2 rfl rfl) (zc rfl)) ?_;refine zd a (λD Y a=>wl (iR (y8 Y rfl)) ?_);refine wl (vH (off:=0) (i:=2) (q:=ak h.zs+2) (z:=(0:Int).toNat) (row:=GK.row) (λ_=>rfl) rfl fp.choose_spec.1 (by decide) gg rfl rfl (wN Y).2.2 (z7 (cs':=(GK.row D)) fp.choose_spec.2 rfl rfl) (zc rfl)) ?_;refine zd a (λy1230 N a=>wl (iR (y8 N rfl)) ?_);refine qs (qF (off:=0) (i:=2) (q:=ak h.zs+2) (z:=(0:Int).toNat) (row:=GK.row) (y':=u) (us:=(GK.row u)) (B':=[.cells [zU h 2 2 10 (ak (s2.2))],.dead,yr h 2 10 ((s2.2.set (0:Int).toNat u).map GK.row)]) (λ_=>rfl) rfl fp.choose_spec.1 gg gg (zc rfl) rfl rfl rfl rfl rfl (wN N).2.2 (by decide) rfl rfl) ?_;refine zd a (λy1231 P a=>wl (iR (y8 P (lm.trans rfl))) ?_);refine qs (qF (off:=0) (i:=2) (q:=ak h.zs+2) (z:=(ai .i64 (t-(1:Int))).toNat) (row:=GK.row) (y':=D) (us:=(GK.row D)) (B':=[.cells [zU h 2 2 10 (ak (s2.2))],.dead,yr h 2 10 (((s2.2.set (0:Int).toNat u).set (ai .i64 (t-(1:Int))).toNat D).map GK.row)]) (λ_=>rfl) rfl fp.choose_spec.1 gg gg (zc rfl) rfl rfl rfl rfl (lm.trans rfl) (wN P).2.2 (by decide) rfl rfl) ?_;exact Z
       ·refine zJ a (λhlv12232 a=>R.r ?_);refine zd a (λI hv1232 a=>yP (X:=Unit) (v:=.bool I.1) (H':=λ_=>h.ext [.cells [zU h 2 2 10 (ak (s2.2))],.dead,yr h 2 10 (I.2.map GK.row)] [ak w+1,ak (s2.1),ak (s2.2)]) rfl (ye rfl rfl rfl f9.o fZ.o) ?_ ss (λ_=>?_))
        ·replace a:=hv1232;refine df Tryz.func250 48 ?_;refine xl (λ(k:Int×(List GK))=>zo 3 4 (zo 8 40 [(7,.int .i64 k.1)])) (λk=>h.ext [.cells [zU h 2 2 10 (ak (s2.2))],.dead,yr h 2 10 (k.2.map GK.row)] [ak w+1,ak (s2.1),ak (s2.2)]) a (λ_=>UE) (wk.le ej.o) ?_;intro n3 k o3 a hK3;refine zJ a (λd a=>R.r ?_);refine cF a (λhc1313 a=>?_) (λhc1313 a=>?_)
         ·refine sm (by decide) (R.r ?_);cases a;replace a:=hK3;apply R.r;exact Z
         ·refine qQ a (λv1314 hv1314 a=>?_);refine vr rfl (λhb=>uw rfl rfl (zM gg hb) (b9 mn pF m9 (p6 rfl (zA rfl)) (zc rfl)) (xy (zM gg hb) (xy (zM gg hb) vK)) fZ.o) (λhb=>vn (by exact(.cons (.row _ _ _ _ _ (by rw[zX];rfl) (by rw[oa];exact kO (d))) (.cons (.low _ rfl) (.cons (.low _ rfl) .nil)))) rfl (zoN (hv1314 hb)) (λ_ _ h=>h.1)) ss (R.r ?_);refine cF a (λhc1315 a=>?_) (λhc1315 a=>?_)
          ·refine zd a (λv1316 hv1316 a=>yf rfl (uw rfl rfl gg (b9 mn pF m9 (p6 rfl (zA rfl)) (zc rfl)) f9.o fZ.o) (vn (by exact(.cons (.row _ _ _ _ _ (by rw[zX];rfl) (by rw[oa];exact kO (d))) (.cons (.low _ rfl) (.cons (.low _ rfl) .nil)))) rfl (zoN hv1316) (λ_ _ h=>h.1)) ss (R.r ?_));refine cF a (λhc1317 a=>?_) (λhc1317 a=>?_)
           ·refine sm (by decide) (R.r ?_);cases a;replace a:=hK3;apply R.r;exact Z
           ·refine zd a (λv1318 hv1318 a=>yP (args:=[zU h 2 2 10 (ak (s2.2)),.int .i64 k.1,.int .i64 (ai .i64 ((ai .i64 ((ai .i64 ((2:Int)*k.1))+(1:Int)))+(1:Int)))]) (X:=Unit) (v:=.fl []) (H':=λ_=>h.ext [.cells [zU h 2 2 10 (ak (s2.2))],.dead,yr h 2 10 (v1318.map GK.row)] [ak w+1,ak (s2.1),ak (s2.2)]) rfl (uw rfl rfl gg (b9 mj pF m9 (p6 rfl (zA rfl)) (zc rfl)) f9.o fZ.o) ?_ ss (λ_=>?_))
            ·replace a:=hv1318;refine ua Tryz.func400 rfl kr (sL 20 rfl) ?_;refine dr [] ?_;refine zd a (λp S a=>wl (iR (y8 S d)) ?_);refine wl (vH (off:=0) (i:=2) (q:=ak h.zs+2) (z:=(ai .i64 ((ai .i64 ((ai .i64 ((2:Int)*k.1))+(1:Int)))+(1:Int))).toNat) (row:=GK.row) (λ_=>rfl) rfl fp.choose_spec.1 (by decide) gg rfl d (wN S).2.2 (z7 (cs':=(GK.row p)) fp.choose_spec.2 rfl rfl) (zc rfl)) ?_;refine zd a (λB W a=>wl (iR (y8 W d)) ?_);refine wl (vH (off:=0) (i:=2) (q:=ak h.zs+2) (z:=k.1.toNat) (row:=GK.row) (λ_=>rfl) rfl fp.choose_spec.1 (by decide) gg rfl d (wN W).2.2 (z7 (cs':=(GK.row B)) fp.choose_spec.2 rfl rfl) (zc rfl)) ?_;refine zd a (λy1325 hy1325 a=>wl (iR (y8 hy1325 d)) ?_);refine qs (qF (off:=0) (i:=2) (q:=ak h.zs+2) (z:=k.1.toNat) (row:=GK.row) (y':=p) (us:=(GK.row p)) (B':=[.cells [zU h 2 2 10 (ak (s2.2))],.dead,yr h 2 10 ((k.2.set k.1.toNat p).map GK.row)]) (λ_=>rfl) rfl fp.choose_spec.1 gg gg (zc rfl) rfl rfl rfl rfl d (wN hy1325).2.2 (by decide) rfl rfl) ?_;refine zd a (λy1326 V a=>wl (iR (y8 V (lm.trans d))) ?_);refine qs (qF (off:=0) (i:=2) (q:=ak h.zs+2) (z:=(ai .i64 ((ai .i64 ((ai .i64 ((2:Int)*k.1))+(1:Int)))+(1:Int))).toNat) (row:=GK.row) (y':=B) (us:=(GK.row B)) (B':=[.cells [zU h 2 2 10 (ak (s2.2))],.dead,yr h 2 10 (((k.2.set k.1.toNat p).set (ai .i64 ((ai .i64 ((ai .i64 ((2:Int)*k.1))+(1:Int)))+(1:Int))).toNat B).map GK.row)]) (λ_=>rfl) rfl fp.choose_spec.1 gg gg (zc rfl) rfl rfl rfl rfl (lm.trans d) (wN V).2.2 (by decide) rfl rfl) ?_;exact Z
            ·refine zJ a (λhlv13182 a=>R.r ?_);cases a;exact⟨((ai .i64 ((ai .i64 ((ai .i64 ((2:Int)*k.1))+(1:Int)))+(1:Int))),v1318),hK3,wk.le ej.o⟩
          ·refine zd a (λv1327 hv1327 a=>yf rfl (uw rfl rfl gg (b9 mn pF m9 (p6 rfl (zA rfl)) (zc rfl)) f9.o fZ.o) (vn (by exact(.cons (.row _ _ _ _ _ (by rw[zX];rfl) (by rw[oa];exact kO (d))) (.cons (.low _ rfl) (.cons (.low _ rfl) .nil)))) rfl (zoN hv1327) (λ_ _ h=>h.1)) ss (R.r ?_));refine cF a (λhc1328 a=>?_) (λhc1328 a=>?_)
           ·refine sm (by decide) (R.r ?_);cases a;replace a:=hK3;apply R.r;exact Z
           ·refine zd a (λv1329 hv1329 a=>yP (args:=[zU h 2 2 10 (ak (s2.2)),.int .i64 k.1,.int .i64 (ai .i64 ((ai .i64 ((2:Int)*k.1))+(1:Int)))]) (X:=Unit) (v:=.fl []) (H':=λ_=>h.ext [.cells [zU h 2 2 10 (ak (s2.2))],.dead,yr h 2 10 (v1329.map GK.row)] [ak w+1,ak (s2.1),ak (s2.2)]) rfl (uw rfl rfl gg (b9 mj pF m9 (p6 rfl (zA rfl)) (zc rfl)) f9.o fZ.o) ?_ ss (λ_=>?_))
            ·replace a:=hv1329;refine ua Tryz.func400 rfl kr (sL 20 rfl) ?_;refine dr [] ?_;refine zd a (λs hy1334 a=>wl (iR (y8 hy1334 d)) ?_);refine wl (vH (off:=0) (i:=2) (q:=ak h.zs+2) (z:=(ai .i64 ((ai .i64 ((2:Int)*k.1))+(1:Int))).toNat) (row:=GK.row) (λ_=>rfl) rfl fp.choose_spec.1 (by decide) gg rfl d (wN hy1334).2.2 (z7 (cs':=(GK.row s)) fp.choose_spec.2 rfl rfl) (zc rfl)) ?_;refine zd a (λA U a=>wl (iR (y8 U d)) ?_);refine wl (vH (off:=0) (i:=2) (q:=ak h.zs+2) (z:=k.1.toNat) (row:=GK.row) (λ_=>rfl) rfl fp.choose_spec.1 (by decide) gg rfl d (wN U).2.2 (z7 (cs':=(GK.row A)) fp.choose_spec.2 rfl rfl) (zc rfl)) ?_;refine zd a (λy1336 Q a=>wl (iR (y8 Q d)) ?_);refine qs (qF (off:=0) (i:=2) (q:=ak h.zs+2) (z:=k.1.toNat) (row:=GK.row) (y':=s) (us:=(GK.row s)) (B':=[.cells [zU h 2 2 10 (ak (s2.2))],.dead,yr h 2 10 ((k.2.set k.1.toNat s).map GK.row)]) (λ_=>rfl) rfl fp.choose_spec.1 gg gg (zc rfl) rfl rfl rfl rfl d (wN Q).2.2 (by decide) rfl rfl) ?_;refine zd a (λy1337 K a=>wl (iR (y8 K (lm.trans d))) ?_);refine qs (qF (off:=0) (i:=2) (q:=ak h.zs+2) (z:=(ai .i64 ((ai .i64 ((2:Int)*k.1))+(1:Int))).toNat) (row:=GK.row) (y':=A) (us:=(GK.row A)) (B':=[.cells [zU h 2 2 10 (ak (s2.2))],.dead,yr h 2 10 (((k.2.set k.1.toNat s).set (ai .i64 ((ai .i64 ((2:Int)*k.1))+(1:Int))).toNat A).map GK.row)]) (λ_=>rfl) rfl fp.choose_spec.1 gg gg (zc rfl) rfl rfl rfl rfl (lm.trans d) (wN K).2.2 (by decide) rfl rfl) ?_;exact Z
            ·refine zJ a (λhlv13292 a=>R.r ?_);cases a;exact⟨((ai .i64 ((ai .i64 ((2:Int)*k.1))+(1:Int))),v1329),hK3,wk.le ej.o⟩
        ·refine zJ a (λl a=>R.r ?_);refine zd a (λC hv1338 a=>yP (args:=[.ptr (ak h.zh+0) 0]) (X:=Nat) (v:=.iface 199 (.agg (GK.row C.1))) (H':=λE=>h.ext [.cells [zU h 4 3 10 (ak (C.2))],.dead,.dead,.dead,yr h 3 10 (C.2.map GK.row)] [ak w+1,ak (s2.1),E,ak (C.2)]) rfl (uw rfl rfl gg (zxt zmb pF) vK .nil) ?_ ss (λE=>?_))
         ·replace a:=hv1338;refine df Tryz.func398 25 ?_;refine ln λhn1342=>R.r ?_;refine zd a (λy1343 J a=>zO (iR (y8 J l)) ?_);refine zO (vH (off:=0) (i:=2) (q:=ak h.zs+2) (z:=(ai .i64 (((ak (s2.2):Nat):Int)-(1:Int))).toNat) (row:=GK.row) (λ_=>rfl) rfl fp.choose_spec.1 (by decide) gg rfl l (wN J).2.2 (z7 (cs':=(GK.row y1343)) fp.choose_spec.2 rfl rfl) (zc rfl)) ?_;refine zd a (λm1344 hm1344 a=>mX (zeL (i:=2) (j:=2) (L:=I.2) (row:=GK.row) (B':=[.cells [zU h 2 2 10 (ak (s2.2))],.dead,.dead,.cells (GK.row y1343),yr h 3 10 (m1344.map GK.row)]) (T':=[ak w+1,ak (s2.1),(ak (s2.2))+1,ak m1344]) rfl zrW gg gg rfl l hm1344 rfl rfl rfl rfl) ?_);refine mX (zhM rfl fp.choose_spec.1 (zcm fp.choose_spec.2) gg (zc rfl)) ?_;obtain rfl:=oi a;refine fr rfl (wv ((qy (by exact(.g8 (.g8 (.g8 (.dead (.g8 .nil))))))).wk) ?_);exact⟨rfl,(ak (s2.2))+1,rfl⟩
         ·apply R.r;exact Z
     ·refine mX (zuq rfl fp.choose_spec.1 (zcm fp.choose_spec.2) gg) ?_;refine c1 ?_;refine zO (bs (([g.1.e]:List GJ).map GJ.row)) ?_;refine zJ a (λhm1345 a=>zO (eT hm1345) ?_);cases a;exact⟨((s2.1++([g.1.e]:List GJ)),g.2),hK2,wk.trans (wk.le ej.o) (zsw (jb:=0) (o:=0) (jr:=4) (c:=2) (m:=3) (q:=2) (l4 rfl) (l4 rfl) (l4 rfl) (o4 (jE _) (l4 rfl)) (l4 rfl) rfl rfl rfl rfl (by simp[zB,AV.low]) rfl (by simp[q6.low,zB,AV.low]) rfl rfl)⟩
    ·cases a;replace a:=hK2;apply R.r;obtain rfl:=oi a;refine fr rfl (wv (wk.le (fc.cons (g6.gW _ _ _) fc.nil)) ?_);exact⟨rfl,(ak w+1,ak (s2.1)),rfl⟩
  ·apply R.r;exact Z
theorem ztk{res:GE}(a:u7 kind0=aa res):Sp 192 [.int .u8 kind0] h (yb (zD res) h):=by
 unfold u7 at a;refine xb Tryz.func192 12 ?_;refine cF a (λb a=>?_) (λb a=>?_)
 ·refine zO sb ?_;exact Z
 ·refine zO sb ?_;exact Z
theorem zwe{f:GE}{c0:Int}{d:Nat}(b:h.g7 d=aa (.cells [.int .u8 c0]))(a:sS f c0=aa res):Sp 191 [zD f,.ptr d 0] h (yb (.bool res) h):=by
 unfold sS at a;refine zw Tryz.func191 rfl kr (sL 8 rfl) ?_;have c:=yj b rfl;have e:∀k,d<(ak h.zh)+k:=λk=>o4 c (nv _ _);apply R.r;refine zO (xk rfl ty5 gg b (zA rfl) (zc rfl)) ?_;exact Z
theorem zvY{c:(List GC)}{q:(GC->Option Bool)}{res:Int}(o:∀d v (L:List q6) (M:List Nat),q d=aa v->Sp ff1 (af1++[.agg [.str d.name,zH d.leaves,za d.wa]]++kf1) (h.ext L M) (yb (.bool v) (h.ext L M)))(a:ww c q=aa res):Sp 246 [za c,.fn (.func ff1) af1 kf1] h (yb (.int .i64 res) h):=by
 unfold ww at a;refine zy Tryz.func246 rfl kr (sL 19 rfl) (λb y=>?_);simp only[zB,AV.low,tx,lq,kA]at b;have j:∀n m,ak h.zh<=n->ak h.zs<=m->zB n m af1=true:=λn m g e=>zT g e _ (by simp[b]);have f:∀n m,ak h.zh<=n->ak h.zs<=m->zB n m kf1=true:=λn m g e=>zT g e _ (by simp[b]);apply R.r;refine xP λw=>qg (λ(t:Nat)(s:Unit)=>zo 2 5 (zo 9 10 [(8,.int .i64 (t:Int))])) (λs=>h.ext [] []) a (λt s u a=>cL a (λB A x i a p=>?_) (λa=>?_))
 ·refine zO (yu rfl wd gg gg oF (zu i) (GC.q8 _)) ?_;refine zd a (λz l a=>yf rfl (cg rfl) (o _ _ _ _ l) ss (R.r ?_));refine cF a (λk a=>?_) (λk a=>?_)
  ·cases a;replace a:=p;apply R.r;exact Z
  ·exact ZL
 ·exact Z
theorem zvX{b:GC}{c0:zp}{e:Nat}(c:h.g7 e=aa (.cells [.str c0]))(a:ru b c0=aa res):Sp 247 [.agg [.str b.name,zH b.leaves,za b.wa],.ptr e 0] h (yb (.bool res) h):=by
 unfold ru at a;refine zw Tryz.func247 rfl kr (sL 8 rfl) ?_;have d:=yj c rfl;have f:∀k,e<(ak h.zh)+k:=λk=>o4 d (nv _ _);apply R.r;refine zO (xk rfl cd gg c (zA rfl) (zc rfl)) ?_;exact Z
theorem zg1{b:zp}{res:(GC×Bool)}(a:xY t0 b=aa res):Sp 186 [za t0,.str b] h (yb (.fl [.agg [.str res.1.name,zH res.1.leaves,za res.1.wa],.bool res.2]) h):=by
 unfold xY at a;refine xb Tryz.func186 17 ?_;refine zO mF ?_;refine cB a (λ_=>zvY (λ_ v L M e=>zvX (vI (j:=0) rfl) e)) λg a=>cF a (λd a=>?_) (λd a=>?_)
 ·refine zO sb ?_;exact Z
 ·refine zd a (λf c a=>zO (yu rfl wd gg gg oF c (GC.q8 _)) ?_);exact Z
theorem zwf{c:(List GE)}{q:(GE->Option Bool)}{res:Int}(l:∀p v (L:List q6) (M:List Nat),q p=aa v->Sp ff1 (af1++[zD p]++kf1) (h.ext L M) (yb (.bool v) (h.ext L M)))(a:yp c q=aa res):Sp 190 [zH c,.fn (.func ff1) af1 kf1] h (yb (.int .i64 res) h):=by
 unfold yp at a;refine zy Tryz.func190 rfl kr (sL 19 rfl) (λb y=>?_);simp only[zB,AV.low,tx,lq,kA]at b;have i:∀n m,ak h.zh<=n->ak h.zs<=m->zB n m af1=true:=λn m f d=>zT f d _ (by simp[b]);have e:∀n m,ak h.zh<=n->ak h.zs<=m->zB n m kf1=true:=λn m f d=>zT f d _ (by simp[b]);apply R.r;refine xP λw=>qg (λ(t:Nat)(s:Unit)=>zo 2 5 (zo 9 10 [(8,.int .i64 (t:Int))])) (λs=>h.ext [] []) a (λt s u a=>cL a (λB A x g a o=>?_) (λa=>?_))
 ·refine ix (zu g) (R.r ?_);refine zd a (λz k a=>yf rfl (cg rfl) (l _ _ _ _ k) ss (R.r ?_));refine cF a (λj a=>?_) (λj a=>?_)
  ·cases a;replace a:=o;apply R.r;exact Z
  ·exact ZL
 ·exact Z
end Go.Vv
