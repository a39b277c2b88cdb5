/- Each function that the law reaches computes what its reading says; printed by a program. -/
import Derived.Test.YtcdgimmdofbjdaaGreatW7
set_option linter.all false
open Go.IntKind renaming wrap→ai
open List renaming length→ak
namespace Go.Vv
open Go Go.Proofs
set_option maxRecDepth 100000
set_option synthInstance.maxSize 100000
set_option synthInstance.maxHeartbeats 1000000
set_option maxHeartbeats 1000000
variable{bl tl:Nat}{res:(List GF)}{h:AH}{pp0 a1 b2 x0 x1 x2:GE}{l0:(List GC)}
theorem zsS{b:(List (List GA))}{res:(List GA)}(e:ak h.zh=bl)(i:ak h.zs=tl)(a:qA b=some res):Sp 329 [.sl 1 (b.map (λl=>[zb l]))] h (yb (.fo bl tl 3 (ak res)) (h.ext [.row tl 3 (res.map GA.row)] [ak res])):=by
 unfold qA at a;subst e i;refine xb Tryz.func329 36 ?_;refine xP λq=>qg (λ(o:Nat)(m:Int)=>zo 1 2 (zo 4 5 (zo 12 24 [(3,.int .i64 m),(11,.int .i64 (o:Int))]))) (λm=>h.ext [] []) a (λo m p a=>cL a (λx1 A x j a y=>?_) (λa=>?_))
 ·refine ix (zu j) (R.r ?_);refine xP λs=>cF a (λk a=>?_) (λk a=>?_)
  ·refine mX (zhM rfl cd rfl rfl (zc rfl)) ?_;cases a
  ·exact ZL
 ·refine zd a (λf d a=>e7 (rV (w:=zU h 0 0 3 (ak f)) (zsR (by rw[xn];rfl) (by rw[rn];rfl) d) rfl) ?_);refine xP λn=>qg (λ(n2:Nat)(s2:(List GA))=>zo 0 6 (zo 7 18 (zo 28 8 [(6,zU h 0 0 3 (ak s2)),(27,.int .i64 (n2:Int))]))) (λs2=>h.ext [yr h 0 3 (s2.map GA.row)] [ak s2]) a (λn2 s2 u a=>cL a (λx2 z t g a v=>?_) (λa=>?_))
  ·refine ix (zu g) (R.r ?_);refine zJ a (λc a=>zO (eR c) ?_);exact ZL
  ·exact Z
theorem zsP{b:Int}(c:ak h.zh=bl)(k:ak h.zs=tl)(a:uc ([]:List GF) b=some res):Sp 362 [.gW none 5 [],.int .i64 b] h (yb (.fo bl tl 5 (ak res)) (h.ext [.row tl 5 (res.map GF.row)] [ak res])):=by
 unfold uc at a;subst c k;refine xb Tryz.func362 27 ?_;refine cF a (λl a=>?_) (λl a=>?_)
 ·refine mX (zhM rfl cd rfl rfl (zc rfl)) ?_;cases a
 ·refine mX (zpE rfl rfl rfl rfl bD gg (zc rfl)) ?_;refine ln λo=>R.r ?_;refine cF a (λg a=>?_) (λg a=>?_)
  ·refine mX (zpE rfl rfl rfl rfl bD gg (zc rfl)) ?_;refine mX (zqo rfl bD gg gg) ?_;refine zJ a (λf a=>mX (znP (row:=GF.row) (d:=(GF.mk (0:Int) (GA.mk (GH.mk (0:Int) (0:Int)) (0:Int)) ([]:zp))) (B':=[yr h 0 5 ((List.replicate (ai .i64 (b-(ai .i64 ((0:Int)-((0:Nat):Int))))).toNat (GF.mk (0:Int) (GA.mk (GH.mk (0:Int) (0:Int)) (0:Int)) ([]:zp))).map GF.row)]) (T':=[(ai .i64 (b-(ai .i64 ((0:Int)-((0:Nat):Int))))).toNat]) rfl rfl rfl rfl bD ap zqr rfl rfl gg (zc rfl) gg f rfl rfl rfl rfl) ?_);refine ln λn=>zd a (λm e a=>mX (zeL (i:=0) (j:=0) (L:=(List.replicate (ai .i64 (b-(ai .i64 ((0:Int)-((0:Nat):Int))))).toNat (GF.mk (0:Int) (GA.mk (GH.mk (0:Int) (0:Int)) (0:Int)) ([]:zp)))) (row:=GF.row) (B':=[.dead,yr h 1 5 (m.map GF.row)]) (T':=[((ai .i64 (b-(ai .i64 ((0:Int)-((0:Nat):Int))))).toNat)+1,ak m]) rfl bD gg gg rfl List.length_replicate e rfl rfl rfl rfl) ?_);cases a;refine fr rfl (sG (pm (j:=1) (i:=1) rfl (by simp)) ?_);exact⟨by simp only[oa];try rfl,by simp only[oa];try rfl⟩
  ·cases a;refine fr rfl (sG zdj ?_);exact⟨rfl,rfl⟩
theorem zsQ{b:(List (List GF))}(e:ak h.zh=bl)(i:ak h.zs=tl)(a:wX b=some res):Sp 353 [.sl 1 (b.map (λl=>[yE l]))] h (yb (.fo bl tl 5 (ak res)) (h.ext [.row tl 5 (res.map GF.row)] [ak res])):=by
 unfold wX at a;subst e i;refine xb Tryz.func353 36 ?_;refine xP λq=>qg (λ(o:Nat)(m:Int)=>zo 1 2 (zo 4 5 (zo 12 24 [(3,.int .i64 m),(11,.int .i64 (o:Int))]))) (λm=>h.ext [] []) a (λo m p a=>cL a (λx1 A x j a y=>?_) (λa=>?_))
 ·refine ix (zu j) (R.r ?_);refine xP λs=>cF a (λk a=>?_) (λk a=>?_)
  ·refine mX (zhM rfl cd rfl rfl (zc rfl)) ?_;cases a
  ·exact ZL
 ·refine zd a (λf d a=>e7 (rV (w:=zU h 0 0 5 (ak f)) (zsP (by rw[xn];rfl) (by rw[rn];rfl) d) rfl) ?_);refine xP λn=>qg (λ(n2:Nat)(s2:(List GF))=>zo 0 6 (zo 7 18 (zo 28 8 [(6,zU h 0 0 5 (ak s2)),(27,.int .i64 (n2:Int))]))) (λs2=>h.ext [yr h 0 5 (s2.map GF.row)] [ak s2]) a (λn2 s2 u a=>cL a (λx2 z t g a v=>?_) (λa=>?_))
  ·refine ix (zu g) (R.r ?_);refine zJ a (λc a=>zO (eR c) ?_);exact ZL
  ·exact Z
def zdU:Go.Shelf.Ren :=
  { f:=λx=>match x with
      |6=>354
      |15=>169
      |14=>363
      |28=>227
      |29=>228
      |20=>366
      |21=>367
      |22=>368
      |23=>369
      |24=>370
      |25=>371
      |26=>372
      |27=>373
      |46=>374
      |47=>279
      |48=>280
      |49=>375
      |50=>376
      |57=>377
      |n=>n
    t:=λx=>match x with
      |22=>82
      |24=>167
      |25=>339
      |3=>3
      |39=>222
      |0=>0
      |53=>30
      |55=>22
      |4=>4
      |46=>280
      |45=>279
      |50=>255
      |5=>5
      |9=>9
      |66=>323
      |70=>327
      |76=>353
      |77=>354
      |n=>n
    g:=λn=>n }
theorem zcF:Go.Proofs.SlLaysF0.n6 Tryz.prog zdU where
  mixed:=mixed
  f6:=⟨Tryz.f354.name,by kernel_rfl,Tryz.func354.trans (by kernel_rfl)⟩
  f15:=Tryz.func169.trans (by kernel_rfl)
  f14:=⟨Tryz.f363.name,by kernel_rfl,Tryz.func363.trans (by kernel_rfl)⟩
  f28:=Tryz.func227.trans (by kernel_rfl)
  f29:=Tryz.func228.trans (by kernel_rfl)
  f20:=⟨Tryz.f366.name,by kernel_rfl,Tryz.func366.trans (by kernel_rfl)⟩
  f21:=⟨Tryz.f367.name,by kernel_rfl,Tryz.func367.trans (by kernel_rfl)⟩
  f22:=⟨Tryz.f368.name,by kernel_rfl,Tryz.func368.trans (by kernel_rfl)⟩
  f23:=⟨Tryz.f369.name,by kernel_rfl,Tryz.func369.trans (by kernel_rfl)⟩
  f24:=⟨Tryz.f370.name,by kernel_rfl,Tryz.func370.trans (by kernel_rfl)⟩
  f25:=⟨Tryz.f371.name,by kernel_rfl,Tryz.func371.trans (by kernel_rfl)⟩
  f26:=⟨Tryz.f372.name,by kernel_rfl,Tryz.func372.trans (by kernel_rfl)⟩
  f27:=⟨Tryz.f373.name,by kernel_rfl,Tryz.func373.trans (by kernel_rfl)⟩
  f46:=⟨Tryz.f374.name,by kernel_rfl,Tryz.func374.trans (by kernel_rfl)⟩
  f47:=Tryz.func279.trans (by kernel_rfl)
  f48:=Tryz.func280.trans (by kernel_rfl)
  f49:=⟨Tryz.f375.name,by kernel_rfl,Tryz.func375.trans (by kernel_rfl)⟩
  f50:=⟨Tryz.f376.name,by kernel_rfl,Tryz.func376.trans (by kernel_rfl)⟩
  f57:=⟨Tryz.f377.name,by kernel_rfl,Tryz.func377.trans (by kernel_rfl)⟩
  t0:=Tryz.underlying0
  a0:=Tryz.isAgg0
  z0:=Tryz.sizeOf0
  v0:=Tryz.zeroValue0
  t3:=Tryz.underlying3
  a3:=Tryz.isAgg3
  z3:=Tryz.sizeOf3
  v3:=Tryz.zeroValue3
  t4:=Tryz.underlying4
  a4:=Tryz.isAgg4
  z4:=Tryz.sizeOf4
  v4:=Tryz.zeroValue4
  t5:=Tryz.underlying5
  a5:=Tryz.isAgg5
  z5:=Tryz.sizeOf5
  v5:=Tryz.zeroValue5
  t9:=Tryz.underlying9
  a9:=Tryz.isAgg9
  z9:=Tryz.sizeOf9
  v9:=Tryz.zeroValue9
  t22:=Tryz.underlying82
  a22:=Tryz.isAgg82
  z22:=Tryz.sizeOf82
  v22:=Tryz.zeroValue82
  t25:=Tryz.underlying339
  a25:=Tryz.isAgg339
  z25:=Tryz.sizeOf339
  v25:=Tryz.zeroValue339
  t39:=Tryz.underlying222
  a39:=Tryz.isAgg222
  z39:=Tryz.sizeOf222
  v39:=Tryz.zeroValue222
  t45:=Tryz.underlying279
  a45:=Tryz.isAgg279
  z45:=Tryz.sizeOf279
  v45:=Tryz.zeroValue279
  t46:=Tryz.underlying280
  a46:=Tryz.isAgg280
  z46:=Tryz.sizeOf280
  v46:=Tryz.zeroValue280
  t50:=Tryz.underlying255
  a50:=Tryz.isAgg255
  z50:=Tryz.sizeOf255
  v50:=Tryz.zeroValue255
  t53:=Tryz.underlying30
  a53:=Tryz.isAgg30
  z53:=Tryz.sizeOf30
  v53:=Tryz.zeroValue30
  t55:=Tryz.underlying22
  a55:=Tryz.isAgg22
  z55:=Tryz.sizeOf22
  v55:=Tryz.zeroValue22
  t66:=Tryz.underlying323
  a66:=Tryz.isAgg323
  z66:=Tryz.sizeOf323
  v66:=Tryz.zeroValue323
  t70:=Tryz.underlying327
  a70:=Tryz.isAgg327
  z70:=Tryz.sizeOf327
  v70:=Tryz.zeroValue327
  t76:=Tryz.underlying353
  a76:=Tryz.isAgg353
  z76:=Tryz.sizeOf353
  v76:=Tryz.zeroValue353
  t77:=Tryz.underlying354
  a77:=Tryz.isAgg354
  z77:=Tryz.sizeOf354
  v77:=Tryz.zeroValue354
theorem zvE{b:GF}{c:GF}{res:Int}(a:tR b c=some res):Sp 355 [va b,va c] h (yb (.int .i64 res) h):=by
 unfold tR at a;refine xb Tryz.func355 14 ?_;refine cB a (λ_=>zk2) λe a=>cF a (λd a=>?_) (λd a=>?_)
 ·exact Z
 ·exact Z
theorem zs8{a0:(List GF)}{B:(List GF)}{b:(List GA)}(a:pC a0 B b=some res):Sp 330 [yE a0,yE B,zb b] h (yb (yE res) h):=by
 unfold pC at a;refine xb Tryz.func330 29 ?_;refine zO (tS (n:=2) rfl rfl) ?_;refine zO mF ?_;refine zO (bs (([a0,B]:List (List GF)).map (λl=>[yE l]))) ?_;refine zd a (λg C a=>e7 (rV (w:=zU h 4 0 5 (ak g)) (Spec.le (zsQ (by rw[xn];rfl) (by rw[rn];rfl) C) (.cons (g6.gW _ _ _) fc.nil)) rfl) ?_);refine ln λH=>R.r ?_;refine zJ a (λK a=>qg (h0:=wk.trans ((zgz (jb:=1) (o:=0) (B':=[.cells [zb b],.cells [zU h 5 1 5 (ak (([]:List GF)))],.q7 (([]:List (GA×Int)).map (zZ (λx=>zn x) (AV.int .i64))) 0,.cells [.map (ak h.zh+2)],yr h 0 5 (g.map GF.row),yr h 1 5 (([]:List GF).map GF.row)]) (T':=[ak g,ak (([]:List GF))]) rfl rfl rfl rfl rfl rfl rfl).wk) (wk.le ej.o)) (λ(D:Nat)(e:List (GA×Int)×(List GF))=>zo 0 6 (zo 9 7 (zo 19 10 [(7,.any),(18,.int .i64 (D:Int))]))) (λe=>h.ext [.cells [zb b],.cells [zU h 5 1 5 (ak (e.2))],.q7 (e.1.map (zZ (λx=>zn x) (AV.int .i64))) 0,.cells [.map (ak h.zh+2)],yr h 0 5 (g.map GF.row),yr h 1 5 (e.2.map GF.row)] [ak g,ak (e.2)]) a (λD e E a=>?_));refine zbj gg a (λx1 L I F G a J=>?_) (λa=>?_)
 ·apply R.r;refine zd a (λc t a=>zO (iR (y8 t rfl)) ?_);refine zO (vH (off:=0) (i:=4) (q:=ak h.zs+0) (z:=(D:Int).toNat) (row:=GF.row) (λ_=>rfl) rfl dI.choose_spec.1 (by decide) gg rfl rfl (wN t).2.2 (z7 (cs':=(GF.row c)) dI.choose_spec.2 rfl rfl) (zc rfl)) ?_;refine zd a (λp y a=>yP (args:=[va c,.ptr (ak h.zh+3) 0,.ptr (ak h.zh+0) 0,.ptr (ak h.zh+1) 0]) (X:=Unit) (v:=.fl []) (H':=λ_=>h.ext [.cells [zb b],.cells [zU h 5 1 5 (ak (p.2))],.q7 (p.1.map (zZ (λx=>zn x) (AV.int .i64))) 0,.cells [.map (ak h.zh+2)],yr h 0 5 (g.map GF.row),yr h 1 5 (p.2.map GF.row),.cells (GF.row c)] [ak g,ak (p.2)]) rfl (zcM rfl rfl gg f9.o fZ.o rfl) ?_ ss (λ_=>?_))
  ·replace a:=y;refine df Tryz.func352 28 ?_;refine zfu [3] (λ_=>zuN h 2 (e.1.map (zZ (λx=>zn x) (AV.int .i64))) ((bZ GA.fh (0:Int) e.1 c.z6).map (zZ (λx=>zn x) (AV.int .i64)))) (λ_=>⟨_,_,rfl,.inl rfl⟩) mixed kr (R.r ?_);refine yg rfl rfl (zdt (m:=e.1) (k:=c.z6) (d:=(0:Int)) (j:=2) (kv:=(λx=>zn x)) (vv:=(AV.int .i64)) rfl Tryz.underlying147 bP az3 gg gg) ss (R.r ?_);refine uY rfl (f0.all ⟨_,_,rfl,.inr rfl⟩) kr rfl (ziV (m:=e.1) (k:=c.z6) (d:=(0:Int)) (j:=2) (kv:=(λx=>zn x)) (vv:=(AV.int .i64)) rfl Tryz.underlying147 bP az3 gg rfl gg rfl) ss (R.r ?_);refine uY rfl (f0.skip kr) kr rfl (mA (m:=e.1) (k:=c.z6) (d:=(0:Int)) (v:=(ai .i64 ((zG GA.fh (0:Int) e.1 c.z6)+(1:Int)))) (j:=2) (eq:=GA.fh) (kv:=(λx=>zn x)) (vv:=(AV.int .i64)) rfl gg rfl gg rfl gg rfl rfl) rfl (R.r ?_);refine zO (mL Tryz.underlying147 bP az3) ?_;refine cG a (λ_=>zrd) λv22 a=>cF a (λA a=>?_) (λA a=>?_)
   ·refine zO (bs (([c]:List GF).map GF.row)) ?_;refine zJ a (λu a=>zO (eR u) ?_);exact ZO
   ·exact ZO
  ·apply R.r;exact ZL
 ·apply R.r;refine zd a (λv25 f a=>zaQ rfl (sc rfl) (pL zcF Tryz.isAgg167 Tryz.sizeOf167 (λ_=>rfl) (λ_=>rfl) (nR Tryz.func355 rfl kr) (λ_ _ _ h=>zvE h) f (i:=5) (B':=[.cells [zb b],.cells [zU h 5 1 5 (ak (e.2))],.q7 (e.1.map (zZ (λx=>zn x) (AV.int .i64))) 0,.cells [.map (ak h.zh+2)],yr h 0 5 (g.map GF.row),yr h 1 5 (v25.map GF.row)]) rfl rfl) ss ?_);refine yB ?_;refine zmd (wk.trans ((yc (j:=4) (m:=0) (B':=[.cells [zb b],.cells [zU h 5 1 5 (ak (e.2))],.q7 (e.1.map (zZ (λx=>zn x) (AV.int .i64))) 0,.cells [.map (ak h.zh+2)],.dead,yr h 1 5 (v25.map GF.row)]) (T':=[ak (g.map GF.row)+1,ak (e.2)]) rfl (by exact(.ch (.cons (da.fD _ _ (by simp)) (eL.refl _)))) rfl rfl).wk) ((tH (j:=5) (jb:=1) (m:=1) (B':=[.cells [zb b],.cells [yE v25],.q7 (e.1.map (zZ (λx=>zn x) (AV.int .i64))) 0,.cells [.map (ak h.zh+2)],.dead,.dead]) (T':=[ak (g.map GF.row)+1,ak (v25.map GF.row)+1]) rfl (by exact(.ch (.s4 (.s4 (.s (.s (.cons (da.fD _ _ (by rw[oa];exact kO (qK f))) (eL.refl _)))))))) rfl (by exact(.cons (da.fD _ _ (by rw[oa];exact kO (qK f))) (eL.refl _))) rfl rfl).wk)) ?_;apply R.r;exact Z
theorem zvM{res:GE}(a:nI pp0 a1 b2=some res):Sp 290 [zD pp0,zD a1,zD b2] h (yb (zD res) h):=by
 unfold nI at a;refine xb Tryz.func290 26 ?_;refine zO (bs (([a1.y4,b2.y4]:List (List GA)).map (λl=>[zb l]))) ?_;refine zd a (λg f a=>e7 (rV (w:=zU h 4 0 3 (ak g)) (Spec.le (zsS (by rw[xn];rfl) (by rw[rn];rfl) f) (.cons (g6.gW _ _ _) fc.nil)) rfl) ?_);refine zd a (λc b a=>e7 (pL mM Tryz.isAgg34 Tryz.sizeOf34 (λ_=>rfl) (λ_=>rfl) (nR Tryz.func66 rfl kr) (λ_ _ _ h=>zp2 h) b (i:=4) (B':=[.cells (GE.row pp0),.cells (GE.row a1),.cells (GE.row b2),.cells wA,yr h 0 3 (c.map GA.row)]) rfl rfl) ?_);refine vS (zaF (j:=4) (i:=0) (n2:=ak c) (B':=[.cells (GE.row pp0),.cells (GE.row a1),.cells (GE.row b2),.cells wA,.dead,yr h 1 3 (c.map GA.row)]) (T':=[ak c+1,ak c]) (gx 16) rfl (by rw[oa];exact qK b) (kO (qK b)) rfl rfl (sx 16) rfl rfl) ?_;refine zd a (λv3 e a=>zci (B1:=[.cells (GE.row pp0),.cells (GE.row a1),.cells (GE.row b2),.cells wA,.dead]) (T1:=[ak c+1]) (j:=5) (i:=1) (B':=[.cells (GE.row pp0),.cells (GE.row a1),.cells (GE.row b2),.cells wA,.dead,.dead,yr h 2 3 (v3.map GA.row)]) rfl (ye rfl rfl rfl f9.o fZ.o) (zpZ (by simp[AH.ext]) (by simp[AH.ext]) e) rfl rfl ss rfl (λd=>?_));refine zt rfl (xJ rfl gg (zc rfl)) ss ?_;refine yB ?_;refine zmd ((yc (j:=6) (m:=2) (B':=[.cells (GE.row pp0),.cells (GE.row a1),.cells (GE.row b2),.cells wA,.dead,.dead,.dead]) (T':=[ak c+1,d,ak (v3.map GA.row)+1]) rfl (by exact(.s4 (.s (.s (.s (.cons (da.fD _ _ (by simp)) (.s4 (.s4 (.s (.cons (da.fD _ _ (by simp)) (eL.refl _))))))))))) rfl rfl).wk) ?_;apply R.r;refine cB a (λ_=>zs8) λv4 a=>zO sb ?_;exact Z
theorem zvL{res:GE}(a:nJ pp0 a1 b2=some res):Sp 291 [zD pp0,zD a1,zD b2] h (yb (zD res) h):=by
 unfold nJ at a;refine xb Tryz.func291 13 ?_;refine zd a (λc b a=>cp ((zs8 b).le (.eq (.eq (.cons (g6.gW _ _ _) fc.nil)))) ?_);refine zO sb ?_;exact Z
theorem zpd{c:Nat}{v:GE}(h:za2 c x0 x1 x2=some v):zhr c=.fn (.func (zqd c)) [] []:=by
  unfold za2 at h;split at h<;>first|rfl|cases h
theorem zoL{c:Nat}{res:GE}(a:za2 c x0 x1 x2=some res):Sp (zqd c) [zD x0,zD x1,zD x2] h (yb (zD res) h):=by
 unfold za2 at a;split at a
 ·exact zvO a
 ·exact zvN a
 ·exact zvM a
 ·exact zvL a
 ·cases a
theorem zvW{l0:GE}{res:(GE×Int)}(a:uI l0 a1 b2=some res):Sp 249 [zD l0,zD a1,zD b2] h (yb (.fl [zD res.1,.int .i64 res.2]) h):=by
 unfold uI at a;refine xb Tryz.func249 47 ?_;refine cB a (λ_=>zmv) λi a=>cG a (λ_=>zmv) λg a=>cG a (λ_=>zmv) λv3 a=>cF a (λe a=>?_) (λe a=>?_)
 ·refine zO sb ?_;exact Z
 ·refine cF a (λd a=>?_) (λd a=>?_)
  ·refine zO sb ?_;exact Z
  ·refine zO (zbe (cs':=[.fC,.fn (.func 288) [] [],.fn (.func 289) [] [],.fn (.func 290) [] [],.fn (.func 291) [] []]) rfl zzt.u zsr zqy cQ.o cO.o rfl rfl) ?_;refine dr [] ?_;refine zd a (λf c a=>wl (zjy rfl zzt zqy gg gg rfl c) ?_);refine wl (yT rfl zqy gg rfl (zoZ (row:=zhr) (L:=([0,1,2,3,4]:List Nat)) c rfl) (zrG _ _ _)) ?_;refine zd a (λj b a=>wC rfl rfl (ye rfl rfl (zqe gg (zpd b)) f9.o fZ.o) (zoL b) ss ?_);refine qs fN.out ?_;exact Z
theorem ztl{l0:GC}{a1:GC}{b2:GC}{res:(List GE)}(a:pG l0 a1 b2=some res):Sp 187 [.agg [.str l0.name,zH l0.leaves,za l0.wa],.agg [.str a1.name,zH a1.leaves,za a1.wa],.agg [.str b2.name,zH b2.leaves,za b2.wa]] h (yb (zH res) h):=by
 unfold pG at a;refine xb Tryz.func187 61 ?_;refine xl (λ(g:(List GE)×Int)=>zo 0 3 (zo 9 52 [(6,cP h 0 9 (g.1.map GE.row)),(8,.int .u8 g.2)])) (λg=>h.ext [.cells [.str l0.name,zH l0.leaves,za l0.wa],.cells [.str a1.name,zH a1.leaves,za a1.wa],.cells [.str b2.name,zH b2.leaves,za b2.wa]] [ak (g.1)]) a (λ_=>UE) (wk.trans (tZ rfl rfl (sx 6) rfl) (wk.le (by exact(.drop (.drop (.drop (.eq (.eq (.eq (.cons (g6.of_eq rfl) (.eq (.cons (g6.of_eq rfl) (.d16 (.d16 (.d16 (.d4 fc.nil)))))))))))))))) ?_;intro n g m a j;apply R.r;refine cF a (λc a=>?_) (λc a=>?_)
 ·refine zd a (λl f a=>yf rfl (ye rfl rfl gg f9.o fZ.o) (zre f) ss (R.r ?_));refine zd a (λk e a=>yf rfl (ye rfl rfl gg f9.o fZ.o) (zre e) ss (R.r ?_));refine zd a (λv22 b a=>yf rfl (ye rfl rfl gg f9.o fZ.o) (zre b) ss (R.r ?_));refine cF a (λd a=>?_) (λd a=>?_)
  ·refine cB a (λ_=>zvW) λv24 a=>zO (bs (([v24.1]:List GE).map GE.row)) ?_;refine zJ a (λi a=>zO (eT i) ?_);exact ZL
  ·exact ZL
 ·cases a;replace a:=j;apply R.r;exact Z
theorem ztw(n:Nat):∀{l0:(List GC)} {a1:(List GC)} {b2:(List GC)} {res:(List GC)} {h:AH} , wO n l0 a1 b2=some res->Sp 144 [za l0,za a1,za b2] h (yb (za res) h):=by
 induction n with
 |zero=>intro l0 a1 b2 res h  a;simp[wO]at a
 |succ n ih =>
  intro l0 a1 b2 res h  a;unfold wO at a;refine xb Tryz.func144 61 ?_;refine zO (bs (([l0,a1,b2]:List (List GC)).map (λl=>[za l]))) ?_;refine zd a (λx f a=>cp ((ztm f).le (.cons (g6.gW _ _ _) fc.nil)) ?_);refine xP λt=>qg (h0:=wk.trans (tZ rfl rfl (sx 6) rfl) (wk.le (by exact(.eq (.eq (.eq (.drop (.drop (.drop (.cons (g6.of_eq rfl) (.d4 (.d4 (.d4 (.eq (.eq (.cons (g6.of_eq rfl) (.d16 (.d16 (.d4 (.drop (.drop (.drop fc.nil)))))))))))))))))))))) (λ(k:Nat)(d:(List GC))=>zo 3 3 (zo 7 12 (zo 22 39 [(6,cP h 0 3 (d.map GC.row)),(21,.int .i64 (k:Int))]))) (λd=>h.ext [] [ak d]) a (λk d m a=>cL a (λx1 y v g a w=>?_) (λa=>?_))
  ·refine ix (zu g) (R.r ?_);refine cB a (λ_=>zg1) λp a=>cB a (λ_=>zg1) λu a=>cB a (λ_=>zg1) λs a=>dr [5,12] ?_;refine cM a (λ_ e _=>ztl e) λi a=>zd a (λj c a=>yV rfl rfl (λ_=>sc rfl) (by rintro _ ⟨B2,T2,rfl,q⟩;exact ih c) ss ?_);refine wl sb ?_;refine wl (xh (es:=([(GC.mk x1 i j)]:List GC).map GC.row) rfl wd o9 rfl rfl cQ.o cO.o rfl rfl (by simp only[m4,l9,GC.q8];rfl)) ?_;refine zJ a (λb a=>dL (eT b) ?_);exact ZL
  ·exact Z
theorem zsZ{a1:(List GC)}{b2:(List GC)}{res:(List GC)}(f:ak h.zh=bl)(i:ak h.zs=tl)(a:zan l0 a1 b2=some res):Sp 144 [za l0,za a1,za b2] h (yb (.fo bl tl 3 (ak res)) (h.ext [.row tl 3 (res.map GC.row)] [ak res])):=by
 obtain⟨n,a⟩:=rE a;cases n with
 |zero=>simp[wO]at a
 |succ n =>
  unfold wO at a;subst f i;refine xb Tryz.func144 61 ?_;refine zO (bs (([l0,a1,b2]:List (List GC)).map (λl=>[za l]))) ?_;refine zd a (λz g a=>cp ((ztm g).le (.cons (g6.gW _ _ _) fc.nil)) ?_);refine xP λv=>qg (h0:=wk.trans ((q9 (gx 6) rfl rfl (sx 6) rfl rfl).wk) (wk.le ej.o)) (λ(p:Nat)(d:(List GC))=>zo 3 3 (zo 7 12 (zo 22 39 [(6,zU h 0 0 3 (ak d)),(21,.int .i64 (p:Int))]))) (λd=>h.ext [yr h 0 3 (d.map GC.row)] [ak d]) a (λp d q a=>cL a (λx1 A x j a y=>?_) (λa=>?_))
  ·refine ix (zu j) (R.r ?_);refine cB a (λ_=>zg1) λs a=>cB a (λ_=>zg1) λw a=>cB a (λ_=>zg1) λu a=>dr [5,12] ?_;refine cM a (λ_ e _=>ztl e) λk a=>zd a (λm c a=>yV rfl rfl (λ_=>sc rfl) (by rintro _ ⟨B2,T2,rfl,t⟩;exact ztw n c) ss ?_);refine wl sb ?_;refine wl (xh (es:=([(GC.mk x1 k m)]:List GC).map GC.row) rfl wd o9 rfl rfl cQ.o cO.o rfl rfl (by simp only[m4,l9,GC.q8];rfl)) ?_;refine zJ a (λb a=>qs (eR b) ?_);exact ZL
  ·exact Z
theorem zvq{a1:(List GC)}{b2:(List GC)}{res:((List GC)×Int)}(b:ak h.zh=bl)(e:ak h.zs=tl)(a:pr l0 a1 b2=some res):Sp 95 [za l0,za a1,za b2] h (yb (.fl [.fo bl tl 3 (ak (res.1)),.int .i64 res.2]) (h.ext [.row tl 3 (res.1.map GC.row)] [ak (res.1)])):=by
 unfold pr at a;subst b e;refine xb Tryz.func95 25 ?_;refine cB a (λ_=>zsi) λg a=>cG a (λ_=>zsi) λf a=>cG a (λ_=>zsi) λv3 a=>cF a (λc a=>?_) (λc a=>?_)
 ·cases a;refine fr rfl (nP zdj rfl ?_);exact⟨rfl,rfl⟩
 ·refine zd a (λv5 d a=>e7 (rV (w:=zU h 0 0 3 (ak v5)) (zsZ (by rw[xn];rfl) (by rw[rn];rfl) d) rfl) ?_);cases a;refine fr rfl (nP (pm (j:=0) (i:=0) rfl (by simp)) rfl ?_);exact⟨by simp only[oa];try rfl,by simp only[oa];try rfl⟩
theorem zy3{t0:(List GC)}{G:(List GJ)}{res:((List GC)×Int)}(a:nN t0 G=some res):Sp 37 [za t0,sV G] h (yb (.fl [za res.1,.int .i64 res.2]) h):=by
 unfold nN at a;refine xb Tryz.func37 66 ?_;refine cB a (λ_=>zsi) λP a=>cG a (λ_=>zyO (λ_ v L M O=>zyN  O)) λT a=>cF a (λD a=>?_) (λD a=>?_)
 ·exact Z
 ·refine zO (tS (n:=0) rfl rfl) ?_;refine xP λI=>qg (λ(H:Nat)(e:List (GA×Int))=>zo 2 4 (zo 7 14 (zo 24 42 [(23,.int .i64 (H:Int))]))) (λe=>h.ext [.q7 (e.map (zZ (λx=>zn x) (AV.int .i64))) 0] []) a (λH e J a=>cL a (λx1 S B A a C=>?_) (λa=>?_))
  ·refine ix (zu A) (R.r ?_);refine zfu [3] (λ_=>zuN h 0 (e.map (zZ (λx=>zn x) (AV.int .i64))) ((bZ GA.fh (0:Int) e x1.z6).map (zZ (λx=>zn x) (AV.int .i64)))) (λ_=>⟨_,_,rfl,.inl rfl⟩) mixed kr (R.r ?_);refine yg rfl rfl (zdt (m:=e) (k:=x1.z6) (d:=(0:Int)) (j:=0) (kv:=(λx=>zn x)) (vv:=(AV.int .i64)) rfl Tryz.underlying147 bP az3 gg gg) ss (R.r ?_);refine uY rfl (f0.all ⟨_,_,rfl,.inr rfl⟩) kr rfl (ziV (m:=e) (k:=x1.z6) (d:=(0:Int)) (j:=0) (kv:=(λx=>zn x)) (vv:=(AV.int .i64)) rfl Tryz.underlying147 bP az3 gg rfl gg rfl) ss (R.r ?_);refine uY rfl (f0.skip kr) kr rfl (mA (m:=e) (k:=x1.z6) (d:=(0:Int)) (v:=(ai .i64 ((zG GA.fh (0:Int) e x1.z6)+(1:Int)))) (j:=0) (eq:=GA.fh) (kv:=(λx=>zn x)) (vv:=(AV.int .i64)) rfl gg rfl gg rfl gg rfl rfl) rfl (R.r ?_);cases a;exact⟨(uN GA.fh e x1.z6 (ai .i64 ((zG GA.fh (0:Int) e x1.z6)+(1:Int)))),B,C,wk.trans (wk.le (by exact(.eq (.eq (.d4 (.eq (.d4 (.d4 (.d4 (.drop (.drop (.eq (.eq (.cons (g6.of_eq (oE (by omega) (by omega))) (.d16 (.d16 (.d4 (.d4 (.drop (.drop fc.nil)))))))))))))))))))) (yH (by simp[zB,AV.low]) rfl rfl (by simp[q6.low,zB,AV.low,GA.row,zZ]))⟩
  ·refine zcj (m:=e) (j:=0) (kv:=(λx=>zn x)) (vv:=(AV.int .i64)) rfl rfl rfl rfl rfl Tryz.underlying147 gg rfl ss (R.r ?_);refine xP λE=>cF a (λp a=>?_) (λp a=>?_)
   ·exact Z
   ·refine zd a (λb t a=>e7 (rV (w:=.fl [zU h 1 0 3 (ak (b.1)),.int .i64 b.2]) (zvq (by rw[xn];rfl) (by rw[rn];rfl) t) rfl) ?_);refine zd a (λK u a=>cp (zyM u) ?_);refine xP λF=>zou (λ(n2:Nat)(s2:(List GC))=>[(0,zU h 2 1 3 (ak s2)),(1,.any),(2,.any),(3,.any),(4,.any),(5,.any),(6,.any),(7,.any),(8,.any),(9,.any),(10,.any),(11,.any),(12,.any),(13,.any),(14,.any),(15,.any),(16,.any),(17,.any),(18,.any),(19,.any),(20,.any),(21,.any),(22,.any),(23,.any),(24,.any),(25,.any),(26,.any),(27,.any),(28,.any),(29,.any),(30,.any),(31,.any),(32,.any),(33,.any),(34,.any),(35,.any),(36,.any),(37,.any),(38,.any),(39,.any),(40,.any),(41,.any),(42,.any),(43,.any),(44,.any),(45,.any),(46,.any),(47,.any),(50,.int .i64 (n2:Int)),(51,.any),(52,.any),(53,.any),(54,.any),(55,.any),(56,.any),(57,.any),(58,.any),(59,.any),(60,.any),(61,.any),(62,.any),(63,.any),(64,.any),(65,.any)]) (λs2=>h.ext [.q7 (e.map (zZ (λx=>zn x) (AV.int .i64))) 0,.dead,yr h 1 3 (s2.map GC.row)] [ak (b.1)+1,ak s2]) a (λ_ _=>UE) (wk.trans ((zaF (j:=1) (i:=0) (n2:=ak (b.1)) (B':=[.q7 (e.map (zZ (λx=>zn x) (AV.int .i64))) 0,.dead,yr h 1 3 (b.1.map GC.row)]) (T':=[ak (b.1)+1,ak (b.1)]) gt0 rfl (by simp) rfl rfl rfl st0 rfl rfl).wk) (wk.le ej.o)) ?_;intro n2 s2 N a;apply R.r;refine cL a (λx2 Q z y a l=>?_) (λa=>?_)
    ·refine ix (zu y) (R.r ?_);refine vS (yc (j:=2) (m:=1) (B':=[.q7 (e.map (zZ (λx=>zn x) (AV.int .i64))) 0,.dead,.dead,.cells (GJ.row x2)]) (T':=[ak (b.1)+1,ak (s2.map GC.row)+1]) rfl (by exact(.cons (da.fD _ _ (by simp)) (.ch (.ch (.ch (.s4 (.s (.s (.cons (da.fD _ _ (by simp)) (eL.refl _)))))))))) rfl rfl) ?_;refine zd a (λv22 f a=>e7 (rV (w:=.fl [zU h 4 2 3 (ak (v22.1)),.int .i64 v22.2]) (zvp (by rw[xn];rfl) (by rw[rn];rfl) f) rfl) ?_);refine cF a (λg a=>?_) (λg a=>?_)
     ·cases a;replace a:=l;apply R.r;exact Z
     ·cases a;exact⟨v22.1,z,l,wk.trans (wk.le (by exact(.cons (g6.of_eq rfl) (.d16 (.d16 (.d4 (.d4 (.d4 (.drop (.drop (.drop (.eq (.eq (.cons (g6.of_eq (oE (by omega) (by omega))) (.d4 (.d4 (.d4 (.drop (.drop (.drop fc.nil)))))))))))))))))))) (zsv (d:=0) (jr:=4) (c:=1) (m:=2) (q:=2) (l4 rfl) (l4 rfl) (l4 rfl) (l4 rfl) gt0 rfl rfl (by simp[zB,AV.low]) (by simp[q6.low,zB,AV.low,GA.row,zZ]) rfl rfl rfl)⟩
    ·obtain rfl:=oi a;refine fr rfl (xX ((yc (j:=2) (m:=1) (B':=[.q7 (e.map (zZ (λx=>zn x) (AV.int .i64))) 0,.dead,.dead]) (T':=[ak (b.1)+1,ak (s2.map GC.row)+1]) rfl (by exact(.cons (.fl (.cons (.fD _ _ (by simp)) (.refl _))) (.refl _))) rfl rfl).wk) ?_);refine wm (g6.refl _) rfl ?_;exact⟨rfl,rfl⟩
def zdX:Go.Shelf.Ren :=
  { f:=λx=>match x with
      |6=>118
      |15=>169
      |14=>168
      |28=>227
      |29=>228
      |20=>219
      |21=>220
      |22=>221
      |23=>222
      |24=>223
      |25=>224
      |26=>225
      |27=>226
      |46=>278
      |47=>279
      |48=>280
      |49=>281
      |50=>282
      |57=>316
      |n=>n
    t:=λx=>match x with
      |22=>29
      |24=>70
      |25=>125
      |3=>3
      |39=>222
      |0=>0
      |53=>30
      |55=>22
      |4=>4
      |46=>280
      |45=>279
      |50=>255
      |5=>5
      |9=>9
      |66=>323
      |70=>327
      |76=>353
      |77=>354
      |n=>n
    g:=λn=>n }
theorem zcH:Go.Proofs.SlLaysF0.n6 Tryz.prog zdX where
  mixed:=mixed
  f6:=⟨Tryz.f118.name,by kernel_rfl,Tryz.func118.trans (by kernel_rfl)⟩
  f15:=Tryz.func169.trans (by kernel_rfl)
  f14:=⟨Tryz.f168.name,by kernel_rfl,Tryz.func168.trans (by kernel_rfl)⟩
  f28:=Tryz.func227.trans (by kernel_rfl)
  f29:=Tryz.func228.trans (by kernel_rfl)
  f20:=⟨Tryz.f219.name,by kernel_rfl,Tryz.func219.trans (by kernel_rfl)⟩
  f21:=⟨Tryz.f220.name,by kernel_rfl,Tryz.func220.trans (by kernel_rfl)⟩
  f22:=⟨Tryz.f221.name,by kernel_rfl,Tryz.func221.trans (by kernel_rfl)⟩
  f23:=⟨Tryz.f222.name,by kernel_rfl,Tryz.func222.trans (by kernel_rfl)⟩
  f24:=⟨Tryz.f223.name,by kernel_rfl,Tryz.func223.trans (by kernel_rfl)⟩
  f25:=⟨Tryz.f224.name,by kernel_rfl,Tryz.func224.trans (by kernel_rfl)⟩
  f26:=⟨Tryz.f225.name,by kernel_rfl,Tryz.func225.trans (by kernel_rfl)⟩
  f27:=⟨Tryz.f226.name,by kernel_rfl,Tryz.func226.trans (by kernel_rfl)⟩
  f46:=⟨Tryz.f278.name,by kernel_rfl,Tryz.func278.trans (by kernel_rfl)⟩
  f47:=Tryz.func279.trans (by kernel_rfl)
  f48:=Tryz.func280.trans (by kernel_rfl)
  f49:=⟨Tryz.f281.name,by kernel_rfl,Tryz.func281.trans (by kernel_rfl)⟩
  f50:=⟨Tryz.f282.name,by kernel_rfl,Tryz.func282.trans (by kernel_rfl)⟩
  f57:=⟨Tryz.f316.name,by kernel_rfl,Tryz.func316.trans (by kernel_rfl)⟩
  t0:=Tryz.underlying0
  a0:=Tryz.isAgg0
  z0:=Tryz.sizeOf0
  v0:=Tryz.zeroValue0
  t3:=Tryz.underlying3
  a3:=Tryz.isAgg3
  z3:=Tryz.sizeOf3
  v3:=Tryz.zeroValue3
  t4:=Tryz.underlying4
  a4:=Tryz.isAgg4
  z4:=Tryz.sizeOf4
  v4:=Tryz.zeroValue4
  t5:=Tryz.underlying5
  a5:=Tryz.isAgg5
  z5:=Tryz.sizeOf5
  v5:=Tryz.zeroValue5
  t9:=Tryz.underlying9
  a9:=Tryz.isAgg9
  z9:=Tryz.sizeOf9
  v9:=Tryz.zeroValue9
  t22:=Tryz.underlying29
  a22:=Tryz.isAgg29
  z22:=Tryz.sizeOf29
  v22:=Tryz.zeroValue29
  t25:=Tryz.underlying125
  a25:=Tryz.isAgg125
  z25:=Tryz.sizeOf125
  v25:=Tryz.zeroValue125
  t39:=Tryz.underlying222
  a39:=Tryz.isAgg222
  z39:=Tryz.sizeOf222
  v39:=Tryz.zeroValue222
  t45:=Tryz.underlying279
  a45:=Tryz.isAgg279
  z45:=Tryz.sizeOf279
  v45:=Tryz.zeroValue279
  t46:=Tryz.underlying280
  a46:=Tryz.isAgg280
  z46:=Tryz.sizeOf280
  v46:=Tryz.zeroValue280
  t50:=Tryz.underlying255
  a50:=Tryz.isAgg255
  z50:=Tryz.sizeOf255
  v50:=Tryz.zeroValue255
  t53:=Tryz.underlying30
  a53:=Tryz.isAgg30
  z53:=Tryz.sizeOf30
  v53:=Tryz.zeroValue30
  t55:=Tryz.underlying22
  a55:=Tryz.isAgg22
  z55:=Tryz.sizeOf22
  v55:=Tryz.zeroValue22
  t66:=Tryz.underlying323
  a66:=Tryz.isAgg323
  z66:=Tryz.sizeOf323
  v66:=Tryz.zeroValue323
  t70:=Tryz.underlying327
  a70:=Tryz.isAgg327
  z70:=Tryz.sizeOf327
  v70:=Tryz.zeroValue327
  t76:=Tryz.underlying353
  a76:=Tryz.isAgg353
  z76:=Tryz.sizeOf353
  v76:=Tryz.zeroValue353
  t77:=Tryz.underlying354
  a77:=Tryz.isAgg354
  z77:=Tryz.sizeOf354
  v77:=Tryz.zeroValue354
theorem zyX{a0:GI}{f:GI}{res:Int}(a:xW a0 f=some res):Sp 63 [zq a0,zq f] h (yb (.int .i64 res) h):=by
 unfold xW at a;refine xb Tryz.func63 17 ?_;refine dr [4,9,11] ?_;refine cM a (λ_ e _=>zvA e) λi a=>zd a (λg b a=>yV rfl rfl (λ_=>sc rfl) (by rintro _ ⟨B2,T2,rfl,d⟩;exact zp2 b) ss ?_);refine wl (bs (([i,g]:List Int).map (zeA .i64))) ?_;refine zd a (λv3 c a=>ay (by rintro _ ⟨B2,T2,rfl,d⟩;exact(zuC c).le (.cons (g6.gW _ _ _) fc.nil)) ?_);exact Z
end Go.Vv
