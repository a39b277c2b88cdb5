/- Each function that the law reaches computes what its reading says; printed by a program. -/
import Derived.Test.YtgobgfehoplnjaaGreatW7
set_option linter.all false
namespace Go.Vv
open Go Go.Proofs
set_option maxRecDepth 100000
set_option synthInstance.maxSize 100000
set_option synthInstance.maxHeartbeats 1000000
set_option maxHeartbeats 1000000
variable {fcmp2:FuncId} {acmp2 kcmp2:List AV} {res:(Int×Bool)} {h:AH} {t0:(List GC)} {pg0 mg0commits:Nat}
def ze2:Go.Shelf.Ren :=
  { f:=λx=>match x with
      | 22=>164
      | 29=>213
      | 30=>214
      | n=>n
    t:=λx=>match x with
      | 0=>0
      | 3=>3
      | 4=>4
      | 9=>95
      | 24=>26
      | n=>n
    g:=λn=>n }
theorem zdh:eu Tryz.prog ze2 25 3 where
  mixed:=by kernel_rfl
  f22:=⟨Tryz.f164.name,Tryz.f164.targs,Tryz.func164.trans (by kernel_rfl),by kernel_rfl⟩
  f29:=λargs w=>run_callFunc_extern Tryz.func213 (by kernel_rfl) (by kernel_rfl) (by kernel_rfl) (e:=Extern.SlicesOverlaps.overlaps #[25,25] #[4]) (by kernel_rfl) args w
  t0:=Tryz.underlying0
  a0:=Tryz.isAgg0
  z0:=Tryz.sizeOf0
  v0:=Tryz.zeroValue0
  t3:=Tryz.underlying3
  a3:=Tryz.isAgg3
  z3:=Tryz.sizeOf3
  v3:=Tryz.zeroValue3
  t4:=Tryz.underlying4
  a4:=Tryz.isAgg4
  z4:=Tryz.sizeOf4
  v4:=Tryz.zeroValue4
  t24:=Tryz.underlying26
  a24:=Tryz.isAgg26
  z24:=Tryz.sizeOf26
  v24:=Tryz.zeroValue26
  t23:=Tryz.underlying25
  a23:=Tryz.isAgg25
  z23:=Tryz.sizeOf25
  v23:=Tryz.zeroValue25
  i9:=⟨_,_,rfl,rfl,rfl,rfl,by decide⟩
  k0:=by decide
theorem zuk {g:(List GC)} {b:zq} {f:(GC->zq->Option Int)} (d:∀t A v (L:List q6) (M:List Nat),f t A=some v->Sp fcmp2 (acmp2++[.agg [.str t.name,zH t.leaves,zb t.w5],.str A]++kcmp2) (h.ext L M) (z7 (.int .i64 v) (h.ext L M))) (a:zg g b f=some res):Sp 210 [zb g,.str b,.fn (.func fcmp2) acmp2 kcmp2] h (z7 (.fk [.int .i64 res.1,.bool res.2]) h):=by
 unfold zg at a;refine zx Tryz.func210 rfl kr (tW 49 rfl) (λc E=>?_);simp only [zA,AV.low,tr,lA,kJ] at c;have q:∀n m,h.zh.length<=n->h.zs.length<=m->zA n m acmp2=true:=λn m w u=>zT w u _ (by simp [c]);have k:∀n m,h.zh.length<=n->h.zs.length<=m->zA n m kcmp2=true:=λn m w u=>zT w u _ (by simp [c]);apply R.r;refine xU λC=>xd (λ(e:Int×Int)=>zk 3 5 (zk 11 38 [(9,.int .i64 e.1),(10,.int .i64 e.2)])) (λe=>h.ext [] []) a (λ_=>UE) (wk.le f9.o) ?_;intro H e F a z;apply R.r;refine cF a (λy a=>?_) (λy a=>?_)
 ·refine zO (rK rfl aL zjx gg rfl) ?_;refine zO (rK rfl zjx aL gg rfl) ?_;refine zd a (λG x a=>zO (yN rfl wp gg gg oL x (GC.q8 _)) ?_);refine zd a (λB p a=>yf rfl (dU rfl) (d _ _ _ _ _ p) ss (R.r ?_));refine cF a (λs a=>?_) (λs a=>?_)
  ·exact ZL
  ·exact ZL
 ·cases a;replace a:=z;apply R.r;refine zM a (λi a=>?_);refine vN rfl (λj=>vX default rfl wp (zN gg j) (zN gg j) oL (i j) (GC.q8 _)) ss (R.r ?_);refine qc a (λD l a=>?_);refine w8 rfl dU (λj=>d _ _ _ _ _ (l j)) ss (R.r ?_);exact Z
def zg7:Go.Shelf.Ren :=
  { f:=λx=>match x with
      | 106=>212
      | 213=>242
      | 265=>278
      | n=>n
    t:=λx=>match x with
      | 3=>3
      | 9=>9
      | n=>n
    g:=λn=>n }
theorem zfH:Go.Proofs.Lays.n106 Tryz.prog zg7 where
  mixed:=mixed
  f106:=Tryz.func212.trans (by kernel_rfl)
  f213:=Tryz.func242.trans (by kernel_rfl)
  f265:=Tryz.func278.trans (by kernel_rfl)
  t3:=Tryz.underlying3
  a3:=Tryz.isAgg3
  z3:=Tryz.sizeOf3
  v3:=Tryz.zeroValue3
  t9:=Tryz.underlying9
  a9:=Tryz.isAgg9
  z9:=Tryz.sizeOf9
  v9:=Tryz.zeroValue9
theorem zui {c:zq} {b:zq} {res:Int} (a:r7 c b=some res):Sp 212 [.str c,.str b] h (z7 (.int .i64 res) h):=by
 cases a;exact zeq zfH
theorem zuj {b:GC} {c:zq} {res:Int}  (a:mi b c=some res):Sp 211 [.agg [.str b.name,zH b.leaves,zb b.w5],.str c] h (z7 (.int .i64 res) h):=by
 unfold mi at a;refine y8 Tryz.func211 9 ?_;refine cB a (λ_=>zui) λd a=>?_;exact Z
theorem zuz {b:zq}  (a:ob t0 b=some res):Sp 163 [zb t0,.str b] h (z7 (.fk [.int .i64 res.1,.bool res.2]) h):=by
 unfold ob at a;refine y8 Tryz.func163 11 ?_;refine cB a (λ_=>zuk (λ_ _ v L M c=>zuj  c)) λd a=>?_;exact Z
theorem zrM {f:(List GE)} {b:Int} {e:(GE->Int->Option Int)} (d:∀y z v (L:List q6) (M:List Nat),e y z=some v->Sp fcmp2 (acmp2++[zF y,.int .u8 z]++kcmp2) (h.ext L M) (z7 (.int .i64 v) (h.ext L M))) (a:zL f b e=some res):Sp 165 [zH f,.int .u8 b,.fn (.func fcmp2) acmp2 kcmp2] h (z7 (.fk [.int .i64 res.1,.bool res.2]) h):=by
 unfold zL at a;refine zx Tryz.func165 rfl kr (tW 49 rfl) (λc E=>?_);simp only [zA,AV.low,tr,lA,kJ] at c;have l:∀n m,h.zh.length<=n->h.zs.length<=m->zA n m acmp2=true:=λn m t s=>zT t s _ (by simp [c]);have i:∀n m,h.zh.length<=n->h.zs.length<=m->zA n m kcmp2=true:=λn m t s=>zT t s _ (by simp [c]);apply R.r;refine xU λB=>xd (λ(q:Int×Int)=>zk 3 5 (zk 11 38 [(9,.int .i64 q.1),(10,.int .i64 q.2)])) (λq=>h.ext [] []) a (λ_=>UE) (wk.le f9.o) ?_;intro H q F a x;apply R.r;refine cF a (λw a=>?_) (λw a=>?_)
 ·refine zO (rK rfl aL zjx gg rfl) ?_;refine zO (rK rfl zjx aL gg rfl) ?_;refine zd a (λG u a=>ix u (R.r ?_));refine zd a (λA k a=>yf rfl (dU rfl) (d _ _ _ _ _ k) ss (R.r ?_));refine cF a (λp a=>?_) (λp a=>?_)
  ·exact ZL
  ·exact ZL
 ·cases a;replace a:=x;apply R.r;refine zM a (λg a=>gix g (R.r ?_));refine qc a (λC j a=>?_);refine w8 rfl dU (λD=>d _ _ _ _ _ (j D)) ss (R.r ?_);exact Z
theorem zrL {c:GE} {b:Int} {res:Int}  (a:vU c b=some res):Sp 166 [zF c,.int .u8 b] h (z7 (.int .i64 res) h):=by
 unfold vU at a;refine y8 Tryz.func166 9 ?_;refine cB a (λ_=>zrT) λd a=>?_;exact Z
def ze1:Go.Shelf.Ren :=
  { f:=λx=>match x with
      | 22=>167
      | 29=>215
      | 30=>216
      | n=>n
    t:=λx=>match x with
      | 0=>0
      | 3=>3
      | 4=>4
      | 9=>70
      | 24=>93
      | n=>n
    g:=λn=>n }
theorem mS:eu Tryz.prog ze1 93 9 where
  mixed:=by kernel_rfl
  f22:=⟨Tryz.f167.name,Tryz.f167.targs,Tryz.func167.trans (by kernel_rfl),by kernel_rfl⟩
  f29:=λargs w=>run_callFunc_extern Tryz.func215 (by kernel_rfl) (by kernel_rfl) (by kernel_rfl) (e:=Extern.SlicesOverlaps.overlaps #[93,93] #[4]) (by kernel_rfl) args w
  t0:=Tryz.underlying0
  a0:=Tryz.isAgg0
  z0:=Tryz.sizeOf0
  v0:=Tryz.zeroValue0
  t3:=Tryz.underlying3
  a3:=Tryz.isAgg3
  z3:=Tryz.sizeOf3
  v3:=Tryz.zeroValue3
  t4:=Tryz.underlying4
  a4:=Tryz.isAgg4
  z4:=Tryz.sizeOf4
  v4:=Tryz.zeroValue4
  t24:=Tryz.underlying93
  a24:=Tryz.isAgg93
  z24:=Tryz.sizeOf93
  v24:=Tryz.zeroValue93
  t23:=Tryz.underlying93
  a23:=Tryz.isAgg93
  z23:=Tryz.sizeOf93
  v23:=Tryz.zeroValue93
  i9:=⟨_,_,rfl,rfl,rfl,rfl,by decide⟩
  k0:=by decide
theorem zrX (n:Nat):∀{t0:(List GC)} {u:(List zq)} {c:GE} {res:(List GC)} {h:AH} , wG n t0 u c=some res->Sp 125 [zb t0,yR u,zF c] h (z7 (zb res) h):=by
 induction n with
 | zero=>intro t0 u c res h  a;simp [wG] at a
 | succ n ih =>
  intro t0 u c res h  a;unfold wG at a;refine y8 Tryz.func125 77 ?_;refine zd a (λt hv1 a=>e6 (rN (zoC hv1)) ?_);refine zd a (λy2 hy2 a=>ix hy2 (R.r ?_));refine zd a (λv3 hv3 a=>cp (wY (by exact (.cons (.row _ _ _ _ _ (by rw [zW];rfl) (by simp)) (.cons (.low _ rfl) .nil))) rfl (zuz hv3) (λ_ _ h=>h.1)) (R.r ?_));refine cF a (λhc4 a=>?_) (λhc4 a=>?_)
  ·refine zd a (λy5 hy5 a=>ix hy5 (R.r ?_));refine zO sb ?_;refine zO (xh (es:=([(GC.mk y5 ([]:List GE) ([]:List GC))]:List GC).map GC.row) rfl zxD br rfl rfl cw.o ct.o rfl rfl (by simp only [ld,kb,GC.q8];rfl)) ?_;refine zd a (λw hv6 a=>e6 (od zdh (row:=GC.row) (λ_=>by rw [GC.q8];rfl) hv6 (.inr rfl) (i:=1) (q:=0) (B':=[.cells (GE.row c),.dead,yq h 1 3 (w.map GC.row)]) (T':=[t.length+1,w.length]) rfl rfl rfl rfl rfl) ?_);refine zd a (λd K a=>zO (iR (yZ K rfl)) ?_);refine zO (vn (off:=0) (i:=2) (q:=h.zs.length+1) (z:=v3.1.toNat) (row:=GC.row) (λ_=>by rw [GC.q8];rfl) rfl eZ.choose_spec.1 (by decide) gg rfl rfl (wy K).2.2 (by rw [GC.q8 _];exact (yj (cs':=[.str d.name,zH d.leaves,zb d.w5]) eZ.choose_spec.2 rfl rfl)) (zc rfl)) ?_;refine xU λhn8=>tB gg a (λhc9 a=>?_) (λhc9 a=>?_)
   ·refine dr [] ?_;refine zd a (λm10 W a=>wo (qB rfl bI gg (.inl rfl) (.some rfl) .none W) ?_);refine zd a (λx Y a=>wi rfl rfl (sc rfl) (ih Y) ss (R.r ?_));refine ur fS.out ?_;refine zd a (λy12 E a=>zO (iR (yZ E rfl)) ?_);refine zO (ql (off:=0) (i:=2) (q:=h.zs.length+1) (z:=v3.1.toNat) (row:=GC.row) (y':=(GC.mk d.name d.leaves x)) (us:=[.str d.name,zH d.leaves,zb x]) (B':=[.cells (GE.row c),.dead,yq h 1 3 ((w.set v3.1.toNat (GC.mk d.name d.leaves x)).map GC.row),.cells [.str d.name,zH d.leaves,zb x]]) (λ_=>by rw [GC.q8];rfl) rfl eZ.choose_spec.1 gg gg (zc rfl) rfl rfl rfl rfl rfl (wy E).2.2 (by decide) (by simp only [GC.q8];rfl) rfl) ?_;obtain rfl:=oi a;refine fr rfl (xS ((yd (j:=2) (m:=1) (B':=[.cells (GE.row c),.dead,.dead,.cells [.str d.name,zH d.leaves,zb x]]) (T':=[t.length+1,((w.set v3.1.toNat (GC.mk d.name d.leaves x)).map GC.row).length+1]) rfl (by exact (.cons (.fA _ _ (by rw [oS];exact kO ((ly.trans rfl)))) (.refl _))) rfl rfl).wk) ?_);refine wa (g6.refl _) rfl ?_;exact ⟨rfl,rfl⟩
   ·apply R.r;refine zd a (λg Z a=>e6 (rN (zln Z)) ?_);refine zd a (λf P a=>cp (wY (by exact (.cons (.row _ _ _ _ _ (by rw [zW];rfl) (by simp)) (.cons (.low _ rfl) (.cons (.low _ rfl) .nil)))) rfl (zrM (λ_ _ v L M hv=>zrL  hv) P) (λ_ _ h=>h.1)) (R.r ?_));refine cF a (λQ a=>?_) (λQ a=>?_)
    ·refine zO (bs (([c]:List GE).map GE.row)) ?_;refine zd a (λp S a=>e6 (od mS (row:=GE.row) (λ_=>rfl) S (.inr rfl) (i:=4) (q:=2) (B':=[.cells (GE.row c),.dead,yq h 1 3 (w.map GC.row),.cells [.str d.name,zU h 4 2 9 (g.length),zb d.w5],.dead,yq h 3 9 (p.map GE.row)]) (T':=[t.length+1,w.length,g.length+1,p.length]) rfl rfl rfl rfl rfl) ?_);refine zd a (λy17 D a=>zO (iR (yZ D rfl)) ?_);refine zy rfl (ql (off:=0) (i:=5) (q:=h.zs.length+3) (z:=f.1.toNat) (row:=GE.row) (y':=c) (us:=(GE.row c)) (B':=[.cells (GE.row c),.dead,yq h 1 3 (w.map GC.row),.cells [.str d.name,zU h 5 3 9 (p.length),zb d.w5],.dead,yq h 3 9 ((p.set f.1.toNat c).map GE.row)]) (λ_=>rfl) rfl bN.choose_spec.1 gg gg (zc rfl) rfl rfl rfl rfl rfl (wy D).2.2 (by decide) rfl rfl) rfl ?_;refine yG (ww (wK (yK ?_)));refine zy rfl (xI rfl gg (zc rfl)) ss ?_;refine zy rfl (xI rfl gg (zc rfl)) ss ?_;refine vH (uR (j:=5) (jb:=3) (m:=3) (B':=[.cells (GE.row c),.dead,yq h 1 3 (w.map GC.row),.cells [.str d.name,.sl 9 ((p.set f.1.toNat c).map GE.row),zb d.w5],.dead,.dead]) (T':=[t.length+1,w.length,g.length+1,((p.set f.1.toNat c).map GE.row).length+1]) rfl (by exact (.dV (.dV (.dV (.dV (.s (.cons (eX.fA _ _ (by rw [oS];exact kO ((ly.trans rfl)))) (.s (.s (.cons (eX.fA _ _ (by rw [oS];exact kO ((ly.trans rfl)))) (eG.refl _))))))))))) rfl (by exact (.s (.cons (eX.fA _ _ (by rw [oS];exact kO ((ly.trans rfl)))) (eG.refl _)))) rfl rfl) (R.r ?_);refine zd a (λy18 J a=>zO (iR (yZ J rfl)) ?_);refine zO (ql (off:=0) (i:=2) (q:=h.zs.length+1) (z:=v3.1.toNat) (row:=GC.row) (y':=(GC.mk d.name (p.set f.1.toNat c) d.w5)) (us:=[.str d.name,.sl 9 ((p.set f.1.toNat c).map GE.row),zb d.w5]) (B':=[.cells (GE.row c),.dead,yq h 1 3 ((w.set v3.1.toNat (GC.mk d.name (p.set f.1.toNat c) d.w5)).map GC.row),.cells [.str d.name,.sl 9 ((p.set f.1.toNat c).map GE.row),zb d.w5],.dead,.dead]) (λ_=>by rw [GC.q8];rfl) rfl eZ.choose_spec.1 gg gg (zc rfl) rfl rfl rfl rfl rfl (wy J).2.2 (by decide) (by simp only [GC.q8];rfl) rfl) ?_;obtain rfl:=oi a;refine fr rfl (xS ((yd (j:=2) (m:=1) (B':=[.cells (GE.row c),.dead,.dead,.cells [.str d.name,.sl 9 ((p.set f.1.toNat c).map GE.row),zb d.w5],.dead,.dead]) (T':=[t.length+1,((w.set v3.1.toNat (GC.mk d.name (p.set f.1.toNat c) d.w5)).map GC.row).length+1,g.length+1,((p.set f.1.toNat c).map GE.row).length+1]) rfl (by exact (.cons (.fA _ _ (by rw [oS];exact kO ((ly.trans rfl)))) (.refl _))) rfl rfl).wk) ?_);refine wa (g6.refl _) rfl ?_;exact ⟨rfl,rfl⟩
    ·refine zd a (λy19 C a=>zO (iR (yZ C rfl)) ?_);refine zy rfl (ql (off:=0) (i:=4) (q:=h.zs.length+2) (z:=f.1.toNat) (row:=GE.row) (y':=c) (us:=(GE.row c)) (B':=[.cells (GE.row c),.dead,yq h 1 3 (w.map GC.row),.cells [.str d.name,zU h 4 2 9 (g.length),zb d.w5],yq h 2 9 ((g.set f.1.toNat c).map GE.row)]) (λ_=>rfl) rfl bN.choose_spec.1 gg gg (zc rfl) rfl rfl rfl rfl rfl (wy C).2.2 (by decide) rfl rfl) rfl ?_;refine yG (ww (wK (yK ?_)));refine zy rfl (xI rfl gg (zc rfl)) ss ?_;refine zy rfl (xI rfl gg (zc rfl)) ss ?_;refine vH (uR (j:=4) (jb:=3) (m:=2) (B':=[.cells (GE.row c),.dead,yq h 1 3 (w.map GC.row),.cells [.str d.name,.sl 9 ((g.set f.1.toNat c).map GE.row),zb d.w5],.dead]) (T':=[t.length+1,w.length,((g.set f.1.toNat c).map GE.row).length+1]) rfl (by exact (.dV (.dV (.dV (.cons (eX.fA _ _ (by rw [oS];exact kO ((ly.trans rfl)))) (.s (.s (.s (.cons (eX.fA _ _ (by rw [oS];exact kO ((ly.trans rfl)))) (.s4 (.s4 (.s4 (.s (.s (.s (.cons (eX.fA _ _ (by rw [oS];exact kO ((ly.trans rfl)))) (eG.refl _))))))))))))))))) rfl (by exact (.s (.cons (eX.fA _ _ (by rw [oS];exact kO ((ly.trans rfl)))) (eG.refl _)))) rfl rfl) (R.r ?_);refine zd a (λy20 G a=>zO (iR (yZ G rfl)) ?_);refine zO (ql (off:=0) (i:=2) (q:=h.zs.length+1) (z:=v3.1.toNat) (row:=GC.row) (y':=(GC.mk d.name (g.set f.1.toNat c) d.w5)) (us:=[.str d.name,.sl 9 ((g.set f.1.toNat c).map GE.row),zb d.w5]) (B':=[.cells (GE.row c),.dead,yq h 1 3 ((w.set v3.1.toNat (GC.mk d.name (g.set f.1.toNat c) d.w5)).map GC.row),.cells [.str d.name,.sl 9 ((g.set f.1.toNat c).map GE.row),zb d.w5],.dead]) (λ_=>by rw [GC.q8];rfl) rfl eZ.choose_spec.1 gg gg (zc rfl) rfl rfl rfl rfl rfl (wy G).2.2 (by decide) (by simp only [GC.q8];rfl) rfl) ?_;obtain rfl:=oi a;refine fr rfl (xS ((yd (j:=2) (m:=1) (B':=[.cells (GE.row c),.dead,.dead,.cells [.str d.name,.sl 9 ((g.set f.1.toNat c).map GE.row),zb d.w5],.dead]) (T':=[t.length+1,((w.set v3.1.toNat (GC.mk d.name (g.set f.1.toNat c) d.w5)).map GC.row).length+1,((g.set f.1.toNat c).map GE.row).length+1]) rfl (by exact (.cons (.fA _ _ (by rw [oS];exact kO ((ly.trans rfl)))) (.refl _))) rfl rfl).wk) ?_);refine wa (g6.refl _) rfl ?_;exact ⟨rfl,rfl⟩
  ·refine zd a (λb B a=>zO (iR (yZ B rfl)) ?_);refine zO (vn (off:=0) (i:=1) (q:=h.zs.length+0) (z:=v3.1.toNat) (row:=GC.row) (λ_=>by rw [GC.q8];rfl) rfl eZ.choose_spec.1 (by decide) gg rfl rfl (wy B).2.2 (by rw [GC.q8 _];exact (yj (cs':=[.str b.name,zH b.leaves,zb b.w5]) eZ.choose_spec.2 rfl rfl)) (zc rfl)) ?_;refine xU λhn22=>tB gg a (λT a=>?_) (λT a=>?_)
   ·refine dr [] ?_;refine zd a (λm24 O a=>wo (qB rfl bI gg (.inl rfl) (.some rfl) .none O) ?_);refine zd a (λv25 U a=>wi rfl rfl (sc rfl) (ih U) ss (R.r ?_));refine ur fS.out ?_;refine zd a (λy26 H a=>zO (iR (yZ H rfl)) ?_);refine zO (ql (off:=0) (i:=1) (q:=h.zs.length+0) (z:=v3.1.toNat) (row:=GC.row) (y':=(GC.mk b.name b.leaves v25)) (us:=[.str b.name,zH b.leaves,zb v25]) (B':=[.cells (GE.row c),yq h 0 3 ((t.set v3.1.toNat (GC.mk b.name b.leaves v25)).map GC.row),.cells [.str b.name,zH b.leaves,zb v25]]) (λ_=>by rw [GC.q8];rfl) rfl eZ.choose_spec.1 gg gg (zc rfl) rfl rfl rfl rfl rfl (wy H).2.2 (by decide) (by simp only [GC.q8];rfl) rfl) ?_;obtain rfl:=oi a;refine fr rfl (xS ((yd (j:=1) (m:=0) (B':=[.cells (GE.row c),.dead,.cells [.str b.name,zH b.leaves,zb v25]]) (T':=[((t.set v3.1.toNat (GC.mk b.name b.leaves v25)).map GC.row).length+1]) rfl (by exact (.cons (.fA _ _ (by rw [oS];exact kO ((ly.trans rfl)))) (.refl _))) rfl rfl).wk) ?_);refine wa (g6.refl _) rfl ?_;exact ⟨rfl,rfl⟩
   ·apply R.r;refine zd a (λk X a=>e6 (rN (zln X)) ?_);refine zd a (λe hv28 a=>cp (wY (by exact (.cons (.row _ _ _ _ _ (by rw [zW];rfl) (by simp)) (.cons (.low _ rfl) (.cons (.low _ rfl) .nil)))) rfl (zrM (λ_ _ v L M hv=>zrL  hv) hv28) (λ_ _ h=>h.1)) (R.r ?_));refine cF a (λN a=>?_) (λN a=>?_)
    ·refine zO (bs (([c]:List GE).map GE.row)) ?_;refine zd a (λl V a=>e6 (od mS (row:=GE.row) (λ_=>rfl) V (.inr rfl) (i:=3) (q:=1) (B':=[.cells (GE.row c),yq h 0 3 (t.map GC.row),.cells [.str b.name,zU h 3 1 9 (k.length),zb b.w5],.dead,yq h 2 9 (l.map GE.row)]) (T':=[t.length,k.length+1,l.length]) rfl rfl rfl rfl rfl) ?_);refine zd a (λy31 I a=>zO (iR (yZ I rfl)) ?_);refine zy rfl (ql (off:=0) (i:=4) (q:=h.zs.length+2) (z:=e.1.toNat) (row:=GE.row) (y':=c) (us:=(GE.row c)) (B':=[.cells (GE.row c),yq h 0 3 (t.map GC.row),.cells [.str b.name,zU h 4 2 9 (l.length),zb b.w5],.dead,yq h 2 9 ((l.set e.1.toNat c).map GE.row)]) (λ_=>rfl) rfl bN.choose_spec.1 gg gg (zc rfl) rfl rfl rfl rfl rfl (wy I).2.2 (by decide) rfl rfl) rfl ?_;refine yG (ww (wK (yK ?_)));refine zy rfl (xI rfl gg (zc rfl)) ss ?_;refine zy rfl (xI rfl gg (zc rfl)) ss ?_;refine vH (uR (j:=4) (jb:=2) (m:=2) (B':=[.cells (GE.row c),yq h 0 3 (t.map GC.row),.cells [.str b.name,.sl 9 ((l.set e.1.toNat c).map GE.row),zb b.w5],.dead,.dead]) (T':=[t.length,k.length+1,((l.set e.1.toNat c).map GE.row).length+1]) rfl (by exact (.dV (.dV (.dV (.dV (.s (.cons (eX.fA _ _ (by rw [oS];exact kO ((ly.trans rfl)))) (.s (.s (.cons (eX.fA _ _ (by rw [oS];exact kO ((ly.trans rfl)))) (eG.refl _))))))))))) rfl (by exact (.s (.cons (eX.fA _ _ (by rw [oS];exact kO ((ly.trans rfl)))) (eG.refl _)))) rfl rfl) (R.r ?_);refine zd a (λy32 y a=>zO (iR (yZ y rfl)) ?_);refine zO (ql (off:=0) (i:=1) (q:=h.zs.length+0) (z:=v3.1.toNat) (row:=GC.row) (y':=(GC.mk b.name (l.set e.1.toNat c) b.w5)) (us:=[.str b.name,.sl 9 ((l.set e.1.toNat c).map GE.row),zb b.w5]) (B':=[.cells (GE.row c),yq h 0 3 ((t.set v3.1.toNat (GC.mk b.name (l.set e.1.toNat c) b.w5)).map GC.row),.cells [.str b.name,.sl 9 ((l.set e.1.toNat c).map GE.row),zb b.w5],.dead,.dead]) (λ_=>by rw [GC.q8];rfl) rfl eZ.choose_spec.1 gg gg (zc rfl) rfl rfl rfl rfl rfl (wy y).2.2 (by decide) (by simp only [GC.q8];rfl) rfl) ?_;obtain rfl:=oi a;refine fr rfl (xS ((yd (j:=1) (m:=0) (B':=[.cells (GE.row c),.dead,.cells [.str b.name,.sl 9 ((l.set e.1.toNat c).map GE.row),zb b.w5],.dead,.dead]) (T':=[((t.set v3.1.toNat (GC.mk b.name (l.set e.1.toNat c) b.w5)).map GC.row).length+1,k.length+1,((l.set e.1.toNat c).map GE.row).length+1]) rfl (by exact (.cons (.fA _ _ (by rw [oS];exact kO ((ly.trans rfl)))) (.refl _))) rfl rfl).wk) ?_);refine wa (g6.refl _) rfl ?_;exact ⟨rfl,rfl⟩
    ·refine zd a (λy33 A a=>zO (iR (yZ A rfl)) ?_);refine zy rfl (ql (off:=0) (i:=3) (q:=h.zs.length+1) (z:=e.1.toNat) (row:=GE.row) (y':=c) (us:=(GE.row c)) (B':=[.cells (GE.row c),yq h 0 3 (t.map GC.row),.cells [.str b.name,zU h 3 1 9 (k.length),zb b.w5],yq h 1 9 ((k.set e.1.toNat c).map GE.row)]) (λ_=>rfl) rfl bN.choose_spec.1 gg gg (zc rfl) rfl rfl rfl rfl rfl (wy A).2.2 (by decide) rfl rfl) rfl ?_;refine yG (ww (wK (yK ?_)));refine zy rfl (xI rfl gg (zc rfl)) ss ?_;refine zy rfl (xI rfl gg (zc rfl)) ss ?_;refine vH (uR (j:=3) (jb:=2) (m:=1) (B':=[.cells (GE.row c),yq h 0 3 (t.map GC.row),.cells [.str b.name,.sl 9 ((k.set e.1.toNat c).map GE.row),zb b.w5],.dead]) (T':=[t.length,((k.set e.1.toNat c).map GE.row).length+1]) rfl (by exact (.dV (.dV (.dV (.cons (eX.fA _ _ (by rw [oS];exact kO ((ly.trans rfl)))) (.s (.s (.s (.cons (eX.fA _ _ (by rw [oS];exact kO ((ly.trans rfl)))) (.s4 (.s4 (.s4 (.s (.s (.s (.cons (eX.fA _ _ (by rw [oS];exact kO ((ly.trans rfl)))) (eG.refl _))))))))))))))))) rfl (by exact (.s (.cons (eX.fA _ _ (by rw [oS];exact kO ((ly.trans rfl)))) (eG.refl _)))) rfl rfl) (R.r ?_);refine zd a (λy34 F a=>zO (iR (yZ F rfl)) ?_);refine zO (ql (off:=0) (i:=1) (q:=h.zs.length+0) (z:=v3.1.toNat) (row:=GC.row) (y':=(GC.mk b.name (k.set e.1.toNat c) b.w5)) (us:=[.str b.name,.sl 9 ((k.set e.1.toNat c).map GE.row),zb b.w5]) (B':=[.cells (GE.row c),yq h 0 3 ((t.set v3.1.toNat (GC.mk b.name (k.set e.1.toNat c) b.w5)).map GC.row),.cells [.str b.name,.sl 9 ((k.set e.1.toNat c).map GE.row),zb b.w5],.dead]) (λ_=>by rw [GC.q8];rfl) rfl eZ.choose_spec.1 gg gg (zc rfl) rfl rfl rfl rfl rfl (wy F).2.2 (by decide) (by simp only [GC.q8];rfl) rfl) ?_;obtain rfl:=oi a;refine fr rfl (xS ((yd (j:=1) (m:=0) (B':=[.cells (GE.row c),.dead,.cells [.str b.name,.sl 9 ((k.set e.1.toNat c).map GE.row),zb b.w5],.dead]) (T':=[((t.set v3.1.toNat (GC.mk b.name (k.set e.1.toNat c) b.w5)).map GC.row).length+1,((k.set e.1.toNat c).map GE.row).length+1]) rfl (by exact (.cons (.fA _ _ (by rw [oS];exact kO ((ly.trans rfl)))) (.refl _))) rfl rfl).wk) ?_);refine wa (g6.refl _) rfl ?_;exact ⟨rfl,rfl⟩
theorem zuL {b:(List zq)} {c:GE} {res:(List GC)}  (a:zeh t0 b c=some res):Sp 125 [zb t0,yR b,zF c] h (z7 (zb res) h):=by
 obtain ⟨n,d⟩:=rG a;exact zrX n d
theorem ztK {c:GJ} {p f:Nat} {res:((List GC)×Int)} (d:h.zh.length=p) (k:h.zs.length=f) (a:fR t0 c=some res):Sp 79 [zb t0,wI c] h (z7 (.fk [.fm p f 3 (res.1).length,.int .i64 res.2]) (h.ext [.row f 3 (res.1.map GC.row)] [(res.1).length])):=by
 unfold fR at a;subst d k;refine y8 Tryz.func79 45 ?_;refine cB a (λ_=>zqM) λs a=>cG a (λ_=>zsZ) λu a=>cF a (λo a=>?_) (λo a=>?_)
 ·cases a;refine fr rfl (oQ zcz rfl ?_);exact ⟨rfl,rfl⟩
 ·refine dk [3,6,7,8] [(3,[(0,.cells (GJ.row c))]),(6,[(0,.cells (GJ.row c))])] ?_;refine yM rfl rfl (by rintro _ ⟨B2,T2,rfl,b⟩;exact xM rfl zvw gg (qx b) (zB rfl) (zc rfl)) ss (R.r ?_);refine yM rfl rfl (by rintro _ ⟨B2,T2,rfl,b⟩;exact xM rfl ty5 gg (qx b) (zB rfl) (zc rfl)) ss ?_;refine zd a (λv4 g a=>yH rfl rfl (λ_=>sc rfl) (by rintro _ ⟨B2,T2,rfl,b⟩;exact zrY g) ss ?_);refine cM a (λ_ e _=>zrZ e) λv5 a=>ur fS.out ?_;refine ur fS.out ?_;refine cB a (λ_=>zuM) λq a=>cF a (λn a=>?_) (λn a=>?_)
  ·cases a;refine fr rfl (oQ zcz rfl ?_);exact ⟨rfl,rfl⟩
  ·refine zd a (λt m a=>cp (zuL m) ?_);refine zd a (λv9 l a=>e6 (rV (w:=zU h 2 0 3 (v9.length)) (zrt (by rw [xj];rfl) (by rw [sC];rfl) l) rfl) ?_);cases a;refine fr rfl (oQ (rD (j:=2) (i:=0) rfl (by simp)) rfl ?_);exact ⟨by simp only [oS];try rfl,by simp only [oS];try rfl⟩
theorem zxt {H:(List GJ)} {res:((List GC)×Int)}  (a:mT t0 H=some res):Sp 31 [zb t0,se H] h (z7 (.fk [zb res.1,.int .i64 res.2]) h):=by
 unfold mT at a;refine y8 Tryz.func31 66 ?_;refine cB a (λ_=>zqM) λS a=>cG a (λ_=>zxf (λ_ v L M Q=>zxe  Q)) λV a=>cF a (λE a=>?_) (λE a=>?_)
 ·exact Z
 ·refine zO (tg (n:=0) rfl rfl) ?_;refine xU λJ=>qe (λ(I:Nat) (e:List (GA×Int))=>zk 2 4 (zk 7 14 (zk 24 42 [(23,.int .i64 (I:Int))]))) (λe=>h.ext [.q7 (e.map (zZ (λx=>zn x) (AV.int .i64))) 0] []) a (λI e K a=>cL a (λf U C B a D=>?_) (λa=>?_))
  ·refine ix (zt B) (R.r ?_);refine zeB [3] (λ_=>ztc h 0 (e.map (zZ (λx=>zn x) (AV.int .i64))) ((bE GA.fi (0:Int) e f.z6).map (zZ (λx=>zn x) (AV.int .i64)))) (λ_=>⟨_,_,rfl,.inl rfl⟩) mixed kr (R.r ?_);refine yM rfl rfl (zcH (m:=e) (k:=f.z6) (d:=(0:Int)) (j:=0) (kv:=(λx=>zn x)) (vv:=(AV.int .i64)) rfl Tryz.underlying123 bD az3 gg gg) ss (R.r ?_);refine uA rfl (fY.all ⟨_,_,rfl,.inr rfl⟩) kr rfl (zhL (m:=e) (k:=f.z6) (d:=(0:Int)) (j:=0) (kv:=(λx=>zn x)) (vv:=(AV.int .i64)) rfl Tryz.underlying123 bD az3 gg rfl gg rfl) ss (R.r ?_);refine uA rfl (fY.skip kr) kr rfl (nF (m:=e) (k:=f.z6) (d:=(0:Int)) (v:=(IntKind.wrap .i64 ((zG GA.fi (0:Int) e f.z6)+(1:Int)))) (j:=0) (eq:=GA.fi) (kv:=(λx=>zn x)) (vv:=(AV.int .i64)) rfl gg rfl gg rfl gg rfl rfl) rfl (R.r ?_);cases a;exact ⟨(ut GA.fi e f.z6 (IntKind.wrap .i64 ((zG GA.fi (0:Int) e f.z6)+(1:Int)))),C,D,wk.trans (wk.le (by exact (.eq (.eq (.d4 (.eq (.d4 (.d4 (.d4 (.drop (.drop (.eq (.eq (.cons (g6.of_eq (oa (by omega) (by omega))) (.d16 (.d16 (.d4 (.d4 (.drop (.drop fd.nil)))))))))))))))))))) (yA (by simp [zA,AV.low]) rfl rfl (by simp [q6.low,zA,AV.low,GA.row,zZ]))⟩
  ·refine zbB (m:=e) (j:=0) (kv:=(λx=>zn x)) (vv:=(AV.int .i64)) rfl rfl rfl rfl rfl Tryz.underlying123 gg rfl ss (R.r ?_);refine xU λF=>cF a (λt a=>?_) (λt a=>?_)
   ·exact Z
   ·refine zd a (λb u a=>e6 (rV (w:=.fk [zU h 1 0 3 ((b.1).length),.int .i64 b.2]) (ztL (by rw [xj];rfl) (by rw [sC];rfl) u) rfl) ?_);refine zd a (λN y a=>cp (zxd y) ?_);refine xU λG=>znd (λ(n2:Nat) (s2:(List GC))=>[(0,zU h 2 1 3 (s2.length)),(1,.any),(2,.any),(3,.any),(4,.any),(5,.any),(6,.any),(7,.any),(8,.any),(9,.any),(10,.any),(11,.any),(12,.any),(13,.any),(14,.any),(15,.any),(16,.any),(17,.any),(18,.any),(19,.any),(20,.any),(21,.any),(22,.any),(23,.any),(24,.any),(25,.any),(26,.any),(27,.any),(28,.any),(29,.any),(30,.any),(31,.any),(32,.any),(33,.any),(34,.any),(35,.any),(36,.any),(37,.any),(38,.any),(39,.any),(40,.any),(41,.any),(42,.any),(43,.any),(44,.any),(45,.any),(46,.any),(47,.any),(50,.int .i64 (n2:Int)),(51,.any),(52,.any),(53,.any),(54,.any),(55,.any),(56,.any),(57,.any),(58,.any),(59,.any),(60,.any),(61,.any),(62,.any),(63,.any),(64,.any),(65,.any)]) (λs2=>h.ext [.q7 (e.map (zZ (λx=>zn x) (AV.int .i64))) 0,.dead,yq h 1 3 (s2.map GC.row)] [(b.1).length+1,s2.length]) a (λ_ _=>UE) (wk.trans ((ml (j:=1) (i:=0) (n2:=(b.1).length) (B':=[.q7 (e.map (zZ (λx=>zn x) (AV.int .i64))) 0,.dead,yq h 1 3 (b.1.map GC.row)]) (T':=[(b.1).length+1,(b.1).length]) gt0 rfl (by simp) rfl rfl rfl st0 rfl rfl).wk) (wk.le f9.o)) ?_;intro n2 s2 O a;apply R.r;refine cL a (λP T A z a p=>?_) (λa=>?_)
    ·refine ix (zt z) (R.r ?_);refine vH (yd (j:=2) (m:=1) (B':=[.q7 (e.map (zZ (λx=>zn x) (AV.int .i64))) 0,.dead,.dead,.cells (GJ.row P)]) (T':=[(b.1).length+1,(s2.map GC.row).length+1]) rfl (by exact (.cons (eX.fA _ _ (by simp)) (.dV (.dV (.dV (.s4 (.s (.s (.cons (eX.fA _ _ (by simp)) (eG.refl _)))))))))) rfl rfl) ?_;refine zd a (λv22 g a=>e6 (rV (w:=.fk [zU h 4 2 3 ((v22.1).length),.int .i64 v22.2]) (ztK (by rw [xj];rfl) (by rw [sC];rfl) g) rfl) ?_);refine cF a (λl a=>?_) (λl a=>?_)
     ·cases a;replace a:=p;apply R.r;exact Z
     ·cases a;exact ⟨v22.1,A,p,wk.trans (wk.le (by exact (.cons (g6.of_eq rfl) (.d16 (.d16 (.d4 (.d4 (.d4 (.drop (.drop (.drop (.eq (.eq (.cons (g6.of_eq (oa (by omega) (by omega))) (.d4 (.d4 (.d4 (.drop (.drop (.drop fd.nil)))))))))))))))))))) (zqZ (d:=0) (jr:=4) (c:=1) (m:=2) (q:=2) (l7 rfl) (l7 rfl) (l7 rfl) (l7 rfl) gt0 rfl rfl (by simp [zA,AV.low]) (by simp [q6.low,zA,AV.low,GA.row,zZ]) rfl rfl rfl)⟩
    ·obtain rfl:=oi a;refine fr rfl (xS ((yd (j:=2) (m:=1) (B':=[.q7 (e.map (zZ (λx=>zn x) (AV.int .i64))) 0,.dead,.dead]) (T':=[(b.1).length+1,(s2.map GC.row).length+1]) rfl (by exact (.cons (.fk (.cons (.fA _ _ (by simp)) (.refl _))) (.refl _))) rfl rfl).wk) ?_);refine wa (g6.refl _) rfl ?_;exact ⟨rfl,rfl⟩
theorem ok9 {g0:GO} {s:(List GA)} {res:((List GC)×Int)} (i:h.gZ pg0=some (.cells [.int .u64 g0.base.num,za g0.base.f,za g0.base.g9,.int .u64 g0.base.time,zb g0.base.tree,.map mg0commits,za g0.vv])) (d:h.gZ mg0commits=some (.q7 (g0.ff.map (zZ (λx=>zn x) (λx=>zo x))) 0)) (a:tw g0 s=some res):Sp 9 [.ptr pg0 0,za s] h (z7 (.fk [zb res.1,.int .i64 res.2]) h):=by
 unfold tw at a;refine zr Tryz.func9 rfl kr (tW 40 rfl) ?_;have b:=yi d rfl;have c:∀k,mg0commits < h.zh.length+k:=λk=>o5 b (n4 _ _);have g:=yi i rfl;have e:∀k,pg0 < h.zh.length+k:=λk=>o5 g (n4 _ _);apply R.r;refine cB a (λ_=>zvQ (zz i) (zz d)) λF a=>cF a (λy a=>?_) (λy a=>?_)
 ·exact Z
 ·refine zd a (λv3 w a=>cp (zt2 (zz i) (zz d) w) ?_);refine xU λA=>qe (h0:=wk.trans (t8 rfl rfl (sx 7) rfl) (wk.le (by exact (.eq (.eq (.d4 (.drop (.cons (g6.of_eq rfl) (.d4 (.d4 (.drop (.eq (.eq (.cons (g6.of_eq rfl) (.d16 (.d4 fd.nil)))))))))))))))) (λ(z:Nat) (j:(List GJ))=>zk 2 5 (zk 8 9 (zk 20 20 [(7,dM h 0 9 (j.map GJ.row)),(19,.int .i64 (z:Int))]))) (λj=>h.ext [] [j.length]) a (λz j B a=>cL a (λH G t v a u=>?_) (λa=>?_))
  ·refine ix (zt v) (R.r ?_);refine cB a (λ_=>zoG) λC a=>cF a (λo a=>?_) (λo a=>?_)
   ·refine zd a (λl p a=>cp (zvO p) ?_);refine zO (bs (([l]:List GJ).map GJ.row)) ?_;refine zM a (λn a=>zO (eT n) ?_);cases a;exact ⟨(j++([l]:List GJ)),t,u,wk.trans (wk.le (by exact (.eq (.eq (.d4 (.drop (.cons (g6.of_eq rfl) (.d4 (.d4 (.drop (.eq (.eq (.cons (g6.of_eq (oa (by omega) (by omega))) (.d16 (.d4 fd.nil))))))))))))))) (yA (by simp [zA,AV.low,b,c,g,e]) rfl rfl (by simp [q6.low,zA,AV.low,b,c,g,e]))⟩
   ·cases a;exact ⟨j,t,u,wk.trans (wk.le (by exact (.eq (.eq (.d4 (.drop (.cons (g6.of_eq rfl) (.d4 (.d4 (.drop (.eq (.eq (.cons (g6.of_eq (oa (by omega) (by omega))) (.d16 (.d4 fd.nil))))))))))))))) (yA (by simp [zA,AV.low,b,c,g,e]) rfl rfl (by simp [q6.low,zA,AV.low,b,c,g,e]))⟩
  ·refine zd a (λD q a=>cp (zt6 (zz i) (zz d) q) ?_);refine zO (zb3 rfl zsw zq5 gg rfl (zc rfl)) ?_;refine zd a (λE m a=>cp ((zxt m).le (.eq (.cons (g6.gW _ _ _) fd.nil))) (R.r ?_));exact Z
theorem ok5  {res:Bool} {h:AH}  (a:vj  = some res):Sp 5 [] h (z7 (.bool res) h):=by
 unfold vj at a;refine y8 Tryz.func5 83 ?_;refine zO sb ?_;refine zd a (λg hv1 a=>yC (X:=Unit) (v:=.fk [.ptr (h.zh.length+2) 0,.int .i64 (0:Int)]) (H':=λ_=>h.ext [.dead,.q7 (g.1.map (zZ (λx=>zn x) (λx=>zo x))) 0,.cells [.int .u64 g.2.1,za g.2.2.1,za g.2.2.2.1,.int .u64 g.2.2.2.2.1,zb g.2.2.2.2.2.1,.map (h.zh.length+1),za g.2.2.2.2.2.2]] []) rfl (yb rfl rfl rfl fZ.o fT.o) ?_ ss (λ_=>?_))
 ·replace a:=hv1;refine eW Tryz.func15 15 ?_;refine zd a (λv5 hv5 a=>cp ((zvM hv5).le (.cons (g6.agg (.eq (.cons (g6.gW _ _ _) (.cons (g6.gW _ _ _) (.eq (.cons (g6.gW _ _ _) fd.nil))))) rfl) fd.nil)) (R.r ?_));refine tB gg a (λhc6 a=>?_) (λhc6 a=>?_)
  ·cases a
  ·apply R.r;refine zd a (λv7 hv7 a=>cp ((ztW hv7).le (.cons (g6.agg (.eq (.cons (g6.gW _ _ _) (.cons (g6.gW _ _ _) (.eq (.cons (g6.gW _ _ _) fd.nil))))) rfl) fd.nil)) (R.r ?_));refine zO (tg (n:=1) rfl rfl) ?_;refine zO sb ?_;obtain rfl:=oi a;refine fr rfl (xZ ((qh (by exact (.dead (.g7 (.g7 .nil))))).wk) ?_);exact ⟨rfl,(),rfl⟩
 ·apply R.r;refine zO (wv rfl gg rfl (zbP zsV rfl)) ?_;refine cF a (λhc8 a=>?_) (λhc8 a=>?_)
  ·exact Z
  ·refine zd a (λv9 hv9 a=>yf rfl (yb rfl rfl gg fZ.o fT.o) (ae hv9) ss ?_);refine zO (bs (([v9]:List GA).map GA.row)) ?_;refine zd a (λc W a=>cp ((zuv W).le (.eq (.eq (.eq (.cons (g6.gW _ _ _) (.cons (g6.gW _ _ _) fd.nil)))))) (R.r ?_));refine zd a (λv11 Y a=>yf rfl (yb rfl rfl gg fZ.o fT.o) (ae Y) ss (R.r ?_));refine zd a (λv12 hv12 a=>yf rfl (yb rfl rfl gg fZ.o fT.o) (ae hv12) ss ?_);refine zO (bs (([v11,v12]:List GA).map GA.row)) ?_;refine zd a (λv13 hv13 a=>yf rfl (yb rfl rfl gg fZ.o fT.o) (ae hv13) ss ?_);refine zO (bs (([v13]:List GA).map GA.row)) ?_;refine zd a (λd hv14 a=>cp ((zuv hv14).le (.eq (.eq (.eq (.cons (g6.gW _ _ _) (.cons (g6.gW _ _ _) fd.nil)))))) (R.r ?_));refine zd a (λv15 Q a=>yf rfl (yb rfl rfl gg fZ.o fT.o) (ae Q) ss (R.r ?_));refine zd a (λv16 P a=>yf rfl (yb rfl rfl gg fZ.o fT.o) (ae P) ss ?_);refine zO (bs (([v15,v16]:List GA).map GA.row)) ?_;refine zd a (λv17 S a=>yf rfl (yb rfl rfl gg fZ.o fT.o) (ae S) ss ?_);refine zO (bs (([v17]:List GA).map GA.row)) ?_;refine zd a (λf V a=>cp ((zuv V).le (.eq (.eq (.eq (.cons (g6.gW _ _ _) (.cons (g6.gW _ _ _) fd.nil)))))) ?_);refine zO (zaE (cs':=[.int .u8 c.z6.zi.fj,.int .u32 c.z6.zi.inc,.int .u64 c.z6.seq,za c.z8,za c.vV,.int .u64 c.time,.int .u8 c.op.kind,yR c.op.path,.int .i64 c.op.n,.str c.op.text,za c.op.gX,.int .u8 d.z6.zi.fj,.int .u32 d.z6.zi.inc,.int .u64 d.z6.seq,za d.z8,za d.vV,.int .u64 d.time,.int .u8 d.op.kind,yR d.op.path,.int .i64 d.op.n,.str d.op.text,za d.op.gX,.int .u8 f.z6.zi.fj,.int .u32 f.z6.zi.inc,.int .u64 f.z6.seq,za f.z8,za f.vV,.int .u64 f.time,.int .u8 f.op.kind,yR f.op.path,.int .i64 f.op.n,.str f.op.text,za f.op.gX]) rfl zx2.u zvt dq.choose_spec.1 cw.o ct.o rfl rfl) ?_;refine zM a (λhR1 a=>qe (λ(n1:Nat) (B:List (GA×GI)×(List GA))=>zk 4 39 (zk 45 38 [(0,.any),(2,.any),(44,.int .i64 (n1:Int))])) (λB=>h.ext [.dead,.q7 (B.1.map (zZ (λx=>zn x) (λx=>zo x))) 0,.cells [.int .u64 g.2.1,za g.2.2.1,za g.2.2.2.1,.int .u64 g.2.2.2.2.1,zb g.2.2.2.2.2.1,.map (h.zh.length+1),za B.2]] []) a (λn1 B hi1 a=>?_));refine zaH gg a (λx1 o1 hl1 hm1 hx1 a hK1=>?_) (λa=>?_)
   ·apply R.r;refine zd a (λb q a=>zO (zm1 (row:=λb=>(GI.row b)) q rfl zx2 dq.choose_spec.1 dq.choose_spec.2 gg gg rfl (λ_ _=>rfl) rfl) ?_);refine zd a (λi y a=>yC (X:=Unit) (v:=.int .i64 i.1) (H':=λ_=>h.ext [.dead,.q7 (i.2.1.map (zZ (λx=>zn x) (λx=>zo x))) 0,.cells [.int .u64 g.2.1,za g.2.2.1,za g.2.2.2.1,.int .u64 g.2.2.2.2.1,zb g.2.2.2.2.2.1,.map (h.zh.length+1),za i.2.2],.cells (GI.row b)] []) rfl (yb rfl rfl rfl fZ.o fT.o) ?_ ss (λ_=>?_))
    ·replace a:=y;refine eW Tryz.func16 87 ?_;refine cB a (λ_=>zpK (yQ rfl rfl) (yQ rfl rfl)) λv162 a=>cF a (λG a=>?_) (λG a=>?_)
     ·exact ZO
     ·refine cB a (λ_=>ztV) λv164 a=>cF a (λA a=>?_) (λA a=>?_)
      ·exact ZO
      ·refine cB a (λ_=>ztU (yQ rfl rfl) (yQ rfl rfl)) λv166 a=>cF a (λD a=>?_) (λD a=>?_)
       ·exact ZO
       ·refine cB a (λ_=>zvL (yQ rfl rfl) (yQ rfl rfl)) λv168 a=>zy rfl mF ss ?_;refine zy rfl (ve rfl gg (zc rfl)) ss ?_;refine yG (ww (wK (nw ?_)));refine zdq (λ(s2:Bool)=>zk 0 2 (zk 7 23 (zk 31 56 [(4,.any),(30,.bool s2)]))) (λs2=>h.ext [.dead,.q7 (B.1.map (zZ (λx=>zn x) (λx=>zo x))) 0,.cells [.int .u64 g.2.1,za g.2.2.1,za g.2.2.2.1,.int .u64 g.2.2.2.2.1,zb g.2.2.2.2.2.1,.map (h.zh.length+1),za B.2],.cells (GI.row b),.cells [.ptr (h.zh.length+2) 0],.cells (GI.row b),.cells [.int .u8 b.z6.zi.fj,.int .u32 b.z6.zi.inc,.int .u64 (IntKind.wrap .u64 (b.z6.seq - (1:Int)))]] []) a (λ_=>UE) (λo2 a hK2=>?_) (λs2 a=>?_)
        ·apply R.r;refine cB a (λ_=>zs1 (λ_ v L M hv=>zs2 (vq (j:=2) rfl) (vq (j:=1) rfl) (vq (j:=4) rfl) hv)) λv191 a=>cF a (λl a=>?_) (λl a=>?_)
         ·refine tC ?_;exact ZL
         ·refine qc a (λv193 w a=>?_);refine w8 rfl dU (λk=>zs2 (yQ rfl rfl) (yQ rfl rfl) (yQ rfl rfl) (w k)) ss (R.r ?_);refine cF a (λJ a=>?_) (λJ a=>?_)
          ·refine tC ?_;exact ZL
          ·refine cB a (λ_=>zpJ) λv195 a=>tC ?_;exact ZL
        ·refine cF a (λs a=>?_) (λs a=>?_)
         ·exact ZO
         ·refine cB a (λ_=>zpJ) λv197 a=>cG a (λ_=>zvK (yQ rfl rfl) (yQ rfl rfl)) λv198 a=>cF a (λF a=>?_) (λF a=>?_)
          ·exact ZO
          ·refine zbB (m:=B.1) (j:=1) (kv:=(λx=>zn x)) (vv:=(λx=>zo x)) rfl rfl rfl rfl rfl Tryz.underlying82 gg rfl ss (R.r ?_);refine cF a (λI a=>?_) (λI a=>?_)
           ·exact ZO
           ·refine dr [7] ?_;refine zd a (λv202 z a=>yH rfl rfl (λ_=>sc rfl) (by rintro _ ⟨B2,T2,rfl,hk2⟩;exact ztT z) ss ?_);refine ur (mP Tryz.underlying82 bD) ?_;refine dr [7] ?_;refine cM a (λ_ e _=>zrA e) λv203 a=>ur fS.out ?_;exact ZO
    ·apply R.r;refine cF a (λH a=>?_) (λH a=>?_)
     ·cases a;replace a:=hK1;apply R.r;exact Z
     ·exact ZL
   ·apply R.r;refine zd a (λO K a=>yf rfl (yb rfl rfl gg fZ.o fT.o) (ae K) ss (R.r ?_));refine zd a (λT t a=>yf rfl (yb rfl rfl gg fZ.o fT.o) (ae t) ss ?_);refine zO (bs (([O,T]:List GA).map GA.row)) ?_;refine zd a (λv207 N a=>cp ((ok9 (yQ rfl rfl) (yQ rfl rfl) N).le (.eq (.cons (g6.gW _ _ _) fd.nil))) (R.r ?_));refine zO (bs (([([97]:zq)]:List zq).map yp)) ?_;refine zd a (λv208 E a=>cp ((zvR E).le (.eq (.cons (g6.gW _ _ _) (.eq fd.nil)))) (R.r ?_));refine qc a (λU C a=>?_);refine w8 rfl (λk=>yb rfl rfl (zN gg k) fZ.o fT.o) (λk=>ae (C k)) ss ?_;refine vN rfl (λk=>xh (es:=([U]:List GA).map GA.row) rfl zsz zqJ rfl rfl (zdt (zN gg k) zal) ct.o rfl rfl rfl) ss ?_;refine qc a (λv210 p a=>?_);refine w8 rfl sc (λk=>(zvQ (yQ rfl rfl) (yQ rfl rfl) (p k)).le (.eq (.cons (g6.gW _ _ _) fd.nil))) ss (R.r ?_);exact Z
theorem zxh {S:Type} {Hy:S->AH} {nb nt:Nat} {c:S->(List GA)->Option (Bool×S)} {d:Nat} {n:S->(List GA)} {l:S->(List GA)->S} {v:Nat} {c1:(List GI)} {F:Nat} {g:S} {res:S} (z:∀s,(Hy s).zh.length=nb) (i:∀s,(Hy s).zs.length=nt) (N:∀s,(Hy s).closed nb nt) (D:d < nb) (Q:∀s x b I L M,c s x=some (b,I)->ek Tryz.prog d [za x] ((Hy s).ext L M) (z7 (.bool b) ((Hy I).ext L M))) (e:∀s,(Hy s).gZ v=some (.cells [.sl 3 ((n s).map GA.row)])) (E:∀s y,(Hy s).put v (.cells [za y])=Hy (l s y)) (f:∀s,(Hy s).gZ F=some (.cells [zK c1])) (a:uC S c n l c1 g=some res):Sp 64 [.dG d,.ptr v 0,.ptr F 0] (Hy g) (z7 (.fk []) (Hy res)):=by
 unfold uC at a;refine zr Tryz.func64 rfl kr (tW 25 rfl) ?_;have J:∀k,d < nb+k:=λk=>o5 D (n4 _ _);have j:=yi (e g) (z g);have B:∀k,v < nb+k:=λk=>o5 j (n4 _ _);have u:=yi (f g) (z g);have G:∀k,F < nb+k:=λk=>o5 u (n4 _ _);apply R.r;refine xd (λ(w:Int×S)=>zk 5 20 [(3,.any),(4,.int .i64 w.1)]) (λw=>(Hy w.2).ext [] []) a (λ_=>UE) (wk.le f9.o) ?_;intro W w V a H;apply R.r;refine zO (yU rfl me gg (e _) (zB rfl) (zc rfl)) ?_;refine zd a (λv9 C a=>cp (zs3 C) ?_);refine zd a (λO p a=>zcg rfl (zg8 rfl rfl gg fZ.o fT.o) (Q _ _ _ _ _ _ p) ss (R.r ?_));refine vN rfl (λU=>yU rfl ai gg (f _) (zB rfl) (zc rfl)) ss ?_;refine dm λK=>R.r ?_;refine cF a (λt a=>?_) (λt a=>?_)
 ·refine zeC [7] [] trivial mixed kr ?_;refine yn rfl rfl (yU rfl me gg (e _) (zB rfl) (zc rfl)) ss ?_;refine wo (yU rfl ai gg (f _) (zB rfl) (zc rfl)) ?_;refine zd a (λA q a=>eU q (R.r ?_));refine wo (bs (([A.z6]:List GA).map GA.row)) ?_;refine zd a (λT m a=>yH rfl rfl (λ_=>sc rfl) (by rintro _ ⟨B2,T2,rfl,P⟩;exact (zrA m).le (.eq (.cons (g6.gW _ _ _) fd.nil))) ss ?_);refine ur (zqx rfl me gg gg (zc rfl) rfl rfl (e _) rfl (E _ _)) ?_;exact ZL
 ·cases a;replace a:=H;apply R.r;cases a;refine fr rfl (ze8 (z _) (i _) (z _) (i _) (N _) (g6.refl _) rfl ?_);exact ⟨rfl,rfl⟩
theorem zxu {b:(List GA)} {c:(List GI)} {res:((List GA)×(List GI))}  (a:sI b c=some res):Sp 24 [za b,zK c] h (zwE h 64 [.cells [za res.1],.cells [zK res.2]]):=by
 unfold sI at a;refine y8 Tryz.func24 6 ?_;refine zO mF ?_;cases a;refine fr rfl (zhF (bs:=[.cells [za b],.cells [zK c]]) (by simp [AV.low,zA]) rfl (by simp [q6.low,zA,AV.low]) ?_);exact ⟨rfl,rfl⟩
theorem ok6 {g0:GO} {res:(List (List GA))} (p:h.gZ pg0=some (.cells [.int .u64 g0.base.num,za g0.base.f,za g0.base.g9,.int .u64 g0.base.time,zb g0.base.tree,.map mg0commits,za g0.vv])) (d:h.gZ mg0commits=some (.q7 (g0.ff.map (zZ (λx=>zn x) (λx=>zo x))) 0)) (a:vK g0=some res):Sp 6 [.ptr pg0 0] h (z7 (.sl 1 (res.map (λl=>[za l]))) h):=by
 unfold vK at a;refine zx Tryz.func6 rfl kr (tW 12 rfl) (λG H=>?_);have b:=yi d rfl;have c:∀k,mg0commits < h.zh.length+k:=λk=>o5 b (n4 _ _);have g:=yi p rfl;have e:∀k,pg0 < h.zh.length+k:=λk=>o5 g (n4 _ _);apply R.r;refine cB a (λ_=>zvP (zz p) (zz d)) λN a=>cF a (λD a=>?_) (λD a=>?_)
 ·exact Z
 ·refine zd a (λv3 C a=>cp (zt6 (zz p) (zz d) C) ?_);refine zO (zb3 rfl zoO me gg rfl (zc rfl)) ?_;refine zd a (λv4 B a=>cp (zt2 (zz p) (zz d) B) ?_);refine zd a (λv5 E a=>e6 (zqw rfl (n:=0) (B':=[.cells [za v5.1],.cells [zK v5.2]]) (caps:=[.ptr (h.zh.length+0) 0,.ptr (h.zh.length+1) 0]) (zxu E) rfl rfl rfl) ?_);refine zd a (λI F a=>yC (X:=Unit) (v:=.sl 1 (I.1.map (λl=>[za l]))) (H':=λ_=>h.ext [.cells [za I.2],.cells [zK v5.2]] []) rfl (yb rfl rfl rfl fZ.o fT.o) ?_ ss (λ_=>?_))
  ·replace a:=F;refine eW Tryz.func23 5 ?_;refine zd a (λu w a=>yC (X:=Unit) (v:=.sl 1 (u.1.map (λl=>[za l]))) (H':=λ_=>h.ext [.cells [za u.2],.cells [zK v5.2]] []) rfl (yb rfl rfl rfl fZ.o (.cons (zkE zs7) fT.o)) ?_ ss (λ_=>?_))
   ·replace a:=w;refine eW Tryz.func63 13 ?_;refine zpo (k:=3) (λ(i:(List (List GA))×(List GA))=>h) (λ(i:(List (List GA))×(List GA))=>[.cells [za i.2],.cells [zK v5.2],.cells [dM h 0 1 (i.1.map (λl=>[za l]))]]) (λ(i:(List (List GA))×(List GA))=>[(i.1).length]) (([]:List (List GA)),v5.1) a (wk.trans (zgV (j:=2) rfl rfl rfl (sx 0) rfl rfl) (wk.le (by exact (.drop (.drop (.eq (.drop (.drop (.drop (.eq (.d4 (.drop (.drop fd.nil))))))))))))) (λ_=>rfl) rfl rfl rfl (λ_=>rfl) rfl rfl rfl (λq s M z=>?_) (λi H1 y a=>?_) (λL i H1 y a=>?_)
    ·have m:∀J K,(q J K).low (h.zh.length+4) (h.zs.length+1)=true:=by intro J K;rw [s];simp [q6.low,zA,AV.low,b,c,g,e]
     refine Spec.mono (zxh (Hy:=(ma (λ(i:(List (List GA))×(List GA))=>h) (λ(i:(List (List GA))×(List GA))=>[.cells [za i.2],.cells [zK v5.2],.cells [dM h 0 1 (i.1.map (λl=>[za l]))]]) (λ(i:(List (List GA))×(List GA))=>[(i.1).length]) q)) (nb:=h.zh.length+4) (nt:=h.zs.length+1) (λ_=>by simp only [ma];rw [zfa rfl];rfl) (λ_=>by simp only [ma];rw [zbK rfl];rfl) (λ_=>zaY H (n4 _ _) (n4 _ _) (by simp only [jp,l8,iS,kU,m3,lF,Nat.reduceAdd,l6,m] <;> simp [q6.low,zA,AV.low,b,c,g,e])) (jv _) (zkv s (xs:=λ(x:(List GA))=>[za x]) (λ_=>rfl) (λ_=>rfl) rfl (λ_=>rfl) (λ_=>by simp only [af,kf,kE];try rfl) (λi A O L1 M1 H1 y a=>?_)) (λ_=>by simp only [ma];exact yQ (j:=0) rfl rfl) (λ_ _=>by simp only [ma];rw [wU];rfl) (λ_=>by simp only [ma];exact yQ (j:=1) rfl rfl) z) (λ_ _ h=>h.2);obtain rfl:H1=((h.ext ([.cells [za i.2],.cells [zK v5.2],.cells [dM h 0 1 (i.1.map (λl=>[za l]))]]++[q .ready none]) [(i.1).length]).ext L1 M1).ext [] []:=y;apply R.r;refine zeE rfl rfl (R.r ?_);refine zO (zmm rfl rfl zvx gg rfl (zB rfl) (zc rfl)) ?_;refine zO (bs (([A]:List (List GA)).map (λl=>[za l]))) ?_;refine zM a (λt a=>zO (zsF (j:=0) (T':=[((i.1++([A]:List (List GA)))).length]) rfl rfl rfl rfl rfl zs7 zs7 gg gg (zc rfl) (zc rfl) zbE t rfl rfl) ?_);refine zO (zhO (A':=[.cells [za i.2],.cells [zK v5.2],.cells [dM h 0 1 ((i.1++([A]:List (List GA))).map (λl=>[za l]))]]++[q .busy none]) (cs':=[dM h 0 1 ((i.1++([A]:List (List GA))).map (λl=>[za l]))]) rfl rfl zvx gg gg (zc rfl) rfl rfl rfl rfl rfl rfl) ?_;cases a;exact zeD H rfl rfl rfl rfl rfl rfl rfl rfl rfl rfl rfl (by simp only [jp,l8,iS,kU,m3,lF,Nat.reduceAdd,l6,m] <;> simp [q6.low,zA,AV.low,b,c,g,e])
    ·obtain rfl:H1=h.ext [.cells [za i.2],.cells [zK v5.2],.cells [dM h 0 1 (i.1.map (λl=>[za l]))],.dead] [(i.1).length]:=y;apply R.r;obtain rfl:=oi a;refine fr rfl (xZ (wk.trans (wk.le (fd.cons (g6.gW _ _ _) fd.nil)) (yA (by simp [zA,AV.low,b,c,g,e]) rfl rfl (by simp [q6.low,zA,AV.low,b,c,g,e]))) ?_);exact ⟨rfl,(),rfl⟩
    ·obtain rfl:H1=h.ext [.cells [za i.2],.cells [zK v5.2],.cells [dM h 0 1 (i.1.map (λl=>[za l]))],.dead] [(i.1).length]:=y;cases a
   ·apply R.r;exact Z
  ·apply R.r;exact Z
end Go.Vv
