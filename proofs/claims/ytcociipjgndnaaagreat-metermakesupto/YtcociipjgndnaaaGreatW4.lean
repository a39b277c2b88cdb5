/- Each function that the law reaches computes what its reading says; printed by a program. -/
import Derived.Test.YtcociipjgndnaaaGreatW3
namespace Go.Vv
open Go Go.Proofs
set_option maxRecDepth 100000
set_option synthInstance.maxSize 100000
set_option synthInstance.maxHeartbeats 1000000
set_option maxHeartbeats 1000000
set_option linter.unusedSimpArgs false
set_option linter.unusedVariables false
theorem ok163 {w:(List zy)} {x:(zy->Option Bool)} {g:FuncId} {d c:List AV} {res:Int} {h:AH} (l:∀y v (L:List Blk) (M:List Nat),x y=some v->Spec Tryz.prog g (d++[.str y]++c) (h.ext L M) (yn (.bool v) (h.ext L M))) (a:wq w x=some res):Spec Tryz.prog 163 [.sl 1 (w.map yx),.fn (.func g) d c] h (yn (.int .i64 res) h):=by
 unfold wq at a;refine zI Tryz.func163 rfl (by kernel_rfl) (yG 19 rfl) (λb E=>?_);simp only [zB,AV.low,ud,uX,tW] at b;have q:∀n m,h.blks.length<=n->h.toks.length<=m->zB n m d=true:=λn m u p=>yb u p _ (by simp [b]);have i:∀n m,h.blks.length<=n->h.toks.length<=m->zB n m c=true:=λn m u p=>yb u p _ (by simp [b]);refine R.r ?_;refine ln λf=>?_;replace f:=zW f;refine R.r ?_;refine zA (λ(z:Nat) (s1:Unit)=>zn 2 5 (zn 9 10 [(8,.int .i64 (z:Int))])) (λs1=>h.ext [] []) a (λ_ _=>by simp only [zn,xQ,ue,uf];try rfl) (wk.le LEL.o) ?_;intro z s1 A a;refine R.r ?_;refine zD gg a (λC B t s a e=>?_) (λa=>?_)
 ·refine R.r ?_;refine ix (zC s) (R.r ?_);refine zd a (λD j a=>xX rfl (scC rfl) (l _ _ _ _ j) ss ?_);refine R.r ?_;refine ze gg a (λk a=>?_) (λk a=>?_)
  ·refine R.r ?_;cases a;replace a:=e;refine R.r ?_;cases a;exact fz rfl rfl
  ·refine R.r ?_;cases a;exact ⟨(),t,e,wk.le (by exact (.eq (.eq (.d4 (.drop (.eq (.cons (leV.of_eq (yL (by omega) (by omega))) (.d4 (.d4 (.drop (.drop leL.nil)))))))))))⟩
 ·refine R.r ?_;cases a;exact fz rfl rfl
theorem ok137 {p:(List zy)} {q:(zy->Option Bool)} {d:FuncId} {c b:List AV} {res:Bool} {h:AH} (i:∀f v (L:List Blk) (M:List Nat),q f=some v->Spec Tryz.prog d (c++[.str f]++b) (h.ext L M) (yn (.bool v) (h.ext L M))) (e:xi p q=some res):Spec Tryz.prog 137 [.sl 1 (p.map yx),.fn (.func d) c b] h (yn (.bool res) h):=by
 unfold xi at e;refine zI Tryz.func137 rfl (by kernel_rfl) (yG 9 rfl) (λa t=>?_);simp only [zB,AV.low,ud,uX,tW] at a;have l:∀n m,h.blks.length<=n->h.toks.length<=m->zB n m c=true:=λn m o k=>yb o k _ (by simp [a]);have g:∀n m,h.blks.length<=n->h.toks.length<=m->zB n m b=true:=λn m o k=>yb o k _ (by simp [a]);refine R.r ?_;refine zd e (λu j e=>cp (ok163 (λf v L M s=>by rw [zQ];exact i f v _ _ s) j) ?_);refine R.r ?_;cases e;exact fz rfl rfl
theorem ok138 {c:zy} {res:Bool} {h:AH}  (a:opMayPathC1 c=some res):Spec Tryz.prog 138 [.str c] h (yn (.bool res) h):=by
 unfold opMayPathC1 at a;refine zb Tryz.func138 rfl (by kernel_rfl) (yG 6 rfl) (R.r ?_);refine zd a (λd b a=>cp (ok29 b) ?_);refine R.r ?_;cases a;exact fz rfl rfl
theorem ok87 {d:(List zy)} {res:Bool} {h:AH}  (b:opMayPath d=some res):Spec Tryz.prog 87 [.sl 1 (d.map yx)] h (yn (.bool res) h):=by
 unfold opMayPath at b;refine zb Tryz.func87 rfl (by kernel_rfl) (yG 16 rfl) (R.r ?_);refine ln λa=>?_;replace a:=zW a;refine R.r ?_;refine lng λg=>R.r ?_;refine zX b (λv3 c b=>zK rfl sc (λf=>ok137 (λ_ v L M e=>ok138  e) (c f)) ss ?_);refine R.r ?_;cases b;exact fz rfl rfl
theorem fnOpok {c:Nat} {a:GM} {v:Bool} (h:callOp c a=some v):fvOp c=.fn (.func (fnOp c)) [] []:=by
  unfold callOp at h;split at h <;> first | rfl | cases h
theorem okfvOp {c:Nat} {b:GM} {res:Bool} {h:AH} (a:callOp c b=some res):Spec Tryz.prog (fnOp c) [.agg (GM.row b)] h (yn (.bool res) h):=by
 unfold callOp at a;split at a
 ·exact ok134 a
 ·exact ok135 a
 ·exact ok136 a
 ·cases a
theorem ok62 {f:GM} {res:Bool} {h:AH}  (b:opMay f=some res):Spec Tryz.prog 62 [.agg (GM.row f)] h (yn (.bool res) h):=by
 unfold opMay at b;refine zb Tryz.func62 rfl (by kernel_rfl) (yG 23 rfl) (R.r ?_);refine zd b (λg e b=>cp (ok86 e) ?_);refine R.r ?_;refine zX b (λi d b=>zK rfl sc (λa=>ok87 (d a)) ss ?_);refine R.r ?_;refine qw rfl (λa=>xS rfl ty106 (yi gg a) rfl (yv rfl) (fvtOp _ _ _)) ss (R.r ?_);refine zX b (λv3 c b=>zK rfl (λa=>ym rfl rfl (evo_eq (yi gg a) (fnOpok (c a))) (zf (yi gg a) zJ) (.cons (za rfl) .nil)) (λa=>okfvOp (c a)) ss ?_);refine R.r ?_;cases b;exact fz rfl rfl
theorem ok33 {d:GJ} {res:Bool} {h:AH}  (a:qx d=some res):Spec Tryz.prog 33 [.agg (GJ.row d)] h (yn (.bool res) h):=by
 unfold qx at a;refine zb Tryz.func33 rfl (by kernel_rfl) (yG 21 rfl) (R.r ?_);refine zd a (λf c a=>cp (ok61 c) ?_);refine R.r ?_;refine zX a (λg b a=>zK rfl sc (λe=>ok62 (b e)) ss ?_);refine R.r ?_;cases a;exact fz rfl rfl
theorem ok64 {k0:Int} {res:Int} {h:AH}  (a:opType k0=some res):Spec Tryz.prog 64 [.int .u8 k0] h (yn (.int .u8 res) h):=by
 unfold opType at a;refine zb Tryz.func64 rfl (by kernel_rfl) (yG 12 rfl) (R.r ?_);refine zd a (λc b a=>cp (ok86 b) ?_);refine R.r ?_;cases a;exact fz rfl rfl
theorem ok165 {j:(List GF)} {f:GF} {res:Int} {h:AH}  (a:qU j f=some res):Spec Tryz.prog 165 [.sl 3 (j.map GF.row),.agg (GF.row f)] h (yn (.int .i64 res) h):=by
 unfold qU at a;refine zb Tryz.func165 rfl (by kernel_rfl) (yG 19 rfl) (R.r ?_);refine ln λc=>?_;replace c:=zW c;refine R.r ?_;refine zA (λ(i:Nat) (s1:Unit)=>zn 1 2 (zn 4 3 (zn 9 10 [(8,.int .i64 (i:Int))]))) (λs1=>h.ext [.cells (GF.row f)] []) a (λ_ _=>by simp only [zn,xQ,ue,uf];try rfl) (wk.le LEL.o) ?_;intro i s1 k a;refine R.r ?_;refine zD gg a (λl m g d a b=>?_) (λa=>?_)
 ·refine R.r ?_;refine zx [] [] trivial mixed (by kernel_rfl) (R.r ?_);refine dix (zC d) (R.r ?_);refine zt rfl rfl (vD rfl gg gg (bin_eq pk30 rfl)) ss (R.r ?_);refine ze gg a (λe a=>?_) (λe a=>?_)
  ·refine R.r ?_;cases a;replace a:=b;refine R.r ?_;cases a;exact fz rfl rfl
  ·refine R.r ?_;cases a;exact ⟨(),g,b,wk.le (by exact (.eq (.drop (.drop (.eq (.drop (.drop (.drop (.eq (.cons (leV.of_eq (yL (by omega) (by omega))) (.d4 (.d4 (.drop (.drop leL.nil))))))))))))))⟩
 ·refine R.r ?_;cases a;exact fz rfl rfl
theorem ok142 {d:(List GF)} {b:GF} {res:Bool} {h:AH}  (a:xV d b=some res):Spec Tryz.prog 142 [.sl 3 (d.map GF.row),.agg (GF.row b)] h (yn (.bool res) h):=by
 unfold xV at a;refine zb Tryz.func142 rfl (by kernel_rfl) (yG 9 rfl) (R.r ?_);refine zd a (λb c a=>cp (ok165 c) ?_);refine R.r ?_;cases a;exact fz rfl rfl
def ins168TryzRen:Go.Shelf.Ren :=
  { f:=λx=>match x with
      | 22=>168
      | 29=>181
      | 30=>182
      | n=>n
    t:=λx=>match x with
      | 0=>0
      | 3=>3
      | 4=>4
      | 9=>60
      | 24=>61
      | n=>n
    g:=λn=>n }
theorem ins168TryzLays:InsLays Tryz.prog ins168TryzRen 61 5 where
  mixed:=by kernel_rfl
  f22:=⟨Tryz.f168.name,Tryz.f168.targs,Tryz.func168.trans (by kernel_rfl),by kernel_rfl⟩
  f29:=λargs w=>run_callFunc_extern Tryz.func181 (by kernel_rfl) (by kernel_rfl) (by kernel_rfl) (e:=Extern.SlicesOverlaps.overlaps #[61,61] #[4]) (by kernel_rfl) args w
  t0:=Tryz.underlying0
  a0:=Tryz.isAgg0
  z0:=Tryz.sizeOf0
  v0:=Tryz.zeroValue0
  t3:=Tryz.underlying3
  a3:=Tryz.isAgg3
  z3:=Tryz.sizeOf3
  v3:=Tryz.zeroValue3
  t4:=Tryz.underlying4
  a4:=Tryz.isAgg4
  z4:=Tryz.sizeOf4
  v4:=Tryz.zeroValue4
  t24:=Tryz.underlying61
  a24:=Tryz.isAgg61
  z24:=Tryz.sizeOf61
  v24:=Tryz.zeroValue61
  t23:=Tryz.underlying61
  a23:=Tryz.isAgg61
  z23:=Tryz.sizeOf61
  v23:=Tryz.zeroValue61
  i9:=⟨_,_,rfl,rfl,rfl,rfl,by decide⟩
  k0:=by decide
theorem ok167 {a0:GH} {c:GH} {res:Int} {h:AH}  (a:yW a0 c=some res):Spec Tryz.prog 167 [.agg (GH.row a0),.agg (GH.row c)] h (yn (.int .i64 res) h):=by
 unfold yW at a;refine zb Tryz.func167 rfl (by kernel_rfl) (yG 14 rfl) (R.r ?_);refine zd a (λd b a=>cp (ok164 b) ?_);refine R.r ?_;cases a;exact fz rfl rfl
theorem ok166 {w:(List GH)} {a:GH} {i:(GH->GH->Option Int)} {g:FuncId} {c d:List AV} {res:(Int×Bool)} {h:AH} (f:∀w B v (L:List Blk) (M:List Nat),i w B=some v->Spec Tryz.prog g (c++[.agg (GH.row w),.agg (GH.row B)]++d) (h.ext L M) (yn (.int .i64 v) (h.ext L M))) (b:zT w a i=some res):Spec Tryz.prog 166 [.sl 5 (w.map GH.row),.agg (GH.row a),.fn (.func g) c d] h (yn (.tup [.int .i64 res.1,.bool res.2]) h):=by
 unfold zT at b;refine zI Tryz.func166 rfl (by kernel_rfl) (yG 49 rfl) (λe H=>?_);simp only [zB,AV.low,ud,uX,tW] at e;have s:∀n m,h.blks.length<=n->h.toks.length<=m->zB n m c=true:=λn m A z=>yb A z _ (by simp [e]);have p:∀n m,h.blks.length<=n->h.toks.length<=m->zB n m d=true:=λn m A z=>yb A z _ (by simp [e]);refine R.r ?_;refine ln λl=>?_;replace l:=zW l;refine R.r ?_;refine yD (λ(s1:Int×Int)=>zn 5 3 (zn 11 38 [(1,.any),(3,.any),(9,.int .i64 s1.1),(10,.int .i64 s1.2)])) (λs1=>h.ext [.cells (GH.row a)] []) b (λ_=>by simp only [zn,xQ,ue,uf];try rfl) (wk.le LEL.o) ?_;intro I s1 G b j;refine R.r ?_;refine ze gg b (λx b=>?_) (λx b=>?_)
 ·refine R.r ?_;refine zc rfl (zM rfl ty3 ty166 gg rfl) ss (R.r ?_);refine zc rfl (zM rfl ty166 ty3 gg rfl) ss (R.r ?_);refine zx [] [] trivial mixed (by kernel_rfl) (R.r ?_);refine zd b (λE q b=>dix q ?_);refine R.r ?_;refine zd b (λF k b=>xC rfl rfl (scC rfl) (f _ _ _ _ _ k) ss ?_);refine R.r ?_;refine ze gg b (λt b=>?_) (λt b=>?_)
  ·refine R.r ?_;cases b;exact ⟨((IntKind.wrap .i64 ((IntKind.wrap .i64 ((Int.fdiv (IntKind.wrap .u64 ((IntKind.wrap .i64 (s1.1+s1.2)))) (2 ^ (min (1:Int).toNat (IntKind.bits .u64))))))+(1:Int))),s1.2),j,wk.le LEL.o⟩
  ·refine R.r ?_;cases b;exact ⟨(s1.1,(IntKind.wrap .i64 ((Int.fdiv (IntKind.wrap .u64 ((IntKind.wrap .i64 (s1.1+s1.2)))) (2 ^ (min (1:Int).toNat (IntKind.bits .u64))))))),j,wk.le LEL.o⟩
 ·refine R.r ?_;cases b;replace b:=j;refine R.r ?_;refine zx [] [] trivial mixed (by kernel_rfl) (R.r ?_);refine zV b (λy b=>dgix y ?_);refine R.r ?_;refine zX b (λD u b=>yV rfl rfl scC (λC=>f _ _ _ _ _ (u C)) ss ?_);refine R.r ?_;cases b;exact fz rfl rfl
def sort144TryzRen:Go.Shelf.Ren :=
  { f:=λx=>match x with
      | 6=>144
      | 15=>170
      | 14=>169
      | 28=>191
      | 29=>192
      | 20=>183
      | 21=>184
      | 22=>185
      | 23=>186
      | 24=>187
      | 25=>188
      | 26=>189
      | 27=>190
      | 46=>199
      | 47=>200
      | 48=>201
      | 49=>202
      | 50=>203
      | 57=>206
      | n=>n
    t:=λx=>match x with
      | 22=>32
      | 24=>30
      | 25=>175
      | 3=>3
      | 39=>166
      | 0=>0
      | 53=>25
      | 55=>28
      | 4=>4
      | 46=>208
      | 45=>207
      | 50=>145
      | 5=>5
      | 9=>9
      | 66=>219
      | 70=>223
      | 76=>227
      | 77=>228
      | n=>n
    g:=λn=>n }
theorem sort144TryzLays:Go.Proofs.SlLaysF0.n6 Tryz.prog sort144TryzRen where
  mixed:=mixed
  f6:=⟨Tryz.f144.name,by kernel_rfl,Tryz.func144.trans (by kernel_rfl)⟩
  f15:=Tryz.func170.trans (by kernel_rfl)
  f14:=⟨Tryz.f169.name,by kernel_rfl,Tryz.func169.trans (by kernel_rfl)⟩
  f28:=Tryz.func191.trans (by kernel_rfl)
  f29:=Tryz.func192.trans (by kernel_rfl)
  f20:=⟨Tryz.f183.name,by kernel_rfl,Tryz.func183.trans (by kernel_rfl)⟩
  f21:=⟨Tryz.f184.name,by kernel_rfl,Tryz.func184.trans (by kernel_rfl)⟩
  f22:=⟨Tryz.f185.name,by kernel_rfl,Tryz.func185.trans (by kernel_rfl)⟩
  f23:=⟨Tryz.f186.name,by kernel_rfl,Tryz.func186.trans (by kernel_rfl)⟩
  f24:=⟨Tryz.f187.name,by kernel_rfl,Tryz.func187.trans (by kernel_rfl)⟩
  f25:=⟨Tryz.f188.name,by kernel_rfl,Tryz.func188.trans (by kernel_rfl)⟩
  f26:=⟨Tryz.f189.name,by kernel_rfl,Tryz.func189.trans (by kernel_rfl)⟩
  f27:=⟨Tryz.f190.name,by kernel_rfl,Tryz.func190.trans (by kernel_rfl)⟩
  f46:=⟨Tryz.f199.name,by kernel_rfl,Tryz.func199.trans (by kernel_rfl)⟩
  f47:=Tryz.func200.trans (by kernel_rfl)
  f48:=Tryz.func201.trans (by kernel_rfl)
  f49:=⟨Tryz.f202.name,by kernel_rfl,Tryz.func202.trans (by kernel_rfl)⟩
  f50:=⟨Tryz.f203.name,by kernel_rfl,Tryz.func203.trans (by kernel_rfl)⟩
  f57:=⟨Tryz.f206.name,by kernel_rfl,Tryz.func206.trans (by kernel_rfl)⟩
  t0:=Tryz.underlying0
  a0:=Tryz.isAgg0
  z0:=Tryz.sizeOf0
  v0:=Tryz.zeroValue0
  t3:=Tryz.underlying3
  a3:=Tryz.isAgg3
  z3:=Tryz.sizeOf3
  v3:=Tryz.zeroValue3
  t4:=Tryz.underlying4
  a4:=Tryz.isAgg4
  z4:=Tryz.sizeOf4
  v4:=Tryz.zeroValue4
  t5:=Tryz.underlying5
  a5:=Tryz.isAgg5
  z5:=Tryz.sizeOf5
  v5:=Tryz.zeroValue5
  t9:=Tryz.underlying9
  a9:=Tryz.isAgg9
  z9:=Tryz.sizeOf9
  v9:=Tryz.zeroValue9
  t22:=Tryz.underlying32
  a22:=Tryz.isAgg32
  z22:=Tryz.sizeOf32
  v22:=Tryz.zeroValue32
  t25:=Tryz.underlying175
  a25:=Tryz.isAgg175
  z25:=Tryz.sizeOf175
  v25:=Tryz.zeroValue175
  t39:=Tryz.underlying166
  a39:=Tryz.isAgg166
  z39:=Tryz.sizeOf166
  v39:=Tryz.zeroValue166
  t45:=Tryz.underlying207
  a45:=Tryz.isAgg207
  z45:=Tryz.sizeOf207
  v45:=Tryz.zeroValue207
  t46:=Tryz.underlying208
  a46:=Tryz.isAgg208
  z46:=Tryz.sizeOf208
  v46:=Tryz.zeroValue208
  t50:=Tryz.underlying145
  a50:=Tryz.isAgg145
  z50:=Tryz.sizeOf145
  v50:=Tryz.zeroValue145
  t53:=Tryz.underlying25
  a53:=Tryz.isAgg25
  z53:=Tryz.sizeOf25
  v53:=Tryz.zeroValue25
  t55:=Tryz.underlying28
  a55:=Tryz.isAgg28
  z55:=Tryz.sizeOf28
  v55:=Tryz.zeroValue28
  t66:=Tryz.underlying219
  a66:=Tryz.isAgg219
  z66:=Tryz.sizeOf219
  v66:=Tryz.zeroValue219
  t70:=Tryz.underlying223
  a70:=Tryz.isAgg223
  z70:=Tryz.sizeOf223
  v70:=Tryz.zeroValue223
  t76:=Tryz.underlying227
  a76:=Tryz.isAgg227
  z76:=Tryz.sizeOf227
  v76:=Tryz.zeroValue227
  t77:=Tryz.underlying228
  a77:=Tryz.isAgg228
  z77:=Tryz.sizeOf228
  v77:=Tryz.zeroValue228
theorem okR146 {bl E:Nat} {l:(List GF)} {res:(List GF)} {h:AH} (H:h.blks.length=bl) (F:h.toks.length=E) (a:wA l=some res):Spec Tryz.prog 146 [.rsl bl E 3 l.length] (h.ext [.row E 3 (l.map GF.row)] [l.length]) (TurnK h bl E 3 res.length (res.map GF.row)):=by
 unfold wA at a;subst H F;refine zF Tryz.func146 rfl (by kernel_rfl) (yG 61 rfl) (R.r ?_);refine ln λx=>?_;replace x:=zW x;refine R.r ?_;refine ze gg a (λG a=>?_) (λG a=>?_)
 ·refine R.r ?_;cases a;refine fr rfl (fin_turn0 (row:=GF.row) ?_);exact ⟨rfl,_,rfl⟩
 ·refine R.r ?_;refine yD (λ(s1:Int)=>zn 1 2 (zn 4 57 [(3,.int .i64 s1)])) (λs1=>h.ext [.row (h.toks.length+0) 3 (l.map GF.row)] [l.length]) a (λ_=>by simp only [zn,xQ,ue,uf];try rfl) (wk.le LEL.o) ?_;intro S s1 P a t;refine R.r ?_;refine ln λs=>?_;replace s:=zW s;refine R.r ?_;refine ze gg a (λB a=>?_) (λB a=>?_)
  ·refine R.r ?_;refine zx [] [] trivial mixed (by kernel_rfl) (R.r ?_);refine zd a (λI p a=>zt rfl rfl (yE rfl el32 gg gg (xf p rfl)) ss ?_);refine zt rfl rfl (wW (off:=0) (i:=0) (q:=h.toks.length+0) (z:=s1.toNat) (row:=GF.row) (λ_=>rfl) rfl ty30.choose_spec.1 (by decide) gg rfl rfl (wv p).2.2 (yq (cs':=(GF.row I)) ty30.choose_spec.2 rfl rfl) (za rfl)) ss (R.r ?_);refine zd a (λJ n a=>zt rfl rfl (yE rfl el32 gg gg (xf n rfl)) ss ?_);refine zt rfl rfl (wW (off:=0) (i:=0) (q:=h.toks.length+0) (z:=(IntKind.wrap .i64 (s1 - (1:Int))).toNat) (row:=GF.row) (λ_=>rfl) rfl ty30.choose_spec.1 (by decide) gg rfl rfl (wv n).2.2 (yq (cs':=(GF.row J)) ty30.choose_spec.2 rfl rfl) (za rfl)) ss ?_;refine zt rfl rfl (vD rfl gg gg (bin_eq pk30 rfl)) ss (R.r ?_);refine ze gg a (λw a=>?_) (λw a=>?_)
   ·refine R.r ?_;refine zV a (λv a=>ops_b rfl (e_sufR rfl el32 gg gg v) ss ?_);refine R.r ?_;refine yD (λ(s2:Int×Int×(List GF))=>zn 1 2 (zn 6 55 [(3,.int .i64 s2.1),(5,.int .i64 s2.2.1)])) (λs2=>h.ext [.row (h.toks.length+0) 3 (s2.2.2.map GF.row)] [l.length]) a (λ_=>by simp only [zn,xQ,ue,uf];try rfl) (wk.le LEL.o) ?_;intro n2 s2 Q a u;refine zV a (λb a=>R.r ?_);refine ln λN=>R.r ?_;refine ze gg a (λC a=>?_) (λC a=>?_)
    ·refine R.r ?_;refine zx [] [] trivial mixed (by kernel_rfl) (R.r ?_);refine zd a (λM c a=>?_);replace c:=idxS c;refine zt rfl rfl (e_idxS rfl el32 gg gg ⟨c.1,by have:=c.2.1;have:=b;omega⟩) ss ?_;refine zt rfl rfl (wW (off:=0) (i:=0) (q:=h.toks.length+0) (z:=(s1.toNat+s2.2.1.toNat)) (row:=GF.row) (λ_=>rfl) rfl ty30.choose_spec.1 (by decide) gg rfl b c.2.2 (yq (cs':=(GF.row M)) ty30.choose_spec.2 rfl rfl) (za rfl)) ss (R.r ?_);refine zd a (λK f a=>?_);replace f:=idxS f;refine zt rfl rfl (e_idxS rfl el32 gg gg ⟨f.1,by have:=f.2.1;have:=b;omega⟩) ss ?_;refine zt rfl rfl (wW (off:=0) (i:=0) (q:=h.toks.length+0) (z:=(s1.toNat+(IntKind.wrap .i64 (s2.2.1 - (1:Int))).toNat)) (row:=GF.row) (λ_=>rfl) rfl ty30.choose_spec.1 (by decide) gg rfl b f.2.2 (yq (cs':=(GF.row K)) ty30.choose_spec.2 rfl rfl) (za rfl)) ss ?_;refine zt rfl rfl (vD rfl gg gg (bin_ne pk30 rfl)) ss (R.r ?_);refine ze gg a (λA a=>?_) (λA a=>?_)
     ·refine R.r ?_;refine zd a (λg e a=>?_);replace e:=idxS e;refine zc rfl (e_idxS rfl el32 gg gg ⟨e.1,by have:=e.2.1;have:=b;omega⟩) ss ?_;refine zc rfl (wW (off:=0) (i:=0) (q:=h.toks.length+0) (z:=(s1.toNat+s2.2.1.toNat)) (row:=GF.row) (λ_=>rfl) rfl ty30.choose_spec.1 (by decide) gg rfl b e.2.2 (yq (cs':=(GF.row g)) ty30.choose_spec.2 rfl rfl) (za rfl)) ss ?_;refine zd a (λO m a=>zc rfl (yE rfl el32 gg gg (xf m b)) ss ?_);refine zc rfl (qP (off:=0) (i:=0) (q:=h.toks.length+0) (z:=s2.1.toNat) (row:=GF.row) (y':=g) (us:=(GF.row g)) (B':=[.row (h.toks.length+0) 3 ((s2.2.2.set s2.1.toNat g).map GF.row)]) (λ_=>rfl) rfl ty30.choose_spec.1 gg gg (za rfl) rfl rfl rfl rfl b (wv m).2.2 (by decide) rfl rfl) rfl (R.r ?_);cases a;exact ⟨((IntKind.wrap .i64 (s2.1+(1:Int))),(IntKind.wrap .i64 (s2.2.1+(1:Int))),(s2.2.2.set s2.1.toNat g)),u,wk.le LEL.o⟩
     ·refine R.r ?_;cases a;exact ⟨(s2.1,(IntKind.wrap .i64 (s2.2.1+(1:Int))),s2.2.2),u,wk.le LEL.o⟩
    ·refine R.r ?_;cases a;replace a:=u;refine R.r ?_;refine zV a (λk a=>ops_b rfl (e_sufR rfl el32 gg gg k) ss ?_);refine ops_b rfl (e_clrR (i:=0) (q:=h.toks.length+0) (L:=s2.2.2) (row:=GF.row) (d:=(GF.mk (GK.mk (0:Int) (0:Int)) (0:Int))) (B':=[.row (h.toks.length+0) 3 ((s2.2.2.take s2.1.toNat++List.replicate (l.length - s2.1.toNat) (GF.mk (GK.mk (0:Int) (0:Int)) (0:Int))).map GF.row)]) (λ_=>rfl) rfl rfl rfl rfl el32 ze30 rfl gg rfl b (oj.2 k.2) rfl) rfl (R.r ?_);refine zd a (λD y a=>ops_b rfl (e_cutR (i:=0) (j:=0) (L:=(s2.2.2.take s2.1.toNat++List.replicate (l.length - s2.1.toNat) (GF.mk (GK.mk (0:Int) (0:Int)) (0:Int)))) (row:=GF.row) (B':=[.dead,.row (h.toks.length+1) 3 (D.map GF.row)]) (T':=[l.length+1,(D).length]) rfl el32 gg gg rfl (clr_len b (oj.2 k.2)) y rfl rfl rfl rfl) ss ?_);refine R.r ?_;cases a;replace a:=t;refine R.r ?_;cases a;refine fr rfl (xj ?_);exact ⟨rfl,_,rfl⟩
   ·refine R.r ?_;cases a;exact ⟨(IntKind.wrap .i64 (s1+(1:Int))),t,wk.le LEL.o⟩
  ·refine R.r ?_;cases a;replace a:=t;refine R.r ?_;cases a;refine fr rfl (fin_turn0 (row:=GF.row) ?_);exact ⟨rfl,_,rfl⟩
theorem okR147 {bl F:Nat} {t:(List GH)} {w:(GH->Option Bool)} {p:FuncId} {e f:List AV} {res:(List GH)} {h:AH} (K:h.blks.length=bl) (H:h.toks.length=F) (s:∀G v (L:List Blk) (M:List Nat),w G=some v->Spec Tryz.prog p (e++[.agg (GH.row G)]++f) (h.ext L M) (yn (.bool v) (h.ext L M))) (a:∀n m,h.blks.length<=n->h.toks.length<=m->zB n m e=true) (b:∀n m,h.blks.length<=n->h.toks.length<=m->zB n m f=true) (c:xJ t w=some res):Spec Tryz.prog 147 [.rsl bl F 5 t.length,.fn (.func p) e f] (h.ext [.row F 5 (t.map GH.row)] [t.length]) (TurnK h bl F 5 res.length (res.map GH.row)):=by
 unfold xJ at c;subst K H;refine zF Tryz.func147 rfl (by kernel_rfl) (yG 42 rfl) (R.r ?_);refine zd c (λV I c=>cp (row_read (B1:=[]) (T1:=[]) (okR174 (by simp [AH.ext]) (by simp [AH.ext]) (λG v L M Q=>by rw [zQ];exact s G v _ _ Q) (λn m O N=>a n m (by simp [AH.ext] at O;omega) (by simp [AH.ext] at N;omega)) (λn m O N=>b n m (by simp [AH.ext] at O;omega) (by simp [AH.ext] at N;omega)) I) rfl rfl) ?_);refine R.r ?_;refine ze gg c (λJ c=>?_) (λJ c=>?_)
 ·refine R.r ?_;cases c;refine fr rfl (fin_turn0 (row:=GH.row) ?_);exact ⟨rfl,_,rfl⟩
 ·refine R.r ?_;refine yD (λ(s1:Int×Int×(List GH))=>zn 2 3 (zn 7 35 [(5,.int .i64 s1.1),(6,.int .i64 s1.2.1)])) (λs1=>h.ext [.row (h.toks.length+0) 5 (s1.2.2.map GH.row)] [t.length]) c (λ_=>by simp only [zn,xQ,ue,uf];try rfl) (wk.le LEL.o) ?_;intro W s1 U c y;refine zV c (λg c=>R.r ?_);refine ln λP=>R.r ?_;refine ze gg c (λD c=>?_) (λD c=>?_)
  ·refine R.r ?_;refine zd c (λk u c=>zc rfl (yE rfl el61 gg gg (xf u g)) ss ?_);refine zc rfl (wW (off:=0) (i:=0) (q:=h.toks.length+0) (z:=s1.2.1.toNat) (row:=GH.row) (λ_=>rfl) rfl ty60.choose_spec.1 (by decide) gg rfl g (wv u).2.2 (yq (cs':=(GH.row k)) ty60.choose_spec.2 rfl rfl) (za rfl)) ss (R.r ?_);refine zd c (λT A c=>xX rfl (scC rfl) (s _ _ _ _ A) ss ?_);refine R.r ?_;refine ze gg c (λC c=>?_) (λC c=>?_)
   ·refine R.r ?_;refine zd c (λS x c=>zc rfl (yE rfl el61 gg gg (xf x g)) ss ?_);refine zc rfl (qP (off:=0) (i:=0) (q:=h.toks.length+0) (z:=s1.1.toNat) (row:=GH.row) (y':=k) (us:=(GH.row k)) (B':=[.row (h.toks.length+0) 5 ((s1.2.2.set s1.1.toNat k).map GH.row),.cells (GH.row k)]) (λ_=>rfl) rfl ty60.choose_spec.1 gg gg (za rfl) rfl rfl rfl rfl g (wv x).2.2 (by decide) rfl rfl) rfl (R.r ?_);cases c;exact ⟨((IntKind.wrap .i64 (s1.1+(1:Int))),(IntKind.wrap .i64 (s1.2.1+(1:Int))),(s1.2.2.set s1.1.toNat k)),y,wk.trans (wk.le LEL.o) (yl (by simp [zB,AV.low,a,b]) rfl rfl (by simp [Blk.low,zB,AV.low,a,b]))⟩
   ·refine R.r ?_;cases c;exact ⟨(s1.1,(IntKind.wrap .i64 (s1.2.1+(1:Int))),s1.2.2),y,wk.trans (wk.le LEL.o) (yl (by simp [zB,AV.low,a,b]) rfl rfl (by simp [Blk.low,zB,AV.low,a,b]))⟩
  ·refine R.r ?_;cases c;replace c:=y;refine R.r ?_;refine zV c (λl c=>ops_b rfl (e_sufR rfl el61 gg gg l) ss ?_);refine ops_b rfl (e_clrR (i:=0) (q:=h.toks.length+0) (L:=s1.2.2) (row:=GH.row) (d:=(GH.mk (0:Int) (GF.mk (GK.mk (0:Int) (0:Int)) (0:Int)) ([]:zy))) (B':=[.row (h.toks.length+0) 5 ((s1.2.2.take s1.1.toNat++List.replicate (t.length - s1.1.toNat) (GH.mk (0:Int) (GF.mk (GK.mk (0:Int) (0:Int)) (0:Int)) ([]:zy))).map GH.row)]) (λ_=>rfl) rfl rfl rfl rfl el61 ze60 rfl gg rfl g (oj.2 l.2) rfl) rfl (R.r ?_);refine zd c (λB E c=>ops_b rfl (e_cutR (i:=0) (j:=0) (L:=(s1.2.2.take s1.1.toNat++List.replicate (t.length - s1.1.toNat) (GH.mk (0:Int) (GF.mk (GK.mk (0:Int) (0:Int)) (0:Int)) ([]:zy)))) (row:=GH.row) (B':=[.dead,.row (h.toks.length+1) 5 (B.map GH.row)]) (T':=[t.length+1,(B).length]) rfl el61 gg gg rfl (clr_len g (oj.2 l.2)) E rfl rfl rfl rfl) ss ?_);refine R.r ?_;cases c;refine fr rfl (xj ?_);exact ⟨rfl,_,rfl⟩
theorem ok148 {d:GH} {e:GJ} {i0:Nat} {res:Bool} {h:AH} (c:h.blk i0=some (.cells (GJ.row e))) (a:wp d e=some res):Spec Tryz.prog 148 [.agg (GH.row d),.ptr i0 0] h (yn (.bool res) h):=by
 unfold wp at a;refine zb Tryz.func148 rfl (by kernel_rfl) (yG 10 rfl) (R.r ?_);refine zc rfl (b_load rfl ty32 gg c (yv rfl) (za rfl)) ss (R.r ?_);refine zd a (λf b a=>cp (ok142 b) ?_);refine R.r ?_;cases a;exact fz rfl rfl
end Go.Vv
