/- Each function that the law reaches computes what its reading says; printed by a program. -/
import Derived.Test.YtcociipjgndnaaaGreatW3
set_option linter.all false
namespace Go.Vv
open Go Go.Proofs
set_option maxRecDepth 100000
set_option synthInstance.maxSize 100000
set_option synthInstance.maxHeartbeats 1000000
set_option maxHeartbeats 1000000
variable {ff1:FuncId} {af1 kf1:List AV} {res:Bool} {h:AH} {s0:(List GF)} {v1:GF}
theorem ok163 {s0:(List zx)} {t:(zx->Option Bool)} {res:Int} (q:∀s v (L:List Blk) (M:List Nat),t s=some v->Sp ff1 (af1++[.str s]++kf1) (h.ext L M) (yo (.bool v) (h.ext L M))) (a:ww s0 t=some res):Sp 163 [.sl 1 (s0.map yz),.fn (.func ff1) af1 kf1] h (yo (.int .i64 res) h):=by
 unfold ww at a;refine zH Tryz.func163 rfl (by kernel_rfl) (yI 19 rfl) (λb x=>?_);simp only [zA,AV.low,ud,uS,tK] at b;have j:∀n m,h.blks.length<=n->h.toks.length<=m->zA n m af1=true:=λn m g e=>yb g e _ (by simp [b]);have f:∀n m,h.blks.length<=n->h.toks.length<=m->zA n m kf1=true:=λn m g e=>yb g e _ (by simp [b]);apply R.r;refine ln λc=>?_;replace c:=zX c;apply R.r;refine zz (λ(u:Nat) (s1:Unit)=>zn 2 5 (zn 9 10 [(8,.int .i64 (u:Int))])) (λs1=>h.ext [] []) a (λ_ _=>by simp only [zn,xU,ue,uf];try rfl) (wk.le LEL.o) ?_;intro u s1 w a;apply R.r;refine zC gg a (λA z p i a d=>?_) (λa=>?_)
 ·apply R.r;refine ix (zB i) (R.r ?_);refine zd a (λy l a=>x7 rfl (scC rfl) (q _ _ _ _ l) ss (R.r ?_));refine ze gg a (λk a=>?_) (λk a=>?_)
  ·apply R.r;cases a;replace a:=d;apply R.r;cases a;exact fz rfl rfl
  ·apply R.r;cases a;exact ⟨(),p,d,wk.le (by exact (.eq (.eq (.d4 (.drop (.eq (.cons (leV.of_eq (yN (by omega) (by omega))) (.d4 (.d4 (.drop (.drop leL.nil)))))))))))⟩
 ·apply R.r;cases a;exact fz rfl rfl
theorem ok137 {s0:(List zx)} {k:(zx->Option Bool)} (e:∀b v (L:List Blk) (M:List Nat),k b=some v->Sp ff1 (af1++[.str b]++kf1) (h.ext L M) (yo (.bool v) (h.ext L M))) (c:xp s0 k=some res):Sp 137 [.sl 1 (s0.map yz),.fn (.func ff1) af1 kf1] h (yo (.bool res) h):=by
 unfold xp at c;refine zH Tryz.func137 rfl (by kernel_rfl) (yI 9 rfl) (λa o=>?_);simp only [zA,AV.low,ud,uS,tK] at a;have d:∀n m,h.blks.length<=n->h.toks.length<=m->zA n m af1=true:=λn m j f=>yb j f _ (by simp [a]);have g:∀n m,h.blks.length<=n->h.toks.length<=m->zA n m kf1=true:=λn m j f=>yb j f _ (by simp [a]);apply R.r;refine zd c (λv1 i c=>cp (ok163 (λb v L M l=>by rw [zQ];exact e b v _ _ l) i) (R.r ?_));cases c;exact fz rfl rfl
theorem ok138 {s0:zx}  (a:opMayPathC1 s0=some res):Sp 138 [.str s0] h (yo (.bool res) h):=by
 unfold opMayPathC1 at a;refine zb Tryz.func138 rfl (by kernel_rfl) (yI 6 rfl) (R.r ?_);refine zd a (λv1 b a=>cp (ok29 b) (R.r ?_));cases a;exact fz rfl rfl
theorem ok87 {d:(List zx)}  (b:opMayPath d=some res):Sp 87 [.sl 1 (d.map yz)] h (yo (.bool res) h):=by
 unfold opMayPath at b;refine zb Tryz.func87 rfl (by kernel_rfl) (yI 16 rfl) (R.r ?_);refine ln λa=>?_;replace a:=zX a;apply R.r;refine lng λg=>R.r ?_;refine zY b (λv3 c b=>zJ rfl sc (λf=>ok137 (λ_ v L M e=>ok138  e) (c f)) ss (R.r ?_));cases b;exact fz rfl rfl
theorem fnOpok {c:Nat} {a:GM} {v:Bool} (h:callOp c a=some v):fvOp c=.fn (.func (fnOp c)) [] []:=by
  unfold callOp at h;split at h <;> first | rfl | cases h
theorem okfvOp {c:Nat} {b:GM} (a:callOp c b=some res):Sp (fnOp c) [.agg (GM.row b)] h (yo (.bool res) h):=by
 unfold callOp at a;split at a
 ·exact ok134 a
 ·exact ok135 a
 ·exact ok136 a
 ·cases a
theorem ok62 {f:GM}  (b:opMay f=some res):Sp 62 [.agg (GM.row f)] h (yo (.bool res) h):=by
 unfold opMay at b;refine zb Tryz.func62 rfl (by kernel_rfl) (yI 23 rfl) (R.r ?_);refine zd b (λv1 e b=>cp (ok86 e) (R.r ?_));refine zY b (λg d b=>zJ rfl sc (λa=>ok87 (d a)) ss (R.r ?_));refine qz rfl (λa=>xW rfl ty106 (yf gg a) rfl (yx rfl) (fvtOp _ _ _)) ss (R.r ?_);refine zY b (λv3 c b=>zJ rfl (λa=>yn rfl rfl (evo_eq (yf gg a) (fnOpok (c a))) (zf (yf gg a) zI) (.cons (za rfl) .nil)) (λa=>okfvOp (c a)) ss (R.r ?_));cases b;exact fz rfl rfl
theorem ok33 {d:GJ}  (a:qA d=some res):Sp 33 [.agg (GJ.row d)] h (yo (.bool res) h):=by
 unfold qA at a;refine zb Tryz.func33 rfl (by kernel_rfl) (yI 21 rfl) (R.r ?_);refine zd a (λv1 c a=>cp (ok61 c) (R.r ?_));refine zY a (λf b a=>zJ rfl sc (λe=>ok62 (b e)) ss (R.r ?_));cases a;exact fz rfl rfl
theorem ok64 {k0:Int} {res:Int}  (a:opType k0=some res):Sp 64 [.int .u8 k0] h (yo (.int .u8 res) h):=by
 unfold opType at a;refine zb Tryz.func64 rfl (by kernel_rfl) (yI 12 rfl) (R.r ?_);refine zd a (λv1 b a=>cp (ok86 b) (R.r ?_));cases a;exact fz rfl rfl
theorem ok165 {res:Int}  (a:qY s0 v1=some res):Sp 165 [.sl 3 (s0.map GF.row),.agg (GF.row v1)] h (yo (.int .i64 res) h):=by
 unfold qY at a;refine zb Tryz.func165 rfl (by kernel_rfl) (yI 19 rfl) (R.r ?_);refine ln λb=>?_;replace b:=zX b;apply R.r;refine zz (λ(g:Nat) (s1:Unit)=>zn 1 2 (zn 4 3 (zn 9 10 [(8,.int .i64 (g:Int))]))) (λs1=>h.ext [.cells (GF.row v1)] []) a (λ_ _=>by simp only [zn,xU,ue,uf];try rfl) (wk.le LEL.o) ?_;intro g s1 i a;apply R.r;refine zC gg a (λj k e f a c=>?_) (λa=>?_)
 ·apply R.r;refine zL (by kernel_rfl) (R.r ?_);refine dix (zB f) (R.r ?_);refine zt rfl rfl (vJ rfl gg gg (bin_eq pk30 rfl)) ss (R.r ?_);refine ze gg a (λd a=>?_) (λd a=>?_)
  ·apply R.r;cases a;replace a:=c;apply R.r;cases a;exact fz rfl rfl
  ·apply R.r;cases a;exact ⟨(),e,c,wk.le (by exact (.eq (.drop (.drop (.eq (.drop (.drop (.drop (.eq (.cons (leV.of_eq (yN (by omega) (by omega))) (.d4 (.d4 (.drop (.drop leL.nil))))))))))))))⟩
 ·apply R.r;cases a;exact fz rfl rfl
theorem ok142  (a:x5 s0 v1=some res):Sp 142 [.sl 3 (s0.map GF.row),.agg (GF.row v1)] h (yo (.bool res) h):=by
 unfold x5 at a;refine zb Tryz.func142 rfl (by kernel_rfl) (yI 9 rfl) (R.r ?_);refine zd a (λv1 b a=>cp (ok165 b) (R.r ?_));cases a;exact fz rfl rfl
def ins168TryzRen:Go.Shelf.Ren :=
  { f:=λx=>match x with
      | 22=>168
      | 29=>181
      | 30=>182
      | n=>n
    t:=λx=>match x with
      | 0=>0
      | 3=>3
      | 4=>4
      | 9=>60
      | 24=>61
      | n=>n
    g:=λn=>n }
theorem ins168TryzLays:InsLays Tryz.prog ins168TryzRen 61 5 where
  mixed:=by kernel_rfl
  f22:=⟨Tryz.f168.name,Tryz.f168.targs,Tryz.func168.trans (by kernel_rfl),by kernel_rfl⟩
  f29:=λargs w=>run_callFunc_extern Tryz.func181 (by kernel_rfl) (by kernel_rfl) (by kernel_rfl) (e:=Extern.SlicesOverlaps.overlaps #[61,61] #[4]) (by kernel_rfl) args w
  t0:=Tryz.underlying0
  a0:=Tryz.isAgg0
  z0:=Tryz.sizeOf0
  v0:=Tryz.zeroValue0
  t3:=Tryz.underlying3
  a3:=Tryz.isAgg3
  z3:=Tryz.sizeOf3
  v3:=Tryz.zeroValue3
  t4:=Tryz.underlying4
  a4:=Tryz.isAgg4
  z4:=Tryz.sizeOf4
  v4:=Tryz.zeroValue4
  t24:=Tryz.underlying61
  a24:=Tryz.isAgg61
  z24:=Tryz.sizeOf61
  v24:=Tryz.zeroValue61
  t23:=Tryz.underlying61
  a23:=Tryz.isAgg61
  z23:=Tryz.sizeOf61
  v23:=Tryz.zeroValue61
  i9:=⟨_,_,rfl,rfl,rfl,rfl,by decide⟩
  k0:=by decide
theorem ok167 {a0:GH} {c:GH} {res:Int}  (a:xb a0 c=some res):Sp 167 [.agg (GH.row a0),.agg (GH.row c)] h (yo (.int .i64 res) h):=by
 unfold xb at a;refine zb Tryz.func167 rfl (by kernel_rfl) (yI 14 rfl) (R.r ?_);refine zd a (λv1 b a=>cp (ok164 b) (R.r ?_));cases a;exact fz rfl rfl
theorem ok166 {k:(List GH)} {a:GH} {i:(GH->GH->Option Int)} {g:FuncId} {d c:List AV} {res:(Int×Bool)} (f:∀k B v (L:List Blk) (M:List Nat),i k B=some v->Sp g (d++[.agg (GH.row k),.agg (GH.row B)]++c) (h.ext L M) (yo (.int .i64 v) (h.ext L M))) (b:zT k a i=some res):Sp 166 [.sl 5 (k.map GH.row),.agg (GH.row a),.fn (.func g) d c] h (yo (.tup [.int .i64 res.1,.bool res.2]) h):=by
 unfold zT at b;refine zH Tryz.func166 rfl (by kernel_rfl) (yI 49 rfl) (λe G=>?_);simp only [zA,AV.low,ud,uS,tK] at e;have u:∀n m,h.blks.length<=n->h.toks.length<=m->zA n m d=true:=λn m A z=>yb A z _ (by simp [e]);have p:∀n m,h.blks.length<=n->h.toks.length<=m->zA n m c=true:=λn m A z=>yb A z _ (by simp [e]);apply R.r;refine ln λl=>?_;replace l:=zX l;apply R.r;refine yF (λ(s1:Int×Int)=>zn 5 3 (zn 11 38 [(1,.any),(3,.any),(9,.int .i64 s1.1),(10,.int .i64 s1.2)])) (λs1=>h.ext [.cells (GH.row a)] []) b (λ_=>by simp only [zn,xU,ue,uf];try rfl) (wk.le LEL.o) ?_;intro I s1 H b j;apply R.r;refine ze gg b (λt b=>?_) (λt b=>?_)
 ·apply R.r;refine zc rfl (zM rfl ty3 ty166 gg rfl) ss (R.r ?_);refine zc rfl (zM rfl ty166 ty3 gg rfl) ss (R.r ?_);refine zL (by kernel_rfl) (R.r ?_);refine zd b (λF q b=>dix q (R.r ?_));refine zd b (λC s b=>xH rfl rfl (scC rfl) (f _ _ _ _ _ s) ss (R.r ?_));refine ze gg b (λy b=>?_) (λy b=>?_)
  ·apply R.r;cases b;exact ⟨((IntKind.wrap .i64 ((IntKind.wrap .i64 ((Int.fdiv (IntKind.wrap .u64 ((IntKind.wrap .i64 (s1.1+s1.2)))) (2 ^ (min (1:Int).toNat (IntKind.bits .u64))))))+(1:Int))),s1.2),j,wk.le LEL.o⟩
  ·apply R.r;cases b;exact ⟨(s1.1,(IntKind.wrap .i64 ((Int.fdiv (IntKind.wrap .u64 ((IntKind.wrap .i64 (s1.1+s1.2)))) (2 ^ (min (1:Int).toNat (IntKind.bits .u64))))))),j,wk.le LEL.o⟩
 ·apply R.r;cases b;replace b:=j;apply R.r;refine zL (by kernel_rfl) (R.r ?_);refine zW b (λx b=>dgix x (R.r ?_));refine zY b (λE w b=>yZ rfl rfl scC (λD=>f _ _ _ _ _ (w D)) ss (R.r ?_));cases b;exact fz rfl rfl
def sort144TryzRen:Go.Shelf.Ren :=
  { f:=λx=>match x with
      | 6=>144
      | 15=>170
      | 14=>169
      | 28=>191
      | 29=>192
      | 20=>183
      | 21=>184
      | 22=>185
      | 23=>186
      | 24=>187
      | 25=>188
      | 26=>189
      | 27=>190
      | 46=>199
      | 47=>200
      | 48=>201
      | 49=>202
      | 50=>203
      | 57=>206
      | n=>n
    t:=λx=>match x with
      | 22=>32
      | 24=>30
      | 25=>175
      | 3=>3
      | 39=>166
      | 0=>0
      | 53=>25
      | 55=>28
      | 4=>4
      | 46=>208
      | 45=>207
      | 50=>145
      | 5=>5
      | 9=>9
      | 66=>219
      | 70=>223
      | 76=>227
      | 77=>228
      | n=>n
    g:=λn=>n }
theorem sort144TryzLays:Go.Proofs.SlLaysF0.n6 Tryz.prog sort144TryzRen where
  mixed:=mixed
  f6:=⟨Tryz.f144.name,by kernel_rfl,Tryz.func144.trans (by kernel_rfl)⟩
  f15:=Tryz.func170.trans (by kernel_rfl)
  f14:=⟨Tryz.f169.name,by kernel_rfl,Tryz.func169.trans (by kernel_rfl)⟩
  f28:=Tryz.func191.trans (by kernel_rfl)
  f29:=Tryz.func192.trans (by kernel_rfl)
  f20:=⟨Tryz.f183.name,by kernel_rfl,Tryz.func183.trans (by kernel_rfl)⟩
  f21:=⟨Tryz.f184.name,by kernel_rfl,Tryz.func184.trans (by kernel_rfl)⟩
  f22:=⟨Tryz.f185.name,by kernel_rfl,Tryz.func185.trans (by kernel_rfl)⟩
  f23:=⟨Tryz.f186.name,by kernel_rfl,Tryz.func186.trans (by kernel_rfl)⟩
  f24:=⟨Tryz.f187.name,by kernel_rfl,Tryz.func187.trans (by kernel_rfl)⟩
  f25:=⟨Tryz.f188.name,by kernel_rfl,Tryz.func188.trans (by kernel_rfl)⟩
  f26:=⟨Tryz.f189.name,by kernel_rfl,Tryz.func189.trans (by kernel_rfl)⟩
  f27:=⟨Tryz.f190.name,by kernel_rfl,Tryz.func190.trans (by kernel_rfl)⟩
  f46:=⟨Tryz.f199.name,by kernel_rfl,Tryz.func199.trans (by kernel_rfl)⟩
  f47:=Tryz.func200.trans (by kernel_rfl)
  f48:=Tryz.func201.trans (by kernel_rfl)
  f49:=⟨Tryz.f202.name,by kernel_rfl,Tryz.func202.trans (by kernel_rfl)⟩
  f50:=⟨Tryz.f203.name,by kernel_rfl,Tryz.func203.trans (by kernel_rfl)⟩
  f57:=⟨Tryz.f206.name,by kernel_rfl,Tryz.func206.trans (by kernel_rfl)⟩
  t0:=Tryz.underlying0
  a0:=Tryz.isAgg0
  z0:=Tryz.sizeOf0
  v0:=Tryz.zeroValue0
  t3:=Tryz.underlying3
  a3:=Tryz.isAgg3
  z3:=Tryz.sizeOf3
  v3:=Tryz.zeroValue3
  t4:=Tryz.underlying4
  a4:=Tryz.isAgg4
  z4:=Tryz.sizeOf4
  v4:=Tryz.zeroValue4
  t5:=Tryz.underlying5
  a5:=Tryz.isAgg5
  z5:=Tryz.sizeOf5
  v5:=Tryz.zeroValue5
  t9:=Tryz.underlying9
  a9:=Tryz.isAgg9
  z9:=Tryz.sizeOf9
  v9:=Tryz.zeroValue9
  t22:=Tryz.underlying32
  a22:=Tryz.isAgg32
  z22:=Tryz.sizeOf32
  v22:=Tryz.zeroValue32
  t25:=Tryz.underlying175
  a25:=Tryz.isAgg175
  z25:=Tryz.sizeOf175
  v25:=Tryz.zeroValue175
  t39:=Tryz.underlying166
  a39:=Tryz.isAgg166
  z39:=Tryz.sizeOf166
  v39:=Tryz.zeroValue166
  t45:=Tryz.underlying207
  a45:=Tryz.isAgg207
  z45:=Tryz.sizeOf207
  v45:=Tryz.zeroValue207
  t46:=Tryz.underlying208
  a46:=Tryz.isAgg208
  z46:=Tryz.sizeOf208
  v46:=Tryz.zeroValue208
  t50:=Tryz.underlying145
  a50:=Tryz.isAgg145
  z50:=Tryz.sizeOf145
  v50:=Tryz.zeroValue145
  t53:=Tryz.underlying25
  a53:=Tryz.isAgg25
  z53:=Tryz.sizeOf25
  v53:=Tryz.zeroValue25
  t55:=Tryz.underlying28
  a55:=Tryz.isAgg28
  z55:=Tryz.sizeOf28
  v55:=Tryz.zeroValue28
  t66:=Tryz.underlying219
  a66:=Tryz.isAgg219
  z66:=Tryz.sizeOf219
  v66:=Tryz.zeroValue219
  t70:=Tryz.underlying223
  a70:=Tryz.isAgg223
  z70:=Tryz.sizeOf223
  v70:=Tryz.zeroValue223
  t76:=Tryz.underlying227
  a76:=Tryz.isAgg227
  z76:=Tryz.sizeOf227
  v76:=Tryz.zeroValue227
  t77:=Tryz.underlying228
  a77:=Tryz.isAgg228
  z77:=Tryz.sizeOf228
  v77:=Tryz.zeroValue228
theorem okR146 {bl D:Nat} {res:(List GF)} (F:h.blks.length=bl) (G:h.toks.length=D) (a:wE s0=some res):Sp 146 [.rsl bl D 3 s0.length] (h.ext [.row D 3 (s0.map GF.row)] [s0.length]) (TurnK h bl D 3 res.length (res.map GF.row)):=by
 unfold wE at a;subst F G;refine zD Tryz.func146 rfl (by kernel_rfl) (yI 61 rfl) (R.r ?_);refine ln λw=>?_;replace w:=zX w;apply R.r;refine ze gg a (λJ a=>?_) (λJ a=>?_)
 ·apply R.r;cases a;refine fr rfl (fin_turn0 (row:=GF.row) ?_);exact ⟨rfl,_,rfl⟩
 ·apply R.r;refine yF (λ(s1:Int)=>zn 1 2 (zn 4 57 [(3,.int .i64 s1)])) (λs1=>h.ext [y4 h 0 3 (s0.map GF.row)] [s0.length]) a (λ_=>by simp only [zn,xU,ue,uf];try rfl) (wk.le LEL.o) ?_;intro Q s1 P a t;apply R.r;refine ln λl=>?_;replace l:=zX l;apply R.r;refine ze gg a (λC a=>?_) (λC a=>?_)
  ·apply R.r;refine zL (by kernel_rfl) (R.r ?_);refine zd a (λE n a=>zt rfl rfl (yG rfl el32 gg gg (xk n rfl)) ss ?_);refine zt rfl rfl (w8 (off:=0) (i:=0) (q:=h.toks.length+0) (z:=s1.toNat) (row:=GF.row) (λ_=>rfl) rfl ty30.choose_spec.1 (by decide) gg rfl rfl (wA n).2.2 (yq (cs':=(GF.row E)) ty30.choose_spec.2 rfl rfl) (za rfl)) ss (R.r ?_);refine zd a (λH m a=>zt rfl rfl (yG rfl el32 gg gg (xk m rfl)) ss ?_);refine zt rfl rfl (w8 (off:=0) (i:=0) (q:=h.toks.length+0) (z:=(IntKind.wrap .i64 (s1 - (1:Int))).toNat) (row:=GF.row) (λ_=>rfl) rfl ty30.choose_spec.1 (by decide) gg rfl rfl (wA m).2.2 (yq (cs':=(GF.row H)) ty30.choose_spec.2 rfl rfl) (za rfl)) ss ?_;refine zt rfl rfl (vJ rfl gg gg (bin_eq pk30 rfl)) ss (R.r ?_);refine ze gg a (λx a=>?_) (λx a=>?_)
   ·apply R.r;refine zW a (λB a=>ops_b rfl (e_sufR rfl el32 gg gg B) ss (R.r ?_));refine yF (λ(s2:Int×Int×(List GF))=>zn 1 2 (zn 6 55 [(3,.int .i64 s2.1),(5,.int .i64 s2.2.1)])) (λs2=>h.ext [y4 h 0 3 (s2.2.2.map GF.row)] [s0.length]) a (λ_=>by simp only [zn,xU,ue,uf];try rfl) (wk.le LEL.o) ?_;intro n2 s2 O a s;refine zW a (λb a=>R.r ?_);refine ln λM=>R.r ?_;refine ze gg a (λu a=>?_) (λu a=>?_)
    ·apply R.r;refine zL (by kernel_rfl) (R.r ?_);refine zd a (λI c a=>?_);replace c:=idxS c;refine zt rfl rfl (e_idxS rfl el32 gg gg ⟨c.1,by have:=c.2.1;have:=b;omega⟩) ss ?_;refine zt rfl rfl (w8 (off:=0) (i:=0) (q:=h.toks.length+0) (z:=(s1.toNat+s2.2.1.toNat)) (row:=GF.row) (λ_=>rfl) rfl ty30.choose_spec.1 (by decide) gg rfl b c.2.2 (yq (cs':=(GF.row I)) ty30.choose_spec.2 rfl rfl) (za rfl)) ss (R.r ?_);refine zd a (λK f a=>?_);replace f:=idxS f;refine zt rfl rfl (e_idxS rfl el32 gg gg ⟨f.1,by have:=f.2.1;have:=b;omega⟩) ss ?_;refine zt rfl rfl (w8 (off:=0) (i:=0) (q:=h.toks.length+0) (z:=(s1.toNat+(IntKind.wrap .i64 (s2.2.1 - (1:Int))).toNat)) (row:=GF.row) (λ_=>rfl) rfl ty30.choose_spec.1 (by decide) gg rfl b f.2.2 (yq (cs':=(GF.row K)) ty30.choose_spec.2 rfl rfl) (za rfl)) ss ?_;refine zt rfl rfl (vJ rfl gg gg (bin_ne pk30 rfl)) ss (R.r ?_);refine ze gg a (λv a=>?_) (λv a=>?_)
     ·apply R.r;refine zd a (λk e a=>?_);replace e:=idxS e;refine zc rfl (e_idxS rfl el32 gg gg ⟨e.1,by have:=e.2.1;have:=b;omega⟩) ss ?_;refine zc rfl (w8 (off:=0) (i:=0) (q:=h.toks.length+0) (z:=(s1.toNat+s2.2.1.toNat)) (row:=GF.row) (λ_=>rfl) rfl ty30.choose_spec.1 (by decide) gg rfl b e.2.2 (yq (cs':=(GF.row k)) ty30.choose_spec.2 rfl rfl) (za rfl)) ss ?_;refine zd a (λN p a=>zc rfl (yG rfl el32 gg gg (xk p b)) ss ?_);refine zc rfl (qT (off:=0) (i:=0) (q:=h.toks.length+0) (z:=s2.1.toNat) (row:=GF.row) (y':=k) (us:=(GF.row k)) (B':=[y4 h 0 3 ((s2.2.2.set s2.1.toNat k).map GF.row)]) (λ_=>rfl) rfl ty30.choose_spec.1 gg gg (za rfl) rfl rfl rfl rfl b (wA p).2.2 (by decide) rfl rfl) rfl (R.r ?_);cases a;exact ⟨((IntKind.wrap .i64 (s2.1+(1:Int))),(IntKind.wrap .i64 (s2.2.1+(1:Int))),(s2.2.2.set s2.1.toNat k)),s,wk.le LEL.o⟩
     ·apply R.r;cases a;exact ⟨(s2.1,(IntKind.wrap .i64 (s2.2.1+(1:Int))),s2.2.2),s,wk.le LEL.o⟩
    ·apply R.r;cases a;replace a:=s;apply R.r;refine zW a (λg a=>ops_b rfl (e_sufR rfl el32 gg gg g) ss ?_);refine ops_b rfl (e_clrR (i:=0) (q:=h.toks.length+0) (L:=s2.2.2) (row:=GF.row) (d:=(GF.mk (GK.mk (0:Int) (0:Int)) (0:Int))) (B':=[y4 h 0 3 ((s2.2.2.take s2.1.toNat++List.replicate (s0.length - s2.1.toNat) (GF.mk (GK.mk (0:Int) (0:Int)) (0:Int))).map GF.row)]) (λ_=>rfl) rfl rfl rfl rfl el32 ze30 rfl gg rfl b (pD.2 g.2) rfl) rfl (R.r ?_);refine zd a (λy A a=>ops_b rfl (e_cutR (i:=0) (j:=0) (L:=(s2.2.2.take s2.1.toNat++List.replicate (s0.length - s2.1.toNat) (GF.mk (GK.mk (0:Int) (0:Int)) (0:Int)))) (row:=GF.row) (B':=[.dead,y4 h 1 3 (y.map GF.row)]) (T':=[s0.length+1,y.length]) rfl el32 gg gg rfl (clr_len b (pD.2 g.2)) A rfl rfl rfl rfl) ss (R.r ?_));cases a;replace a:=t;apply R.r;cases a;refine fr rfl (xq ?_);exact ⟨rfl,_,rfl⟩
   ·apply R.r;cases a;exact ⟨(IntKind.wrap .i64 (s1+(1:Int))),t,wk.le LEL.o⟩
  ·apply R.r;cases a;replace a:=t;apply R.r;cases a;refine fr rfl (fin_turn0 (row:=GF.row) ?_);exact ⟨rfl,_,rfl⟩
theorem okR147 {bl F:Nat} {s0:(List GH)} {w:(GH->Option Bool)} {s:FuncId} {e f:List AV} {res:(List GH)} (G:h.blks.length=bl) (J:h.toks.length=F) (l:∀E v (L:List Blk) (M:List Nat),w E=some v->Sp s (e++[.agg (GH.row E)]++f) (h.ext L M) (yo (.bool v) (h.ext L M))) (b:∀n m,h.blks.length<=n->h.toks.length<=m->zA n m e=true) (a:∀n m,h.blks.length<=n->h.toks.length<=m->zA n m f=true) (c:xN s0 w=some res):Sp 147 [.rsl bl F 5 s0.length,.fn (.func s) e f] (h.ext [.row F 5 (s0.map GH.row)] [s0.length]) (TurnK h bl F 5 res.length (res.map GH.row)):=by
 unfold xN at c;subst G J;refine zD Tryz.func147 rfl (by kernel_rfl) (yI 42 rfl) (R.r ?_);refine zd c (λv1 I c=>cp (row_read (B1:=[]) (T1:=[]) (okR174 (by simp [AH.ext]) (by simp [AH.ext]) (λE v L M S=>by rw [zQ];exact l E v _ _ S) (λn m K H=>b n m (by simp [AH.ext] at K;omega) (by simp [AH.ext] at H;omega)) (λn m K H=>a n m (by simp [AH.ext] at K;omega) (by simp [AH.ext] at H;omega)) I) rfl rfl) (R.r ?_));refine ze gg c (λN c=>?_) (λN c=>?_)
 ·apply R.r;cases c;refine fr rfl (fin_turn0 (row:=GH.row) ?_);exact ⟨rfl,_,rfl⟩
 ·apply R.r;refine yF (λ(s1:Int×Int×(List GH))=>zn 2 3 (zn 7 35 [(5,.int .i64 s1.1),(6,.int .i64 s1.2.1)])) (λs1=>h.ext [y4 h 0 5 (s1.2.2.map GH.row)] [s0.length]) c (λ_=>by simp only [zn,xU,ue,uf];try rfl) (wk.le LEL.o) ?_;intro U s1 T c x;refine zW c (λk c=>R.r ?_);refine ln λO=>R.r ?_;refine ze gg c (λB c=>?_) (λB c=>?_)
  ·apply R.r;refine zd c (λg t c=>zc rfl (yG rfl el61 gg gg (xk t k)) ss ?_);refine zc rfl (w8 (off:=0) (i:=0) (q:=h.toks.length+0) (z:=s1.2.1.toNat) (row:=GH.row) (λ_=>rfl) rfl ty60.choose_spec.1 (by decide) gg rfl k (wA t).2.2 (yq (cs':=(GH.row g)) ty60.choose_spec.2 rfl rfl) (za rfl)) ss (R.r ?_);refine zd c (λP A c=>x7 rfl (scC rfl) (l _ _ _ _ A) ss (R.r ?_));refine ze gg c (λC c=>?_) (λC c=>?_)
   ·apply R.r;refine zd c (λQ u c=>zc rfl (yG rfl el61 gg gg (xk u k)) ss ?_);refine zc rfl (qT (off:=0) (i:=0) (q:=h.toks.length+0) (z:=s1.1.toNat) (row:=GH.row) (y':=g) (us:=(GH.row g)) (B':=[y4 h 0 5 ((s1.2.2.set s1.1.toNat g).map GH.row),.cells (GH.row g)]) (λ_=>rfl) rfl ty60.choose_spec.1 gg gg (za rfl) rfl rfl rfl rfl k (wA u).2.2 (by decide) rfl rfl) rfl (R.r ?_);cases c;exact ⟨((IntKind.wrap .i64 (s1.1+(1:Int))),(IntKind.wrap .i64 (s1.2.1+(1:Int))),(s1.2.2.set s1.1.toNat g)),x,wk.trans (wk.le LEL.o) (yj (by simp [zA,AV.low,b,a]) rfl rfl (by simp [Blk.low,zA,AV.low,b,a]))⟩
   ·apply R.r;cases c;exact ⟨(s1.1,(IntKind.wrap .i64 (s1.2.1+(1:Int))),s1.2.2),x,wk.trans (wk.le LEL.o) (yj (by simp [zA,AV.low,b,a]) rfl rfl (by simp [Blk.low,zA,AV.low,b,a]))⟩
  ·apply R.r;cases c;replace c:=x;apply R.r;refine zW c (λp c=>ops_b rfl (e_sufR rfl el61 gg gg p) ss ?_);refine ops_b rfl (e_clrR (i:=0) (q:=h.toks.length+0) (L:=s1.2.2) (row:=GH.row) (d:=(GH.mk (0:Int) (GF.mk (GK.mk (0:Int) (0:Int)) (0:Int)) ([]:zx))) (B':=[y4 h 0 5 ((s1.2.2.take s1.1.toNat++List.replicate (s0.length - s1.1.toNat) (GH.mk (0:Int) (GF.mk (GK.mk (0:Int) (0:Int)) (0:Int)) ([]:zx))).map GH.row)]) (λ_=>rfl) rfl rfl rfl rfl el61 ze60 rfl gg rfl k (pD.2 p.2) rfl) rfl (R.r ?_);refine zd c (λy D c=>ops_b rfl (e_cutR (i:=0) (j:=0) (L:=(s1.2.2.take s1.1.toNat++List.replicate (s0.length - s1.1.toNat) (GH.mk (0:Int) (GF.mk (GK.mk (0:Int) (0:Int)) (0:Int)) ([]:zx)))) (row:=GH.row) (B':=[.dead,y4 h 1 5 (y.map GH.row)]) (T':=[s0.length+1,y.length]) rfl el61 gg gg rfl (clr_len k (pD.2 p.2)) D rfl rfl rfl rfl) ss (R.r ?_));cases c;refine fr rfl (xq ?_);exact ⟨rfl,_,rfl⟩
theorem ok148 {d:GH} {e:GJ} {i0:Nat} (b:h.blk i0=some (.cells (GJ.row e))) (a:wv d e=some res):Sp 148 [.agg (GH.row d),.ptr i0 0] h (yo (.bool res) h):=by
 unfold wv at a;refine zb Tryz.func148 rfl (by kernel_rfl) (yI 10 rfl) (R.r ?_);refine zc rfl (b_load rfl ty32 gg b (yx rfl) (za rfl)) ss (R.r ?_);refine zd a (λv1 c a=>cp (ok142 c) (R.r ?_));cases a;exact fz rfl rfl
end Go.Vv
