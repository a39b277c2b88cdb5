/- Each function that the law reaches computes what its reading says; printed by a program. -/
import Derived.Test.YtandnkcefogjeaaGreatW2
namespace Go.Vv
open Go Go.Proofs
set_option maxRecDepth 100000
set_option synthInstance.maxSize 100000
set_option synthInstance.maxHeartbeats 1000000
set_option maxHeartbeats 1000000
set_option linter.unusedSimpArgs false
set_option linter.unusedVariables false
theorem ok181 {l:(List GItem)} {a:GItem} {j:(GItem->GItem->Option Int)} {f:FuncId} {d c:List AV} {res:(Int×Bool)} {h:AH} (g:∀l C v (L:List Blk) (M:List Nat),j l C=some v->Spec Tryz.prog f (d++[.agg (GItem.row l),.agg (GItem.row C)]++c) (h.ext L M) (ya (.int .i64 v) (h.ext L M))) (b:zN l a j=some res):Spec Tryz.prog 181 [.sl 5 (l.map GItem.row),.agg (GItem.row a),.fn (.func f) d c] h (ya (.tup [.int .i64 res.1,.bool res.2]) h):=by
 unfold zN at b;refine zL Tryz.func181 rfl (by kernel_rfl) (yj 49 rfl) (λe H=>?_);simp only [zB,AV.low,Bool.and_eq_true,Bool.true_and,and_true] at e;have p:∀n m,h.blks.length<=n->h.toks.length<=m->zB n m d=true:=λn m A B=>zW A B _ (by simp [e]);have t:∀n m,h.blks.length<=n->h.toks.length<=m->zB n m c=true:=λn m A B=>zW A B _ (by simp [e]);refine R.r ?_;refine ln λu=>?_;replace u:=zU u;refine R.r ?_;refine xQ (λ(i:Int×Int)=>zD [1,3,5,6,7,11,12,13,14,15,16,17,18,19,20,21,22,23,24,25,26,27,28,29,30,31,32,33,34,35,36,37,38,39,40,41,42,43,44,45,46,47,48] [(9,.int .i64 i.1),(10,.int .i64 i.2)]) (λi=>h.ext [.cells (GItem.row a)] []) b (λ_=>by simp only [zD,wg,List.set_cons_succ,List.set_cons_zero];try rfl) (wk.le LEL.o) ?_;intro I i J b k;refine R.r ?_;refine zc gg b (λy b=>?_) (λy b=>?_)
 ·refine R.r ?_;refine zd rfl (s_convert rfl ty3 ty172 gg rfl) ss (R.r ?_);refine zd rfl (s_convert rfl ty172 ty3 gg rfl) ss (R.r ?_);refine zt [] [] trivial mixed (by kernel_rfl) (R.r ?_);refine zf b (λG w b=>dix w ?_);refine R.r ?_;refine zf b (λF z b=>ww rfl rfl (scC rfl) (g _ _ _ _ _ z) ss ?_);refine R.r ?_;refine zc gg b (λs b=>?_) (λs b=>?_)
  ·refine R.r ?_;cases b;exact ⟨((IntKind.wrap .i64 ((IntKind.wrap .i64 ((Int.fdiv (IntKind.wrap .u64 ((IntKind.wrap .i64 (i.1+i.2)))) (2 ^ (min (1:Int).toNat (IntKind.bits .u64))))))+(1:Int))),i.2),k,wk.le LEL.o⟩
  ·refine R.r ?_;cases b;exact ⟨(i.1,(IntKind.wrap .i64 ((Int.fdiv (IntKind.wrap .u64 ((IntKind.wrap .i64 (i.1+i.2)))) (2 ^ (min (1:Int).toNat (IntKind.bits .u64))))))),k,wk.le LEL.o⟩
 ·refine R.r ?_;cases b;replace b:=k;refine R.r ?_;refine zt [] [] trivial mixed (by kernel_rfl) (R.r ?_);refine zV b (λx b=>vP x ?_);refine R.r ?_;refine zG b (λD q b=>yd rfl rfl scC (λE=>g _ _ _ _ _ (q E)) ss ?_);refine R.r ?_;cases b;exact fz rfl rfl
def ins183TryzRen:Go.Shelf.Ren :=
  { f:=λx=>match x with
      | 22=>183
      | 29=>199
      | 30=>200
      | n=>n
    t:=λx=>match x with
      | 0=>0
      | 3=>3
      | 4=>4
      | 9=>115
      | 24=>53
      | n=>n
    g:=λn=>n }
theorem ins183TryzLays:InsLays Tryz.prog ins183TryzRen 53 5 where
  mixed:=by kernel_rfl
  f22:=⟨Tryz.f183.name,Tryz.f183.targs,Tryz.func183.trans (by kernel_rfl),by kernel_rfl⟩
  f29:=λargs w=>run_callFunc_extern Tryz.func199 (by kernel_rfl) (by kernel_rfl) (by kernel_rfl) (e:=Extern.SlicesOverlaps.overlaps #[53,53] #[4]) (by kernel_rfl) args w
  t0:=Tryz.underlying0
  a0:=Tryz.isAgg0
  z0:=Tryz.sizeOf0
  v0:=Tryz.zeroValue0
  t3:=Tryz.underlying3
  a3:=Tryz.isAgg3
  z3:=Tryz.sizeOf3
  v3:=Tryz.zeroValue3
  t4:=Tryz.underlying4
  a4:=Tryz.isAgg4
  z4:=Tryz.sizeOf4
  v4:=Tryz.zeroValue4
  t24:=Tryz.underlying53
  a24:=Tryz.isAgg53
  z24:=Tryz.sizeOf53
  v24:=Tryz.zeroValue53
  t23:=Tryz.underlying53
  a23:=Tryz.isAgg53
  z23:=Tryz.sizeOf53
  v23:=Tryz.zeroValue53
  i9:=⟨_,_,rfl,rfl,rfl,rfl,by decide⟩
  k0:=by decide
def sort154TryzRen:Go.Shelf.Ren :=
  { f:=λx=>match x with
      | 6=>154
      | 15=>148
      | 14=>184
      | 28=>177
      | 29=>178
      | 20=>201
      | 21=>202
      | 22=>203
      | 23=>204
      | 24=>205
      | 25=>206
      | 26=>207
      | 27=>208
      | 46=>215
      | 47=>195
      | 48=>196
      | 49=>216
      | 50=>217
      | 57=>220
      | n=>n
    t:=λx=>match x with
      | 22=>32
      | 24=>30
      | 25=>179
      | 3=>3
      | 39=>172
      | 0=>0
      | 53=>25
      | 55=>28
      | 4=>4
      | 46=>192
      | 45=>191
      | 50=>130
      | 5=>5
      | 9=>9
      | 66=>211
      | 70=>215
      | 76=>226
      | 77=>227
      | n=>n
    g:=λn=>n }
theorem sort154TryzLays:Go.Proofs.SlLaysF0.n6 Tryz.prog sort154TryzRen where
  mixed:=mixed
  f6:=⟨Tryz.f154.name,by kernel_rfl,Tryz.func154.trans (by kernel_rfl)⟩
  f15:=Tryz.func148.trans (by kernel_rfl)
  f14:=⟨Tryz.f184.name,by kernel_rfl,Tryz.func184.trans (by kernel_rfl)⟩
  f28:=Tryz.func177.trans (by kernel_rfl)
  f29:=Tryz.func178.trans (by kernel_rfl)
  f20:=⟨Tryz.f201.name,by kernel_rfl,Tryz.func201.trans (by kernel_rfl)⟩
  f21:=⟨Tryz.f202.name,by kernel_rfl,Tryz.func202.trans (by kernel_rfl)⟩
  f22:=⟨Tryz.f203.name,by kernel_rfl,Tryz.func203.trans (by kernel_rfl)⟩
  f23:=⟨Tryz.f204.name,by kernel_rfl,Tryz.func204.trans (by kernel_rfl)⟩
  f24:=⟨Tryz.f205.name,by kernel_rfl,Tryz.func205.trans (by kernel_rfl)⟩
  f25:=⟨Tryz.f206.name,by kernel_rfl,Tryz.func206.trans (by kernel_rfl)⟩
  f26:=⟨Tryz.f207.name,by kernel_rfl,Tryz.func207.trans (by kernel_rfl)⟩
  f27:=⟨Tryz.f208.name,by kernel_rfl,Tryz.func208.trans (by kernel_rfl)⟩
  f46:=⟨Tryz.f215.name,by kernel_rfl,Tryz.func215.trans (by kernel_rfl)⟩
  f47:=Tryz.func195.trans (by kernel_rfl)
  f48:=Tryz.func196.trans (by kernel_rfl)
  f49:=⟨Tryz.f216.name,by kernel_rfl,Tryz.func216.trans (by kernel_rfl)⟩
  f50:=⟨Tryz.f217.name,by kernel_rfl,Tryz.func217.trans (by kernel_rfl)⟩
  f57:=⟨Tryz.f220.name,by kernel_rfl,Tryz.func220.trans (by kernel_rfl)⟩
  t0:=Tryz.underlying0
  a0:=Tryz.isAgg0
  z0:=Tryz.sizeOf0
  v0:=Tryz.zeroValue0
  t3:=Tryz.underlying3
  a3:=Tryz.isAgg3
  z3:=Tryz.sizeOf3
  v3:=Tryz.zeroValue3
  t4:=Tryz.underlying4
  a4:=Tryz.isAgg4
  z4:=Tryz.sizeOf4
  v4:=Tryz.zeroValue4
  t5:=Tryz.underlying5
  a5:=Tryz.isAgg5
  z5:=Tryz.sizeOf5
  v5:=Tryz.zeroValue5
  t9:=Tryz.underlying9
  a9:=Tryz.isAgg9
  z9:=Tryz.sizeOf9
  v9:=Tryz.zeroValue9
  t22:=Tryz.underlying32
  a22:=Tryz.isAgg32
  z22:=Tryz.sizeOf32
  v22:=Tryz.zeroValue32
  t25:=Tryz.underlying179
  a25:=Tryz.isAgg179
  z25:=Tryz.sizeOf179
  v25:=Tryz.zeroValue179
  t39:=Tryz.underlying172
  a39:=Tryz.isAgg172
  z39:=Tryz.sizeOf172
  v39:=Tryz.zeroValue172
  t45:=Tryz.underlying191
  a45:=Tryz.isAgg191
  z45:=Tryz.sizeOf191
  v45:=Tryz.zeroValue191
  t46:=Tryz.underlying192
  a46:=Tryz.isAgg192
  z46:=Tryz.sizeOf192
  v46:=Tryz.zeroValue192
  t50:=Tryz.underlying130
  a50:=Tryz.isAgg130
  z50:=Tryz.sizeOf130
  v50:=Tryz.zeroValue130
  t53:=Tryz.underlying25
  a53:=Tryz.isAgg25
  z53:=Tryz.sizeOf25
  v53:=Tryz.zeroValue25
  t55:=Tryz.underlying28
  a55:=Tryz.isAgg28
  z55:=Tryz.sizeOf28
  v55:=Tryz.zeroValue28
  t66:=Tryz.underlying211
  a66:=Tryz.isAgg211
  z66:=Tryz.sizeOf211
  v66:=Tryz.zeroValue211
  t70:=Tryz.underlying215
  a70:=Tryz.isAgg215
  z70:=Tryz.sizeOf215
  v70:=Tryz.zeroValue215
  t76:=Tryz.underlying226
  a76:=Tryz.isAgg226
  z76:=Tryz.sizeOf226
  v76:=Tryz.zeroValue226
  t77:=Tryz.underlying227
  a77:=Tryz.isAgg227
  z77:=Tryz.sizeOf227
  v77:=Tryz.zeroValue227
theorem okR156 {J F:Nat} {l:(List GDot)} {res:(List GDot)} {h:AH} (N:h.blks.length=J) (O:h.toks.length=F) (a:wb l=some res):Spec Tryz.prog 156 [.rsl J F 3 l.length] (h.ext [.row F 3 (l.map GDot.row)] [l.length]) (TurnK h J F 3 res.length (res.map GDot.row)):=by
 unfold wb at a;subst N O;refine yv Tryz.func156 rfl (by kernel_rfl) (yj 61 rfl) (R.r ?_);refine ln λC=>?_;replace C:=zU C;refine R.r ?_;refine zc gg a (λI a=>?_) (λI a=>?_)
 ·refine R.r ?_;cases a;refine fr rfl (fin_turn0 (row:=GDot.row) ?_);exact ⟨rfl,_,rfl⟩
 ·refine R.r ?_;refine xQ (λ(m:Int)=>zD [1,2,4,5,6,7,8,9,10,11,12,13,14,15,16,17,18,19,20,21,22,23,24,25,26,27,28,29,30,31,32,33,34,35,36,37,38,39,40,41,42,43,44,45,46,47,48,49,50,51,52,53,54,55,56,57,58,59,60] [(3,.int .i64 m)]) (λm=>h.ext [.row (h.toks.length+0) 3 (l.map GDot.row)] [l.length]) a (λ_=>by simp only [zD,wg,List.set_cons_succ,List.set_cons_zero];try rfl) (wk.le LEL.o) ?_;intro T m U a u;refine R.r ?_;refine ln λn=>?_;replace n:=zU n;refine R.r ?_;refine zc gg a (λE a=>?_) (λE a=>?_)
  ·refine R.r ?_;refine zt [] [] trivial mixed (by kernel_rfl) (R.r ?_);refine zf a (λH s a=>zz rfl rfl (wm rfl el32 gg gg (vN s rfl)) ss ?_);refine zz rfl rfl (e_ldR (off:=0) (i:=0) (q:=h.toks.length+0) (z:=m.toNat) (row:=GDot.row) (λ_=>rfl) rfl ty30.choose_spec.1 (by decide) gg rfl rfl (idxR s).2.2 (xH (cs':=(GDot.row H)) ty30.choose_spec.2 rfl rfl) (zb rfl)) ss (R.r ?_);refine zf a (λG p a=>zz rfl rfl (wm rfl el32 gg gg (vN p rfl)) ss ?_);refine zz rfl rfl (e_ldR (off:=0) (i:=0) (q:=h.toks.length+0) (z:=(IntKind.wrap .i64 (m - (1:Int))).toNat) (row:=GDot.row) (λ_=>rfl) rfl ty30.choose_spec.1 (by decide) gg rfl rfl (idxR p).2.2 (xH (cs':=(GDot.row G)) ty30.choose_spec.2 rfl rfl) (zb rfl)) ss ?_;refine zz rfl rfl (vH rfl gg gg (bin_eq pk30 rfl)) ss (R.r ?_);refine zc gg a (λx a=>?_) (λx a=>?_)
   ·refine R.r ?_;refine zV a (λA a=>qP rfl (e_sufR rfl el32 gg gg A) ss ?_);refine R.r ?_;refine xQ (λ(s2:Int×Int×(List GDot))=>zD [1,2,6,7,8,9,10,11,12,13,14,15,16,17,18,19,20,21,22,23,24,25,26,27,28,29,30,31,32,33,34,35,36,37,38,39,40,41,42,43,44,45,46,47,48,49,50,51,52,53,54,55,56,57,58,59,60] [(3,.int .i64 s2.1),(5,.int .i64 s2.2.1)]) (λs2=>h.ext [.row (h.toks.length+0) 3 (s2.2.2.map GDot.row)] [l.length]) a (λ_=>by simp only [zD,wg,List.set_cons_succ,List.set_cons_zero];try rfl) (wk.le LEL.o) ?_;intro n2 s2 S a v;refine zV a (λb a=>R.r ?_);refine ln λP=>R.r ?_;refine zc gg a (λy a=>?_) (λy a=>?_)
    ·refine R.r ?_;refine zt [] [] trivial mixed (by kernel_rfl) (R.r ?_);refine zf a (λM f a=>?_);replace f:=idxS f;refine zz rfl rfl (e_idxS rfl el32 gg gg ⟨f.1,by have:=f.2.1;have:=b;omega⟩) ss ?_;refine zz rfl rfl (e_ldR (off:=0) (i:=0) (q:=h.toks.length+0) (z:=(m.toNat+s2.2.1.toNat)) (row:=GDot.row) (λ_=>rfl) rfl ty30.choose_spec.1 (by decide) gg rfl b f.2.2 (xH (cs':=(GDot.row M)) ty30.choose_spec.2 rfl rfl) (zb rfl)) ss (R.r ?_);refine zf a (λK e a=>?_);replace e:=idxS e;refine zz rfl rfl (e_idxS rfl el32 gg gg ⟨e.1,by have:=e.2.1;have:=b;omega⟩) ss ?_;refine zz rfl rfl (e_ldR (off:=0) (i:=0) (q:=h.toks.length+0) (z:=(m.toNat+(IntKind.wrap .i64 (s2.2.1 - (1:Int))).toNat)) (row:=GDot.row) (λ_=>rfl) rfl ty30.choose_spec.1 (by decide) gg rfl b e.2.2 (xH (cs':=(GDot.row K)) ty30.choose_spec.2 rfl rfl) (zb rfl)) ss ?_;refine zz rfl rfl (vH rfl gg gg (bin_ne pk30 rfl)) ss (R.r ?_);refine zc gg a (λD a=>?_) (λD a=>?_)
     ·refine R.r ?_;refine zf a (λk c a=>?_);replace c:=idxS c;refine zd rfl (e_idxS rfl el32 gg gg ⟨c.1,by have:=c.2.1;have:=b;omega⟩) ss ?_;refine zd rfl (e_ldR (off:=0) (i:=0) (q:=h.toks.length+0) (z:=(m.toNat+s2.2.1.toNat)) (row:=GDot.row) (λ_=>rfl) rfl ty30.choose_spec.1 (by decide) gg rfl b c.2.2 (xH (cs':=(GDot.row k)) ty30.choose_spec.2 rfl rfl) (zb rfl)) ss ?_;refine zf a (λQ t a=>zd rfl (wm rfl el32 gg gg (vN t b)) ss ?_);refine zd rfl (e_stR (off:=0) (i:=0) (q:=h.toks.length+0) (z:=s2.1.toNat) (row:=GDot.row) (y':=k) (us:=(GDot.row k)) (B':=[.row (h.toks.length+0) 3 ((s2.2.2.set s2.1.toNat k).map GDot.row)]) (λ_=>rfl) rfl ty30.choose_spec.1 gg gg (zb rfl) rfl rfl rfl rfl b (idxR t).2.2 (by decide) rfl rfl) rfl (R.r ?_);cases a;exact ⟨((IntKind.wrap .i64 (s2.1+(1:Int))),(IntKind.wrap .i64 (s2.2.1+(1:Int))),(s2.2.2.set s2.1.toNat k)),v,wk.le LEL.o⟩
     ·refine R.r ?_;cases a;exact ⟨(s2.1,(IntKind.wrap .i64 (s2.2.1+(1:Int))),s2.2.2),v,wk.le LEL.o⟩
    ·refine R.r ?_;cases a;replace a:=v;refine R.r ?_;refine zV a (λg a=>qP rfl (e_sufR rfl el32 gg gg g) ss ?_);refine qP rfl (e_clrR (i:=0) (q:=h.toks.length+0) (L:=s2.2.2) (row:=GDot.row) (d:=(GDot.mk (GActor.mk (0:Int) (0:Int)) (0:Int))) (B':=[.row (h.toks.length+0) 3 ((s2.2.2.take s2.1.toNat++List.replicate (l.length - s2.1.toNat) (GDot.mk (GActor.mk (0:Int) (0:Int)) (0:Int))).map GDot.row)]) (λ_=>rfl) rfl rfl rfl rfl el32 ze30 rfl gg rfl b (Int.toNat_le.2 g.2) rfl) rfl (R.r ?_);refine zf a (λw B a=>qP rfl (e_cutR (i:=0) (j:=0) (L:=(s2.2.2.take s2.1.toNat++List.replicate (l.length - s2.1.toNat) (GDot.mk (GActor.mk (0:Int) (0:Int)) (0:Int)))) (row:=GDot.row) (B':=[.dead,.row (h.toks.length+1) 3 (w.map GDot.row)]) (T':=[l.length+1,(w).length]) rfl el32 gg gg rfl (clr_len b (Int.toNat_le.2 g.2)) B rfl rfl rfl rfl) ss ?_);refine R.r ?_;cases a;replace a:=u;refine R.r ?_;cases a;refine fr rfl (fin_at ?_);exact ⟨rfl,_,rfl⟩
   ·refine R.r ?_;cases a;exact ⟨(IntKind.wrap .i64 (m+(1:Int))),u,wk.le LEL.o⟩
  ·refine R.r ?_;cases a;replace a:=u;refine R.r ?_;cases a;refine fr rfl (fin_turn0 (row:=GDot.row) ?_);exact ⟨rfl,_,rfl⟩
theorem okR157 {K H:Nat} {y:(List GItem)} {x:(GItem->Option Bool)} {s:FuncId} {f g:List AV} {res:(List GItem)} {h:AH} (N:h.blks.length=K) (O:h.toks.length=H) (t:∀G v (L:List Blk) (M:List Nat),x G=some v->Spec Tryz.prog s (f++[.agg (GItem.row G)]++g) (h.ext L M) (ya (.bool v) (h.ext L M))) (b:∀n m,h.blks.length<=n->h.toks.length<=m->zB n m f=true) (a:∀n m,h.blks.length<=n->h.toks.length<=m->zB n m g=true) (c:xh y x=some res):Spec Tryz.prog 157 [.rsl K H 5 y.length,.fn (.func s) f g] (h.ext [.row H 5 (y.map GItem.row)] [y.length]) (TurnK h K H 5 res.length (res.map GItem.row)):=by
 unfold xh at c;subst N O;refine yv Tryz.func157 rfl (by kernel_rfl) (yj 42 rfl) (R.r ?_);refine zf c (λW Q c=>cp (row_read (B1:=[]) (T1:=[]) (okR187 (by simp [AH.ext]) (by simp [AH.ext]) (λG v L M T=>by rw [y8];exact t G v _ _ T) (λn m I P=>b n m (by simp [AH.ext] at I;omega) (by simp [AH.ext] at P;omega)) (λn m I P=>a n m (by simp [AH.ext] at I;omega) (by simp [AH.ext] at P;omega)) Q) rfl rfl) ?_);refine R.r ?_;refine zc gg c (λJ c=>?_) (λJ c=>?_)
 ·refine R.r ?_;cases c;refine fr rfl (fin_turn0 (row:=GItem.row) ?_);exact ⟨rfl,_,rfl⟩
 ·refine R.r ?_;refine xQ (λ(e:Int×Int×(List GItem))=>zD [2,3,4,7,8,9,10,11,12,13,14,15,16,17,18,19,20,21,22,23,24,25,26,27,28,29,30,31,32,33,34,35,36,37,38,39,40,41] [(5,.int .i64 e.1),(6,.int .i64 e.2.1)]) (λe=>h.ext [.row (h.toks.length+0) 5 (e.2.2.map GItem.row)] [y.length]) c (λ_=>by simp only [zD,wg,List.set_cons_succ,List.set_cons_zero];try rfl) (wk.le LEL.o) ?_;intro X e Y c A;refine zV c (λk c=>R.r ?_);refine ln λS=>R.r ?_;refine zc gg c (λD c=>?_) (λD c=>?_)
  ·refine R.r ?_;refine zf c (λl w c=>zd rfl (wm rfl el53 gg gg (vN w k)) ss ?_);refine zd rfl (e_ldR (off:=0) (i:=0) (q:=h.toks.length+0) (z:=e.2.1.toNat) (row:=GItem.row) (λ_=>rfl) rfl ty115.choose_spec.1 (by decide) gg rfl k (idxR w).2.2 (xH (cs':=(GItem.row l)) ty115.choose_spec.2 rfl rfl) (zb rfl)) ss (R.r ?_);refine zf c (λU E c=>yM rfl (scC rfl) (t _ _ _ _ E) ss ?_);refine R.r ?_;refine zc gg c (λC c=>?_) (λC c=>?_)
   ·refine R.r ?_;refine zf c (λV u c=>zd rfl (wm rfl el53 gg gg (vN u k)) ss ?_);refine zd rfl (e_stR (off:=0) (i:=0) (q:=h.toks.length+0) (z:=e.1.toNat) (row:=GItem.row) (y':=l) (us:=(GItem.row l)) (B':=[.row (h.toks.length+0) 5 ((e.2.2.set e.1.toNat l).map GItem.row),.cells (GItem.row l)]) (λ_=>rfl) rfl ty115.choose_spec.1 gg gg (zb rfl) rfl rfl rfl rfl k (idxR u).2.2 (by decide) rfl rfl) rfl (R.r ?_);cases c;exact ⟨((IntKind.wrap .i64 (e.1+(1:Int))),(IntKind.wrap .i64 (e.2.1+(1:Int))),(e.2.2.set e.1.toNat l)),A,wk.trans (wk.le LEL.o) (yl (by simp [zB,AV.low,b,a]) rfl rfl (by simp [Blk.low,zB,AV.low,b,a]))⟩
   ·refine R.r ?_;cases c;exact ⟨(e.1,(IntKind.wrap .i64 (e.2.1+(1:Int))),e.2.2),A,wk.trans (wk.le LEL.o) (yl (by simp [zB,AV.low,b,a]) rfl rfl (by simp [Blk.low,zB,AV.low,b,a]))⟩
  ·refine R.r ?_;cases c;replace c:=A;refine R.r ?_;refine zV c (λp c=>qP rfl (e_sufR rfl el53 gg gg p) ss ?_);refine qP rfl (e_clrR (i:=0) (q:=h.toks.length+0) (L:=e.2.2) (row:=GItem.row) (d:=(GItem.mk (0:Int) (GDot.mk (GActor.mk (0:Int) (0:Int)) (0:Int)) ([]:zk))) (B':=[.row (h.toks.length+0) 5 ((e.2.2.take e.1.toNat++List.replicate (y.length - e.1.toNat) (GItem.mk (0:Int) (GDot.mk (GActor.mk (0:Int) (0:Int)) (0:Int)) ([]:zk))).map GItem.row)]) (λ_=>rfl) rfl rfl rfl rfl el53 ze115 rfl gg rfl k (Int.toNat_le.2 p.2) rfl) rfl (R.r ?_);refine zf c (λF B c=>qP rfl (e_cutR (i:=0) (j:=0) (L:=(e.2.2.take e.1.toNat++List.replicate (y.length - e.1.toNat) (GItem.mk (0:Int) (GDot.mk (GActor.mk (0:Int) (0:Int)) (0:Int)) ([]:zk)))) (row:=GItem.row) (B':=[.dead,.row (h.toks.length+1) 5 (F.map GItem.row)]) (T':=[y.length+1,(F).length]) rfl el53 gg gg rfl (clr_len k (Int.toNat_le.2 p.2)) B rfl rfl rfl rfl) ss ?_);refine R.r ?_;cases c;refine fr rfl (fin_at ?_);exact ⟨rfl,_,rfl⟩
theorem ok158 {f:GItem} {e:GEvent} {d:Nat} {res:Bool} {h:AH} (b:h.blk d=some (.cells (GEvent.row e))) (a:xS f e=some res):Spec Tryz.prog 158 [.agg (GItem.row f),.ptr d 0] h (ya (.bool res) h):=by
 unfold xS at a;refine za Tryz.func158 rfl (by kernel_rfl) (yj 10 rfl) (R.r ?_);refine zd rfl (qg rfl ty32 gg b (zY rfl) (zb rfl)) ss (R.r ?_);refine zf a (λg c a=>cp (ok152 c) ?_);refine R.r ?_;cases a;exact fz rfl rfl
end Go.Vv
