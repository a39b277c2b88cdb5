/- Each function that the law reaches computes what its reading says; printed by a program. -/
import Derived.Test.YtppafalkommbdaaGreatW2
namespace Go.Vv
open Go Go.Proofs
set_option maxRecDepth 100000
set_option maxHeartbeats 1000000
set_option linter.unusedSimpArgs false
set_option linter.unusedVariables false
/-! slices.BinarySearchFunc[varve/api.Tree,varve/api.Node,string] -/
theorem ok84 {x0:(List GNode)} {target1:zR} {cmp2:(GNode→zR→Option Int)} {fcmp2:FuncId} {acmp2 kcmp2:List AV} {res:(Int×Bool)} {h:AH} (hcmp2:∀ x0 x1 v (L:List Blk) (M:List Nat),cmp2 x0 x1=some v→Spec Tryz.prog fcmp2 (acmp2++[.agg [.str x0.name,.sl 9 (x0.leaves.map GLeaf.row),.sl 3 (x0.subs.map GNode.row)],.str x1]++kcmp2) (h.ext L M) (fun rr hh=>rr=.int .i64 v∧hh=h.ext L M)) (hF:yx x0 target1 cmp2=some res):Spec Tryz.prog 84 [.sl 3 (x0.map GNode.row),.str target1,.fn (.func fcmp2) acmp2 kcmp2] h (fun rr hh=>rr=.tup [.int .i64 res.1,.bool res.2]∧hh=h):=by
 unfold yx at hF
 refine yp Tryz.func84 rfl (by kernel_rfl) (env:=[.sl 3 (x0.map GNode.row),.str target1,.fn (.func fcmp2) acmp2 kcmp2,za,za,za,za,za,za,za,za,za,za,za,za,za,za,za,za,za,za,za,za,za,za,za,za,za,za,za,za,za,za,za,za,za,za,za,za,za,za,za,za,za,za,za,za,za,za]) (by rfl) (fun hlow hC=>?_)
 simp only [yj,AV.low,Bool.and_eq_true,Bool.true_and,and_true] at hlow
 have hlacmp2:∀ n m,h.blks.length≤n→h.toks.length≤m→yj n m acmp2=true:=fun n m h1 h2=>yR h1 h2 _ (by simp [hlow])
 have hlkcmp2:∀ n m,h.blks.length≤n→h.toks.length≤m→yj n m kcmp2=true:=fun n m h1 h2=>yR h1 h2 _ (by simp [hlow])
 refine zk (zd ?_)
 refine zc rfl (zg rfl rfl (zb rfl)) xp ?_
 refine zc rfl (zg rfl rfl (zb rfl)) xK ?_
 refine zf (zi (zk (zd ?_)))
 refine zc rfl (ze rfl yg (zb rfl)) yE ?_
 refine z7 rfl (zQ rfl rfl rfl rfl xa yC z0) yG fun hn1=>?_
 replace hn1:=xg hn1
 refine zc rfl (zg rfl yr (zb rfl)) xH ?_
 refine zf (zi (zk (zd ?_)))
 refine zc rfl (ze rfl yV (zb rfl)) yN ?_
 refine zc rfl (zg rfl rfl (zb rfl)) x8 ?_
 refine zc rfl (zg rfl yM (zb rfl)) yq ?_
 refine zf (zi (zk (zO ?_)))
 refine qd (fun (s1:Int×Int)=>yB [3,4,5,6,7,11,12,13,14,15,16,17,18,19,20,21,22,23,24,25,26,27,28,29,30,31,32,33,34,35,36,37,38,39,40,41,42,43,44,45,46,47,48] [(9,.int .i64 s1.1),(10,.int .i64 s1.2)]) (fun s1=>h.ext [] []) hF (fun _=>by simp only [yB,qw,List.set_cons_succ,List.set_cons_zero];try rfl) (wk.le (by exact (.eq (.eq (.eq (.d4 (.drop (.eq (.cons (leV.of_eq rfl) (.cons (leV.of_eq rfl) (.d16 (.d16 (.d4 (.drop (.drop leL.nil))))))))))))))) ?_
 intro n1 s1 o1 hF hK1
 refine zk (zk (zd ?_))
 refine zc rfl (ze rfl xl (zb rfl)) yO ?_
 refine zc rfl (ze rfl yi (zb rfl)) yT ?_
 refine zc rfl (zu rfl yL yQ rfl) yZ ?_
 refine zf (zi ?_)
 refine zH yY hF (fun hc8 hF=>?_) (fun hc8 hF=>?_)
 ·refine zI (zi (zO (zk (zd ?_))))
  refine zc rfl (ze rfl xl (zb rfl)) xd ?_
  refine zc rfl (ze rfl yi (zb rfl)) xi ?_
  refine zc rfl (zu rfl xb xh rfl) xA ?_
  refine zc rfl (xk rfl ty3 ty141 xz rfl) xE ?_
  refine zc rfl (zu rfl xB rfl rfl) xI ?_
  refine zc rfl (xk rfl ty141 ty3 xF rfl) xD ?_
  refine zc rfl (zg rfl xu (zb rfl)) yy ?_
  refine zf (zi (zk (zd ?_)))
  refine zc rfl (ze rfl yz (zb rfl)) xM ?_
  refine zc rfl (ze rfl yg (zb rfl)) wa ?_
  refine zc rfl (ze rfl yl (zb rfl)) wi ?_
  refine zS hF (fun y9 hy9 hF=>?_)
  refine zc rfl (xO rfl xa x9 wh wd hy9 (GNode.row_eq _)) wj ?_
  refine zc rfl (zY rfl ty74.choose_spec.1 wm (zL (cs':=[.str y9.name,.sl 9 (y9.leaves.map GLeaf.row),.sl 3 (y9.subs.map GNode.row)]) ty74.choose_spec.2 rfl rfl) (zb rfl)) wn ?_
  refine zc rfl (ze rfl yw (zb rfl)) wD ?_
  refine zS hF (fun v10 hv10 hF=>?_)
  refine zM rfl (s_callC rfl rfl xN (zo wl (zo wz zy)) (.cons (zb rfl) (.cons (zb rfl) .nil)) rfl) (hcmp2 _ _ _ _ _ hv10) wC ?_
  refine zc rfl (zu rfl wM rfl rfl) wI ?_
  refine zf (zi ?_)
  refine zH wL hF (fun hc11 hF=>?_) (fun hc11 hF=>?_)
  ·refine zd ?_
   refine zc rfl (ze rfl yl (zb rfl)) wH ?_
   refine zc rfl (zu rfl wy rfl rfl) wP ?_
   refine zc rfl (zg rfl wT (zb rfl)) x8 ?_
   refine zf (yb (yu ?_))
   obtain rfl:=Option.some.inj hF
   exact ⟨((IntKind.wrap .i64 ((IntKind.wrap .i64 ((Int.fdiv (IntKind.wrap .u64 ((IntKind.wrap .i64 (s1.1+s1.2)))) (2 ^ (min (1:Int).toNat (IntKind.bits .u64))))))+(1:Int))),s1.2),hK1,wk.le (by exact (.eq (.eq (.eq (.d4 (.drop (.eq (.cons (leV.of_eq rfl) (.cons (leV.of_eq rfl) (.d16 (.d16 (.d4 (.drop (.drop leL.nil))))))))))))))⟩
  ·refine zd ?_
   refine zc rfl (ze rfl yl (zb rfl)) wO ?_
   refine zc rfl (zg rfl wK (zb rfl)) yq ?_
   refine zf (yb (yu ?_))
   obtain rfl:=Option.some.inj hF
   exact ⟨(s1.1,(IntKind.wrap .i64 ((Int.fdiv (IntKind.wrap .u64 ((IntKind.wrap .i64 (s1.1+s1.2)))) (2 ^ (min (1:Int).toNat (IntKind.bits .u64))))))),hK1,wk.le (by exact (.eq (.eq (.eq (.d4 (.drop (.eq (.cons (leV.of_eq rfl) (.cons (leV.of_eq rfl) (.d16 (.d16 (.d4 (.drop (.drop leL.nil))))))))))))))⟩
 ·refine yF ?_
  refine zX ?_
  refine zU ?_
  obtain rfl:=Option.some.inj hF
  replace hF:=hK1
  refine zV ?_
  refine zi (zk (zd ?_))
  refine zc rfl (ze rfl xl (zb rfl)) wN ?_
  refine zc rfl (ze rfl xl (zb rfl)) wG ?_
  refine zc rfl (ze rfl yV (zb rfl)) wF ?_
  refine zc rfl (zu rfl wu wJ rfl) wZ ?_
  refine zc rfl (ze rfl w6 (zb rfl)) wY ?_
  refine zp rfl (fun hb=>ze rfl yz (zb rfl)) (sk qP) ?_
  refine zp rfl (fun hb=>ze rfl yg (zb rfl)) (sk qI) ?_
  refine zp rfl (fun hb=>ze rfl xl (zb rfl)) (sk yH) ?_
  refine xG hF (fun hg14 hF=>?_)
  refine zp rfl (fun hb=>qm default rfl xa (zn (gk yw) hb) (zn (gk yz) hb) wd (hg14 hb) (GNode.row_eq _)) (sk xS) ?_
  refine zp rfl (fun hb=>zY rfl ty74.choose_spec.1 (zn (gk yX) hb) (zL (cs':=[.str (((x0).getD s1.1.toNat default).name),.sl 9 ((((x0).getD s1.1.toNat default).leaves).map GLeaf.row),.sl 3 ((((x0).getD s1.1.toNat default).subs).map GNode.row)]) ty74.choose_spec.2 rfl rfl) (zb rfl)) (sk yD) ?_
  refine zp rfl (fun hb=>ze rfl yw (zb rfl)) (sk xw) ?_
  refine yn hF (fun v15 hv15 hF=>?_)
  refine z8 rfl (fun hb=>s_callC rfl rfl (zn (gk yg) hb) (zo (zn (gk yv) hb) (zo (zn (gk yP) hb) zy)) (.cons (zb rfl) (.cons (zb rfl) .nil)) rfl) (fun hb=>hcmp2 _ _ _ _ _ (hv15 hb)) (sk xp) ?_
  refine zp rfl (fun hb=>zu rfl (zn (gk yS) hb) rfl rfl) (sk xK) ?_
  refine zc rfl (zG rfl w5 (gk xn) rfl (zN (fun ht=>gT ht))) (sk xH) ?_
  refine zc rfl (zg rfl wS (zb rfl)) xp ?_
  refine zc rfl (zg rfl (gk yV) (zb rfl)) xK ?_
  refine zf (zi (zJ ?_))
  obtain rfl:=Option.some.inj hF
  refine qe rfl (zC yS (zC xn zD)) (zz (leV.refl _) rfl ?_)
  exact ⟨rfl,rfl⟩
/-! strings.Compare -/
def scmpTryzRen:Go.Shelf.Ren :=
  { f:=fun x=>match x with
      | 106=>86
      | 213=>115
      | 265=>130
      | n=>n
    t:=fun x=>match x with
      | 3=>3
      | 9=>9
      | n=>n
    g:=fun n=>n }
theorem scmpTryzLays:Go.Proofs.Lays.n106 Tryz.prog scmpTryzRen where
  mixed:=mixed
  f106:=Tryz.func86.trans (by kernel_rfl)
  f213:=Tryz.func115.trans (by kernel_rfl)
  f265:=Tryz.func130.trans (by kernel_rfl)
  t3:=Tryz.underlying3
  a3:=Tryz.isAgg3
  z3:=Tryz.sizeOf3
  v3:=Tryz.zeroValue3
  t9:=Tryz.underlying9
  a9:=Tryz.isAgg9
  z9:=Tryz.sizeOf9
  v9:=Tryz.zeroValue9
theorem ok86 {p0:zR} {p1:zR} {res:Int} {h:AH} (hF:stringsCompare p0 p1=some res):Spec Tryz.prog 86 [.str p0,.str p1] h (fun rr hh=>rr=.int .i64 res∧hh=h):=by
 obtain rfl:=Option.some.inj hF
 exact spec_scompare scmpTryzLays
/-! varve/diff.lay 1 -/
theorem ok85 {n0:GNode} {name1:zR} {res:Int} {h:AH}  (hF:diffXlayC1 n0 name1=some res):Spec Tryz.prog 85 [.agg [.str n0.name,.sl 9 (n0.leaves.map GLeaf.row),.sl 3 (n0.subs.map GNode.row)],.str name1] h (fun rr hh=>rr=.int .i64 res∧hh=h):=by
 unfold diffXlayC1 at hF
 refine zt Tryz.func85 rfl (by kernel_rfl) (env:=[.agg [.str n0.name,.sl 9 (n0.leaves.map GLeaf.row),.sl 3 (n0.subs.map GNode.row)],.str name1,za,za,za,za,za,za,za]) (by rfl) ?_
 refine zk (zd ?_)
 refine zc rfl (xy (n:=0) rfl yg (zb rfl) rfl rfl) yH ?_
 refine zc rfl (zg rfl rfl (zb rfl)) yD ?_
 refine zf (zi (zk (zd ?_)))
 refine zc rfl (zj rfl q9 yz rfl) xw ?_
 refine zc rfl (zw rfl vt yP rfl (zr rfl) (zb rfl)) xp ?_
 refine zc rfl (ze rfl yw (zb rfl)) xK ?_
 refine zS hF (fun v1 hv1 hF=>?_)
 refine zM rfl (zE rfl rfl rfl (zo yS (zo xn zy)) (.cons (zb rfl) (.cons (zb rfl) .nil))) (ok86 hv1) xH ?_
 refine zc rfl (zg rfl yV (zb rfl)) yD ?_
 refine zf (zi (zJ ?_))
 obtain rfl:=Option.some.inj hF
 refine zB rfl (zC yv zD) (zz (leV.refl _) rfl ?_)
 exact ⟨rfl,rfl⟩
/-! slices.DeleteFunc[[]varve/api.Leaf,varve/api.Leaf] -/
theorem ok87 {qs0:Option Nat} {s0:(List GLeaf)} {del1:(GLeaf→Option Bool)} {fdel1:FuncId} {adel1 kdel1:List AV} {res:(List GLeaf)} {h:AH} (hdel1:∀ x0 v (L:List Blk) (M:List Nat),del1 x0=some v→Spec Tryz.prog fdel1 (adel1++[.agg [.int .u8 x0.typ,.int .i64 x0.n,.int .u64 x0.time,.int .u8 x0.dot.actor.rep,.int .u32 x0.dot.actor.inc,.int .u64 x0.dot.seq,.str x0.text,.sl 5 (x0.items.map GItem.row),.sl 3 (x0.tombs.map GDot.row)]]++kdel1) (h.ext L M) (fun rr hh=>rr=.bool v∧hh=h.ext L M)) (hF:xT s0 del1=some res):Spec Tryz.prog 87 [.osl qs0 9 (s0.map GLeaf.row),.fn (.func fdel1) adel1 kdel1] h (fun rr hh=>rr=.osl qs0 9 (res.map GLeaf.row)∧hh=h):=by
 unfold xT at hF
 refine yp Tryz.func87 rfl (by kernel_rfl) (env:=[.osl qs0 9 (s0.map GLeaf.row),.fn (.func fdel1) adel1 kdel1,za,za,za,za,za,za,za,za,za,za,za,za,za,za,za,za,za,za,za,za,za,za,za,za,za,za,za,za,za,za,za,za,za,za,za,za,za,za,za,za]) (by rfl) (fun hlow hC=>?_)
 have hlowq:=osl_low (lowL_get 0 hlow rfl)
 simp only [yj,AV.low,Bool.and_eq_true,Bool.true_and,and_true] at hlow
 have hladel1:∀ n m,h.blks.length≤n→h.toks.length≤m→yj n m adel1=true:=fun n m h1 h2=>yR h1 h2 _ (by simp [hlow])
 have hlkdel1:∀ n m,h.blks.length≤n→h.toks.length≤m→yj n m kdel1=true:=fun n m h1 h2=>yR h1 h2 _ (by simp [hlow])
 refine zk (zd ?_)
 refine zc rfl (zg rfl rfl (xq wr)) yD ?_
 refine zf (zi (zk (zd ?_)))
 refine zc rfl (ze rfl yg (zb rfl)) xH ?_
 refine zc rfl (ze rfl yw (zb rfl)) x8 ?_
 refine zS hF (fun v1 hv1 hF=>?_)
 refine zM rfl (zE rfl rfl rfl (zo yV (zo xl zy)) (.cons (zb rfl) (.cons (zb rfl) .nil))) ((ok77 (fun x0 v L M hv=>by rw [vG];exact hdel1 x0 v _ _ hv) hv1).le (.cons (leV.osl _ _ _) (.eq leL.nil))) yq ?_
 refine zc rfl (zg rfl yi (zb rfl)) xw ?_
 refine zf (zi (zk (zk (zd ?_))))
 refine zc rfl (ze rfl yP (zb rfl)) yy ?_
 refine zc rfl (zu rfl yl rfl rfl) yE ?_
 refine zf (zi ?_)
 refine zH yC hF (fun hc2 hF=>?_) (fun hc2 hF=>?_)
 ·refine zk (zd ?_)
  refine zc rfl (ze rfl yg (zb rfl)) yG ?_
  refine zc rfl (zg rfl yr (zb rfl)) yD ?_
  refine zf (zi (zJ (zA ?_)))
  obtain rfl:=Option.some.inj hF
  refine zB rfl (zC yv zD) (zz (leV.refl _) (hlowq _ _) ?_)
  exact ⟨rfl,rfl⟩
 ·cases hF
theorem same87 {s0:(List GLeaf)} {del1:(GLeaf→Option Bool)} {res:(List GLeaf)} (hF:xT s0 del1=some res):s0=res:=by
  unfold xT at hF
  refine zS hF (fun _ _ hF=>?_)
  split at hF
  · exact Option.some.inj hF
  · cases hF
/-! slices.Clone[[]varve/api.Leaf,varve/api.Leaf] -/
theorem ok88 {s0:(List GLeaf)} {res:(List GLeaf)} {h:AH}  (hF:qz s0=some res):Spec Tryz.prog 88 [.sl 9 (s0.map GLeaf.row)] h (OwnK h 9 res.length (res.map GLeaf.row)):=by
 unfold qz at hF
 refine zt Tryz.func88 rfl (by kernel_rfl) (env:=[.sl 9 (s0.map GLeaf.row),za,za,za,za,za,za,za]) (by rfl) ?_
 refine zk (zd ?_)
 refine zc rfl (zg rfl rfl (xq wr)) yH ?_
 refine zf (zi (zk (zk (zd ?_))))
 refine zc rfl (ze rfl yg (zb rfl)) xS ?_
 refine ops_nilqE rfl rfl wr yX wd rfl (fun _=>yD) hF (fun b1 hb1 hF=>?_)
 refine zf (zi ?_)
 refine zH yv hF (fun hc2 hF=>?_) (fun hc2 hF=>?_)
 ·refine zk (zd ?_)
  refine zc rfl (zg rfl rfl (xq wr)) yH ?_
  refine zf (zi (zJ (zA ?_)))
  obtain rfl:=Option.some.inj hF
  refine zB rfl (zC yz zD) (fin_own0 (row:=GLeaf.row) (L:=([]:List GLeaf)) ?_)
  exact ⟨rfl,rfl⟩
 ·refine zI (zi (zk (zd ?_)))
  refine zc rfl (yh (es:=([]:List GLeaf).map GLeaf.row) rfl wr ze58 rfl rfl ye .nil rfl rfl rfl) xw ?_
  refine zc rfl (ze rfl yg (zb rfl)) xp ?_
  refine xG hF (fun hm3 hF=>?_)
  refine zc rfl (e_appN (m:=0) (T':=[((([]:List GLeaf)++s0)).length]) rfl rfl rfl rfl wr wr yP yS (zb rfl) (zb rfl) vY hm3 rfl rfl) xK ?_
  refine zc rfl (zg rfl xn (zb rfl)) yH ?_
  refine zf (zi (zJ ?_))
  obtain rfl:=Option.some.inj hF
  refine zB rfl (zC yz zD) (fin_own ?_)
  exact ⟨rfl,rfl⟩
/-! varve/diff.lay 2 -/
theorem ok89 {x0:GLeaf} {c0:Int} {i0:Nat} {res:Bool} {h:AH} (hb0:h.blk i0=some (.cells [.int .u8 c0])) (hF:diffXlayC2 x0 c0=some res):Spec Tryz.prog 89 [.agg [.int .u8 x0.typ,.int .i64 x0.n,.int .u64 x0.time,.int .u8 x0.dot.actor.rep,.int .u32 x0.dot.actor.inc,.int .u64 x0.dot.seq,.str x0.text,.sl 5 (x0.items.map GItem.row),.sl 3 (x0.tombs.map GDot.row)],.ptr i0 0] h (fun rr hh=>rr=.bool res∧hh=h):=by
 unfold diffXlayC2 at hF
 refine zt Tryz.func89 rfl (by kernel_rfl) (env:=[.agg [.int .u8 x0.typ,.int .i64 x0.n,.int .u64 x0.time,.int .u8 x0.dot.actor.rep,.int .u32 x0.dot.actor.inc,.int .u64 x0.dot.seq,.str x0.text,.sl 5 (x0.items.map GItem.row),.sl 3 (x0.tombs.map GDot.row)],.ptr i0 0,za,za,za,za,za,za]) (by rfl) ?_
 refine zk (zd ?_)
 refine zc rfl (xy (n:=0) rfl yg (zb rfl) rfl rfl) yH ?_
 refine zc rfl (zg rfl rfl (zb rfl)) xS ?_
 refine zf (zi (zk (zd ?_)))
 refine zc rfl (zj rfl wU yz rfl) yD ?_
 refine zc rfl (zw rfl vb yv rfl (zr rfl) (zb rfl)) xw ?_
 refine zc rfl (b_load rfl vb yw hb0 (zr rfl) (zb rfl)) xp ?_
 refine zc rfl (zu rfl yP yS rfl) xK ?_
 refine zc rfl (zg rfl xn (zb rfl)) xS ?_
 refine zf (zi (zJ ?_))
 obtain rfl:=Option.some.inj hF
 refine zB rfl (zC yX zD) (zz (leV.refl _) rfl ?_)
 exact ⟨rfl,rfl⟩
/-! varve/diff.own -/
theorem ok90 {l0:GLeaf} {res:GLeaf} {h:AH}  (hF:diffXown l0=some res):Spec Tryz.prog 90 [.agg [.int .u8 l0.typ,.int .i64 l0.n,.int .u64 l0.time,.int .u8 l0.dot.actor.rep,.int .u32 l0.dot.actor.inc,.int .u64 l0.dot.seq,.str l0.text,.sl 5 (l0.items.map GItem.row),.sl 3 (l0.tombs.map GDot.row)]] h (fun rr hh=>rr=.agg [.int .u8 res.typ,.int .i64 res.n,.int .u64 res.time,.int .u8 res.dot.actor.rep,.int .u32 res.dot.actor.inc,.int .u64 res.dot.seq,.str res.text,.sl 5 (res.items.map GItem.row),.sl 3 (res.tombs.map GDot.row)]∧hh=h):=by
 unfold diffXown at hF
 refine zt Tryz.func90 rfl (by kernel_rfl) (env:=[.agg [.int .u8 l0.typ,.int .i64 l0.n,.int .u64 l0.time,.int .u8 l0.dot.actor.rep,.int .u32 l0.dot.actor.inc,.int .u64 l0.dot.seq,.str l0.text,.sl 5 (l0.items.map GItem.row),.sl 3 (l0.tombs.map GDot.row)],za,za,za,za,za,za,za,za,za,za,za]) (by rfl) ?_
 refine zk (zd ?_)
 refine zc rfl (xy (n:=0) rfl yg (zb rfl) rfl rfl) qI ?_
 refine zc rfl (xf (n:=1) rfl ze58 rfl) yH ?_
 refine zf (zi (zk ?_))
 refine yI [] [] trivial mixed (by kernel_rfl) ?_
 refine zq rfl rfl (zj rfl w7 yw rfl) xS ?_
 refine zq rfl rfl (zw rfl ty56 yX rfl (zr rfl) (zb rfl)) yD ?_
 refine zS hF (fun v1 hv1 hF=>?_)
 refine qt rfl FOk.nil (by rfl) rfl (zE rfl rfl rfl (zo yv zy) (.cons (zb rfl) .nil)) (own_ext (T':=[(v1).length]) (ok80 hv1) (m:=0) rfl rfl) xw ?_
 refine zq rfl rfl (zj rfl vz yw rfl) xp ?_
 refine zq rfl rfl (zw rfl qL yS rfl (zr rfl) (zb rfl)) xK ?_
 refine zS hF (fun v2 hv2 hF=>?_)
 refine qt rfl FOk.nil (by rfl) rfl (zE rfl rfl rfl (zo xn zy) (.cons (zb rfl) .nil)) (own_ext (T':=[(v1).length,(v2).length]) (ok81 hv2) (m:=1) rfl rfl) xH ?_
 refine zq rfl rfl (zj rfl w7 yw rfl) x8 ?_
 refine wq rfl FOk.nil (by kernel_rfl) rfl (yk (cs':=[.int .u8 l0.typ,.int .i64 l0.n,.int .u64 l0.time,.int .u8 l0.dot.actor.rep,.int .u32 l0.dot.actor.inc,.int .u64 l0.dot.seq,.str l0.text,.osl (some (h.toks.length+0)) 5 (v1.map GItem.row),.sl 3 (l0.tombs.map GDot.row)]) rfl ty56 xl yP (zb rfl) rfl rfl rfl rfl rfl) rfl ?_
 refine zq rfl rfl (zj rfl vz yw rfl) yq ?_
 refine wq rfl FOk.nil (by kernel_rfl) rfl (yk (cs':=[.int .u8 l0.typ,.int .i64 l0.n,.int .u64 l0.time,.int .u8 l0.dot.actor.rep,.int .u32 l0.dot.actor.inc,.int .u64 l0.dot.seq,.str l0.text,.osl (some (h.toks.length+0)) 5 (v1.map GItem.row),.osl (some (h.toks.length+1)) 3 (v2.map GDot.row)]) rfl qL yi yV (zb rfl) rfl rfl rfl rfl rfl) rfl ?_
 refine yo ?_
 refine zi (zk (zd ?_))
 refine zc rfl (zw rfl ty58.choose_spec.1 yw rfl (zL (cs':=[.int .u8 l0.typ,.int .i64 l0.n,.int .u64 l0.time,.int .u8 l0.dot.actor.rep,.int .u32 l0.dot.actor.inc,.int .u64 l0.dot.seq,.str l0.text,.osl (some (h.toks.length+0)) 5 (v1.map GItem.row),.osl (some (h.toks.length+1)) 3 (v2.map GDot.row)]) ty58.choose_spec.2 rfl rfl) (zb rfl)) yy ?_
 refine zc rfl (yk (cs':=[.int .u8 l0.typ,.int .i64 l0.n,.int .u64 l0.time,.int .u8 l0.dot.actor.rep,.int .u32 l0.dot.actor.inc,.int .u64 l0.dot.seq,.str l0.text,.osl (some (h.toks.length+0)) 5 (v1.map GItem.row),.osl (some (h.toks.length+1)) 3 (v2.map GDot.row)]) rfl ty58.choose_spec.1 yz yl (zb rfl) rfl rfl rfl rfl rfl) rfl ?_
 refine zf (zi (zJ ?_))
 obtain rfl:=Option.some.inj hF
 refine zB rfl (rl_cell ty58.choose_spec.1 yz rfl (zL (cs':=[.int .u8 l0.typ,.int .i64 l0.n,.int .u64 l0.time,.int .u8 l0.dot.actor.rep,.int .u32 l0.dot.actor.inc,.int .u64 l0.dot.seq,.str l0.text,.osl (some (h.toks.length+0)) 5 (v1.map GItem.row),.osl (some (h.toks.length+1)) 3 (v2.map GDot.row)]) ty58.choose_spec.2 rfl rfl) (zb rfl) zD) (zz (leV.agg (.eq (.eq (.eq (.eq (.eq (.eq (.eq (.cons (leV.osl _ _ _) (.cons (leV.osl _ _ _) leL.nil))))))))) rfl) rfl ?_)
 exact ⟨rfl,rfl⟩
/-! slices.insertionSortCmpFunc[varve/api.Leaf] -/
theorem ok131 {data0:(List GLeaf)} {a1:Int} {b2:Int} {cmp3:(GLeaf→GLeaf→Option Int)} {fcmp3:FuncId} {acmp3 kcmp3:List AV} {res:Unit} {h:AH} (hcmp3:∀ x0 x1 v (L:List Blk) (M:List Nat),cmp3 x0 x1=some v→Spec Tryz.prog fcmp3 (acmp3++[.agg [.int .u8 x0.typ,.int .i64 x0.n,.int .u64 x0.time,.int .u8 x0.dot.actor.rep,.int .u32 x0.dot.actor.inc,.int .u64 x0.dot.seq,.str x0.text,.sl 5 (x0.items.map GItem.row),.sl 3 (x0.tombs.map GDot.row)],.agg [.int .u8 x1.typ,.int .i64 x1.n,.int .u64 x1.time,.int .u8 x1.dot.actor.rep,.int .u32 x1.dot.actor.inc,.int .u64 x1.dot.seq,.str x1.text,.sl 5 (x1.items.map GItem.row),.sl 3 (x1.tombs.map GDot.row)]]++kcmp3) (h.ext L M) (fun rr hh=>rr=.int .i64 v∧hh=h.ext L M)) (hF:xL data0 a1 b2 cmp3=some res):Spec Tryz.prog 131 [.sl 9 (data0.map GLeaf.row),.int .i64 a1,.int .i64 b2,.fn (.func fcmp3) acmp3 kcmp3] h (fun rr hh=>rr=.tup []∧hh=h):=by
 unfold xL at hF
 refine yp Tryz.func131 rfl (by kernel_rfl) (env:=[.sl 9 (data0.map GLeaf.row),.int .i64 a1,.int .i64 b2,.fn (.func fcmp3) acmp3 kcmp3,za,za,za,za,za,za,za,za,za,za,za,za,za,za,za,za,za,za,za,za,za,za,za,za,za,za,za,za,za,za,za,za,za,za,za,za,za,za,za,za,za,za,za,za,za,za,za,za,za]) (by rfl) (fun hlow hC=>?_)
 simp only [yj,AV.low,Bool.and_eq_true,Bool.true_and,and_true] at hlow
 have hlacmp3:∀ n m,h.blks.length≤n→h.toks.length≤m→yj n m acmp3=true:=fun n m h1 h2=>yR h1 h2 _ (by simp [hlow])
 have hlkcmp3:∀ n m,h.blks.length≤n→h.toks.length≤m→yj n m kcmp3=true:=fun n m h1 h2=>yR h1 h2 _ (by simp [hlow])
 refine zk (zd ?_)
 refine zc rfl (ze rfl yw (zb rfl)) yq ?_
 refine zc rfl (zu rfl yi rfl rfl) yy ?_
 refine zc rfl (zg rfl yl (zb rfl)) xH ?_
 refine zf (zi (zO ?_))
 refine qd (fun (s1:Int)=>yB [4,5,6,7,9,10,11,12,13,14,15,16,17,18,19,20,21,22,23,24,25,26,27,28,29,30,31,32,33,34,35,36,37,38,39,40,41,42,43,44,45,46,47,48,49,50,51,52] [(8,.int .i64 s1)]) (fun s1=>h.ext [] []) hF (fun _=>by simp only [yB,qw,List.set_cons_succ,List.set_cons_zero];try rfl) (wk.le (by exact (.eq (.eq (.eq (.eq (.d4 (.cons (leV.of_eq rfl) (.d16 (.d16 (.d4 (.d4 (.d4 leL.nil))))))))))))) ?_
 intro n1 s1 o1 hF hK1
 refine zk (zk (zd ?_))
 refine zc rfl (ze rfl yV (zb rfl)) yE ?_
 refine zc rfl (ze rfl yz (zb rfl)) yG ?_
 refine zc rfl (zu rfl yC yr rfl) yN ?_
 refine zf (zi ?_)
 refine zH yM hF (fun hc19 hF=>?_) (fun hc19 hF=>?_)
 ·refine zI (zi (zk (zO (zk (zd ?_)))))
  refine zc rfl (ze rfl yV (zb rfl)) yZ ?_
  refine zc rfl (zg rfl yY (zb rfl)) x8 ?_
  refine zf (zi (zO ?_))
  refine qd (fun (s2:Unit)=>yB [4,5,6,7,10,11,12,13,14,15,16,17,18,19,20,21,22,23,24,25,26,27,28,29,30,31,32,33,34,35,36,37,38,39,40,41,42,43,44,45,46,47,48,49,50,51,52] []) (fun s2=>h.ext [] []) hF (fun _=>by simp only [yB,qw,List.set_cons_succ,List.set_cons_zero];try rfl) (wk.le (by exact (.eq (.eq (.eq (.eq (.d4 (.eq (.eq (.d16 (.d16 (.d4 (.d4 (.drop (.drop (.drop leL.nil)))))))))))))))) ?_
  intro n2 s2 o2 hF hK2
  refine zk (zk ?_)
  refine yI [] [] trivial mixed (by kernel_rfl) ?_
  refine zq rfl rfl (ze rfl xl (zb rfl)) xd ?_
  refine zq rfl rfl (ze rfl yw (zb rfl)) xi ?_
  refine zq rfl rfl (zu rfl xb xh rfl) xA ?_
  refine zq rfl rfl (ze rfl xz (zb rfl)) xE ?_
  refine zx rfl rfl (fun hb=>ze rfl yX (zb rfl)) xI ?_
  refine zx rfl rfl (fun hb=>ze rfl yg (zb rfl)) xD ?_
  refine zx rfl rfl (fun hb=>ze rfl xl (zb rfl)) xM ?_
  refine xG hF (fun hg28 hF=>?_)
  refine zx rfl rfl (fun hb=>yK default rfl wr (zn xu hb) (zn xN hb) wd (hg28 hb)) wa ?_
  refine zx rfl rfl (fun hb=>zY rfl ty58.choose_spec.1 (zn x9 hb) (zL (cs':=[.int .u8 (((data0).getD s1.toNat default).typ),.int .i64 (((data0).getD s1.toNat default).n),.int .u64 (((data0).getD s1.toNat default).time),.int .u8 (((data0).getD s1.toNat default).dot.actor.rep),.int .u32 (((data0).getD s1.toNat default).dot.actor.inc),.int .u64 (((data0).getD s1.toNat default).dot.seq),.str (((data0).getD s1.toNat default).text),.sl 5 ((((data0).getD s1.toNat default).items).map GItem.row),.sl 3 ((((data0).getD s1.toNat default).tombs).map GDot.row)]) ty58.choose_spec.2 rfl rfl) (zb rfl)) wi ?_
  refine zx rfl rfl (fun hb=>ze rfl yg (zb rfl)) wj ?_
  refine zx rfl rfl (fun hb=>ze rfl xl (zb rfl)) wn ?_
  refine zx rfl rfl (fun hb=>zu rfl (zn wl hb) rfl rfl) wD ?_
  refine xG hF (fun hg29 hF=>?_)
  refine zx rfl rfl (fun hb=>yK default rfl wr (zn wm hb) (zn wz hb) wd (hg29 hb)) wC ?_
  refine zx rfl rfl (fun hb=>zY rfl ty58.choose_spec.1 (zn wM hb) (zL (cs':=[.int .u8 (((data0).getD (IntKind.wrap .i64 (s1 - (1:Int))).toNat default).typ),.int .i64 (((data0).getD (IntKind.wrap .i64 (s1 - (1:Int))).toNat default).n),.int .u64 (((data0).getD (IntKind.wrap .i64 (s1 - (1:Int))).toNat default).time),.int .u8 (((data0).getD (IntKind.wrap .i64 (s1 - (1:Int))).toNat default).dot.actor.rep),.int .u32 (((data0).getD (IntKind.wrap .i64 (s1 - (1:Int))).toNat default).dot.actor.inc),.int .u64 (((data0).getD (IntKind.wrap .i64 (s1 - (1:Int))).toNat default).dot.seq),.str (((data0).getD (IntKind.wrap .i64 (s1 - (1:Int))).toNat default).text),.sl 5 ((((data0).getD (IntKind.wrap .i64 (s1 - (1:Int))).toNat default).items).map GItem.row),.sl 3 ((((data0).getD (IntKind.wrap .i64 (s1 - (1:Int))).toNat default).tombs).map GDot.row)]) ty58.choose_spec.2 rfl rfl) (zb rfl)) wI ?_
  refine yn hF (fun v30 hv30 hF=>?_)
  refine ww rfl rfl (fun hb=>s_callC rfl rfl (zn xF hb) (zo (zn wh hb) (zo (zn wL hb) zy)) (.cons (zb rfl) (.cons (zb rfl) .nil)) rfl) (fun hb=>hcmp3 _ _ _ _ _ (hv30 hb)) wH ?_
  refine zx rfl rfl (fun hb=>zu rfl (zn wy hb) rfl rfl) wP ?_
  refine zq rfl rfl (zG rfl xB wT rfl (zN (fun ht=>gT ht))) wO ?_
  refine yo ?_
  refine zi ?_
  refine zH wK hF (fun hc31 hF=>?_) (fun hc31 hF=>?_)
  ·cases hF
  ·refine yF ?_
   refine zX ?_
   refine zU ?_
   obtain rfl:=Option.some.inj hF
   replace hF:=hK2
   refine zV ?_
   refine yb (zi (zd ?_))
   refine zc rfl (ze rfl yV (zb rfl)) yO ?_
   refine zc rfl (zu rfl yL rfl rfl) yT ?_
   refine zc rfl (zg rfl yQ (zb rfl)) xH ?_
   refine zf (yu ?_)
   obtain rfl:=Option.some.inj hF
   exact ⟨(IntKind.wrap .i64 (s1+(1:Int))),hK1,wk.le (by exact (.eq (.eq (.eq (.eq (.d4 (.cons (leV.of_eq rfl) (.d16 (.d16 (.d4 (.d4 (.d4 leL.nil))))))))))))⟩
 ·refine yF ?_
  refine zX ?_
  refine zU ?_
  obtain rfl:=Option.some.inj hF
  replace hF:=hK1
  refine zV ?_
  refine q_end ?_
  obtain rfl:=Option.some.inj hF
  refine q_retL0 rfl zD (zz (leV.refl _) rfl ?_)
  exact ⟨rfl,rfl⟩
/-! math/bits.Len32 -/
theorem ok139 {x0:Int} {res:Int} {h:AH}  (hF:mathXbitsLen32 x0=some res):Spec Tryz.prog 139 [.int .u32 x0] h (fun rr hh=>rr=.int .i64 res∧hh=h):=by
 unfold mathXbitsLen32 at hF
 refine zt Tryz.func139 rfl (by kernel_rfl) (env:=[.int .u32 x0,za,za,za,za,za,za,za,za,za,za,za,za,za,za,za,za,za,za]) (by rfl) ?_
 refine zk (zd ?_)
 refine zc rfl (zg rfl rfl (zb rfl)) yH ?_
 refine zf (zi (zk (zk (zd ?_))))
 refine zc rfl (ze rfl yg (zb rfl)) xS ?_
 refine zc rfl (zu rfl yX rfl rfl) yD ?_
 refine zf (zi ?_)
 refine zH yv hF (fun hc1 hF=>?_) (fun hc1 hF=>?_)
 ·refine zk (zd ?_)
  refine zc rfl (ze rfl yg (zb rfl)) xw ?_
  refine zc rfl (zu rfl yP rfl rfl) xp ?_
  refine zc rfl (zg rfl yS (zb rfl)) qP ?_
  refine zf (zi (zd ?_))
  refine zc rfl (zg rfl rfl (zb rfl)) yH ?_
  refine zf (zi (zk (zk (zd ?_))))
  refine zc rfl (ze rfl yg (zb rfl)) xK ?_
  refine zc rfl (zu rfl xn rfl rfl) xH ?_
  refine zf (zi ?_)
  refine zH yV hF (fun hc2 hF=>?_) (fun hc2 hF=>?_)
  ·refine zk (zd ?_)
   refine zc rfl (ze rfl yg (zb rfl)) x8 ?_
   refine zc rfl (zu rfl xl rfl rfl) yq ?_
   refine zc rfl (zg rfl yi (zb rfl)) qP ?_
   refine zf (zi (zd ?_))
   refine zc rfl (ze rfl yz (zb rfl)) yy ?_
   refine zc rfl (zu rfl yl rfl rfl) yE ?_
   refine zc rfl (zg rfl yC (zb rfl)) yH ?_
   refine zf (zi (zk (zd ?_)))
   refine zc rfl (ze rfl yz (zb rfl)) yG ?_
   refine zc rfl (ze rfl yg (zb rfl)) yN ?_
   refine zc rfl (xk rfl ty51 vb yM rfl) yO ?_
   refine zS hF (fun y3 hy3 hF=>?_)
   refine zc rfl (qb rfl vt rfl yL hy3) yT ?_
   refine zc rfl (xk rfl vb ty3 yQ rfl) yZ ?_
   refine zc rfl (zu rfl yr yY rfl) xd ?_
   refine zc rfl (zg rfl xb (zb rfl)) yH ?_
   refine zf (zi (zJ ?_))
   obtain rfl:=Option.some.inj hF
   refine zB rfl (zC yz zD) (zz (leV.refl _) rfl ?_)
   exact ⟨rfl,rfl⟩
  ·refine zI (zi (zk (zd ?_)))
   refine zc rfl (ze rfl yz (zb rfl)) yG ?_
   refine zc rfl (ze rfl yg (zb rfl)) yN ?_
   refine zc rfl (xk rfl ty51 vb yM rfl) yO ?_
   refine zS hF (fun y4 hy4 hF=>?_)
   refine zc rfl (qb rfl vt rfl yL hy4) yT ?_
   refine zc rfl (xk rfl vb ty3 yQ rfl) yZ ?_
   refine zc rfl (zu rfl yr yY rfl) xd ?_
   refine zc rfl (zg rfl xb (zb rfl)) yH ?_
   refine zf (zi (zJ ?_))
   obtain rfl:=Option.some.inj hF
   refine zB rfl (zC yz zD) (zz (leV.refl _) rfl ?_)
   exact ⟨rfl,rfl⟩
 ·refine zI (zi (zk (zk (zd ?_))))
  refine zc rfl (ze rfl yg (zb rfl)) xK ?_
  refine zc rfl (zu rfl xn rfl rfl) xH ?_
  refine zf (zi ?_)
  refine zH yV hF (fun hc5 hF=>?_) (fun hc5 hF=>?_)
  ·refine zk (zd ?_)
   refine zc rfl (ze rfl yg (zb rfl)) x8 ?_
   refine zc rfl (zu rfl xl rfl rfl) yq ?_
   refine zc rfl (zg rfl yi (zb rfl)) qP ?_
   refine zf (zi (zd ?_))
   refine zc rfl (ze rfl yz (zb rfl)) yy ?_
   refine zc rfl (zu rfl yl rfl rfl) yE ?_
   refine zc rfl (zg rfl yC (zb rfl)) yH ?_
   refine zf (zi (zk (zd ?_)))
   refine zc rfl (ze rfl yz (zb rfl)) yG ?_
   refine zc rfl (ze rfl yg (zb rfl)) yN ?_
   refine zc rfl (xk rfl ty51 vb yM rfl) yO ?_
   refine zS hF (fun y6 hy6 hF=>?_)
   refine zc rfl (qb rfl vt rfl yL hy6) yT ?_
   refine zc rfl (xk rfl vb ty3 yQ rfl) yZ ?_
   refine zc rfl (zu rfl yr yY rfl) xd ?_
   refine zc rfl (zg rfl xb (zb rfl)) yH ?_
   refine zf (zi (zJ ?_))
   obtain rfl:=Option.some.inj hF
   refine zB rfl (zC yz zD) (zz (leV.refl _) rfl ?_)
   exact ⟨rfl,rfl⟩
  ·refine zI (zi (zk (zd ?_)))
   refine zc rfl (ze rfl yz (zb rfl)) yG ?_
   refine zc rfl (ze rfl yg (zb rfl)) yN ?_
   refine zc rfl (xk rfl ty51 vb yM rfl) yO ?_
   refine zS hF (fun y7 hy7 hF=>?_)
   refine zc rfl (qb rfl vt rfl yL hy7) yT ?_
   refine zc rfl (xk rfl vb ty3 yQ rfl) yZ ?_
   refine zc rfl (zu rfl yr yY rfl) xd ?_
   refine zc rfl (zg rfl xb (zb rfl)) yH ?_
   refine zf (zi (zJ ?_))
   obtain rfl:=Option.some.inj hF
   refine zB rfl (zC yz zD) (zz (leV.refl _) rfl ?_)
   exact ⟨rfl,rfl⟩
/-! math/bits.Len64 -/
theorem ok140 {x0:Int} {res:Int} {h:AH}  (hF:mathXbitsLen64 x0=some res):Spec Tryz.prog 140 [.int .u64 x0] h (fun rr hh=>rr=.int .i64 res∧hh=h):=by
 unfold mathXbitsLen64 at hF
 refine zt Tryz.func140 rfl (by kernel_rfl) (env:=[.int .u64 x0,za,za,za,za,za,za,za,za,za,za,za,za,za,za,za,za,za,za,za,za,za,za,za,za]) (by rfl) ?_
 refine zk (zd ?_)
 refine zc rfl (zg rfl rfl (zb rfl)) yH ?_
 refine zf (zi (zk (zk (zd ?_))))
 refine zc rfl (ze rfl yg (zb rfl)) xS ?_
 refine zc rfl (zu rfl yX rfl rfl) yD ?_
 refine zf (zi ?_)
 refine zH yv hF (fun hc1 hF=>?_) (fun hc1 hF=>?_)
 ·refine zk (zd ?_)
  refine zc rfl (ze rfl yg (zb rfl)) xw ?_
  refine zc rfl (zu rfl yP rfl rfl) xp ?_
  refine zc rfl (zg rfl yS (zb rfl)) qP ?_
  refine zf (zi (zd ?_))
  refine zc rfl (zg rfl rfl (zb rfl)) yH ?_
  refine zf (zi (zk (zk (zd ?_))))
  refine zc rfl (ze rfl yg (zb rfl)) xK ?_
  refine zc rfl (zu rfl xn rfl rfl) xH ?_
  refine zf (zi ?_)
  refine zH yV hF (fun hc2 hF=>?_) (fun hc2 hF=>?_)
  ·refine zk (zd ?_)
   refine zc rfl (ze rfl yg (zb rfl)) x8 ?_
   refine zc rfl (zu rfl xl rfl rfl) yq ?_
   refine zc rfl (zg rfl yi (zb rfl)) qP ?_
   refine zf (zi (zd ?_))
   refine zc rfl (ze rfl yz (zb rfl)) yy ?_
   refine zc rfl (zu rfl yl rfl rfl) yE ?_
   refine zc rfl (zg rfl yC (zb rfl)) yH ?_
   refine zf (zi (zk (zk (zd ?_))))
   refine zc rfl (ze rfl yg (zb rfl)) yG ?_
   refine zc rfl (zu rfl yr rfl rfl) yN ?_
   refine zf (zi ?_)
   refine zH yM hF (fun hc3 hF=>?_) (fun hc3 hF=>?_)
   ·refine zk (zd ?_)
    refine zc rfl (ze rfl yg (zb rfl)) yO ?_
    refine zc rfl (zu rfl yL rfl rfl) yT ?_
    refine zc rfl (zg rfl yQ (zb rfl)) qP ?_
    refine zf (zi (zd ?_))
    refine zc rfl (ze rfl yz (zb rfl)) yZ ?_
    refine zc rfl (zu rfl yY rfl rfl) xd ?_
    refine zc rfl (zg rfl xb (zb rfl)) yH ?_
    refine zf (zi (zk (zd ?_)))
    refine zc rfl (ze rfl yz (zb rfl)) xi ?_
    refine zc rfl (ze rfl yg (zb rfl)) xA ?_
    refine zc rfl (xk rfl qK vb xz rfl) xE ?_
    refine zS hF (fun y4 hy4 hF=>?_)
    refine zc rfl (qb rfl vt rfl xB hy4) xI ?_
    refine zc rfl (xk rfl vb ty3 xF rfl) xD ?_
    refine zc rfl (zu rfl xh xu rfl) xM ?_
    refine zc rfl (zg rfl xN (zb rfl)) yH ?_
    refine zf (zi (zJ ?_))
    obtain rfl:=Option.some.inj hF
    refine zB rfl (zC yz zD) (zz (leV.refl _) rfl ?_)
    exact ⟨rfl,rfl⟩
   ·refine zI (zi (zk (zd ?_)))
    refine zc rfl (ze rfl yz (zb rfl)) xi ?_
    refine zc rfl (ze rfl yg (zb rfl)) xA ?_
    refine zc rfl (xk rfl qK vb xz rfl) xE ?_
    refine zS hF (fun y5 hy5 hF=>?_)
    refine zc rfl (qb rfl vt rfl xB hy5) xI ?_
    refine zc rfl (xk rfl vb ty3 xF rfl) xD ?_
    refine zc rfl (zu rfl xh xu rfl) xM ?_
    refine zc rfl (zg rfl xN (zb rfl)) yH ?_
    refine zf (zi (zJ ?_))
    obtain rfl:=Option.some.inj hF
    refine zB rfl (zC yz zD) (zz (leV.refl _) rfl ?_)
    exact ⟨rfl,rfl⟩
  ·refine zI (zi (zk (zk (zd ?_))))
   refine zc rfl (ze rfl yg (zb rfl)) yG ?_
   refine zc rfl (zu rfl yr rfl rfl) yN ?_
   refine zf (zi ?_)
   refine zH yM hF (fun hc6 hF=>?_) (fun hc6 hF=>?_)
   ·refine zk (zd ?_)
    refine zc rfl (ze rfl yg (zb rfl)) yO ?_
    refine zc rfl (zu rfl yL rfl rfl) yT ?_
    refine zc rfl (zg rfl yQ (zb rfl)) qP ?_
    refine zf (zi (zd ?_))
    refine zc rfl (ze rfl yz (zb rfl)) yZ ?_
    refine zc rfl (zu rfl yY rfl rfl) xd ?_
    refine zc rfl (zg rfl xb (zb rfl)) yH ?_
    refine zf (zi (zk (zd ?_)))
    refine zc rfl (ze rfl yz (zb rfl)) xi ?_
    refine zc rfl (ze rfl yg (zb rfl)) xA ?_
    refine zc rfl (xk rfl qK vb xz rfl) xE ?_
    refine zS hF (fun y7 hy7 hF=>?_)
    refine zc rfl (qb rfl vt rfl xB hy7) xI ?_
    refine zc rfl (xk rfl vb ty3 xF rfl) xD ?_
    refine zc rfl (zu rfl xh xu rfl) xM ?_
    refine zc rfl (zg rfl xN (zb rfl)) yH ?_
    refine zf (zi (zJ ?_))
    obtain rfl:=Option.some.inj hF
    refine zB rfl (zC yz zD) (zz (leV.refl _) rfl ?_)
    exact ⟨rfl,rfl⟩
   ·refine zI (zi (zk (zd ?_)))
    refine zc rfl (ze rfl yz (zb rfl)) xi ?_
    refine zc rfl (ze rfl yg (zb rfl)) xA ?_
    refine zc rfl (xk rfl qK vb xz rfl) xE ?_
    refine zS hF (fun y8 hy8 hF=>?_)
    refine zc rfl (qb rfl vt rfl xB hy8) xI ?_
    refine zc rfl (xk rfl vb ty3 xF rfl) xD ?_
    refine zc rfl (zu rfl xh xu rfl) xM ?_
    refine zc rfl (zg rfl xN (zb rfl)) yH ?_
    refine zf (zi (zJ ?_))
    obtain rfl:=Option.some.inj hF
    refine zB rfl (zC yz zD) (zz (leV.refl _) rfl ?_)
    exact ⟨rfl,rfl⟩
 ·refine zI (zi (zk (zk (zd ?_))))
  refine zc rfl (ze rfl yg (zb rfl)) xK ?_
  refine zc rfl (zu rfl xn rfl rfl) xH ?_
  refine zf (zi ?_)
  refine zH yV hF (fun hc9 hF=>?_) (fun hc9 hF=>?_)
  ·refine zk (zd ?_)
   refine zc rfl (ze rfl yg (zb rfl)) x8 ?_
   refine zc rfl (zu rfl xl rfl rfl) yq ?_
   refine zc rfl (zg rfl yi (zb rfl)) qP ?_
   refine zf (zi (zd ?_))
   refine zc rfl (ze rfl yz (zb rfl)) yy ?_
   refine zc rfl (zu rfl yl rfl rfl) yE ?_
   refine zc rfl (zg rfl yC (zb rfl)) yH ?_
   refine zf (zi (zk (zk (zd ?_))))
   refine zc rfl (ze rfl yg (zb rfl)) yG ?_
   refine zc rfl (zu rfl yr rfl rfl) yN ?_
   refine zf (zi ?_)
   refine zH yM hF (fun hc10 hF=>?_) (fun hc10 hF=>?_)
   ·refine zk (zd ?_)
    refine zc rfl (ze rfl yg (zb rfl)) yO ?_
    refine zc rfl (zu rfl yL rfl rfl) yT ?_
    refine zc rfl (zg rfl yQ (zb rfl)) qP ?_
    refine zf (zi (zd ?_))
    refine zc rfl (ze rfl yz (zb rfl)) yZ ?_
    refine zc rfl (zu rfl yY rfl rfl) xd ?_
    refine zc rfl (zg rfl xb (zb rfl)) yH ?_
    refine zf (zi (zk (zd ?_)))
    refine zc rfl (ze rfl yz (zb rfl)) xi ?_
    refine zc rfl (ze rfl yg (zb rfl)) xA ?_
    refine zc rfl (xk rfl qK vb xz rfl) xE ?_
    refine zS hF (fun y11 hy11 hF=>?_)
    refine zc rfl (qb rfl vt rfl xB hy11) xI ?_
    refine zc rfl (xk rfl vb ty3 xF rfl) xD ?_
    refine zc rfl (zu rfl xh xu rfl) xM ?_
    refine zc rfl (zg rfl xN (zb rfl)) yH ?_
    refine zf (zi (zJ ?_))
    obtain rfl:=Option.some.inj hF
    refine zB rfl (zC yz zD) (zz (leV.refl _) rfl ?_)
    exact ⟨rfl,rfl⟩
   ·refine zI (zi (zk (zd ?_)))
    refine zc rfl (ze rfl yz (zb rfl)) xi ?_
    refine zc rfl (ze rfl yg (zb rfl)) xA ?_
    refine zc rfl (xk rfl qK vb xz rfl) xE ?_
    refine zS hF (fun y12 hy12 hF=>?_)
    refine zc rfl (qb rfl vt rfl xB hy12) xI ?_
    refine zc rfl (xk rfl vb ty3 xF rfl) xD ?_
    refine zc rfl (zu rfl xh xu rfl) xM ?_
    refine zc rfl (zg rfl xN (zb rfl)) yH ?_
    refine zf (zi (zJ ?_))
    obtain rfl:=Option.some.inj hF
    refine zB rfl (zC yz zD) (zz (leV.refl _) rfl ?_)
    exact ⟨rfl,rfl⟩
  ·refine zI (zi (zk (zk (zd ?_))))
   refine zc rfl (ze rfl yg (zb rfl)) yG ?_
   refine zc rfl (zu rfl yr rfl rfl) yN ?_
   refine zf (zi ?_)
   refine zH yM hF (fun hc13 hF=>?_) (fun hc13 hF=>?_)
   ·refine zk (zd ?_)
    refine zc rfl (ze rfl yg (zb rfl)) yO ?_
    refine zc rfl (zu rfl yL rfl rfl) yT ?_
    refine zc rfl (zg rfl yQ (zb rfl)) qP ?_
    refine zf (zi (zd ?_))
    refine zc rfl (ze rfl yz (zb rfl)) yZ ?_
    refine zc rfl (zu rfl yY rfl rfl) xd ?_
    refine zc rfl (zg rfl xb (zb rfl)) yH ?_
    refine zf (zi (zk (zd ?_)))
    refine zc rfl (ze rfl yz (zb rfl)) xi ?_
    refine zc rfl (ze rfl yg (zb rfl)) xA ?_
    refine zc rfl (xk rfl qK vb xz rfl) xE ?_
    refine zS hF (fun y14 hy14 hF=>?_)
    refine zc rfl (qb rfl vt rfl xB hy14) xI ?_
    refine zc rfl (xk rfl vb ty3 xF rfl) xD ?_
    refine zc rfl (zu rfl xh xu rfl) xM ?_
    refine zc rfl (zg rfl xN (zb rfl)) yH ?_
    refine zf (zi (zJ ?_))
    obtain rfl:=Option.some.inj hF
    refine zB rfl (zC yz zD) (zz (leV.refl _) rfl ?_)
    exact ⟨rfl,rfl⟩
   ·refine zI (zi (zk (zd ?_)))
    refine zc rfl (ze rfl yz (zb rfl)) xi ?_
    refine zc rfl (ze rfl yg (zb rfl)) xA ?_
    refine zc rfl (xk rfl qK vb xz rfl) xE ?_
    refine zS hF (fun y15 hy15 hF=>?_)
    refine zc rfl (qb rfl vt rfl xB hy15) xI ?_
    refine zc rfl (xk rfl vb ty3 xF rfl) xD ?_
    refine zc rfl (zu rfl xh xu rfl) xM ?_
    refine zc rfl (zg rfl xN (zb rfl)) yH ?_
    refine zf (zi (zJ ?_))
    obtain rfl:=Option.some.inj hF
    refine zB rfl (zC yz zD) (zz (leV.refl _) rfl ?_)
    exact ⟨rfl,rfl⟩
/-! math/bits.Len -/
theorem ok117 {x0:Int} {res:Int} {h:AH}  (hF:mathXbitsLen x0=some res):Spec Tryz.prog 117 [.int .u64 x0] h (fun rr hh=>rr=.int .i64 res∧hh=h):=by
 unfold mathXbitsLen at hF
 refine zt Tryz.func117 rfl (by kernel_rfl) (env:=[.int .u64 x0,za,za,za,za,za,za,za]) (by rfl) ?_
 refine zk (zd ?_)
 refine zc rfl (zg rfl rfl (zb rfl)) yH ?_
 refine zf (zi (zk ?_))
 refine r_cond rfl (fun hh=>by cases hh) (fun _=>?_)
 refine zI (zi (zk (zd ?_)))
 refine zc rfl (ze rfl yg (zb rfl)) xp ?_
 refine zS hF (fun v1 hv1 hF=>?_)
 refine zM rfl (zE rfl rfl rfl (zo yS zy) (.cons (zb rfl) .nil)) (ok140 hv1) xK ?_
 refine zc rfl (zg rfl xn (zb rfl)) yH ?_
 refine zf (zi (zJ ?_))
 obtain rfl:=Option.some.inj hF
 refine zB rfl (zC yz zD) (zz (leV.refl _) rfl ?_)
 exact ⟨rfl,rfl⟩
/-! slices.nextPowerOfTwo -/
theorem ok149 {length0:Int} {res:Int} {h:AH}  (hF:slicesXnextPowerOfTwo length0=some res):Spec Tryz.prog 149 [.int .i64 length0] h (fun rr hh=>rr=.int .u64 res∧hh=h):=by
 unfold slicesXnextPowerOfTwo at hF
 refine zt Tryz.func149 rfl (by kernel_rfl) (env:=[.int .i64 length0,za,za,za,za,za,za]) (by rfl) ?_
 refine zk (zd ?_)
 refine zc rfl (zg rfl rfl (zb rfl)) yH ?_
 refine zf (zi (zk (zd ?_)))
 refine zc rfl (ze rfl yg (zb rfl)) xS ?_
 refine zc rfl (xk rfl ty3 ty141 yX rfl) yD ?_
 refine zS hF (fun v1 hv1 hF=>?_)
 refine zM rfl (zE rfl rfl rfl (zo yv zy) (.cons (zb rfl) .nil)) (ok117 hv1) xw ?_
 refine xG hF (fun hm2 hF=>?_)
 refine zc rfl (zu rfl rfl yP (if_neg hm2)) xp ?_
 refine zc rfl (zg rfl yS (zb rfl)) yH ?_
 refine zf (zi (zJ ?_))
 obtain rfl:=Option.some.inj hF
 refine zB rfl (zC yz zD) (zz (leV.refl _) rfl ?_)
 exact ⟨rfl,rfl⟩
/-! slices.pdqsortCmpFunc[varve/api.Leaf] -/
theorem ok116N (n:Nat):∀ {data0:(List GLeaf)} {a1:Int} {b2:Int} {limit3:Int} {cmp4:(GLeaf→GLeaf→Option Int)} {fcmp4:FuncId} {acmp4 kcmp4:List AV} {res:Unit} {h:AH} (hcmp4:∀ x0 x1 v (L:List Blk) (M:List Nat),cmp4 x0 x1=some v→Spec Tryz.prog fcmp4 (acmp4++[.agg [.int .u8 x0.typ,.int .i64 x0.n,.int .u64 x0.time,.int .u8 x0.dot.actor.rep,.int .u32 x0.dot.actor.inc,.int .u64 x0.dot.seq,.str x0.text,.sl 5 (x0.items.map GItem.row),.sl 3 (x0.tombs.map GDot.row)],.agg [.int .u8 x1.typ,.int .i64 x1.n,.int .u64 x1.time,.int .u8 x1.dot.actor.rep,.int .u32 x1.dot.actor.inc,.int .u64 x1.dot.seq,.str x1.text,.sl 5 (x1.items.map GItem.row),.sl 3 (x1.tombs.map GDot.row)]]++kcmp4) (h.ext L M) (fun rr hh=>rr=.int .i64 v∧hh=h.ext L M)),wb n data0 a1 b2 limit3 cmp4=some res→Spec Tryz.prog 116 [.sl 9 (data0.map GLeaf.row),.int .i64 a1,.int .i64 b2,.int .i64 limit3,.fn (.func fcmp4) acmp4 kcmp4] h (fun rr hh=>rr=.tup []∧hh=h):=by
 induction n with
 | zero=>intro data0 a1 b2 limit3 cmp4 fcmp4 acmp4 kcmp4 res h hcmp4 hF;simp [wb] at hF
 | succ n ih =>
  intro data0 a1 b2 limit3 cmp4 fcmp4 acmp4 kcmp4 res h hcmp4 hF
  unfold wb at hF
  refine yp Tryz.func116 rfl (by kernel_rfl) (env:=[.sl 9 (data0.map GLeaf.row),.int .i64 a1,.int .i64 b2,.int .i64 limit3,.fn (.func fcmp4) acmp4 kcmp4,za,za,za,za,za,za,za,za,za,za,za,za,za,za,za,za,za,za,za,za,za,za,za,za,za,za,za,za,za,za,za,za,za,za,za,za,za,za,za,za,za,za,za,za,za,za,za,za,za,za,za,za,za,za,za,za,za,za,za,za,za,za,za,za,za,za,za,za,za,za,za,za,za,za,za,za,za,za,za,za,za,za,za,za,za,za,za,za,za,za,za,za,za,za,za,za,za,za,za,za,za,za,za,za,za,za,za,za,za,za,za,za,za,za,za,za,za,za,za,za,za,za,za,za,za,za,za,za,za,za,za,za,za,za,za,za,za,za,za,za,za,za,za]) (by rfl) (fun hlow hC=>?_)
  simp only [yj,AV.low,Bool.and_eq_true,Bool.true_and,and_true] at hlow
  have hlacmp4:∀ n m,h.blks.length≤n→h.toks.length≤m→yj n m acmp4=true:=fun n m h1 h2=>yR h1 h2 _ (by simp [hlow])
  have hlkcmp4:∀ n m,h.blks.length≤n→h.toks.length≤m→yj n m kcmp4=true:=fun n m h1 h2=>yR h1 h2 _ (by simp [hlow])
  refine zk (zd ?_)
  refine zc rfl (zg rfl rfl (zb rfl)) yq ?_
  refine zf (zi (zk (zd ?_)))
  refine zc rfl (zg rfl rfl (zb rfl)) yy ?_
  refine zf (zi (zO ?_))
  refine qd (fun (s1:Unit)=>yB [5,6,7,8,9,12,13,14,15,16,17,18,19,20,21,22,23,24,25,26,27,28,29,30,31,32,33,34,35,36,37,38,39,40,41,42,43,44,45,46,47,48,49,50,51,52,53,54,55,56,57,58,59,60,61,62,63,64,65,66,67,68,69,70,71,72,73,74,75,76,77,78,79,80,81,82,83,84,85,86,87,88,89,90,91,92,93,94,95,96,97,98,99,100,101,102,103,104,105,106,107,108,109,110,111,112,113,114,115,116,117,118,119,120,121,122,123,124,125,126,127,128,129,130,131,132,133,134,135,136,137,138,139,140,141,142,143,144,145,146,147] []) (fun s1=>h.ext [] []) hF (fun _=>by simp only [yB,qw,List.set_cons_succ,List.set_cons_zero];try rfl) (wk.le (by exact (.eq (.eq (.eq (.eq (.eq (.d4 (.drop (.eq (.eq (.d16 (.d16 (.d16 (.d16 (.d16 (.d16 (.d16 (.d16 (.d4 (.d4 leL.nil))))))))))))))))))))) ?_
  intro n1 s1 o1 hF hK1
  refine zO (zk (zd ?_))
  refine zc rfl (ze rfl yz (zb rfl)) xE ?_
  refine zc rfl (ze rfl yw (zb rfl)) xI ?_
  refine zc rfl (zu rfl xB xF rfl) xD ?_
  refine zc rfl (zg rfl xu (zb rfl)) yE ?_
  refine zf (zi (zk (zk (zd ?_))))
  refine zc rfl (ze rfl yC (zb rfl)) xM ?_
  refine zc rfl (zu rfl xN rfl rfl) wa ?_
  refine zf (zi ?_)
  refine zH x9 hF (fun hc15 hF=>?_) (fun hc15 hF=>?_)
  ·refine zk (zd ?_)
   refine zc rfl (ze rfl yg (zb rfl)) wi ?_
   refine zc rfl (ze rfl yw (zb rfl)) wj ?_
   refine zc rfl (ze rfl yz (zb rfl)) wn ?_
   refine zc rfl (ze rfl yv (zb rfl)) wD ?_
   refine zS hF (fun v16 hv16 hF=>?_)
   refine zM rfl (zE rfl rfl rfl (zo wh (zo wm (zo wl (zo wz zy)))) (.cons (zb rfl) (.cons (zb rfl) (.cons (zb rfl) (.cons (zb rfl) .nil))))) (ok131 (fun x0 x1 v L M hv=>by rw [vG];exact hcmp4 x0 x1 v _ _ hv) hv16) wC ?_
   refine zf (zi (zJ (zA ?_)))
   refine zF ?_
   refine yf ?_
   obtain rfl:=Option.some.inj hF
   replace hF:=hK1
   refine zF ?_
   obtain rfl:=Option.some.inj hF
   refine q_retL0 rfl zD (zz (leV.refl _) rfl ?_)
   exact ⟨rfl,rfl⟩
  ·cases hF
theorem ok116 {data0:(List GLeaf)} {a1:Int} {b2:Int} {limit3:Int} {cmp4:(GLeaf→GLeaf→Option Int)} {fcmp4:FuncId} {acmp4 kcmp4:List AV} {res:Unit} {h:AH} (hcmp4:∀ x0 x1 v (L:List Blk) (M:List Nat),cmp4 x0 x1=some v→Spec Tryz.prog fcmp4 (acmp4++[.agg [.int .u8 x0.typ,.int .i64 x0.n,.int .u64 x0.time,.int .u8 x0.dot.actor.rep,.int .u32 x0.dot.actor.inc,.int .u64 x0.dot.seq,.str x0.text,.sl 5 (x0.items.map GItem.row),.sl 3 (x0.tombs.map GDot.row)],.agg [.int .u8 x1.typ,.int .i64 x1.n,.int .u64 x1.time,.int .u8 x1.dot.actor.rep,.int .u32 x1.dot.actor.inc,.int .u64 x1.dot.seq,.str x1.text,.sl 5 (x1.items.map GItem.row),.sl 3 (x1.tombs.map GDot.row)]]++kcmp4) (h.ext L M) (fun rr hh=>rr=.int .i64 v∧hh=h.ext L M)) (hF:w9 data0 a1 b2 limit3 cmp4=some res):Spec Tryz.prog 116 [.sl 9 (data0.map GLeaf.row),.int .i64 a1,.int .i64 b2,.int .i64 limit3,.fn (.func fcmp4) acmp4 kcmp4] h (fun rr hh=>rr=.tup []∧hh=h):=by
 obtain ⟨n,hn⟩:=anyN_is hF
 exact ok116N n hcmp4 hn
/-! slices.SortFunc[[]varve/api.Leaf,varve/api.Leaf] -/
theorem ok91 {x0:(List GLeaf)} {cmp1:(GLeaf→GLeaf→Option Int)} {fcmp1:FuncId} {acmp1 kcmp1:List AV} {res:Unit} {h:AH} (hcmp1:∀ x0 x1 v (L:List Blk) (M:List Nat),cmp1 x0 x1=some v→Spec Tryz.prog fcmp1 (acmp1++[.agg [.int .u8 x0.typ,.int .i64 x0.n,.int .u64 x0.time,.int .u8 x0.dot.actor.rep,.int .u32 x0.dot.actor.inc,.int .u64 x0.dot.seq,.str x0.text,.sl 5 (x0.items.map GItem.row),.sl 3 (x0.tombs.map GDot.row)],.agg [.int .u8 x1.typ,.int .i64 x1.n,.int .u64 x1.time,.int .u8 x1.dot.actor.rep,.int .u32 x1.dot.actor.inc,.int .u64 x1.dot.seq,.str x1.text,.sl 5 (x1.items.map GItem.row),.sl 3 (x1.tombs.map GDot.row)]]++kcmp1) (h.ext L M) (fun rr hh=>rr=.int .i64 v∧hh=h.ext L M)) (hF:vd x0 cmp1=some res):Spec Tryz.prog 91 [.sl 9 (x0.map GLeaf.row),.fn (.func fcmp1) acmp1 kcmp1] h (fun rr hh=>rr=.tup []∧hh=h):=by
 unfold vd at hF
 refine yp Tryz.func91 rfl (by kernel_rfl) (env:=[.sl 9 (x0.map GLeaf.row),.fn (.func fcmp1) acmp1 kcmp1,za,za,za,za,za,za,za,za,za,za,za,za]) (by rfl) (fun hlow hC=>?_)
 simp only [yj,AV.low,Bool.and_eq_true,Bool.true_and,and_true] at hlow
 have hlacmp1:∀ n m,h.blks.length≤n→h.toks.length≤m→yj n m acmp1=true:=fun n m h1 h2=>yR h1 h2 _ (by simp [hlow])
 have hlkcmp1:∀ n m,h.blks.length≤n→h.toks.length≤m→yj n m kcmp1=true:=fun n m h1 h2=>yR h1 h2 _ (by simp [hlow])
 refine zk (zd ?_)
 refine zc rfl (ze rfl yg (zb rfl)) xw ?_
 refine z7 rfl (zQ rfl rfl rfl rfl wr yP z0) xp fun hn1=>?_
 replace hn1:=xg hn1
 refine zc rfl (zg rfl yS (zb rfl)) yD ?_
 refine zf (zi (zd ?_))
 refine zc rfl (ze rfl yg (zb rfl)) xK ?_
 refine zc rfl (ze rfl yv (zb rfl)) xH ?_
 refine zc rfl (ze rfl yv (zb rfl)) x8 ?_
 refine zc rfl (xk rfl ty3 ty141 xl rfl) yq ?_
 refine zS hF (fun v2 hv2 hF=>?_)
 refine zM rfl (zE rfl rfl rfl (zo yi zy) (.cons (zb rfl) .nil)) (ok117 hv2) yy ?_
 refine zc rfl (ze rfl yw (zb rfl)) yE ?_
 refine zS hF (fun v3 hv3 hF=>?_)
 refine zM rfl (zE rfl rfl rfl (zo xn (zo rfl (zo yV (zo yl (zo yC zy))))) (.cons (zb rfl) (.cons (zb rfl) (.cons (zb rfl) (.cons (zb rfl) (.cons (zb rfl) .nil)))))) (ok116 (fun x0 x1 v L M hv=>by rw [vG];exact hcmp1 x0 x1 v _ _ hv) hv3) yG ?_
 refine zf (q_end ?_)
 obtain rfl:=Option.some.inj hF
 refine q_retL0 rfl zD (zz (leV.refl _) rfl ?_)
 exact ⟨rfl,rfl⟩
/-! varve/diff.lay 3 -/
theorem ok92 {x0:GLeaf} {y1:GLeaf} {res:Int} {h:AH}  (hF:diffXlayC3 x0 y1=some res):Spec Tryz.prog 92 [.agg [.int .u8 x0.typ,.int .i64 x0.n,.int .u64 x0.time,.int .u8 x0.dot.actor.rep,.int .u32 x0.dot.actor.inc,.int .u64 x0.dot.seq,.str x0.text,.sl 5 (x0.items.map GItem.row),.sl 3 (x0.tombs.map GDot.row)],.agg [.int .u8 y1.typ,.int .i64 y1.n,.int .u64 y1.time,.int .u8 y1.dot.actor.rep,.int .u32 y1.dot.actor.inc,.int .u64 y1.dot.seq,.str y1.text,.sl 5 (y1.items.map GItem.row),.sl 3 (y1.tombs.map GDot.row)]] h (fun rr hh=>rr=.int .i64 res∧hh=h):=by
 unfold diffXlayC3 at hF
 refine zt Tryz.func92 rfl (by kernel_rfl) (env:=[.agg [.int .u8 x0.typ,.int .i64 x0.n,.int .u64 x0.time,.int .u8 x0.dot.actor.rep,.int .u32 x0.dot.actor.inc,.int .u64 x0.dot.seq,.str x0.text,.sl 5 (x0.items.map GItem.row),.sl 3 (x0.tombs.map GDot.row)],.agg [.int .u8 y1.typ,.int .i64 y1.n,.int .u64 y1.time,.int .u8 y1.dot.actor.rep,.int .u32 y1.dot.actor.inc,.int .u64 y1.dot.seq,.str y1.text,.sl 5 (y1.items.map GItem.row),.sl 3 (y1.tombs.map GDot.row)],za,za,za,za,za,za,za,za]) (by rfl) ?_
 refine zk (zd ?_)
 refine zc rfl (xy (n:=0) rfl yg (zb rfl) rfl rfl) yH ?_
 refine zc rfl (xy (n:=1) rfl yw (zb rfl) rfl rfl) xS ?_
 refine zc rfl (zg rfl rfl (zb rfl)) yD ?_
 refine zf (zi (zk (zd ?_)))
 refine zc rfl (zj rfl wU yz rfl) xw ?_
 refine zc rfl (zw rfl vb yP rfl (zr rfl) (zb rfl)) xp ?_
 refine zc rfl (zj rfl wU yX rfl) xK ?_
 refine zc rfl (zw rfl vb xn rfl (zr rfl) (zb rfl)) xH ?_
 refine zS hF (fun v1 hv1 hF=>?_)
 refine zM rfl (zE rfl rfl rfl (zo yS (zo yV zy)) (.cons (zb rfl) (.cons (zb rfl) .nil))) (ok93 hv1) x8 ?_
 refine zc rfl (zg rfl xl (zb rfl)) yD ?_
 refine zf (zi (zJ ?_))
 obtain rfl:=Option.some.inj hF
 refine zB rfl (zC yv zD) (zz (leV.refl _) rfl ?_)
 exact ⟨rfl,rfl⟩
/-! slices.Clone[varve/api.Tree,varve/api.Node] -/
theorem ok94 {s0:(List GNode)} {res:(List GNode)} {h:AH}  (hF:vp s0=some res):Spec Tryz.prog 94 [.sl 3 (s0.map GNode.row)] h (OwnK h 3 res.length (res.map GNode.row)):=by
 unfold vp at hF
 refine zt Tryz.func94 rfl (by kernel_rfl) (env:=[.sl 3 (s0.map GNode.row),za,za,za,za,za,za,za]) (by rfl) ?_
 refine zk (zd ?_)
 refine zc rfl (zg rfl rfl (xq xa)) yH ?_
 refine zf (zi (zk (zk (zd ?_))))
 refine zc rfl (ze rfl yg (zb rfl)) xS ?_
 refine ops_nilqE rfl rfl xa yX wd rfl (fun _=>yD) hF (fun b1 hb1 hF=>?_)
 refine zf (zi ?_)
 refine zH yv hF (fun hc2 hF=>?_) (fun hc2 hF=>?_)
 ·refine zk (zd ?_)
  refine zc rfl (zg rfl rfl (xq xa)) yH ?_
  refine zf (zi (zJ (zA ?_)))
  obtain rfl:=Option.some.inj hF
  refine zB rfl (zC yz zD) (fin_own0 (row:=GNode.row) (L:=([]:List GNode)) ?_)
  exact ⟨rfl,rfl⟩
 ·refine zI (zi (zk (zd ?_)))
  refine zc rfl (yh (es:=([]:List GNode).map GNode.row) rfl xa ze74 rfl rfl ye .nil rfl rfl (by simp only [List.map_cons,List.map_nil,GNode.row_eq];rfl)) xw ?_
  refine zc rfl (ze rfl yg (zb rfl)) xp ?_
  refine xG hF (fun hm3 hF=>?_)
  refine zc rfl (e_appN (m:=0) (T':=[((([]:List GNode)++s0)).length]) rfl rfl rfl rfl xa xa yP yS (zb rfl) (zb rfl) vY hm3 rfl rfl) xK ?_
  refine zc rfl (zg rfl xn (zb rfl)) yH ?_
  refine zf (zi (zJ ?_))
  obtain rfl:=Option.some.inj hF
  refine zB rfl (zC yz zD) (fin_own ?_)
  exact ⟨rfl,rfl⟩
/-! varve/diff.lay -/
theorem ok50N (n:Nat):∀ {t0:(List GNode)} {path1:(List zR)} {kind2:Int} {l3:GLeaf} {there4:Bool} {res:(List GNode)} {h:AH} , diffXlayN n t0 path1 kind2 l3 there4=some res→Spec Tryz.prog 50 [.sl 3 (t0.map GNode.row),.sl 1 (path1.map zK),.int .u8 kind2,.agg [.int .u8 l3.typ,.int .i64 l3.n,.int .u64 l3.time,.int .u8 l3.dot.actor.rep,.int .u32 l3.dot.actor.inc,.int .u64 l3.dot.seq,.str l3.text,.sl 5 (l3.items.map GItem.row),.sl 3 (l3.tombs.map GDot.row)],.bool there4] h (fun rr hh=>rr=.sl 3 (res.map GNode.row)∧hh=h):=by
 induction n with
 | zero=>intro t0 path1 kind2 l3 there4 res h  hF;simp [diffXlayN] at hF
 | succ n ih =>
  intro t0 path1 kind2 l3 there4 res h  hF
  unfold diffXlayN at hF
  refine zt Tryz.func50 rfl (by kernel_rfl) (env:=[.sl 3 (t0.map GNode.row),.sl 1 (path1.map zK),.int .u8 kind2,.agg [.int .u8 l3.typ,.int .i64 l3.n,.int .u64 l3.time,.int .u8 l3.dot.actor.rep,.int .u32 l3.dot.actor.inc,.int .u64 l3.dot.seq,.str l3.text,.sl 5 (l3.items.map GItem.row),.sl 3 (l3.tombs.map GDot.row)],.bool there4,za,za,za,za,za,za,za,za,za,za,za,za,za,za,za,za,za,za,za,za,za,za,za,za,za,za,za,za,za,za,za,za,za,za,za,za,za,za,za,za,za,za,za,za,za,za,za,za,za,za,za,za,za,za,za,za,za,za,za,za,za,za,za,za,za,za,za,za,za,za,za,za,za,za,za,za,za,za,za,za]) (by rfl) ?_
  refine zk (zd ?_)
  refine zc rfl (xy (n:=0) rfl yz (zb rfl) rfl rfl) xK ?_
  refine zc rfl (xy (n:=1) rfl yX (zb rfl) rfl rfl) xH ?_
  refine zc rfl (zg rfl rfl (xq xa)) yq ?_
  refine zf (zi (zk (zd ?_)))
  refine zc rfl (ze rfl yg (zb rfl)) yT ?_
  refine zc rfl (ze rfl yw (zb rfl)) yZ ?_
  refine zS hF (fun y1 hy1 hF=>?_)
  refine zc rfl (yd rfl xc yY rfl wd hy1) xd ?_
  refine zc rfl (zY rfl vt xb (zr rfl) (zb rfl)) xi ?_
  refine zS hF (fun v2 hv2 hF=>?_)
  refine zM rfl (zE rfl rfl rfl (zo yQ (zo xh (zo rfl zy))) (.cons (zb rfl) (.cons (zb rfl) (.cons (zb rfl) .nil)))) (ok84 (fun _ _ v L M hv=>ok85  hv) hv2) xA ?_
  refine zc rfl (ze rfl xz (zb rfl)) yO ?_
  refine zc rfl (xe rfl yL rfl (zb rfl)) xE ?_
  refine zc rfl (xe rfl yL rfl (zb rfl)) xI ?_
  refine zc rfl (zg rfl xB (zb rfl)) yy ?_
  refine zc rfl (zg rfl xF (zb rfl)) yE ?_
  refine zf (zi (zk (zd ?_)))
  refine zc rfl (ze rfl yw (zb rfl)) xD ?_
  refine zS hF (fun y3 hy3 hF=>?_)
  refine zc rfl (yd rfl xc xu rfl wd hy3) xM ?_
  refine zc rfl (zY rfl vt xN (zr rfl) (zb rfl)) wa ?_
  refine zc rfl (wR (cs':=[.str y3,.osl none 9 (([]:List GLeaf).map GLeaf.row),.osl none 3 (([]:List GNode).map GNode.row)]) rfl su74 ze74 pl74 (zT x9 ye) (.cons (zb rfl) .nil) rfl rfl) wi ?_
  refine zc rfl (xf (n:=2) rfl ze74 rfl) yG ?_
  refine zc rfl (yk (cs':=[.str y3,.osl none 9 (([]:List GLeaf).map GLeaf.row),.osl none 3 (([]:List GNode).map GNode.row)]) rfl ty74.choose_spec.1 yr wh (zb rfl) rfl rfl rfl rfl rfl) rfl ?_
  refine zf (zi ?_)
  refine r_join (fun (s1:zR×(List GLeaf)×(List GNode))=>yB [2,3,5,6,9,10,14,15,16,17,18,19,20,21,22,23,24,25,26,27,28,29,30,31,32,33,34,35,36,37,38,39,40,41,42,43,44,45,46,47,48,49,50,51,52,53,54,55,56,57,58,59,60,61,62,63,64,65,66,67,68,69,70,71,72,73,74,75,76,77,78,79,80,81,82,83,84] []) (fun s1=>h.ext [.cells [.int .u8 kind2],.cells [.int .u8 l3.typ,.int .i64 l3.n,.int .u64 l3.time,.int .u8 l3.dot.actor.rep,.int .u32 l3.dot.actor.inc,.int .u64 l3.dot.seq,.str l3.text,.sl 5 (l3.items.map GItem.row),.sl 3 (l3.tombs.map GDot.row)],.cells [.str s1.1,.sl 9 (s1.2.1.map GLeaf.row),.sl 3 (s1.2.2.map GNode.row)]] []) hF (fun _=>by simp only [yB,qw,List.set_cons_succ,List.set_cons_zero];try rfl) (fun o1 hF hK1=>?_) (fun s1 hF=>?_)
  ·refine zk (zd ?_)
   refine zc rfl (ze rfl yC (zb rfl)) wj ?_
   refine zf (zi ?_)
   refine zH wm hF (fun hc6 hF=>?_) (fun hc6 hF=>?_)
   ·refine zd ?_
    refine zc rfl (ze rfl yg (zb rfl)) wn ?_
    refine zc rfl (ze rfl yl (zb rfl)) wD ?_
    refine zS hF (fun y7 hy7 hF=>?_)
    refine zc rfl (xO rfl xa wl wz wd hy7 (GNode.row_eq _)) wC ?_
    refine zc rfl (zY rfl ty74.choose_spec.1 wM (zL (cs':=[.str y7.name,.sl 9 (y7.leaves.map GLeaf.row),.sl 3 (y7.subs.map GNode.row)]) ty74.choose_spec.2 rfl rfl) (zb rfl)) wI ?_
    refine zc rfl (yk (cs':=[.str y7.name,.sl 9 (y7.leaves.map GLeaf.row),.sl 3 (y7.subs.map GNode.row)]) rfl ty74.choose_spec.1 yr wL (zb rfl) rfl rfl rfl rfl rfl) rfl ?_
    refine zf (q_join ?_)
    obtain rfl:=Option.some.inj hF
    exact ⟨(y7.name,y7.leaves,y7.subs),hK1,wk.le (by exact (.eq (.eq (.drop (.drop (.eq (.drop (.drop (.eq (.eq (.drop (.drop (.eq (.eq (.eq (.d16 (.d16 (.d16 (.d16 (.d4 (.drop (.drop (.drop leL.nil)))))))))))))))))))))))⟩
   ·refine zI (q_join ?_)
    obtain rfl:=Option.some.inj hF
    exact ⟨(y3,([]:List GLeaf),([]:List GNode)),hK1,wk.trans (wk_leB (j:=2) rfl (by exact (.eq (.cons (leV.osl _ _ _) (.cons (leV.osl _ _ _) leL.nil)))) rfl rfl) (wk.le (by exact (.eq (.eq (.drop (.drop (.eq (.drop (.drop (.eq (.eq (.drop (.drop (.eq (.eq (.eq (.d16 (.d16 (.d16 (.d16 (.d4 (.drop (.drop (.drop leL.nil))))))))))))))))))))))))⟩
  ·refine r_join (fun (s2:(List GLeaf)×(List GNode))=>yB [1,2,3,4,5,6,7,8,9,10,14,15,16,17,18,19,20,21,22,23,24,25,26,27,28,29,30,31,32,33,34,35,36,37,38,39,40,41,42,43,44,45,46,47,48,49,50,51,52,53,54,55,56,57,58,59,60,61,62,63,64,65,66,67,68,69,70,71,72,73,74,75,76,77,78,79,80,81,82,83,84] []) (fun s2=>h.ext [.cells [.int .u8 kind2],.cells [.int .u8 l3.typ,.int .i64 l3.n,.int .u64 l3.time,.int .u8 l3.dot.actor.rep,.int .u32 l3.dot.actor.inc,.int .u64 l3.dot.seq,.str l3.text,.sl 5 (l3.items.map GItem.row),.sl 3 (l3.tombs.map GDot.row)],.cells [.str s1.1,.sl 9 (s2.1.map GLeaf.row),.sl 3 (s2.2.map GNode.row)]] []) hF (fun _=>by simp only [yB,qw,List.set_cons_succ,List.set_cons_zero];try rfl) (fun o2 hF hK2=>?_) (fun s2 hF=>?_)
   ·refine zk (zd ?_)
    refine zc rfl (ze rfl yw (zb rfl)) wH ?_
    refine z7 rfl (zQ rfl rfl rfl rfl xc wy z0) wP fun hn18=>?_
    replace hn18:=xg hn18
    refine zc rfl (zu rfl wT rfl rfl) wO ?_
    refine zf (zi ?_)
    refine zH wK hF (fun hc19 hF=>?_) (fun hc19 hF=>?_)
    ·refine yI [7] [] trivial mixed (by kernel_rfl) ?_
     refine zq rfl rfl (zj rfl q8 yr rfl) wN ?_
     refine zq rfl rfl (zw rfl ty28 wS rfl (zr rfl) (zb rfl)) wG ?_
     refine zq rfl rfl (ze rfl yw (zb rfl)) wF ?_
     refine zS hF (fun m20 hm20 hF=>?_)
     refine zq rfl rfl (vu rfl xc wJ (.inl rfl) (.some rfl) .none hm20) wZ ?_
     refine zq rfl rfl (zw rfl vb xn rfl (zr rfl) (zb rfl)) wY ?_
     refine zq rfl rfl (zw rfl ty58.choose_spec.1 yV rfl (zL (cs':=[.int .u8 l3.typ,.int .i64 l3.n,.int .u64 l3.time,.int .u8 l3.dot.actor.rep,.int .u32 l3.dot.actor.inc,.int .u64 l3.dot.seq,.str l3.text,.sl 5 (l3.items.map GItem.row),.sl 3 (l3.tombs.map GDot.row)]) ty58.choose_spec.2 rfl rfl) (zb rfl)) (sk qP) ?_
     refine zq rfl rfl (ze rfl yv (zb rfl)) (sk qI) ?_
     refine zS hF (fun v21 hv21 hF=>?_)
     refine yW rfl rfl (fun _=>zE rfl rfl rfl (zo wu (zo w6 (zo w5 (zo (gk yg) (zo (gk yw) zy))))) (.cons (zb rfl) (.cons (zb rfl) (.cons (zb rfl) (.cons (zb rfl) (.cons (zb rfl) .nil)))))) (by rintro _ ⟨B2,T2,rfl,hk2⟩;exact ih hv21) (sk yH) ?_
     refine zq rfl rfl (zj rfl q8 yr rfl) (sk xS) ?_
     refine wq rfl (FOk.cons (.inr (keepB trivial)) FOk.nil) (by kernel_rfl) rfl (yk (cs':=[.str s1.1,.sl 9 (s1.2.1.map GLeaf.row),.sl 3 (v21.map GNode.row)]) rfl ty28 (gk yX) (gk yz) (zb rfl) rfl rfl rfl rfl rfl) rfl ?_
     refine yo ?_
     refine q_join ?_
     obtain rfl:=Option.some.inj hF
     exact ⟨(s1.2.1,v21),hK2,wk.le (by exact (.eq (.d4 (.d4 (.drop (.drop (.eq (.eq (.eq (.d16 (.d16 (.d16 (.d16 (.d4 (.drop (.drop (.drop leL.nil)))))))))))))))))⟩
    ·refine zk (zd ?_)
     refine zc rfl (zj rfl xX yr rfl) (sk yD) ?_
     refine zc rfl (zw rfl qk (gk yv) rfl (zr rfl) (zb rfl)) (sk xw) ?_
     refine zS hF (fun v22 hv22 hF=>?_)
     refine ops_callH rfl (zE rfl rfl rfl (zo (gk yP) zy) (.cons (zb rfl) .nil)) (own_ext (T':=[(v22).length]) (ok88 hv22) (m:=0) rfl rfl) (sk xp) ?_
     refine zc rfl (qS rfl rfl rfl) (sk xK) ?_
     refine zS hF (fun v23 hv23 hF=>?_)
     have hv23m:=same87 hv23
     subst hv23m
     refine zM rfl (zE rfl rfl rfl (zo (gk yS) (zo (gk xn) zy)) (.cons (zb rfl) (.cons (zb rfl) .nil))) (ok87 (fun _ v L M hv=>ok89 (blk_ext2 (j:=0) rfl) hv) hv23) (sk xH) ?_
     refine zc rfl (zj rfl xX yr rfl) (sk x8) ?_
     refine zc rfl (yk (cs':=[.str s1.1,.osl (some (h.toks.length+0)) 9 (v22.map GLeaf.row),.sl 3 (s1.2.2.map GNode.row)]) rfl qk (gk xl) (gk yV) (zb rfl) rfl rfl rfl rfl rfl) rfl ?_
     refine zf (zi (zk (zd ?_)))
     refine zc rfl (ze rfl yv (zb rfl)) (sk yq) ?_
     refine zf (zi ?_)
     refine zH (gk yi) hF (fun hc24 hF=>?_) (fun hc24 hF=>?_)
     ·refine zk ?_
      refine yI [3] [] trivial mixed (by kernel_rfl) ?_
      refine zq rfl rfl (zj rfl xX yr rfl) (sk yy) ?_
      refine zq rfl rfl (zw rfl qk (gk yl) rfl (zr rfl) (zb rfl)) (sk yE) ?_
      refine zq rfl rfl (zw rfl ty58.choose_spec.1 yV rfl (zL (cs':=[.int .u8 l3.typ,.int .i64 l3.n,.int .u64 l3.time,.int .u8 l3.dot.actor.rep,.int .u32 l3.dot.actor.inc,.int .u64 l3.dot.seq,.str l3.text,.sl 5 (l3.items.map GItem.row),.sl 3 (l3.tombs.map GDot.row)]) ty58.choose_spec.2 rfl rfl) (zb rfl)) (sk yG) ?_
      refine zS hF (fun v25 hv25 hF=>?_)
      refine yW rfl rfl (fun _=>zE rfl rfl rfl (zo (gk yr) zy) (.cons (zb rfl) .nil)) (by rintro _ ⟨B2,T2,rfl,hk2⟩;exact ok90 hv25) (sk yN) ?_
      refine zq rfl rfl (yh (es:=([v25]:List GLeaf).map GLeaf.row) rfl wr ze58 rfl rfl (zT (gk yM) ye) (.cons (zb rfl) .nil) rfl rfl rfl) (sk yO) ?_
      refine xG hF (fun hm26 hF=>?_)
      refine vi rfl (FOk.cons (.inr (keepB trivial)) FOk.nil) (by rfl) rfl (wv (j:=0) (T':=[((v22++([v25]:List GLeaf))).length]) rfl rfl rfl rfl wr wr (gk yC) (gk yL) (zb rfl) (zb rfl) wo hm26 rfl rfl) (sk yT) ?_
      refine zq rfl rfl (zj rfl xX yr rfl) (sk yZ) ?_
      refine wq rfl (FOk.cons (.inr (keepB trivial)) FOk.nil) (by kernel_rfl) rfl (yk (cs':=[.str s1.1,.osl (some (h.toks.length+0)) 9 ((v22++([v25]:List GLeaf)).map GLeaf.row),.sl 3 (s1.2.2.map GNode.row)]) rfl qk (gk yY) (gk yQ) (zb rfl) rfl rfl rfl rfl rfl) rfl ?_
      refine yo ?_
      refine zi (zd ?_)
      refine zc rfl (zj rfl xX yr rfl) (sk xd) ?_
      refine zc rfl (zw rfl qk (gk xb) rfl (zr rfl) (zb rfl)) (sk xi) ?_
      refine zS hF (fun v27 hv27 hF=>?_)
      refine zM rfl (zE rfl rfl rfl (zo (gk xh) (zo rfl zy)) (.cons (zb rfl) (.cons (zb rfl) .nil))) ((ok91 (fun _ _ v L M hv=>ok92  hv) hv27).le (.cons (leV.osl _ _ _) (.eq leL.nil))) (sk xA) ?_
      refine zf (q_join ?_)
      obtain rfl:=Option.some.inj hF
      exact ⟨((v22++([v25]:List GLeaf)),s1.2.2),hK2,wk.trans (wk.trans (wk_leB (j:=2) rfl (by exact (.eq (.cons (leV.osl _ _ _) (.eq leL.nil)))) rfl rfl) (wk.le (by exact (.eq (.d4 (.d4 (.drop (.drop (.eq (.eq (.eq (.d16 (.d16 (.d16 (.d16 (.d4 (.drop (.drop (.drop leL.nil))))))))))))))))))) (xY (by simp [yj,AV.low]) rfl rfl (by simp [Blk.low,yj,AV.low]))⟩
     ·refine zI (q_join ?_)
      obtain rfl:=Option.some.inj hF
      exact ⟨(v22,s1.2.2),hK2,wk.trans (wk.trans (wk_leB (j:=2) rfl (by exact (.eq (.cons (leV.osl _ _ _) (.eq leL.nil)))) rfl rfl) (wk.le (by exact (.eq (.d4 (.d4 (.drop (.drop (.eq (.eq (.eq (.d16 (.d16 (.d16 (.d16 (.d4 (.drop (.drop (.drop leL.nil))))))))))))))))))) (xY (by simp [yj,AV.low]) rfl rfl (by simp [Blk.low,yj,AV.low]))⟩
   ·refine zk (zd ?_)
    refine zc rfl (ze rfl yg (zb rfl)) (sk xE) ?_
    refine zc rfl (ze rfl yl (zb rfl)) (sk xI) ?_
    refine zS hF (fun m28 hm28 hF=>?_)
    refine zc rfl (vu rfl xa (gk xB) (.inl rfl) .none (.some (gk xF)) hm28) (sk xD) ?_
    refine zS hF (fun v29 hv29 hF=>?_)
    refine ops_callH rfl (zE rfl rfl rfl (zo (gk xu) zy) (.cons (zb rfl) .nil)) (own_ext (T':=[(v29).length]) (ok94 hv29) (m:=0) rfl rfl) (sk xM) ?_
    refine zc rfl (zg rfl (gk xN) (zb rfl)) yN ?_
    refine zf (zi (zk (zk (zd ?_))))
    refine zc rfl (zj rfl xX yr rfl) (sk wa) ?_
    refine zc rfl (zw rfl qk (gk x9) rfl (zr rfl) (zb rfl)) (sk wi) ?_
    refine z7 rfl (zQ rfl rfl rfl rfl wr (gk wh) z0) (sk wj) fun hn30=>?_
    replace hn30:=xg hn30
    refine zc rfl (zj rfl q8 yr rfl) (sk wn) ?_
    refine zc rfl (zw rfl ty28 (gk wl) rfl (zr rfl) (zb rfl)) (sk wD) ?_
    refine z7 rfl (zQ rfl rfl rfl rfl xa (gk wz) z0) (sk wC) fun hn31=>?_
    replace hn31:=xg hn31
    refine zc rfl (zu rfl (gk wm) (gk wM) rfl) (sk wI) ?_
    refine zc rfl (zu rfl (gk wL) rfl rfl) (sk wH) ?_
    refine zf (zi ?_)
    refine zH (gk wy) hF (fun hc32 hF=>?_) (fun hc32 hF=>?_)
    ·refine zd ?_
     refine zc rfl (ze rfl yM (zb rfl)) (sk wP) ?_
     refine zc rfl (zw rfl ty74.choose_spec.1 yr rfl (zL (cs':=[.str s1.1,.sl 9 (s2.1.map GLeaf.row),.sl 3 (s2.2.map GNode.row)]) ty74.choose_spec.2 rfl rfl) (zb rfl)) (sk wO) ?_
     refine zc rfl (yh (es:=([(GNode.mk s1.1 s2.1 s2.2)]:List GNode).map GNode.row) rfl xa ze74 rfl rfl (zT (gk wK) ye) (.cons (zb rfl) .nil) rfl rfl (by simp only [List.map_cons,List.map_nil,GNode.row_eq];rfl)) (sk wN) ?_
     refine xG hF (fun hm33 hF=>?_)
     refine zc rfl (wv (j:=0) (T':=[((v29++([(GNode.mk s1.1 s2.1 s2.2)]:List GNode))).length]) rfl rfl rfl rfl xa xa (gk wT) (gk wS) (zb rfl) (zb rfl) wo hm33 rfl rfl) (sk wG) ?_
     refine zc rfl (zg rfl (gk wu) (zb rfl)) yN ?_
     refine zf (zi (zk (zk (zd ?_))))
     refine zc rfl (ze rfl yC (zb rfl)) (sk wF) ?_
     refine zf (zi ?_)
     refine zH (gk wJ) hF (fun hc34 hF=>?_) (fun hc34 hF=>?_)
     ·refine zd ?_
      refine zc rfl (ze rfl yl (zb rfl)) (sk wZ) ?_
      refine zc rfl (zu rfl (gk w6) rfl rfl) (sk wY) ?_
      refine zc rfl (zg rfl (gk w5) (zb rfl)) yy ?_
      refine zf (zi (zk (zd ?_)))
      refine zc rfl (ze rfl yM (zb rfl)) (sk (sk qP)) ?_
      refine zc rfl (ze rfl yg (zb rfl)) (sk (sk qI)) ?_
      refine zc rfl (ze rfl yl (zb rfl)) (sk (sk yH)) ?_
      refine zS hF (fun m35 hm35 hF=>?_)
      refine zc rfl (vu rfl xa (gk (gk yw)) (.inl rfl) (.some (gk (gk yz))) .none hm35) (sk (sk xS)) ?_
      refine xG hF (fun hm36 hF=>?_)
      refine zc rfl (wv (j:=0) (T':=[(((v29++([(GNode.mk s1.1 s2.1 s2.2)]:List GNode))++m35)).length]) rfl rfl rfl rfl xa xa (gk (gk yg)) (gk (gk yX)) (zb rfl) (zb rfl) vY hm36 rfl rfl) (sk (sk yD)) ?_
      refine zc rfl (zg rfl (gk (gk yv)) (zb rfl)) yq ?_
      refine zf (zi (zJ ?_))
      obtain rfl:=Option.some.inj hF
      refine zB rfl (zC yi zD) (zz (leV.osl _ _ _) rfl ?_)
      exact ⟨rfl,rfl⟩
     ·refine zI (zi (zk (zd ?_)))
      refine zc rfl (ze rfl yM (zb rfl)) (sk (sk qP)) ?_
      refine zc rfl (ze rfl yg (zb rfl)) (sk (sk qI)) ?_
      refine zc rfl (ze rfl yl (zb rfl)) (sk (sk yH)) ?_
      refine zS hF (fun m37 hm37 hF=>?_)
      refine zc rfl (vu rfl xa (gk (gk yw)) (.inl rfl) (.some (gk (gk yz))) .none hm37) (sk (sk xS)) ?_
      refine xG hF (fun hm38 hF=>?_)
      refine zc rfl (wv (j:=0) (T':=[(((v29++([(GNode.mk s1.1 s2.1 s2.2)]:List GNode))++m37)).length]) rfl rfl rfl rfl xa xa (gk (gk yg)) (gk (gk yX)) (zb rfl) (zb rfl) vY hm38 rfl rfl) (sk (sk yD)) ?_
      refine zc rfl (zg rfl (gk (gk yv)) (zb rfl)) yq ?_
      refine zf (zi (zJ ?_))
      obtain rfl:=Option.some.inj hF
      refine zB rfl (zC yi zD) (zz (leV.osl _ _ _) rfl ?_)
      exact ⟨rfl,rfl⟩
    ·refine zI (zi (zk (zk (zd ?_))))
     refine zc rfl (ze rfl yC (zb rfl)) (sk wF) ?_
     refine zf (zi ?_)
     refine zH (gk wJ) hF (fun hc39 hF=>?_) (fun hc39 hF=>?_)
     ·refine zd ?_
      refine zc rfl (ze rfl yl (zb rfl)) (sk wZ) ?_
      refine zc rfl (zu rfl (gk w6) rfl rfl) (sk wY) ?_
      refine zc rfl (zg rfl (gk w5) (zb rfl)) yy ?_
      refine zf (zi (zk (zd ?_)))
      refine zc rfl (ze rfl yM (zb rfl)) (sk (sk qP)) ?_
      refine zc rfl (ze rfl yg (zb rfl)) (sk (sk qI)) ?_
      refine zc rfl (ze rfl yl (zb rfl)) (sk (sk yH)) ?_
      refine zS hF (fun m40 hm40 hF=>?_)
      refine zc rfl (vu rfl xa (gk (gk yw)) (.inl rfl) (.some (gk (gk yz))) .none hm40) (sk (sk xS)) ?_
      refine xG hF (fun hm41 hF=>?_)
      refine zc rfl (wv (j:=0) (T':=[((v29++m40)).length]) rfl rfl rfl rfl xa xa (gk (gk yg)) (gk (gk yX)) (zb rfl) (zb rfl) vY hm41 rfl rfl) (sk (sk yD)) ?_
      refine zc rfl (zg rfl (gk (gk yv)) (zb rfl)) yq ?_
      refine zf (zi (zJ ?_))
      obtain rfl:=Option.some.inj hF
      refine zB rfl (zC yi zD) (zz (leV.osl _ _ _) rfl ?_)
      exact ⟨rfl,rfl⟩
     ·refine zI (zi (zk (zd ?_)))
      refine zc rfl (ze rfl yM (zb rfl)) (sk (sk qP)) ?_
      refine zc rfl (ze rfl yg (zb rfl)) (sk (sk qI)) ?_
      refine zc rfl (ze rfl yl (zb rfl)) (sk (sk yH)) ?_
      refine zS hF (fun m42 hm42 hF=>?_)
      refine zc rfl (vu rfl xa (gk (gk yw)) (.inl rfl) (.some (gk (gk yz))) .none hm42) (sk (sk xS)) ?_
      refine xG hF (fun hm43 hF=>?_)
      refine zc rfl (wv (j:=0) (T':=[((v29++m42)).length]) rfl rfl rfl rfl xa xa (gk (gk yg)) (gk (gk yX)) (zb rfl) (zb rfl) vY hm43 rfl rfl) (sk (sk yD)) ?_
      refine zc rfl (zg rfl (gk (gk yv)) (zb rfl)) yq ?_
      refine zf (zi (zJ ?_))
      obtain rfl:=Option.some.inj hF
      refine zB rfl (zC yi zD) (zz (leV.osl _ _ _) rfl ?_)
      exact ⟨rfl,rfl⟩
theorem ok50 {t0:(List GNode)} {path1:(List zR)} {kind2:Int} {l3:GLeaf} {there4:Bool} {res:(List GNode)} {h:AH}  (hF:diffXlay t0 path1 kind2 l3 there4=some res):Spec Tryz.prog 50 [.sl 3 (t0.map GNode.row),.sl 1 (path1.map zK),.int .u8 kind2,.agg [.int .u8 l3.typ,.int .i64 l3.n,.int .u64 l3.time,.int .u8 l3.dot.actor.rep,.int .u32 l3.dot.actor.inc,.int .u64 l3.dot.seq,.str l3.text,.sl 5 (l3.items.map GItem.row),.sl 3 (l3.tombs.map GDot.row)],.bool there4] h (fun rr hh=>rr=.sl 3 (res.map GNode.row)∧hh=h):=by
 obtain ⟨n,hn⟩:=anyN_is hF
 exact ok50N n  hn
/-! varve/diff.Patch -/
theorem ok24 {t0:(List GNode)} {l1:(List GEdit)} {res:((List GNode)×Int)} {h:AH}  (hF:diffPatch t0 l1=some res):Spec Tryz.prog 24 [.sl 3 (t0.map GNode.row),.sl 22 (l1.map GEdit.row)] h (fun rr hh=>rr=.tup [.sl 3 (res.1.map GNode.row),.int .i64 res.2]∧hh=h):=by
 unfold diffPatch at hF
 refine zt Tryz.func24 rfl (by kernel_rfl) (env:=[.sl 3 (t0.map GNode.row),.sl 22 (l1.map GEdit.row),za,za,za,za,za,za,za,za,za,za,za,za,za,za,za,za,za,za,za,za,za,za,za,za,za,za,za,za,za,za,za,za,za,za,za,za,za,za,za,za,za,za,za,za,za,za,za,za,za,za,za,za,za,za,za,za,za,za,za,za,za,za,za,za,za]) (by rfl) ?_
 refine zk (zd ?_)
 refine zc rfl (zg rfl rfl (xq xa)) yD ?_
 refine zc rfl (zg rfl rfl (zb rfl)) xw ?_
 refine zf (zi (zk (zk (zd ?_))))
 refine zc rfl (ze rfl yg (zb rfl)) yE ?_
 refine zS hF (fun v1 hv1 hF=>?_)
 refine zM rfl (zE rfl rfl rfl (zo yC zy) (.cons (zb rfl) .nil)) (ok22 hv1) yG ?_
 refine zc rfl (xV rfl yr rfl) yN ?_
 refine zc rfl (ze rfl yM (zb rfl)) yO ?_
 refine zp rfl (fun hb=>ze rfl yw (zb rfl)) yT ?_
 refine yn hF (fun v2 hv2 hF=>?_)
 refine z8 rfl (fun hb=>zE rfl rfl rfl (zo (zn yQ hb) zy) (.cons (zb rfl) .nil)) (fun hb=>ok46 (hv2 hb)) yZ ?_
 refine zp rfl (fun hb=>xV rfl (zn yY hb) rfl) xd ?_
 refine zc rfl (zG rfl yL rfl xb (zZ (fun ht=>gF ht))) xi ?_
 refine zf (zi ?_)
 refine zH xh hF (fun hc3 hF=>?_) (fun hc3 hF=>?_)
 ·refine zk (zd ?_)
  refine zc rfl (zg rfl rfl (xq xa)) yD ?_
  refine zc rfl (zg rfl rfl (zb rfl)) xw ?_
  refine zf (zi (zJ (zA ?_)))
  obtain rfl:=Option.some.inj hF
  refine qe rfl (zC yv (zC yP zD)) (zz (leV.tup (.cons (leV.osl _ _ _) (.eq leL.nil))) rfl ?_)
  exact ⟨rfl,rfl⟩
 ·refine zI (zi (zk (zd ?_)))
  refine zc rfl (ze rfl yg (zb rfl)) xE ?_
  refine zc rfl (yh (es:=([([42,42]:zR)]:List zR).map zK) rfl xc ze9 rfl rfl (zT rfl ye) (.cons (zb rfl) .nil) rfl rfl rfl) xI ?_
  refine zS hF (fun v4 hv4 hF=>?_)
  refine zM rfl (zE rfl rfl rfl (zo xB (zo xF zy)) (.cons (zb rfl) (.cons (zb rfl) .nil))) ((ok47 hv4).le (.eq (.cons (leV.osl _ _ _) leL.nil))) xD ?_
  refine zc rfl (ze rfl xu (zb rfl)) xA ?_
  refine zc rfl (xe rfl xz rfl (zb rfl)) xM ?_
  refine zc rfl (xe rfl xz rfl (zb rfl)) wa ?_
  refine zc rfl (zg rfl xN (zb rfl)) xp ?_
  refine zc rfl (zg rfl x9 (zb rfl)) xK ?_
  refine zf (zi (zk (zk (zd ?_))))
  refine zc rfl (ze rfl yw (zb rfl)) wi ?_
  refine z7 rfl (zQ rfl rfl rfl rfl el47 wh z0) wj fun hn5=>?_
  replace hn5:=xg hn5
  refine zc rfl (ze rfl rfl (zb rfl)) wn ?_
  refine zf (zi (zO ?_))
  refine ym (fun (n1:Nat) (s1:(List GNode))=>yB [1,2,3,4,5,7,8,9,10,11,12,13,14,15,16,17,18,19,20,21,22,23,24,25,29,30,31,32,33,34,35,36,37,38,39,40,41,42,43,44,45,46,47,48,49,50,51,52,53,54,55,56,57,58,59,60,61,62,63,64,65,66] [(6,.sl 3 (s1.map GNode.row)),(28,.int .i64 (n1:Int))]) (fun s1=>h.ext [] []) hF (fun _ _=>by simp only [yB,qw,List.set_cons_succ,List.set_cons_zero];try rfl) (wk.le (by exact (.eq (.d4 (.drop (.cons (leV.of_eq rfl) (.d16 (.drop (.drop (.drop (.eq (.eq (.cons (leV.of_eq rfl) (.d16 (.d16 (.d4 (.drop (.drop leL.nil)))))))))))))))))) ?_
  intro n1 s1 hi1 hF
  refine zk (zd ?_)
  refine zc rfl (zu rfl wl wm rfl) wD ?_
  refine zf (zi (zk ?_))
  refine yJ wz hF (fun x1 o1 hl1 hx1 hF hK1=>?_) (fun hF=>?_)
  ·refine zI (zi (zk (zO (zk (zd ?_)))))
   refine zc rfl (yd rfl el47 wh wl wd (yA hx1)) wC ?_
   refine zc rfl (zY rfl ty62.choose_spec.1 wM (zL (cs':=[.sl 1 (x1.path.map zK),.int .u8 x1.typ,.bool x1.had,.bool x1.has,.int .u8 x1.was.typ,.int .i64 x1.was.n,.int .u64 x1.was.time,.int .u8 x1.was.dot.actor.rep,.int .u32 x1.was.dot.actor.inc,.int .u64 x1.was.dot.seq,.str x1.was.text,.sl 5 (x1.was.items.map GItem.row),.sl 3 (x1.was.tombs.map GDot.row),.int .u8 x1.is.typ,.int .i64 x1.is.n,.int .u64 x1.is.time,.int .u8 x1.is.dot.actor.rep,.int .u32 x1.is.dot.actor.inc,.int .u64 x1.is.dot.seq,.str x1.is.text,.sl 5 (x1.is.items.map GItem.row),.sl 3 (x1.is.tombs.map GDot.row)]) ty62.choose_spec.2 rfl rfl) (zb rfl)) wI ?_
   refine zc rfl (xf (n:=0) rfl ze62 rfl) x8 ?_
   refine zc rfl (yk (cs':=[.sl 1 (x1.path.map zK),.int .u8 x1.typ,.bool x1.had,.bool x1.has,.int .u8 x1.was.typ,.int .i64 x1.was.n,.int .u64 x1.was.time,.int .u8 x1.was.dot.actor.rep,.int .u32 x1.was.dot.actor.inc,.int .u64 x1.was.dot.seq,.str x1.was.text,.sl 5 (x1.was.items.map GItem.row),.sl 3 (x1.was.tombs.map GDot.row),.int .u8 x1.is.typ,.int .i64 x1.is.n,.int .u64 x1.is.time,.int .u8 x1.is.dot.actor.rep,.int .u32 x1.is.dot.actor.inc,.int .u64 x1.is.dot.seq,.str x1.is.text,.sl 5 (x1.is.items.map GItem.row),.sl 3 (x1.is.tombs.map GDot.row)]) rfl ty62.choose_spec.1 xl wL (zb rfl) rfl rfl rfl rfl rfl) rfl ?_
   refine zf (zi (zk (zd ?_)))
   refine zc rfl (ze rfl yg (zb rfl)) wP ?_
   refine zc rfl (zj rfl fo62x0 xl rfl) wO ?_
   refine zc rfl (zw rfl ty23 wK rfl (zr rfl) (zb rfl)) wN ?_
   refine zc rfl (zj rfl fo62x1 xl rfl) wG ?_
   refine zc rfl (zw rfl vb wu rfl (zr rfl) (zb rfl)) wF ?_
   refine zS hF (fun v14 hv14 hF=>?_)
   refine zM rfl (zE rfl rfl rfl (zo wT (zo wS (zo wJ zy))) (.cons (zb rfl) (.cons (zb rfl) (.cons (zb rfl) .nil)))) (ok48 hv14) wZ ?_
   refine zc rfl (ze rfl w6 (zb rfl)) wH ?_
   refine zc rfl (xe rfl wy rfl (zb rfl)) wY ?_
   refine zc rfl (xe rfl wy rfl (zb rfl)) (sk qP) ?_
   refine zc rfl (xf (n:=1) rfl ze58 rfl) yq ?_
   refine zc rfl (yk (cs':=[.int .u8 v14.1.typ,.int .i64 v14.1.n,.int .u64 v14.1.time,.int .u8 v14.1.dot.actor.rep,.int .u32 v14.1.dot.actor.inc,.int .u64 v14.1.dot.seq,.str v14.1.text,.sl 5 (v14.1.items.map GItem.row),.sl 3 (v14.1.tombs.map GDot.row)]) rfl ty58.choose_spec.1 yi w5 (zb rfl) rfl rfl rfl rfl rfl) rfl ?_
   refine zc rfl (zg rfl (gk yg) (zb rfl)) yy ?_
   refine zf (zi (zk (zk (zd ?_))))
   refine zc rfl (ze rfl yl (zb rfl)) (sk qI) ?_
   refine zc rfl (zj rfl fo62x2 xl rfl) (sk yH) ?_
   refine zc rfl (zw rfl ty4 (gk yz) rfl (zr rfl) (zb rfl)) (sk xS) ?_
   refine zc rfl (zu rfl (gk yw) (gk yX) (bin_boolN ty4)) (sk yD) ?_
   refine zc rfl (ze rfl (gk yv) (zb rfl)) (sk xw) ?_
   refine zp rfl (fun hb=>ze rfl yl (zb rfl)) (sk xp) ?_
   refine zp rfl (fun hb=>ze rfl (zn (gk yS) hb) (zb rfl)) (sk xK) ?_
   refine zp (zP rfl rfl rfl) (fun hb=>zw rfl ty58.choose_spec.1 yi rfl (zL (cs':=[.int .u8 v14.1.typ,.int .i64 v14.1.n,.int .u64 v14.1.time,.int .u8 v14.1.dot.actor.rep,.int .u32 v14.1.dot.actor.inc,.int .u64 v14.1.dot.seq,.str v14.1.text,.sl 5 (v14.1.items.map GItem.row),.sl 3 (v14.1.tombs.map GDot.row)]) ty58.choose_spec.2 rfl rfl) (zb rfl)) (sk xH) ?_
   refine zp (zP rfl rfl rfl) (fun hb=>zj rfl fo62x4 xl rfl) (sk x8) ?_
   refine zp (zP rfl rfl rfl) (fun hb=>zw rfl ty58.choose_spec.1 (zn (gk xl) hb) rfl (zL (cs':=[.int .u8 x1.was.typ,.int .i64 x1.was.n,.int .u64 x1.was.time,.int .u8 x1.was.dot.actor.rep,.int .u32 x1.was.dot.actor.inc,.int .u64 x1.was.dot.seq,.str x1.was.text,.sl 5 (x1.was.items.map GItem.row),.sl 3 (x1.was.tombs.map GDot.row)]) ty58.choose_spec.2 rfl rfl) (zb rfl)) (sk yq) ?_
   refine yn hF (fun v15 hv15 hF=>?_)
   refine z8 (zP rfl rfl rfl) (fun hb=>zE rfl rfl rfl (zo (zn (gk yV) hb) (zo (zn (gk yi) hb) zy)) (.cons (zb rfl) (.cons (zb rfl) .nil))) (fun hb=>ok49 (hv15 hb)) (sk yy) ?_
   refine zp (zP rfl rfl rfl) (fun hb=>xV rfl (zn (gk yl) hb) rfl) (sk yE) ?_
   refine zp rfl (fun hb=>zG rfl (zn (gk xn) hb) (gk yC) rfl (zN (fun ht=>gT2 hb ht))) (sk yG) ?_
   refine zc rfl (zG rfl (gk yP) rfl (gk yr) (zZ (fun ht=>gF ht))) (sk yN) ?_
   refine zf (zi ?_)
   refine zH (gk yM) hF (fun hc16 hF=>?_) (fun hc16 hF=>?_)
   ·refine zk (zd ?_)
    refine zc rfl (zg rfl rfl (xq xa)) yD ?_
    refine zc rfl (zg rfl rfl (zb rfl)) xw ?_
    refine zf (zi (zJ (zA ?_)))
    refine zF ?_
    refine zA ?_
    refine yf ?_
    obtain rfl:=Option.some.inj hF
    replace hF:=hK1
    refine zF ?_
    refine zA ?_
    obtain rfl:=Option.some.inj hF
    refine qe rfl (zC yv (zC yP zD)) (zz (leV.tup (.cons (leV.osl _ _ _) (.eq leL.nil))) rfl ?_)
    exact ⟨rfl,rfl⟩
   ·refine zI (zi (zd ?_))
    refine zc rfl (ze rfl yS (zb rfl)) (sk yO) ?_
    refine zc rfl (zj rfl fo62x0 xl rfl) (sk yT) ?_
    refine zc rfl (zw rfl ty23 (gk yQ) rfl (zr rfl) (zb rfl)) (sk yZ) ?_
    refine zc rfl (zj rfl fo62x1 xl rfl) (sk xd) ?_
    refine zc rfl (zw rfl vb (gk xb) rfl (zr rfl) (zb rfl)) (sk xi) ?_
    refine zc rfl (zj rfl fo62x5 xl rfl) (sk xA) ?_
    refine zc rfl (zw rfl ty58.choose_spec.1 (gk xz) rfl (zL (cs':=[.int .u8 x1.is.typ,.int .i64 x1.is.n,.int .u64 x1.is.time,.int .u8 x1.is.dot.actor.rep,.int .u32 x1.is.dot.actor.inc,.int .u64 x1.is.dot.seq,.str x1.is.text,.sl 5 (x1.is.items.map GItem.row),.sl 3 (x1.is.tombs.map GDot.row)]) ty58.choose_spec.2 rfl rfl) (zb rfl)) (sk xE) ?_
    refine zc rfl (zj rfl fo62x3 xl rfl) (sk xI) ?_
    refine zc rfl (zw rfl ty4 (gk xF) rfl (zr rfl) (zb rfl)) (sk xD) ?_
    refine zS hF (fun v17 hv17 hF=>?_)
    refine zM rfl (zE rfl rfl rfl (zo (gk yL) (zo (gk yY) (zo (gk xh) (zo (gk xB) (zo (gk xu) zy))))) (.cons (zb rfl) (.cons (zb rfl) (.cons (zb rfl) (.cons (zb rfl) (.cons (zb rfl) .nil)))))) (ok50 hv17) (sk xM) ?_
    refine zc rfl (zg rfl (gk xN) (zb rfl)) xp ?_
    refine zf (yb (zi (zd ?_)))
    refine zc rfl (zu rfl wl rfl rfl) (sk wa) ?_
    refine zc rfl (ze rfl (gk x9) (zb rfl)) wn ?_
    refine zf (yu ?_)
    obtain rfl:=Option.some.inj hF
    exact ⟨v17,hl1,hK1,wk.trans (wk.le (by exact (.eq (.d4 (.drop (.cons (leV.of_eq rfl) (.d16 (.drop (.drop (.drop (.eq (.eq (.cons (leV.of_eq (wx (by omega) (by omega))) (.d16 (.d16 (.d4 (.drop (.drop leL.nil)))))))))))))))))) (xY (by simp [yj,AV.low]) rfl rfl (by simp [Blk.low,yj,AV.low]))⟩
  ·refine yF ?_
   refine zX ?_
   refine zU ?_
   refine zV ?_
   refine zi (zk (zd ?_))
   refine zc rfl (ze rfl yS (zb rfl)) (sk wi) ?_
   refine zc rfl (zg rfl (gk wh) (zb rfl)) yD ?_
   refine zc rfl (zg rfl rfl (zb rfl)) xw ?_
   refine zf (zi (zJ ?_))
   obtain rfl:=Option.some.inj hF
   refine qe rfl (zC yv (zC yP zD)) (zz (leV.refl _) rfl ?_)
   exact ⟨rfl,rfl⟩
/-! varve/rights.View -/
theorem ok7 {l0:(List GRule)} {rep1:Int} {t2:(List GNode)} {res:((List GNode)×Int)} {h:AH}  (hF:qn l0 rep1 t2=some res):Spec Tryz.prog 7 [.sl 5 (l0.map GRule.row),.int .u8 rep1,.sl 3 (t2.map GNode.row)] h (fun rr hh=>rr=.tup [.sl 3 (res.1.map GNode.row),.int .i64 res.2]∧hh=h):=by
 unfold qn at hF
 refine zt Tryz.func7 rfl (by kernel_rfl) (env:=[.sl 5 (l0.map GRule.row),.int .u8 rep1,.sl 3 (t2.map GNode.row),za,za,za,za,za,za,za,za,za,za,za,za,za,za,za,za,za,za,za,za,za,za,za,za,za,za,za,za,za,za,za,za,za,za,za,za,za,za,za,za,za,za,za,za]) (by rfl) ?_
 refine zk (zd ?_)
 refine zc rfl (zg rfl rfl (xq xa)) xp ?_
 refine zc rfl (zg rfl rfl (zb rfl)) xK ?_
 refine zf (zi (zk (zk (zd ?_))))
 refine zc rfl (ze rfl yg (zb rfl)) yy ?_
 refine zS hF (fun v1 hv1 hF=>?_)
 refine zM rfl (zE rfl rfl rfl (zo yl zy) (.cons (zb rfl) .nil)) (ok10 hv1) yE ?_
 refine zc rfl (xV rfl yC rfl) yG ?_
 refine zc rfl (ze rfl yr (zb rfl)) yN ?_
 refine zp rfl (fun hb=>ze rfl yz (zb rfl)) yO ?_
 refine yn hF (fun v2 hv2 hF=>?_)
 refine z8 rfl (fun hb=>zE rfl rfl rfl (zo (zn yL hb) zy) (.cons (zb rfl) .nil)) (fun hb=>ok22 (hv2 hb)) yT ?_
 refine zp rfl (fun hb=>xV rfl (zn yQ hb) rfl) yZ ?_
 refine zc rfl (zG rfl yM rfl yY (zZ (fun ht=>gF ht))) xd ?_
 refine zf (zi ?_)
 refine zH xb hF (fun hc3 hF=>?_) (fun hc3 hF=>?_)
 ·refine zk (zd ?_)
  refine zc rfl (zg rfl rfl (xq xa)) xp ?_
  refine zc rfl (zg rfl rfl (zb rfl)) xK ?_
  refine zf (zi (zJ (zA ?_)))
  obtain rfl:=Option.some.inj hF
  refine qe rfl (zC yS (zC xn zD)) (zz (leV.tup (.cons (leV.osl _ _ _) (.eq leL.nil))) rfl ?_)
  exact ⟨rfl,rfl⟩
 ·refine zI (zi (zk (zd ?_)))
  refine zc rfl (zg rfl rfl (xq el47)) xH ?_
  refine zf (zi (zk (zk (zd ?_))))
  refine zc rfl (ze rfl yz (zb rfl)) xi ?_
  refine zS hF (fun v4 hv4 hF=>?_)
  refine zM rfl (zE rfl rfl rfl (zo xh zy) (.cons (zb rfl) .nil)) (ok23 hv4) xA ?_
  refine z7 rfl (zQ rfl rfl rfl rfl el48 xz z0) xE fun hn5=>?_
  replace hn5:=xg hn5
  refine zc rfl (ze rfl rfl (zb rfl)) xI ?_
  refine zf (zi (zO ?_))
  refine ym (fun (n1:Nat) (s1:(List GEdit))=>yB [2,3,4,5,6,7,9,10,11,12,13,14,15,16,17,18,19,23,24,25,26,27,28,29,30,31,32,33,34,35,36,37,38,39,40,41,42,43,44,45,46] [(8,.osl (some (h.toks.length+0)) 22 (s1.map GEdit.row)),(22,.int .i64 (n1:Int))]) (fun s1=>h.ext [] [(s1).length]) hF (fun _ _=>by simp only [yB,qw,List.set_cons_succ,List.set_cons_zero];try rfl) (wk.trans (wk_tok yV rfl xH rfl) (wk.le (by exact (.eq (.eq (.d4 (.drop (.drop (.cons (leV.of_eq rfl) (.d4 (.d4 (.drop (.drop (.drop (.eq (.eq (.cons (leV.of_eq rfl) (.d16 (.d4 (.d4 leL.nil)))))))))))))))))))) ?_
  intro n1 s1 hi1 hF
  refine zk (zd ?_)
  refine zc rfl (zu rfl xF xB rfl) xD ?_
  refine zf (zi (zk ?_))
  refine yJ xu hF (fun x1 o1 hl1 hx1 hF hK1=>?_) (fun hF=>?_)
  ·refine zI (zi (zk (zO (zk (zd ?_)))))
   refine zc rfl (yd rfl el48 xz xF wd (yA hx1)) xM ?_
   refine zc rfl (zY rfl ty60.choose_spec.1 xN (zL (cs':=[.sl 1 (x1.path.map zK),.int .u8 x1.leaf.typ,.int .i64 x1.leaf.n,.int .u64 x1.leaf.time,.int .u8 x1.leaf.dot.actor.rep,.int .u32 x1.leaf.dot.actor.inc,.int .u64 x1.leaf.dot.seq,.str x1.leaf.text,.sl 5 (x1.leaf.items.map GItem.row),.sl 3 (x1.leaf.tombs.map GDot.row)]) ty60.choose_spec.2 rfl rfl) (zb rfl)) wa ?_
   refine zc rfl (xf (n:=0) rfl ze60 rfl) yq ?_
   refine zc rfl (yk (cs':=[.sl 1 (x1.path.map zK),.int .u8 x1.leaf.typ,.int .i64 x1.leaf.n,.int .u64 x1.leaf.time,.int .u8 x1.leaf.dot.actor.rep,.int .u32 x1.leaf.dot.actor.inc,.int .u64 x1.leaf.dot.seq,.str x1.leaf.text,.sl 5 (x1.leaf.items.map GItem.row),.sl 3 (x1.leaf.tombs.map GDot.row)]) rfl ty60.choose_spec.1 yi x9 (zb rfl) rfl rfl rfl rfl rfl) rfl ?_
   refine zf (zi (zk (zd ?_)))
   refine zc rfl (ze rfl yg (zb rfl)) wi ?_
   refine zc rfl (ze rfl yw (zb rfl)) wj ?_
   refine zc rfl (zj rfl fo60x0 yi rfl) wn ?_
   refine zc rfl (zw rfl ty23 wl rfl (zr rfl) (zb rfl)) wD ?_
   refine zS hF (fun v13 hv13 hF=>?_)
   refine zM rfl (zE rfl rfl rfl (zo wh (zo wm (zo wz zy))) (.cons (zb rfl) (.cons (zb rfl) (.cons (zb rfl) .nil)))) (ok14 hv13) wC ?_
   refine zf (zi ?_)
   refine zH wM hF (fun hc14 hF=>?_) (fun hc14 hF=>?_)
   ·refine zd ?_
    refine zc rfl (ze rfl yV (zb rfl)) wI ?_
    refine zc rfl (zj rfl fo60x0 yi rfl) wH ?_
    refine zc rfl (zw rfl ty23 wy rfl (zr rfl) (zb rfl)) wP ?_
    refine zc rfl (zj rfl fo60x1 yi rfl) wO ?_
    refine zc rfl (zj rfl wU wK rfl) wN ?_
    refine zc rfl (zw rfl vb wS rfl (zr rfl) (zb rfl)) wG ?_
    refine zc rfl (zj rfl fo60x1 yi rfl) wF ?_
    refine zc rfl (zw rfl ty58.choose_spec.1 wJ rfl (zL (cs':=[.int .u8 x1.leaf.typ,.int .i64 x1.leaf.n,.int .u64 x1.leaf.time,.int .u8 x1.leaf.dot.actor.rep,.int .u32 x1.leaf.dot.actor.inc,.int .u64 x1.leaf.dot.seq,.str x1.leaf.text,.sl 5 (x1.leaf.items.map GItem.row),.sl 3 (x1.leaf.tombs.map GDot.row)]) ty58.choose_spec.2 rfl rfl) (zb rfl)) wZ ?_
    refine zc rfl (wR (cs':=[.sl 1 (x1.path.map zK),.int .u8 x1.leaf.typ,.bool false,.bool true,.int .u8 (0:Int),.int .i64 (0:Int),.int .u64 (0:Int),.int .u8 (0:Int),.int .u32 (0:Int),.int .u64 (0:Int),.str ([]:zR),.osl none 5 (([]:List GItem).map GItem.row),.osl none 3 (([]:List GDot).map GDot.row),.int .u8 x1.leaf.typ,.int .i64 x1.leaf.n,.int .u64 x1.leaf.time,.int .u8 x1.leaf.dot.actor.rep,.int .u32 x1.leaf.dot.actor.inc,.int .u64 x1.leaf.dot.seq,.str x1.leaf.text,.sl 5 (x1.leaf.items.map GItem.row),.sl 3 (x1.leaf.tombs.map GDot.row)]) rfl su62 ze62 pl62 (zT wT (zT wu (zT rfl (zT w6 ye)))) (.cons (zb rfl) (.cons (zb rfl) (.cons (zb rfl) (.cons (zb rfl) .nil)))) rfl rfl) wY ?_
    refine zc rfl (yh (es:=([(GEdit.mk x1.path x1.leaf.typ false true (GLeaf.mk (0:Int) (0:Int) (0:Int) (GDot.mk (GActor.mk (0:Int) (0:Int)) (0:Int)) ([]:zR) ([]:List GItem) ([]:List GDot)) x1.leaf)]:List GEdit).map GEdit.row) rfl el47 ze62 rfl rfl (zT w5 ye) (.cons (zb rfl) .nil) rfl rfl rfl) (sk qP) ?_
    refine xG hF (fun hm15 hF=>?_)
    refine zc rfl (wv (j:=0) (T':=[((s1++([(GEdit.mk x1.path x1.leaf.typ false true (GLeaf.mk (0:Int) (0:Int) (0:Int) (GDot.mk (GActor.mk (0:Int) (0:Int)) (0:Int)) ([]:zR) ([]:List GItem) ([]:List GDot)) x1.leaf)]:List GEdit))).length]) rfl rfl rfl rfl el47 el47 wL (gk yg) (zb rfl) (zb rfl) wo hm15 rfl rfl) (sk qI) ?_
    refine zc rfl (zg rfl (gk yw) (zb rfl)) xH ?_
    refine zf (yb (zi (zd ?_)))
    refine zc rfl (zu rfl xF rfl rfl) (sk yH) ?_
    refine zc rfl (ze rfl (gk yz) (zb rfl)) xI ?_
    refine zf (yu ?_)
    obtain rfl:=Option.some.inj hF
    exact ⟨(s1++([(GEdit.mk x1.path x1.leaf.typ false true (GLeaf.mk (0:Int) (0:Int) (0:Int) (GDot.mk (GActor.mk (0:Int) (0:Int)) (0:Int)) ([]:zR) ([]:List GItem) ([]:List GDot)) x1.leaf)]:List GEdit)),hl1,hK1,wk.trans (wk.le (by exact (.eq (.eq (.d4 (.drop (.drop (.cons (leV.of_eq rfl) (.d4 (.d4 (.drop (.drop (.drop (.eq (.eq (.cons (leV.of_eq (wx (by omega) (by omega))) (.d16 (.d4 (.d4 leL.nil))))))))))))))))))) (xY (by simp [yj,AV.low]) rfl rfl (by simp [Blk.low,yj,AV.low]))⟩
   ·refine zI (yb (zi (zd ?_)))
    refine zc rfl (zu rfl xF rfl rfl) (sk yH) ?_
    refine zc rfl (ze rfl (gk yz) (zb rfl)) xI ?_
    refine zf (yu ?_)
    obtain rfl:=Option.some.inj hF
    exact ⟨s1,hl1,hK1,wk.trans (wk.le (by exact (.eq (.eq (.d4 (.drop (.drop (.cons (leV.of_eq rfl) (.d4 (.d4 (.drop (.drop (.drop (.eq (.eq (.cons (leV.of_eq (wx (by omega) (by omega))) (.d16 (.d4 (.d4 leL.nil))))))))))))))))))) (xY (by simp [yj,AV.low]) rfl rfl (by simp [Blk.low,yj,AV.low]))⟩
  ·refine yF ?_
   refine zX ?_
   refine zU ?_
   refine zV ?_
   refine zi (zk (zd ?_))
   refine zc rfl (ze rfl yV (zb rfl)) (sk xS) ?_
   refine zS hF (fun v16 hv16 hF=>?_)
   refine zM rfl (zE rfl rfl rfl (zo rfl (zo (gk yX) zy)) (.cons (xq xa) (.cons (zb rfl) .nil))) ((ok24 hv16).le (.cons (leV.osl _ _ _) (.cons (leV.osl _ _ _) leL.nil))) (sk yD) ?_
   refine zc rfl (xe rfl (gk yv) rfl (zb rfl)) (sk xw) ?_
   refine zc rfl (xe rfl (gk yv) rfl (zb rfl)) (sk xp) ?_
   refine zc rfl (zg rfl (gk yP) (zb rfl)) xp ?_
   refine zc rfl (zg rfl (gk yS) (zb rfl)) xK ?_
   refine zf (zi (zJ ?_))
   obtain rfl:=Option.some.inj hF
   refine qe rfl (zC yS (zC xn zD)) (zz (leV.refl _) rfl ?_)
   exact ⟨rfl,rfl⟩
/-! varve/varveref04.IsName -/
theorem ok61 {s0:zR} {res:Bool} {h:AH}  (hF:vO s0=some res):Spec Tryz.prog 61 [.str s0] h (fun rr hh=>rr=.bool res∧hh=h):=by
 unfold vO at hF
 refine zt Tryz.func61 rfl (by kernel_rfl) (env:=[.str s0,za,za,za,za,za,za,za,za,za,za,za,za,za,za,za,za,za,za,za,za,za,za,za,za,za,za,za,za,za,za,za,za,za,za,za,za,za,za,za,za,za,za,za,za]) (by rfl) ?_
 refine zk (zd ?_)
 refine zc rfl (zg rfl rfl (zb rfl)) yH ?_
 refine zf (zi (zk (zk (zd ?_))))
 refine zc rfl (ze rfl yg (zb rfl)) xw ?_
 refine z7 rfl (vq rfl rfl rfl rfl vt yP) xp fun hn1=>?_
 replace hn1:=xg hn1
 refine zc rfl (zu rfl yS rfl rfl) xK ?_
 refine zc rfl (ze rfl xn (zb rfl)) xH ?_
 refine zp rfl (fun hb=>ze rfl yg (zb rfl)) x8 ?_
 refine xj rfl (fun hb=>vq rfl rfl rfl rfl vt (zn xl hb)) yq fun hn2=>?_
 refine zp rfl (fun hb=>zu rfl (zn yi hb) rfl rfl) yy ?_
 refine zc rfl (zG rfl yV rfl yl (zZ (fun ht=>gF ht))) yE ?_
 refine zf (zi ?_)
 refine zH yC hF (fun hc3 hF=>?_) (fun hc3 hF=>?_)
 ·refine zk (zd ?_)
  refine zc rfl (zg rfl rfl (zb rfl)) yH ?_
  refine zf (zi (zJ (zA ?_)))
  obtain rfl:=Option.some.inj hF
  refine zB rfl (zC yz zD) (zz (leV.refl _) rfl ?_)
  exact ⟨rfl,rfl⟩
 ·refine zI (zi (zk (zk (zd ?_))))
  refine zc rfl (zg rfl rfl (zb rfl)) xS ?_
  refine zf (zi (zO ?_))
  refine ym (fun (n1:Nat) (s1:Unit)=>yB [1,2,4,5,6,7,8,9,10,11,12,13,14,15,16,17,18,19,20,21,22,23,24,25,26,27,28,29,30,31,32,33,34,35,36,37,38,39,40,41,42,43,44] [(3,.int .i64 (n1:Int))]) (fun s1=>h.ext [] []) hF (fun _ _=>by simp only [yB,qw,List.set_cons_succ,List.set_cons_zero];try rfl) (wk.le (by exact (.eq (.drop (.drop (.cons (leV.of_eq rfl) (.d16 (.d16 (.d4 (.d4 (.drop leL.nil))))))))))) ?_
  intro n1 s1 hi1 hF
  refine zk (zk (zd ?_))
  refine zc rfl (ze rfl yX (zb rfl)) yG ?_
  refine zc rfl (ze rfl yg (zb rfl)) yN ?_
  refine z7 rfl (vq rfl rfl rfl rfl vt yM) yO fun hn10=>?_
  replace hn10:=xg hn10
  refine zc rfl (zu rfl yr yL rfl) yT ?_
  refine zf (zi ?_)
  refine yJ yQ hF (fun x1 o1 hl1 hx1 hF hK1=>?_) (fun hF=>?_)
  ·refine zI (zi (zk (zO (zk (zd ?_)))))
   refine zc rfl (ze rfl yg (zb rfl)) xi ?_
   refine zc rfl (ze rfl yX (zb rfl)) xA ?_
   refine zc rfl (qb rfl vt xh xz (yA hx1)) xE ?_
   refine zc rfl (zg rfl xB (zb rfl)) yD ?_
   refine zf (zi (zk (zd ?_)))
   refine zc rfl (ze rfl yv (zb rfl)) xI ?_
   refine zc rfl (zu rfl xF rfl rfl) xD ?_
   refine zc rfl (ze rfl xu (zb rfl)) xM ?_
   refine zp rfl (fun hb=>ze rfl yv (zb rfl)) wa ?_
   refine zp rfl (fun hb=>zu rfl (zn x9 hb) rfl rfl) wi ?_
   refine zc rfl (zG rfl xN wh rfl (zN (fun ht=>gT ht))) wj ?_
   refine zc rfl (ze rfl wm (zb rfl)) wn ?_
   refine zp rfl (fun hb=>ze rfl yv (zb rfl)) wD ?_
   refine zp rfl (fun hb=>zu rfl (zn wz hb) rfl rfl) wC ?_
   refine zp rfl (fun hb=>ze rfl (zn wM hb) (zb rfl)) wI ?_
   refine zp (zP rfl rfl rfl) (fun hb=>ze rfl yv (zb rfl)) wH ?_
   refine zp (zP rfl rfl rfl) (fun hb=>zu rfl (zn wy hb) rfl rfl) wP ?_
   refine zp rfl (fun hb=>zG rfl (zn wL hb) wT rfl (zN (fun ht=>gT2 hb ht))) wO ?_
   refine zc rfl (zG rfl wl rfl wK (zZ (fun ht=>gF ht))) wN ?_
   refine zc rfl (ze rfl wS (zb rfl)) wG ?_
   refine zp rfl (fun hb=>ze rfl yv (zb rfl)) wF ?_
   refine zp rfl (fun hb=>zu rfl (zn wJ hb) rfl rfl) wZ ?_
   refine zp rfl (fun hb=>ze rfl (zn w6 hb) (zb rfl)) wY ?_
   refine zp (zP rfl rfl rfl) (fun hb=>ze rfl yv (zb rfl)) (sk qP) ?_
   refine zp (zP rfl rfl rfl) (fun hb=>zu rfl (zn (gk yg) hb) rfl rfl) (sk qI) ?_
   refine zp rfl (fun hb=>zG rfl (zn w5 hb) (gk yw) rfl (zN (fun ht=>gT2 hb ht))) (sk yH) ?_
   refine zc rfl (zG rfl wu rfl (gk yz) (zZ (fun ht=>gF ht))) (sk xS) ?_
   refine zc rfl (xV rfl (gk yX) rfl) (sk yD) ?_
   refine zf (zi ?_)
   refine zH (gk yv) hF (fun hc11 hF=>?_) (fun hc11 hF=>?_)
   ·refine zk (zd ?_)
    refine zc rfl (zg rfl rfl (zb rfl)) yH ?_
    refine zf (zi (zJ ?_))
    refine zF ?_
    refine zA ?_
    refine yf ?_
    obtain rfl:=Option.some.inj hF
    replace hF:=hK1
    refine zF ?_
    refine zA ?_
    obtain rfl:=Option.some.inj hF
    refine zB rfl (zC yz zD) (zz (leV.refl _) rfl ?_)
    exact ⟨rfl,rfl⟩
   ·refine zI (yb (zi (zd ?_)))
    refine zc rfl (ze rfl yX (zb rfl)) yZ ?_
    refine zc rfl (zu rfl yY rfl rfl) xd ?_
    refine zc rfl (zg rfl xb (zb rfl)) xS ?_
    refine zf (yu ?_)
    obtain rfl:=Option.some.inj hF
    exact ⟨(),hl1,hK1,wk.le (by exact (.eq (.drop (.drop (.cons (leV.of_eq (wx (by omega) (by omega))) (.d16 (.d16 (.d4 (.d4 (.drop leL.nil))))))))))⟩
  ·refine yF ?_
   refine zX ?_
   refine zU ?_
   refine zV ?_
   refine zi (zk (zd ?_))
   refine zc rfl (zg rfl rfl (zb rfl)) yH ?_
   refine zf (zi (zJ ?_))
   obtain rfl:=Option.some.inj hF
   refine zB rfl (zC yz zD) (zz (leV.refl _) rfl ?_)
   exact ⟨rfl,rfl⟩
/-! varve/varveref30.MayPattern -/
theorem ok34 {p0:(List zR)} {res:Bool} {h:AH}  (hF:vm p0=some res):Spec Tryz.prog 34 [.sl 1 (p0.map zK)] h (fun rr hh=>rr=.bool res∧hh=h):=by
 unfold vm at hF
 refine zt Tryz.func34 rfl (by kernel_rfl) (env:=[.sl 1 (p0.map zK),za,za,za,za,za,za,za,za,za,za,za,za,za,za,za,za,za,za,za,za,za,za,za,za,za,za,za,za,za,za,za,za,za,za,za,za,za,za,za,za,za,za,za,za]) (by rfl) ?_
 refine zk (zd ?_)
 refine zc rfl (zg rfl rfl (zb rfl)) yH ?_
 refine zf (zi (zk (zd ?_)))
 refine zc rfl (ze rfl yg (zb rfl)) xw ?_
 refine z7 rfl (zQ rfl rfl rfl rfl xc yP z0) xp fun hn1=>?_
 replace hn1:=xg hn1
 refine zc rfl (zg rfl yS (zb rfl)) xS ?_
 refine zf (zi (zk (zk (zd ?_))))
 refine zc rfl (ze rfl yX (zb rfl)) xK ?_
 refine zc rfl (zu rfl xn rfl rfl) xH ?_
 refine zc rfl (ze rfl yV (zb rfl)) x8 ?_
 refine zp rfl (fun hb=>ze rfl yg (zb rfl)) yq ?_
 refine zp rfl (fun hb=>ze rfl yX (zb rfl)) yy ?_
 refine zp rfl (fun hb=>zu rfl (zn yl hb) rfl rfl) yE ?_
 refine xG hF (fun hg2 hF=>?_)
 refine zp rfl (fun hb=>yK default rfl xc (zn yi hb) (zn yC hb) wd (hg2 hb)) yG ?_
 refine zp rfl (fun hb=>zY rfl vt (zn yr hb) (zr rfl) (zb rfl)) yN ?_
 refine zp rfl (fun hb=>zu rfl (zn yM hb) rfl rfl) yO ?_
 refine zc rfl (zG rfl xl yL rfl (zN (fun ht=>gT ht))) yT ?_
 refine zf (zi ?_)
 refine zH yQ hF (fun hc3 hF=>?_) (fun hc3 hF=>?_)
 ·refine zk (zd ?_)
  refine zc rfl (ze rfl yX (zb rfl)) yZ ?_
  refine zc rfl (zu rfl yY rfl rfl) xd ?_
  refine zc rfl (zg rfl xb (zb rfl)) xS ?_
  refine zf (zi (zk (zd ?_)))
  refine zc rfl (ze rfl yX (zb rfl)) xi ?_
  refine zc rfl (zu rfl xh rfl rfl) xA ?_
  refine zf (zi ?_)
  refine zH xz hF (fun hc4 hF=>?_) (fun hc4 hF=>?_)
  ·refine zk (zd ?_)
   refine zc rfl (zg rfl rfl (zb rfl)) yH ?_
   refine zf (zi (zJ (zA ?_)))
   obtain rfl:=Option.some.inj hF
   refine zB rfl (zC yz zD) (zz (leV.refl _) rfl ?_)
   exact ⟨rfl,rfl⟩
  ·refine zI (zi (zk (zk (zd ?_))))
   refine zc rfl (ze rfl yX (zb rfl)) xE ?_
   refine zc rfl (zu rfl xB rfl rfl) xI ?_
   refine zc rfl (ze rfl xF (zb rfl)) xD ?_
   refine zp rfl (fun hb=>ze rfl yX (zb rfl)) xM ?_
   refine zp rfl (fun hb=>zu rfl (zn xN hb) rfl rfl) wa ?_
   refine zc rfl (zG rfl xu rfl x9 (zZ (fun ht=>gF ht))) wi ?_
   refine zf (zi ?_)
   refine zH wh hF (fun hc5 hF=>?_) (fun hc5 hF=>?_)
   ·refine zk (zd ?_)
    refine zc rfl (zg rfl rfl (zb rfl)) yH ?_
    refine zf (zi (zJ (zA ?_)))
    obtain rfl:=Option.some.inj hF
    refine zB rfl (zC yz zD) (zz (leV.refl _) rfl ?_)
    exact ⟨rfl,rfl⟩
   ·refine zI (zi (zk (zk (zd ?_))))
    refine zc rfl (zg rfl rfl (zb rfl)) yD ?_
    refine zf (zi (zO ?_))
    refine xG hF (fun hR1 hF=>?_)
    refine ym (fun (n1:Nat) (s1:Unit)=>yB [1,2,5,6,7,8,9,10,11,12,13,14,15,16,17,18,19,20,21,22,23,24,25,26,27,28,29,30,31,32,33,34,35,36,37,38,39,40,41,42,43,44] [(4,.int .i64 (n1:Int))]) (fun s1=>h.ext [] []) hF (fun _ _=>by simp only [yB,qw,List.set_cons_succ,List.set_cons_zero];try rfl) (wk.le (by exact (.eq (.drop (.drop (.eq (.cons (leV.of_eq rfl) (.d16 (.d16 (.d4 (.d4 leL.nil))))))))))) ?_
    intro n1 s1 hi1 hF
    refine zk (zk (zd ?_))
    refine zc rfl (ze rfl yv (zb rfl)) wj ?_
    refine zc rfl (ze rfl yX (zb rfl)) wn ?_
    refine zc rfl (zu rfl wm wl rfl) wD ?_
    refine zf (zi ?_)
    refine r_condR wz hF (fun x1 o1 hl1 hm1 hx1 hF hK1=>?_) (fun hF=>?_)
    ·refine zI (zi (zk (zO (zk (zd ?_)))))
     refine zc rfl (ze rfl yg (zb rfl)) wH ?_
     refine zc rfl (ze rfl yv (zb rfl)) wP ?_
     refine zS hF (fun y12 hy12 hF=>?_)
     refine zc rfl (yd rfl xc wy wT wd hy12) wO ?_
     refine zc rfl (zY rfl vt wK (zr rfl) (zb rfl)) wN ?_
     refine zc rfl (zu rfl wS rfl rfl) wG ?_
     refine zc rfl (ze rfl wu (zb rfl)) wF ?_
     refine zp rfl (fun hb=>ze rfl yg (zb rfl)) wZ ?_
     refine zp rfl (fun hb=>ze rfl yv (zb rfl)) wY ?_
     refine xG hF (fun hg13 hF=>?_)
     refine zp rfl (fun hb=>yK default rfl xc (zn w6 hb) (zn w5 hb) wd (hg13 hb)) (sk qP) ?_
     refine zp rfl (fun hb=>zY rfl vt (zn (gk yg) hb) (zr rfl) (zb rfl)) (sk qI) ?_
     refine yn hF (fun v14 hv14 hF=>?_)
     refine z8 rfl (fun hb=>zE rfl rfl rfl (zo (zn (gk yw) hb) zy) (.cons (zb rfl) .nil)) (fun hb=>ok61 (hv14 hb)) (sk yH) ?_
     refine zp rfl (fun hb=>xV rfl (zn (gk yz) hb) rfl) (sk xS) ?_
     refine zc rfl (zG rfl wJ (gk yX) rfl (zN (fun ht=>gT ht))) (sk yD) ?_
     refine zf (zi ?_)
     refine zH (gk yv) hF (fun hc15 hF=>?_) (fun hc15 hF=>?_)
     ·refine zk (zd ?_)
      refine zc rfl (zg rfl rfl (zb rfl)) yH ?_
      refine zf (zi (zJ ?_))
      refine zF ?_
      refine zA ?_
      refine yf ?_
      obtain rfl:=Option.some.inj hF
      replace hF:=hK1
      refine zF ?_
      refine zA ?_
      obtain rfl:=Option.some.inj hF
      refine zB rfl (zC yz zD) (zz (leV.refl _) rfl ?_)
      exact ⟨rfl,rfl⟩
     ·refine zI (yb (zi (zd ?_)))
      refine zc rfl (ze rfl yv (zb rfl)) wC ?_
      refine zc rfl (zu rfl wM rfl rfl) wI ?_
      refine zc rfl (zg rfl wL (zb rfl)) yD ?_
      refine zf (yu ?_)
      obtain rfl:=Option.some.inj hF
      exact ⟨(),hl1,hK1,wk.le (by exact (.eq (.drop (.drop (.eq (.cons (leV.of_eq (wx (by omega) (by omega))) (.d16 (.d16 (.d4 (.d4 leL.nil))))))))))⟩
    ·refine yF ?_
     refine zX ?_
     refine zU ?_
     refine zV ?_
     refine zi (zk (zd ?_))
     refine zc rfl (zg rfl rfl (zb rfl)) yH ?_
     refine zf (zi (zJ ?_))
     obtain rfl:=Option.some.inj hF
     refine zB rfl (zC yz zD) (zz (leV.refl _) rfl ?_)
     exact ⟨rfl,rfl⟩
 ·refine zI (zi (zk (zk (zd ?_))))
  refine zc rfl (ze rfl yX (zb rfl)) xE ?_
  refine zc rfl (zu rfl xB rfl rfl) xI ?_
  refine zc rfl (ze rfl xF (zb rfl)) xD ?_
  refine zp rfl (fun hb=>ze rfl yX (zb rfl)) xM ?_
  refine zp rfl (fun hb=>zu rfl (zn xN hb) rfl rfl) wa ?_
  refine zc rfl (zG rfl xu rfl x9 (zZ (fun ht=>gF ht))) wi ?_
  refine zf (zi ?_)
  refine zH wh hF (fun hc16 hF=>?_) (fun hc16 hF=>?_)
  ·refine zk (zd ?_)
   refine zc rfl (zg rfl rfl (zb rfl)) yH ?_
   refine zf (zi (zJ (zA ?_)))
   obtain rfl:=Option.some.inj hF
   refine zB rfl (zC yz zD) (zz (leV.refl _) rfl ?_)
   exact ⟨rfl,rfl⟩
  ·refine zI (zi (zk (zk (zd ?_))))
   refine zc rfl (zg rfl rfl (zb rfl)) yD ?_
   refine zf (zi (zO ?_))
   refine ym (fun (n1:Nat) (s1:Unit)=>yB [1,2,5,6,7,8,9,10,11,12,13,14,15,16,17,18,19,20,21,22,23,24,25,26,27,28,29,30,31,32,33,34,35,36,37,38,39,40,41,42,43,44] [(4,.int .i64 (n1:Int))]) (fun s1=>h.ext [] []) hF (fun _ _=>by simp only [yB,qw,List.set_cons_succ,List.set_cons_zero];try rfl) (wk.le (by exact (.eq (.drop (.drop (.eq (.cons (leV.of_eq rfl) (.d16 (.d16 (.d4 (.d4 leL.nil))))))))))) ?_
   intro n1 s1 hi1 hF
   refine zk (zk (zd ?_))
   refine zc rfl (ze rfl yv (zb rfl)) wj ?_
   refine zc rfl (ze rfl yX (zb rfl)) wn ?_
   refine zc rfl (zu rfl wm wl rfl) wD ?_
   refine zf (zi ?_)
   refine yJ wz hF (fun x1 o1 hl1 hx1 hF hK1=>?_) (fun hF=>?_)
   ·refine zI (zi (zk (zO (zk (zd ?_)))))
    refine zc rfl (ze rfl yg (zb rfl)) wH ?_
    refine zc rfl (ze rfl yv (zb rfl)) wP ?_
    refine zc rfl (yd rfl xc wy wT wd (yA hx1)) wO ?_
    refine zc rfl (zY rfl vt wK (zr rfl) (zb rfl)) wN ?_
    refine zc rfl (zu rfl wS rfl rfl) wG ?_
    refine zc rfl (ze rfl wu (zb rfl)) wF ?_
    refine zp rfl (fun hb=>ze rfl yg (zb rfl)) wZ ?_
    refine zp rfl (fun hb=>ze rfl yv (zb rfl)) wY ?_
    refine xG hF (fun hg23 hF=>?_)
    refine zp rfl (fun hb=>yK default rfl xc (zn w6 hb) (zn w5 hb) wd (hg23 hb)) (sk qP) ?_
    refine zp rfl (fun hb=>zY rfl vt (zn (gk yg) hb) (zr rfl) (zb rfl)) (sk qI) ?_
    refine yn hF (fun v24 hv24 hF=>?_)
    refine z8 rfl (fun hb=>zE rfl rfl rfl (zo (zn (gk yw) hb) zy) (.cons (zb rfl) .nil)) (fun hb=>ok61 (hv24 hb)) (sk yH) ?_
    refine zp rfl (fun hb=>xV rfl (zn (gk yz) hb) rfl) (sk xS) ?_
    refine zc rfl (zG rfl wJ (gk yX) rfl (zN (fun ht=>gT ht))) (sk yD) ?_
    refine zf (zi ?_)
    refine zH (gk yv) hF (fun hc25 hF=>?_) (fun hc25 hF=>?_)
    ·refine zk (zd ?_)
     refine zc rfl (zg rfl rfl (zb rfl)) yH ?_
     refine zf (zi (zJ ?_))
     refine zF ?_
     refine zA ?_
     refine yf ?_
     obtain rfl:=Option.some.inj hF
     replace hF:=hK1
     refine zF ?_
     refine zA ?_
     obtain rfl:=Option.some.inj hF
     refine zB rfl (zC yz zD) (zz (leV.refl _) rfl ?_)
     exact ⟨rfl,rfl⟩
    ·refine zI (yb (zi (zd ?_)))
     refine zc rfl (ze rfl yv (zb rfl)) wC ?_
     refine zc rfl (zu rfl wM rfl rfl) wI ?_
     refine zc rfl (zg rfl wL (zb rfl)) yD ?_
     refine zf (yu ?_)
     obtain rfl:=Option.some.inj hF
     exact ⟨(),hl1,hK1,wk.le (by exact (.eq (.drop (.drop (.eq (.cons (leV.of_eq (wx (by omega) (by omega))) (.d16 (.d16 (.d4 (.d4 leL.nil))))))))))⟩
   ·refine yF ?_
    refine zX ?_
    refine zU ?_
    refine zV ?_
    refine zi (zk (zd ?_))
    refine zc rfl (zg rfl rfl (zb rfl)) yH ?_
    refine zf (zi (zJ ?_))
    obtain rfl:=Option.some.inj hF
    refine zB rfl (zC yz zD) (zz (leV.refl _) rfl ?_)
    exact ⟨rfl,rfl⟩
/-! varve/varveref42.bit -/
theorem ok30 {kinds0:Int} {k1:Int} {res:Bool} {h:AH}  (hF:wg kinds0 k1=some res):Spec Tryz.prog 30 [.int .u8 kinds0,.int .u8 k1] h (fun rr hh=>rr=.bool res∧hh=h):=by
 unfold wg at hF
 refine zt Tryz.func30 rfl (by kernel_rfl) (env:=[.int .u8 kinds0,.int .u8 k1,za,za,za,za,za,za,za,za,za,za,za,za,za,za]) (by rfl) ?_
 refine zk (zd ?_)
 refine zc rfl (zg rfl rfl (zb rfl)) yD ?_
 refine zf (zi (zk (zk (zd ?_))))
 refine zc rfl (zg rfl rfl (zb rfl)) xw ?_
 refine zf (zi (zO ?_))
 refine xG hF (fun hR1 hF=>?_)
 refine ym (fun (n1:Nat) (s1:Int)=>yB [2,3,4,6,7,8,9,10,11,12,13,14,15] [(0,.int .u8 s1),(5,.int .u8 (n1:Int))]) (fun s1=>h.ext [] []) hF (fun _ _=>by simp only [yB,qw,List.set_cons_succ,List.set_cons_zero];try rfl) (wk.le (by exact (.cons (leV.of_eq rfl) (.eq (.drop (.drop (.drop (.cons (leV.of_eq rfl) (.d4 (.d4 (.drop (.drop leL.nil)))))))))))) ?_
 intro n1 s1 hi1 hF
 refine zk (zk (zd ?_))
 refine zc rfl (ze rfl yP (zb rfl)) xp ?_
 refine zc rfl (ze rfl yw (zb rfl)) xK ?_
 refine zc rfl (zu rfl yS xn rfl) xH ?_
 refine zf (zi ?_)
 refine r_condR yV hF (fun x1 o1 hl1 hm1 hx1 hF hK1=>?_) (fun hF=>?_)
 ·refine zI (zi (zk (zO (zd ?_))))
  refine zc rfl (ze rfl yg (zb rfl)) yy ?_
  refine zc rfl (zu rfl yl rfl rfl) yE ?_
  refine zc rfl (zg rfl yC (zb rfl)) qP ?_
  refine zf (yb (zi (zd ?_)))
  refine zc rfl (ze rfl yP (zb rfl)) x8 ?_
  refine zc rfl (zu rfl xl rfl rfl) yq ?_
  refine zc rfl (zg rfl yi (zb rfl)) xw ?_
  refine zf (yu ?_)
  obtain rfl:=Option.some.inj hF
  exact ⟨(IntKind.wrap .u8 (Int.tdiv s1 (2:Int))),hl1,hK1,wk.le (by exact (.cons (leV.of_eq rfl) (.eq (.drop (.drop (.drop (.cons (leV.of_eq (w8e (by omega) (by omega))) (.d4 (.d4 (.drop (.drop leL.nil)))))))))))⟩
 ·refine yF ?_
  refine zX ?_
  refine zU ?_
  refine zV ?_
  refine zi (zk (zd ?_))
  refine zc rfl (ze rfl yg (zb rfl)) yG ?_
  refine zc rfl (zu rfl yr rfl rfl) yN ?_
  refine zc rfl (zu rfl yM rfl rfl) yO ?_
  refine zc rfl (zg rfl yL (zb rfl)) yD ?_
  refine zf (zi (zJ ?_))
  obtain rfl:=Option.some.inj hF
  refine zB rfl (zC yv zD) (zz (leV.refl _) rfl ?_)
  exact ⟨rfl,rfl⟩
/-! varve/varveref42.May -/
theorem ok11 {l0:(List GRule)} {res:Bool} {h:AH}  (hF:qc l0=some res):Spec Tryz.prog 11 [.sl 5 (l0.map GRule.row)] h (fun rr hh=>rr=.bool res∧hh=h):=by
 unfold qc at hF
 refine zt Tryz.func11 rfl (by kernel_rfl) (env:=[.sl 5 (l0.map GRule.row),za,za,za,za,za,za,za,za,za,za,za,za,za,za,za,za,za,za,za,za,za,za,za,za,za,za,za,za,za,za,za,za,za,za,za,za,za,za,za,za,za,za,za,za,za,za]) (by rfl) ?_
 refine zk (zd ?_)
 refine zc rfl (zg rfl rfl (zb rfl)) yH ?_
 refine zf (zi (zk (zk (zd ?_))))
 refine zc rfl (ze rfl yg (zb rfl)) xw ?_
 refine z7 rfl (zQ rfl rfl rfl rfl el22 yP z0) xp fun hn1=>?_
 replace hn1:=xg hn1
 refine zc rfl (zu rfl yS rfl rfl) xK ?_
 refine zf (zi ?_)
 refine zH xn hF (fun hc2 hF=>?_) (fun hc2 hF=>?_)
 ·refine zk (zd ?_)
  refine zc rfl (zg rfl rfl (zb rfl)) yH ?_
  refine zf (zi (zJ (zA ?_)))
  obtain rfl:=Option.some.inj hF
  refine zB rfl (zC yz zD) (zz (leV.refl _) rfl ?_)
  exact ⟨rfl,rfl⟩
 ·refine zI (zi (zk (zk (zd ?_))))
  refine zc rfl (zg rfl rfl (zb rfl)) xS ?_
  refine zf (zi (zO ?_))
  refine ym (fun (n1:Nat) (s1:Unit)=>yB [1,2,4,5,6,7,8,9,10,11,12,13,14,15,16,17,18,19,20,21,22,23,24,25,26,27,28,29,30,31,32,33,34,35,36,37,38,39,40,41,42,43,44,45,46] [(3,.int .i64 (n1:Int))]) (fun s1=>h.ext [] []) hF (fun _ _=>by simp only [yB,qw,List.set_cons_succ,List.set_cons_zero];try rfl) (wk.le (by exact (.eq (.drop (.drop (.cons (leV.of_eq rfl) (.d16 (.d16 (.d4 (.d4 (.drop (.drop (.drop leL.nil))))))))))))) ?_
  intro n1 s1 hi1 hF
  refine zk (zk (zd ?_))
  refine zc rfl (ze rfl yX (zb rfl)) xH ?_
  refine zc rfl (ze rfl yg (zb rfl)) x8 ?_
  refine z7 rfl (zQ rfl rfl rfl rfl el22 xl z0) yq fun hn13=>?_
  replace hn13:=xg hn13
  refine zc rfl (zu rfl yV yi rfl) yy ?_
  refine zf (zi ?_)
  refine yJ yl hF (fun x1 o1 hl1 hx1 hF hK1=>?_) (fun hF=>?_)
  ·refine zI (zi (zk (zO (zk (zd ?_)))))
   refine zc rfl (ze rfl yg (zb rfl)) yN ?_
   refine zc rfl (ze rfl yX (zb rfl)) yO ?_
   refine zc rfl (yd rfl el22 yM yL wd (yA hx1)) yT ?_
   refine zc rfl (zY rfl ty39.choose_spec.1 yQ (zL (cs':=[.int .u8 x1.rep,.sl 1 (x1.path.map zK),.int .u8 x1.kinds,.bool x1.allow,.bool x1.read]) ty39.choose_spec.2 rfl rfl) (zb rfl)) yZ ?_
   refine zc rfl (xf (n:=0) rfl ze39 rfl) yD ?_
   refine zc rfl (yk (cs':=[.int .u8 x1.rep,.sl 1 (x1.path.map zK),.int .u8 x1.kinds,.bool x1.allow,.bool x1.read]) rfl ty39.choose_spec.1 yv yY (zb rfl) rfl rfl rfl rfl rfl) rfl ?_
   refine zf (zi (zk (zd ?_)))
   refine zc rfl (zj rfl qr yv rfl) xd ?_
   refine zc rfl (zw rfl vb xb rfl (zr rfl) (zb rfl)) xi ?_
   refine zc rfl (zu rfl xh rfl rfl) xA ?_
   refine zc rfl (ze rfl xz (zb rfl)) xE ?_
   refine zp rfl (fun hb=>zj rfl qr yv rfl) xI ?_
   refine zp rfl (fun hb=>zw rfl vb (zn xF hb) rfl (zr rfl) (zb rfl)) xD ?_
   refine zp rfl (fun hb=>zu rfl (zn xu hb) rfl rfl) xM ?_
   refine zc rfl (zG rfl xB xN rfl (zN (fun ht=>gT ht))) wa ?_
   refine zc rfl (ze rfl x9 (zb rfl)) wi ?_
   refine zp rfl (fun hb=>zj rfl fo39x1 yv rfl) wj ?_
   refine zp rfl (fun hb=>zw rfl ty23 (zn wm hb) rfl (zr rfl) (zb rfl)) wn ?_
   refine yn hF (fun v14 hv14 hF=>?_)
   refine z8 rfl (fun hb=>zE rfl rfl rfl (zo (zn wl hb) zy) (.cons (zb rfl) .nil)) (fun hb=>ok34 (hv14 hb)) wD ?_
   refine zp rfl (fun hb=>xV rfl (zn wz hb) rfl) wC ?_
   refine zc rfl (zG rfl wh rfl wM (zZ (fun ht=>gF ht))) wI ?_
   refine zc rfl (ze rfl wL (zb rfl)) wH ?_
   refine zp rfl (fun hb=>zj rfl fo39x2 yv rfl) wP ?_
   refine zp rfl (fun hb=>zw rfl vb (zn wT hb) rfl (zr rfl) (zb rfl)) wO ?_
   refine yn hF (fun v15 hv15 hF=>?_)
   refine z8 rfl (fun hb=>zE rfl rfl rfl (zo (zn wK hb) (zo rfl zy)) (.cons (zb rfl) (.cons (zb rfl) .nil))) (fun hb=>ok30 (hv15 hb)) wN ?_
   refine zc rfl (zG rfl wy rfl wS (zZ (fun ht=>gF ht))) wG ?_
   refine zc rfl (ze rfl wu (zb rfl)) wF ?_
   refine zp rfl (fun hb=>zj rfl fo39x2 yv rfl) wZ ?_
   refine zp rfl (fun hb=>zw rfl vb (zn w6 hb) rfl (zr rfl) (zb rfl)) wY ?_
   refine yn hF (fun v16 hv16 hF=>?_)
   refine z8 rfl (fun hb=>zE rfl rfl rfl (zo (zn w5 hb) (zo rfl zy)) (.cons (zb rfl) (.cons (zb rfl) .nil))) (fun hb=>ok30 (hv16 hb)) (sk qP) ?_
   refine zc rfl (zG rfl wJ rfl (gk yg) (zZ (fun ht=>gF ht))) (sk qI) ?_
   refine zc rfl (ze rfl (gk yw) (zb rfl)) (sk yH) ?_
   refine zp rfl (fun hb=>zj rfl fo39x2 yv rfl) (sk xS) ?_
   refine zp rfl (fun hb=>zw rfl vb (zn (gk yX) hb) rfl (zr rfl) (zb rfl)) (sk yD) ?_
   refine yn hF (fun v17 hv17 hF=>?_)
   refine z8 rfl (fun hb=>zE rfl rfl rfl (zo (zn (gk yv) hb) (zo rfl zy)) (.cons (zb rfl) (.cons (zb rfl) .nil))) (fun hb=>ok30 (hv17 hb)) (sk xw) ?_
   refine zc rfl (zG rfl (gk yz) rfl (gk yP) (zZ (fun ht=>gF ht))) (sk xp) ?_
   refine zf (zi ?_)
   refine zH (gk yS) hF (fun hc18 hF=>?_) (fun hc18 hF=>?_)
   ·refine zk (zd ?_)
    refine zc rfl (zg rfl rfl (zb rfl)) yH ?_
    refine zf (zi (zJ ?_))
    refine zF ?_
    refine zA ?_
    refine yf ?_
    obtain rfl:=Option.some.inj hF
    replace hF:=hK1
    refine zF ?_
    refine zA ?_
    obtain rfl:=Option.some.inj hF
    refine zB rfl (zC yz zD) (zz (leV.refl _) rfl ?_)
    exact ⟨rfl,rfl⟩
   ·refine zI (yb (zi (zd ?_)))
    refine zc rfl (ze rfl yX (zb rfl)) yE ?_
    refine zc rfl (zu rfl yC rfl rfl) yG ?_
    refine zc rfl (zg rfl yr (zb rfl)) xS ?_
    refine zf (yu ?_)
    obtain rfl:=Option.some.inj hF
    exact ⟨(),hl1,hK1,wk.trans (wk.le (by exact (.eq (.drop (.drop (.cons (leV.of_eq (wx (by omega) (by omega))) (.d16 (.d16 (.d4 (.d4 (.drop (.drop (.drop leL.nil))))))))))))) (xY (by simp [yj,AV.low]) rfl rfl (by simp [Blk.low,yj,AV.low]))⟩
  ·refine yF ?_
   refine zX ?_
   refine zU ?_
   refine zV ?_
   refine zi (zk (zd ?_))
   refine zc rfl (zg rfl rfl (zb rfl)) yH ?_
   refine zf (zi (zJ ?_))
   obtain rfl:=Option.some.inj hF
   refine zB rfl (zC yz zD) (zz (leV.refl _) rfl ?_)
   exact ⟨rfl,rfl⟩
/-! varve/varveref30.matches -/
theorem ok58N (n:Nat):∀ {p0:(List zR)} {path1:(List zR)} {res:Bool} {h:AH} , vg n p0 path1=some res→Spec Tryz.prog 58 [.sl 1 (p0.map zK),.sl 1 (path1.map zK)] h (fun rr hh=>rr=.bool res∧hh=h):=by
 induction n with
 | zero=>intro p0 path1 res h  hF;simp [vg] at hF
 | succ n ih =>
  intro p0 path1 res h  hF
  unfold vg at hF
  refine zt Tryz.func58 rfl (by kernel_rfl) (env:=[.sl 1 (p0.map zK),.sl 1 (path1.map zK),za,za,za,za,za,za,za,za,za,za,za,za,za,za,za,za,za,za,za,za,za,za,za,za,za,za,za,za,za,za,za,za,za,za,za,za,za,za]) (by rfl) ?_
  refine zk (zd ?_)
  refine zc rfl (zg rfl rfl (zb rfl)) yD ?_
  refine zf (zi (zk (zk (zd ?_))))
  refine zc rfl (ze rfl yg (zb rfl)) xw ?_
  refine z7 rfl (zQ rfl rfl rfl rfl xc yP z0) xp fun hn1=>?_
  replace hn1:=xg hn1
  refine zc rfl (zu rfl yS rfl rfl) xK ?_
  refine zf (zi ?_)
  refine zH xn hF (fun hc2 hF=>?_) (fun hc2 hF=>?_)
  ·refine zk (zd ?_)
   refine zc rfl (ze rfl yw (zb rfl)) xH ?_
   refine z7 rfl (zQ rfl rfl rfl rfl xc yV z0) x8 fun hn3=>?_
   replace hn3:=xg hn3
   refine zc rfl (zu rfl xl rfl rfl) yq ?_
   refine zc rfl (zg rfl yi (zb rfl)) yD ?_
   refine zf (zi (zJ (zA ?_)))
   obtain rfl:=Option.some.inj hF
   refine zB rfl (zC yv zD) (zz (leV.refl _) rfl ?_)
   exact ⟨rfl,rfl⟩
  ·refine zI (zi (zk (zk (zd ?_))))
   refine zc rfl (ze rfl yg (zb rfl)) yy ?_
   refine zS hF (fun y4 hy4 hF=>?_)
   refine zc rfl (yd rfl xc yl rfl wd hy4) yE ?_
   refine zc rfl (zY rfl vt yC (zr rfl) (zb rfl)) yG ?_
   refine zc rfl (zu rfl yr rfl rfl) yN ?_
   refine zf (zi ?_)
   refine zH yM hF (fun hc5 hF=>?_) (fun hc5 hF=>?_)
   ·refine zk (zd ?_)
    refine zc rfl (zg rfl rfl (zb rfl)) yD ?_
    refine zf (zi (zJ (zA ?_)))
    obtain rfl:=Option.some.inj hF
    refine zB rfl (zC yv zD) (zz (leV.refl _) rfl ?_)
    exact ⟨rfl,rfl⟩
   ·refine zI (zi (zk ?_))
    refine yI [] [] trivial mixed (by kernel_rfl) ?_
    refine zq rfl rfl (ze rfl yw (zb rfl)) yO ?_
    refine draw_len rfl rfl (zQ rfl rfl rfl rfl xc yL z0) yT ?_
    refine zq rfl rfl (zu rfl yQ rfl rfl) yZ ?_
    refine zq rfl rfl (ze rfl yY (zb rfl)) xd ?_
    refine zx rfl rfl (fun hb=>ze rfl yg (zb rfl)) xi ?_
    refine xG hF (fun hg7 hF=>?_)
    refine zx rfl rfl (fun hb=>yK default rfl xc (zn xh hb) rfl wd (hg7 hb)) xA ?_
    refine zx rfl rfl (fun hb=>zY rfl vt (zn xz hb) (zr rfl) (zb rfl)) xE ?_
    refine zx rfl rfl (fun hb=>zu rfl (zn xB hb) rfl rfl) xI ?_
    refine zx rfl rfl (fun hb=>ze rfl (zn xF hb) (zb rfl)) xD ?_
    refine zx rfl (zP rfl rfl rfl) (fun hb=>ze rfl yg (zb rfl)) xM ?_
    refine xG hF (fun hg8 hF=>?_)
    refine zx rfl (zP rfl rfl rfl) (fun hb=>yK default rfl xc (zn xN hb) rfl wd (hg8 hb)) wa ?_
    refine zx rfl (zP rfl rfl rfl) (fun hb=>zY rfl vt (zn x9 hb) (zr rfl) (zb rfl)) wi ?_
    refine zx rfl (zP rfl rfl rfl) (fun hb=>ze rfl yw (zb rfl)) wj ?_
    refine xG hF (fun hg9 hF=>?_)
    refine zx rfl (zP rfl rfl rfl) (fun hb=>yK default rfl xc (zn wm hb) rfl wd (hg9 hb)) wn ?_
    refine zx rfl (zP rfl rfl rfl) (fun hb=>zY rfl vt (zn wl hb) (zr rfl) (zb rfl)) wD ?_
    refine zx rfl (zP rfl rfl rfl) (fun hb=>zu rfl (zn wh hb) (zn wz hb) rfl) wC ?_
    refine zx rfl rfl (fun hb=>zG rfl (zn xu hb) rfl wM (zZ (fun ht=>gF2 hb ht))) wI ?_
    refine zq rfl rfl (zG rfl xb wL rfl (zN (fun ht=>gT ht))) wH ?_
    refine zq rfl rfl (ze rfl wy (zb rfl)) wP ?_
    refine zx rfl rfl (fun hb=>ze rfl yg (zb rfl)) wO ?_
    refine xG hF (fun hg11 hF=>?_)
    refine zx rfl rfl (fun hb=>vu rfl xc (zn wK hb) (.inl rfl) (.some rfl) .none (slc_of (hg11 hb))) wN ?_
    refine zx rfl rfl (fun hb=>ze rfl yw (zb rfl)) wG ?_
    refine xG hF (fun hg13 hF=>?_)
    refine zx rfl rfl (fun hb=>vu rfl xc (zn wu hb) (.inl rfl) (.some rfl) .none (slc_of (hg13 hb))) wF ?_
    refine yn hF (fun v14 hv14 hF=>?_)
    refine ww rfl rfl (fun hb=>zE rfl rfl rfl (zo (zn wS hb) (zo (zn wJ hb) zy)) (.cons (zb rfl) (.cons (zb rfl) .nil))) (fun hb=>ih (hv14 hb)) wZ ?_
    refine zq rfl rfl (zG rfl wT w6 rfl (zN (fun ht=>gT ht))) wY ?_
    refine zq rfl rfl (zg rfl w5 (zb rfl)) yD ?_
    refine yo ?_
    refine zi (zJ ?_)
    obtain rfl:=Option.some.inj hF
    refine zB rfl (zC yv zD) (zz (leV.refl _) rfl ?_)
    exact ⟨rfl,rfl⟩
theorem ok58 {p0:(List zR)} {path1:(List zR)} {res:Bool} {h:AH}  (hF:ref30Xmatches p0 path1=some res):Spec Tryz.prog 58 [.sl 1 (p0.map zK),.sl 1 (path1.map zK)] h (fun rr hh=>rr=.bool res∧hh=h):=by
 obtain ⟨n,hn⟩:=anyN_is hF
 exact ok58N n  hn
/-! varve/varveref04.MayPath -/
theorem ok55 {p0:(List zR)} {res:Bool} {h:AH}  (hF:ref04MayPath p0=some res):Spec Tryz.prog 55 [.sl 1 (p0.map zK)] h (fun rr hh=>rr=.bool res∧hh=h):=by
 unfold ref04MayPath at hF
 refine zt Tryz.func55 rfl (by kernel_rfl) (env:=[.sl 1 (p0.map zK),za,za,za,za,za,za,za,za,za,za,za,za,za,za,za,za,za,za,za,za,za,za,za]) (by rfl) ?_
 refine zk (zd ?_)
 refine zc rfl (zg rfl rfl (zb rfl)) yH ?_
 refine zf (zi (zk (zk (zd ?_))))
 refine zc rfl (zg rfl rfl (zb rfl)) xS ?_
 refine zf (zi (zO ?_))
 refine ym (fun (n1:Nat) (s1:Unit)=>yB [1,2,4,5,6,7,8,9,10,11,12,13,14,15,16,17,18,19,20,21,22,23] [(3,.int .i64 (n1:Int))]) (fun s1=>h.ext [] []) hF (fun _ _=>by simp only [yB,qw,List.set_cons_succ,List.set_cons_zero];try rfl) (wk.le (by exact (.eq (.drop (.drop (.cons (leV.of_eq rfl) (.d16 (.d4 leL.nil)))))))) ?_
 intro n1 s1 hi1 hF
 refine zk (zk (zd ?_))
 refine zc rfl (ze rfl yX (zb rfl)) yD ?_
 refine zc rfl (ze rfl yg (zb rfl)) xw ?_
 refine z7 rfl (zQ rfl rfl rfl rfl xc yP z0) xp fun hn8=>?_
 replace hn8:=xg hn8
 refine zc rfl (zu rfl yv yS rfl) xK ?_
 refine zf (zi ?_)
 refine yJ xn hF (fun x1 o1 hl1 hx1 hF hK1=>?_) (fun hF=>?_)
 ·refine zI (zi (zk (zO (zk (zd ?_)))))
  refine zc rfl (ze rfl yg (zb rfl)) yq ?_
  refine zc rfl (ze rfl yX (zb rfl)) yy ?_
  refine zc rfl (yd rfl xc yi yl wd (yA hx1)) yE ?_
  refine zc rfl (zY rfl vt yC (zr rfl) (zb rfl)) yG ?_
  refine zS hF (fun v9 hv9 hF=>?_)
  refine zM rfl (zE rfl rfl rfl (zo yr zy) (.cons (zb rfl) .nil)) (ok61 hv9) yN ?_
  refine zc rfl (xV rfl yM rfl) yO ?_
  refine zf (zi ?_)
  refine zH yL hF (fun hc10 hF=>?_) (fun hc10 hF=>?_)
  ·refine zk (zd ?_)
   refine zc rfl (zg rfl rfl (zb rfl)) yH ?_
   refine zf (zi (zJ ?_))
   refine zF ?_
   refine zA ?_
   refine yf ?_
   obtain rfl:=Option.some.inj hF
   replace hF:=hK1
   refine zF ?_
   refine zA ?_
   obtain rfl:=Option.some.inj hF
   refine zB rfl (zC yz zD) (zz (leV.refl _) rfl ?_)
   exact ⟨rfl,rfl⟩
  ·refine zI (yb (zi (zd ?_)))
   refine zc rfl (ze rfl yX (zb rfl)) xH ?_
   refine zc rfl (zu rfl yV rfl rfl) x8 ?_
   refine zc rfl (zg rfl xl (zb rfl)) xS ?_
   refine zf (yu ?_)
   obtain rfl:=Option.some.inj hF
   exact ⟨(),hl1,hK1,wk.le (by exact (.eq (.drop (.drop (.cons (leV.of_eq (wx (by omega) (by omega))) (.d16 (.d4 leL.nil)))))))⟩
 ·refine yF ?_
  refine zX ?_
  refine zU ?_
  refine zV ?_
  refine zi (zk (zd ?_))
  refine zc rfl (ze rfl yg (zb rfl)) yT ?_
  refine z7 rfl (zQ rfl rfl rfl rfl xc yQ z0) yZ fun hn11=>?_
  replace hn11:=xg hn11
  refine zc rfl (zu rfl yY rfl rfl) xd ?_
  refine zc rfl (ze rfl xb (zb rfl)) xi ?_
  refine zp rfl (fun hb=>ze rfl yg (zb rfl)) xA ?_
  refine xj rfl (fun hb=>zQ rfl rfl rfl rfl xc (zn xz hb) z0) xE fun hn12=>?_
  refine zp rfl (fun hb=>zu rfl (zn xB hb) rfl rfl) xI ?_
  refine zc rfl (zG rfl xh xF rfl (zN (fun ht=>gT ht))) xD ?_
  refine zc rfl (zg rfl xu (zb rfl)) yH ?_
  refine zf (zi (zJ ?_))
  obtain rfl:=Option.some.inj hF
  refine zB rfl (zC yz zD) (zz (leV.refl _) rfl ?_)
  exact ⟨rfl,rfl⟩
/-! varve/varveref30.Match -/
theorem ok29 {p0:(List zR)} {path1:(List zR)} {res:Bool} {h:AH}  (hF:qU p0 path1=some res):Spec Tryz.prog 29 [.sl 1 (p0.map zK),.sl 1 (path1.map zK)] h (fun rr hh=>rr=.bool res∧hh=h):=by
 unfold qU at hF
 refine zt Tryz.func29 rfl (by kernel_rfl) (env:=[.sl 1 (p0.map zK),.sl 1 (path1.map zK),za,za,za,za,za,za,za,za,za,za,za,za,za,za]) (by rfl) ?_
 refine zk (zd ?_)
 refine zc rfl (zg rfl rfl (zb rfl)) yD ?_
 refine zf (zi (zk (zd ?_)))
 refine zc rfl (ze rfl yg (zb rfl)) xw ?_
 refine zS hF (fun v1 hv1 hF=>?_)
 refine zM rfl (zE rfl rfl rfl (zo yP zy) (.cons (zb rfl) .nil)) (ok34 hv1) xp ?_
 refine zc rfl (ze rfl yS (zb rfl)) xK ?_
 refine zp rfl (fun hb=>ze rfl yw (zb rfl)) xH ?_
 refine yn hF (fun v2 hv2 hF=>?_)
 refine z8 rfl (fun hb=>zE rfl rfl rfl (zo (zn yV hb) zy) (.cons (zb rfl) .nil)) (fun hb=>ok55 (hv2 hb)) x8 ?_
 refine zc rfl (zG rfl xn xl rfl (zN (fun ht=>gT ht))) yq ?_
 refine zc rfl (ze rfl yi (zb rfl)) yy ?_
 refine zp rfl (fun hb=>ze rfl yg (zb rfl)) yE ?_
 refine zp rfl (fun hb=>ze rfl yw (zb rfl)) yG ?_
 refine yn hF (fun v3 hv3 hF=>?_)
 refine z8 rfl (fun hb=>zE rfl rfl rfl (zo (zn yC hb) (zo (zn yr hb) zy)) (.cons (zb rfl) (.cons (zb rfl) .nil))) (fun hb=>ok58 (hv3 hb)) yN ?_
 refine zc rfl (zG rfl yl yM rfl (zN (fun ht=>gT ht))) yO ?_
 refine zc rfl (zg rfl yL (zb rfl)) yD ?_
 refine zf (zi (zJ ?_))
 obtain rfl:=Option.some.inj hF
 refine zB rfl (zC yv zD) (zz (leV.refl _) rfl ?_)
 exact ⟨rfl,rfl⟩
/-! varve/varveref42.Shows -/
theorem ok15 {l0:(List GRule)} {rep1:Int} {path2:(List zR)} {res:Bool} {h:AH}  (hF:ref42Shows l0 rep1 path2=some res):Spec Tryz.prog 15 [.sl 5 (l0.map GRule.row),.int .u8 rep1,.sl 1 (path2.map zK)] h (fun rr hh=>rr=.bool res∧hh=h):=by
 unfold ref42Shows at hF
 refine zt Tryz.func15 rfl (by kernel_rfl) (env:=[.sl 5 (l0.map GRule.row),.int .u8 rep1,.sl 1 (path2.map zK),za,za,za,za,za,za,za,za,za,za,za,za,za,za,za,za,za,za,za,za,za,za,za,za,za,za,za,za,za,za,za,za,za,za,za,za,za,za,za,za,za,za,za]) (by rfl) ?_
 refine zk (zd ?_)
 refine zc rfl (zg rfl rfl (zb rfl)) xp ?_
 refine zf (zi (zk (zd ?_)))
 refine zc rfl (zg rfl rfl (zb rfl)) xK ?_
 refine zf (zi (zk (zk (zd ?_))))
 refine zc rfl (ze rfl yg (zb rfl)) yq ?_
 refine zS hF (fun v1 hv1 hF=>?_)
 refine zM rfl (zE rfl rfl rfl (zo yi zy) (.cons (zb rfl) .nil)) (ok11 hv1) yy ?_
 refine zc rfl (xV rfl yl rfl) yE ?_
 refine zf (zi ?_)
 refine zH yC hF (fun hc2 hF=>?_) (fun hc2 hF=>?_)
 ·refine zk (zd ?_)
  refine zc rfl (ze rfl xn (zb rfl)) yG ?_
  refine zc rfl (zg rfl yr (zb rfl)) xp ?_
  refine zf (zi (zJ (zA ?_)))
  obtain rfl:=Option.some.inj hF
  refine zB rfl (zC yS zD) (zz (leV.refl _) rfl ?_)
  exact ⟨rfl,rfl⟩
 ·refine zI (zi (zk (zk (zd ?_))))
  refine zc rfl (zg rfl rfl (zb rfl)) xH ?_
  refine zf (zi (zO ?_))
  refine ym (fun (n1:Nat) (s1:Bool)=>yB [3,4,5,6,9,10,11,12,13,14,15,16,17,18,19,20,21,22,23,24,25,26,27,28,29,30,31,32,33,34,35,36,37,38,39,40,41,42,43,44,45] [(7,.bool s1),(8,.int .i64 (n1:Int))]) (fun s1=>h.ext [] []) hF (fun _ _=>by simp only [yB,qw,List.set_cons_succ,List.set_cons_zero];try rfl) (wk.le (by exact (.eq (.eq (.eq (.d4 (.cons (leV.of_eq rfl) (.cons (leV.of_eq rfl) (.d16 (.d16 (.d4 (.drop leL.nil)))))))))))) ?_
  intro n1 s1 hi1 hF
  refine zk (zk (zd ?_))
  refine zc rfl (ze rfl yV (zb rfl)) yN ?_
  refine zc rfl (ze rfl yg (zb rfl)) yO ?_
  refine z7 rfl (zQ rfl rfl rfl rfl el22 yL z0) yT fun hn11=>?_
  replace hn11:=xg hn11
  refine zc rfl (zu rfl yM yQ rfl) yZ ?_
  refine zf (zi ?_)
  refine yJ yY hF (fun x1 o1 hl1 hx1 hF hK1=>?_) (fun hF=>?_)
  ·refine zI (zi (zk (zO (zk (zd ?_)))))
   refine zc rfl (ze rfl yg (zb rfl)) xA ?_
   refine zc rfl (ze rfl yV (zb rfl)) xE ?_
   refine zc rfl (yd rfl el22 xz xB wd (yA hx1)) xI ?_
   refine zc rfl (zY rfl ty39.choose_spec.1 xF (zL (cs':=[.int .u8 x1.rep,.sl 1 (x1.path.map zK),.int .u8 x1.kinds,.bool x1.allow,.bool x1.read]) ty39.choose_spec.2 rfl rfl) (zb rfl)) xD ?_
   refine zc rfl (xf (n:=0) rfl ze39 rfl) x8 ?_
   refine zc rfl (yk (cs':=[.int .u8 x1.rep,.sl 1 (x1.path.map zK),.int .u8 x1.kinds,.bool x1.allow,.bool x1.read]) rfl ty39.choose_spec.1 xl xu (zb rfl) rfl rfl rfl rfl rfl) rfl ?_
   refine zf (zi (zk (zd ?_)))
   refine zc rfl (zj rfl qr xl rfl) xM ?_
   refine zc rfl (zw rfl vb xN rfl (zr rfl) (zb rfl)) wa ?_
   refine zc rfl (zu rfl x9 rfl rfl) wi ?_
   refine zc rfl (ze rfl wh (zb rfl)) wj ?_
   refine zp rfl (fun hb=>zj rfl qr xl rfl) wn ?_
   refine zp rfl (fun hb=>zw rfl vb (zn wl hb) rfl (zr rfl) (zb rfl)) wD ?_
   refine zp rfl (fun hb=>ze rfl yw (zb rfl)) wC ?_
   refine zp rfl (fun hb=>zu rfl (zn wz hb) (zn wM hb) rfl) wI ?_
   refine zc rfl (zG rfl wm rfl wL (zZ (fun ht=>gF ht))) wH ?_
   refine zc rfl (ze rfl wy (zb rfl)) wP ?_
   refine zp rfl (fun hb=>zj rfl fo39x1 xl rfl) wO ?_
   refine zp rfl (fun hb=>zw rfl ty23 (zn wK hb) rfl (zr rfl) (zb rfl)) wN ?_
   refine zp rfl (fun hb=>ze rfl yz (zb rfl)) wG ?_
   refine yn hF (fun v12 hv12 hF=>?_)
   refine z8 rfl (fun hb=>zE rfl rfl rfl (zo (zn wS hb) (zo (zn wu hb) zy)) (.cons (zb rfl) (.cons (zb rfl) .nil))) (fun hb=>ok29 (hv12 hb)) wF ?_
   refine zc rfl (zG rfl wT wJ rfl (zN (fun ht=>gT ht))) wZ ?_
   refine zc rfl (ze rfl w6 (zb rfl)) wY ?_
   refine zp rfl (fun hb=>zj rfl fo39x4 xl rfl) (sk qP) ?_
   refine zp rfl (fun hb=>zw rfl ty4 (zn (gk yg) hb) rfl (zr rfl) (zb rfl)) (sk qI) ?_
   refine zc rfl (zG rfl w5 (gk yw) rfl (zN (fun ht=>gT ht))) (sk yH) ?_
   refine zf (zi ?_)
   refine zH (gk yz) hF (fun hc13 hF=>?_) (fun hc13 hF=>?_)
   ·refine zd ?_
    refine zc rfl (zj rfl fo39x3 xl rfl) (sk xS) ?_
    refine zc rfl (zw rfl ty4 (gk yX) rfl (zr rfl) (zb rfl)) (sk yD) ?_
    refine zc rfl (zg rfl (gk yv) (zb rfl)) xK ?_
    refine zf (yb (zi (zd ?_)))
    refine zc rfl (ze rfl yV (zb rfl)) xd ?_
    refine zc rfl (zu rfl xb rfl rfl) xi ?_
    refine zc rfl (zg rfl xh (zb rfl)) xH ?_
    refine zf (yu ?_)
    obtain rfl:=Option.some.inj hF
    exact ⟨x1.allow,hl1,hK1,wk.trans (wk.le (by exact (.eq (.eq (.eq (.d4 (.cons (leV.of_eq rfl) (.cons (leV.of_eq (wx (by omega) (by omega))) (.d16 (.d16 (.d4 (.drop leL.nil)))))))))))) (xY (by simp [yj,AV.low]) rfl rfl (by simp [Blk.low,yj,AV.low]))⟩
   ·refine zI (yb (zi (zd ?_)))
    refine zc rfl (ze rfl yV (zb rfl)) xd ?_
    refine zc rfl (zu rfl xb rfl rfl) xi ?_
    refine zc rfl (zg rfl xh (zb rfl)) xH ?_
    refine zf (yu ?_)
    obtain rfl:=Option.some.inj hF
    exact ⟨s1,hl1,hK1,wk.trans (wk.le (by exact (.eq (.eq (.eq (.d4 (.cons (leV.of_eq rfl) (.cons (leV.of_eq (wx (by omega) (by omega))) (.d16 (.d16 (.d4 (.drop leL.nil)))))))))))) (xY (by simp [yj,AV.low]) rfl rfl (by simp [Blk.low,yj,AV.low]))⟩
  ·refine yF ?_
   refine zX ?_
   refine zU ?_
   refine zV ?_
   refine zi (zk (zd ?_))
   refine zc rfl (ze rfl xn (zb rfl)) (sk xw) ?_
   refine zc rfl (zg rfl (gk yP) (zb rfl)) xp ?_
   refine zf (zi (zJ ?_))
   obtain rfl:=Option.some.inj hF
   refine zB rfl (zC yS zD) (zz (leV.refl _) rfl ?_)
   exact ⟨rfl,rfl⟩
/-! varve/varveref05.Item -/
theorem ok119 {l0:(List GItem)} {d1:GDot} {res:Int} {h:AH}  (hF:ref05Item l0 d1=some res):Spec Tryz.prog 119 [.sl 5 (l0.map GItem.row),.agg [.int .u8 d1.actor.rep,.int .u32 d1.actor.inc,.int .u64 d1.seq]] h (fun rr hh=>rr=.int .i64 res∧hh=h):=by
 unfold ref05Item at hF
 refine zt Tryz.func119 rfl (by kernel_rfl) (env:=[.sl 5 (l0.map GItem.row),.agg [.int .u8 d1.actor.rep,.int .u32 d1.actor.inc,.int .u64 d1.seq],za,za,za,za,za,za,za,za,za,za,za,za,za,za,za,za,za,za]) (by rfl) ?_
 refine zk (zd ?_)
 refine zc rfl (xy (n:=0) rfl yw (zb rfl) rfl rfl) xS ?_
 refine zc rfl (zg rfl rfl (zb rfl)) yD ?_
 refine zf (zi (zk (zk (zd ?_))))
 refine zc rfl (zg rfl rfl (zb rfl)) xw ?_
 refine zf (zi (zO ?_))
 refine ym (fun (n1:Nat) (s1:Unit)=>yB [1,2,4,6,7,8,9,10,11,12,13,14,15,16,17,18,19] [(5,.int .i64 (n1:Int))]) (fun s1=>h.ext [.cells [.int .u8 d1.actor.rep,.int .u32 d1.actor.inc,.int .u64 d1.seq]] []) hF (fun _ _=>by simp only [yB,qw,List.set_cons_succ,List.set_cons_zero];try rfl) (wk.le (by exact (.eq (.drop (.drop (.eq (.drop (.cons (leV.of_eq rfl) (.d4 (.d4 (.d4 (.drop (.drop leL.nil))))))))))))) ?_
 intro n1 s1 hi1 hF
 refine zk (zk (zd ?_))
 refine zc rfl (ze rfl yP (zb rfl)) xp ?_
 refine zc rfl (ze rfl yg (zb rfl)) xK ?_
 refine z7 rfl (zQ rfl rfl rfl rfl el56 xn z0) xH fun hn10=>?_
 replace hn10:=xg hn10
 refine zc rfl (zu rfl yS yV rfl) x8 ?_
 refine zf (zi ?_)
 refine yJ xl hF (fun x1 o1 hl1 hx1 hF hK1=>?_) (fun hF=>?_)
 ·refine zI (zi (zk (zO (zk ?_))))
  refine yI [] [] trivial mixed (by kernel_rfl) ?_
  refine zq rfl rfl (ze rfl yg (zb rfl)) yE ?_
  refine zq rfl rfl (ze rfl yP (zb rfl)) yG ?_
  refine zq rfl rfl (yd rfl el56 yC yr wd (yA hx1)) yN ?_
  refine zq rfl rfl (zj rfl fo77x1 yM rfl) yO ?_
  refine zq rfl rfl (zY rfl ty55.choose_spec.1 yL (zL (cs':=[.int .u8 x1.dot.actor.rep,.int .u32 x1.dot.actor.inc,.int .u64 x1.dot.seq]) ty55.choose_spec.2 rfl rfl) (zb rfl)) yT ?_
  refine zq rfl rfl (zw rfl ty55.choose_spec.1 yX rfl (zL (cs':=[.int .u8 d1.actor.rep,.int .u32 d1.actor.inc,.int .u64 d1.seq]) ty55.choose_spec.2 rfl rfl) (zb rfl)) yZ ?_
  refine zq rfl rfl (zu rfl yQ yY (bin_eq pk55 rfl)) xd ?_
  refine yo ?_
  refine zi ?_
  refine zH xb hF (fun hc11 hF=>?_) (fun hc11 hF=>?_)
  ·refine zk (zd ?_)
   refine zc rfl (ze rfl yP (zb rfl)) xi ?_
   refine zc rfl (zg rfl xh (zb rfl)) yD ?_
   refine zf (zi (zJ ?_))
   refine zF ?_
   refine zA ?_
   refine yf ?_
   obtain rfl:=Option.some.inj hF
   replace hF:=hK1
   refine zF ?_
   refine zA ?_
   obtain rfl:=Option.some.inj hF
   refine zB rfl (zC yv zD) (zz (leV.refl _) rfl ?_)
   exact ⟨rfl,rfl⟩
  ·refine zI (yb (zi (zd ?_)))
   refine zc rfl (ze rfl yP (zb rfl)) yq ?_
   refine zc rfl (zu rfl yi rfl rfl) yy ?_
   refine zc rfl (zg rfl yl (zb rfl)) xw ?_
   refine zf (yu ?_)
   obtain rfl:=Option.some.inj hF
   exact ⟨(),hl1,hK1,wk.le (by exact (.eq (.drop (.drop (.eq (.drop (.cons (leV.of_eq (wx (by omega) (by omega))) (.d4 (.d4 (.d4 (.drop (.drop leL.nil))))))))))))⟩
 ·refine yF ?_
  refine zX ?_
  refine zU ?_
  refine zV ?_
  refine zi (zk (zd ?_))
  refine zc rfl (zg rfl rfl (zb rfl)) yD ?_
  refine zf (zi (zJ ?_))
  obtain rfl:=Option.some.inj hF
  refine zB rfl (zC yv zD) (zz (leV.refl _) rfl ?_)
  exact ⟨rfl,rfl⟩
/-! varve/varveref03.MayActor -/
theorem ok96 {a0:GActor} {res:Bool} {h:AH}  (hF:ref03MayActor a0=some res):Spec Tryz.prog 96 [.agg [.int .u8 a0.rep,.int .u32 a0.inc]] h (fun rr hh=>rr=.bool res∧hh=h):=by
 unfold ref03MayActor at hF
 refine zt Tryz.func96 rfl (by kernel_rfl) (env:=[.agg [.int .u8 a0.rep,.int .u32 a0.inc],za,za,za,za,za,za,za,za,za,za,za,za,za,za,za]) (by rfl) ?_
 refine zk (zd ?_)
 refine zc rfl (xy (n:=0) rfl yg (zb rfl) rfl rfl) qI ?_
 refine zc rfl (zg rfl rfl (zb rfl)) yH ?_
 refine zf (zi (zk (zd ?_)))
 refine zc rfl (zj rfl fo53x0 yw rfl) xS ?_
 refine zc rfl (zw rfl vb yX rfl (zr rfl) (zb rfl)) yD ?_
 refine zc rfl (zu rfl yv rfl rfl) xw ?_
 refine zc rfl (ze rfl yP (zb rfl)) xp ?_
 refine zp rfl (fun hb=>zj rfl fo53x1 yw rfl) xK ?_
 refine zp rfl (fun hb=>zw rfl ty51 (zn xn hb) rfl (zr rfl) (zb rfl)) xH ?_
 refine zp rfl (fun hb=>zu rfl (zn yV hb) rfl rfl) x8 ?_
 refine zc rfl (zG rfl yS xl rfl (zN (fun ht=>gT ht))) yq ?_
 refine zc rfl (ze rfl yi (zb rfl)) yy ?_
 refine zp rfl (fun hb=>zj rfl fo53x1 yw rfl) yE ?_
 refine zp rfl (fun hb=>zw rfl ty51 (zn yC hb) rfl (zr rfl) (zb rfl)) yG ?_
 refine zp rfl (fun hb=>zu rfl (zn yr hb) rfl rfl) yN ?_
 refine zc rfl (zG rfl yl yM rfl (zN (fun ht=>gT ht))) yO ?_
 refine zc rfl (zg rfl yL (zb rfl)) yH ?_
 refine zf (zi (zJ ?_))
 obtain rfl:=Option.some.inj hF
 refine zB rfl (zC yz zD) (zz (leV.refl _) rfl ?_)
 exact ⟨rfl,rfl⟩
/-! varve/varveref03.May -/
theorem ok56 {d0:GDot} {res:Bool} {h:AH}  (hF:ref03May d0=some res):Spec Tryz.prog 56 [.agg [.int .u8 d0.actor.rep,.int .u32 d0.actor.inc,.int .u64 d0.seq]] h (fun rr hh=>rr=.bool res∧hh=h):=by
 unfold ref03May at hF
 refine zt Tryz.func56 rfl (by kernel_rfl) (env:=[.agg [.int .u8 d0.actor.rep,.int .u32 d0.actor.inc,.int .u64 d0.seq],za,za,za,za,za,za,za,za,za,za,za,za,za,za,za]) (by rfl) ?_
 refine zk (zd ?_)
 refine zc rfl (xy (n:=0) rfl yg (zb rfl) rfl rfl) qI ?_
 refine zc rfl (zg rfl rfl (zb rfl)) yH ?_
 refine zf (zi (zk (zd ?_)))
 refine zc rfl (zj rfl fo55x0 yw rfl) xS ?_
 refine zc rfl (zw rfl ty53.choose_spec.1 yX rfl (zL (cs':=[.int .u8 d0.actor.rep,.int .u32 d0.actor.inc]) ty53.choose_spec.2 rfl rfl) (zb rfl)) yD ?_
 refine zS hF (fun v1 hv1 hF=>?_)
 refine zM rfl (zE rfl rfl rfl (zo yv zy) (.cons (zb rfl) .nil)) (ok96 hv1) xw ?_
 refine zc rfl (ze rfl yP (zb rfl)) xp ?_
 refine zp rfl (fun hb=>zj rfl fo55x1 yw rfl) xK ?_
 refine zp rfl (fun hb=>zw rfl qK (zn xn hb) rfl (zr rfl) (zb rfl)) xH ?_
 refine zp rfl (fun hb=>zu rfl (zn yV hb) rfl rfl) x8 ?_
 refine zc rfl (zG rfl yS xl rfl (zN (fun ht=>gT ht))) yq ?_
 refine zc rfl (ze rfl yi (zb rfl)) yy ?_
 refine zp rfl (fun hb=>zj rfl fo55x1 yw rfl) yE ?_
 refine zp rfl (fun hb=>zw rfl qK (zn yC hb) rfl (zr rfl) (zb rfl)) yG ?_
 refine zp rfl (fun hb=>zu rfl (zn yr hb) rfl rfl) yN ?_
 refine zc rfl (zG rfl yl yM rfl (zN (fun ht=>gT ht))) yO ?_
 refine zc rfl (zg rfl yL (zb rfl)) yH ?_
 refine zf (zi (zJ ?_))
 obtain rfl:=Option.some.inj hF
 refine zB rfl (zC yz zD) (zz (leV.refl _) rfl ?_)
 exact ⟨rfl,rfl⟩
/-! varve/varveref03.Less -/
theorem ok57 {a0:GDot} {b1:GDot} {res:Bool} {h:AH}  (hF:ref03Less a0 b1=some res):Spec Tryz.prog 57 [.agg [.int .u8 a0.actor.rep,.int .u32 a0.actor.inc,.int .u64 a0.seq],.agg [.int .u8 b1.actor.rep,.int .u32 b1.actor.inc,.int .u64 b1.seq]] h (fun rr hh=>rr=.bool res∧hh=h):=by
 unfold ref03Less at hF
 refine zt Tryz.func57 rfl (by kernel_rfl) (env:=[.agg [.int .u8 a0.actor.rep,.int .u32 a0.actor.inc,.int .u64 a0.seq],.agg [.int .u8 b1.actor.rep,.int .u32 b1.actor.inc,.int .u64 b1.seq],za,za,za,za,za,za,za,za,za,za,za,za,za,za,za,za,za,za,za,za,za,za,za,za,za,za,za,za,za,za,za,za,za,za,za,za]) (by rfl) ?_
 refine zk (zd ?_)
 refine zc rfl (xy (n:=0) rfl yg (zb rfl) rfl rfl) yH ?_
 refine zc rfl (xy (n:=1) rfl yw (zb rfl) rfl rfl) xS ?_
 refine zc rfl (zg rfl rfl (zb rfl)) yD ?_
 refine zf (zi (zk (zk (zd ?_))))
 refine zc rfl (zj rfl fo55x0 yz rfl) xw ?_
 refine zc rfl (zj rfl fo53x0 yP rfl) xp ?_
 refine zc rfl (zw rfl vb yS rfl (zr rfl) (zb rfl)) xK ?_
 refine zc rfl (zj rfl fo55x0 yX rfl) xH ?_
 refine zc rfl (zj rfl fo53x0 yV rfl) x8 ?_
 refine zc rfl (zw rfl vb xl rfl (zr rfl) (zb rfl)) yq ?_
 refine zc rfl (zu rfl xn yi rfl) yy ?_
 refine zf (zi ?_)
 refine zH yl hF (fun hc1 hF=>?_) (fun hc1 hF=>?_)
 ·refine zk (zd ?_)
  refine zc rfl (zj rfl fo55x0 yz rfl) yE ?_
  refine zc rfl (zj rfl fo53x0 yC rfl) yG ?_
  refine zc rfl (zw rfl vb yr rfl (zr rfl) (zb rfl)) yN ?_
  refine zc rfl (zj rfl fo55x0 yX rfl) yO ?_
  refine zc rfl (zj rfl fo53x0 yL rfl) yT ?_
  refine zc rfl (zw rfl vb yQ rfl (zr rfl) (zb rfl)) yZ ?_
  refine zc rfl (zu rfl yM yY rfl) xd ?_
  refine zc rfl (zg rfl xb (zb rfl)) yD ?_
  refine zf (zi (zJ (zA ?_)))
  obtain rfl:=Option.some.inj hF
  refine zB rfl (zC yv zD) (zz (leV.refl _) rfl ?_)
  exact ⟨rfl,rfl⟩
 ·refine zI (zi (zk (zk (zd ?_))))
  refine zc rfl (zj rfl fo55x0 yz rfl) xi ?_
  refine zc rfl (zj rfl fo53x1 xh rfl) xA ?_
  refine zc rfl (zw rfl ty51 xz rfl (zr rfl) (zb rfl)) xE ?_
  refine zc rfl (zj rfl fo55x0 yX rfl) xI ?_
  refine zc rfl (zj rfl fo53x1 xF rfl) xD ?_
  refine zc rfl (zw rfl ty51 xu rfl (zr rfl) (zb rfl)) xM ?_
  refine zc rfl (zu rfl xB xN rfl) wa ?_
  refine zf (zi ?_)
  refine zH x9 hF (fun hc2 hF=>?_) (fun hc2 hF=>?_)
  ·refine zk (zd ?_)
   refine zc rfl (zj rfl fo55x0 yz rfl) wi ?_
   refine zc rfl (zj rfl fo53x1 wh rfl) wj ?_
   refine zc rfl (zw rfl ty51 wm rfl (zr rfl) (zb rfl)) wn ?_
   refine zc rfl (zj rfl fo55x0 yX rfl) wD ?_
   refine zc rfl (zj rfl fo53x1 wz rfl) wC ?_
   refine zc rfl (zw rfl ty51 wM rfl (zr rfl) (zb rfl)) wI ?_
   refine zc rfl (zu rfl wl wL rfl) wH ?_
   refine zc rfl (zg rfl wy (zb rfl)) yD ?_
   refine zf (zi (zJ (zA ?_)))
   obtain rfl:=Option.some.inj hF
   refine zB rfl (zC yv zD) (zz (leV.refl _) rfl ?_)
   exact ⟨rfl,rfl⟩
  ·refine zI (zi (zk (zd ?_)))
   refine zc rfl (zj rfl fo55x1 yz rfl) wP ?_
   refine zc rfl (zw rfl qK wT rfl (zr rfl) (zb rfl)) wO ?_
   refine zc rfl (zj rfl fo55x1 yX rfl) wN ?_
   refine zc rfl (zw rfl qK wS rfl (zr rfl) (zb rfl)) wG ?_
   refine zc rfl (zu rfl wK wu rfl) wF ?_
   refine zc rfl (zg rfl wJ (zb rfl)) yD ?_
   refine zf (zi (zJ ?_))
   obtain rfl:=Option.some.inj hF
   refine zB rfl (zC yv zD) (zz (leV.refl _) rfl ?_)
   exact ⟨rfl,rfl⟩
/-! varve/varveref05.Ahead -/
theorem ok121 {time0:Int} {d1:GDot} {other2:Int} {o3:GDot} {res:Bool} {h:AH}  (hF:ref05Ahead time0 d1 other2 o3=some res):Spec Tryz.prog 121 [.int .u64 time0,.agg [.int .u8 d1.actor.rep,.int .u32 d1.actor.inc,.int .u64 d1.seq],.int .u64 other2,.agg [.int .u8 o3.actor.rep,.int .u32 o3.actor.inc,.int .u64 o3.seq]] h (fun rr hh=>rr=.bool res∧hh=h):=by
 unfold ref05Ahead at hF
 refine zt Tryz.func121 rfl (by kernel_rfl) (env:=[.int .u64 time0,.agg [.int .u8 d1.actor.rep,.int .u32 d1.actor.inc,.int .u64 d1.seq],.int .u64 other2,.agg [.int .u8 o3.actor.rep,.int .u32 o3.actor.inc,.int .u64 o3.seq],za,za,za,za,za,za,za,za,za,za,za,za,za,za]) (by rfl) ?_
 refine zk (zd ?_)
 refine zc rfl (xy (n:=0) rfl yw (zb rfl) rfl rfl) xw ?_
 refine zc rfl (xy (n:=1) rfl yX (zb rfl) rfl rfl) xK ?_
 refine zc rfl (zg rfl rfl (zb rfl)) xH ?_
 refine zf (zi (zk (zk (zd ?_))))
 refine zc rfl (ze rfl yg (zb rfl)) x8 ?_
 refine zc rfl (ze rfl yz (zb rfl)) yq ?_
 refine zc rfl (zu rfl xl yi rfl) yy ?_
 refine zf (zi ?_)
 refine zH yl hF (fun hc1 hF=>?_) (fun hc1 hF=>?_)
 ·refine zk (zd ?_)
  refine zc rfl (ze rfl yg (zb rfl)) yE ?_
  refine zc rfl (ze rfl yz (zb rfl)) yG ?_
  refine zc rfl (zu rfl yC yr rfl) yN ?_
  refine zc rfl (zg rfl yM (zb rfl)) xH ?_
  refine zf (zi (zJ (zA ?_)))
  obtain rfl:=Option.some.inj hF
  refine zB rfl (zC yV zD) (zz (leV.refl _) rfl ?_)
  exact ⟨rfl,rfl⟩
 ·refine zI (zi (zk (zd ?_)))
  refine zc rfl (zw rfl ty55.choose_spec.1 yP rfl (zL (cs':=[.int .u8 d1.actor.rep,.int .u32 d1.actor.inc,.int .u64 d1.seq]) ty55.choose_spec.2 rfl rfl) (zb rfl)) yO ?_
  refine zc rfl (zw rfl ty55.choose_spec.1 xn rfl (zL (cs':=[.int .u8 o3.actor.rep,.int .u32 o3.actor.inc,.int .u64 o3.seq]) ty55.choose_spec.2 rfl rfl) (zb rfl)) yT ?_
  refine zS hF (fun v2 hv2 hF=>?_)
  refine zM rfl (zE rfl rfl rfl (zo yL (zo yQ zy)) (.cons (zb rfl) (.cons (zb rfl) .nil))) (ok57 hv2) yZ ?_
  refine zc rfl (zg rfl yY (zb rfl)) xH ?_
  refine zf (zi (zJ ?_))
  obtain rfl:=Option.some.inj hF
  refine zB rfl (zC yV zD) (zz (leV.refl _) rfl ?_)
  exact ⟨rfl,rfl⟩
/-! varve/varveref05.Tomb -/
theorem ok120 {l0:(List GDot)} {d1:GDot} {res:Bool} {h:AH}  (hF:ref05Tomb l0 d1=some res):Spec Tryz.prog 120 [.sl 3 (l0.map GDot.row),.agg [.int .u8 d1.actor.rep,.int .u32 d1.actor.inc,.int .u64 d1.seq]] h (fun rr hh=>rr=.bool res∧hh=h):=by
 unfold ref05Tomb at hF
 refine zt Tryz.func120 rfl (by kernel_rfl) (env:=[.sl 3 (l0.map GDot.row),.agg [.int .u8 d1.actor.rep,.int .u32 d1.actor.inc,.int .u64 d1.seq],za,za,za,za,za,za,za,za,za,za,za,za,za,za,za,za]) (by rfl) ?_
 refine zk (zd ?_)
 refine zc rfl (xy (n:=0) rfl yw (zb rfl) rfl rfl) xS ?_
 refine zc rfl (zg rfl rfl (zb rfl)) yD ?_
 refine zf (zi (zk (zk (zd ?_))))
 refine zc rfl (zg rfl rfl (zb rfl)) xw ?_
 refine zf (zi (zO ?_))
 refine ym (fun (n1:Nat) (s1:Unit)=>yB [1,2,4,6,7,8,9,10,11,12,13,14,15,16,17] [(5,.int .i64 (n1:Int))]) (fun s1=>h.ext [.cells [.int .u8 d1.actor.rep,.int .u32 d1.actor.inc,.int .u64 d1.seq]] []) hF (fun _ _=>by simp only [yB,qw,List.set_cons_succ,List.set_cons_zero];try rfl) (wk.le (by exact (.eq (.drop (.drop (.eq (.drop (.cons (leV.of_eq rfl) (.d4 (.d4 (.d4 leL.nil))))))))))) ?_
 intro n1 s1 hi1 hF
 refine zk (zk (zd ?_))
 refine zc rfl (ze rfl yP (zb rfl)) xp ?_
 refine zc rfl (ze rfl yg (zb rfl)) xK ?_
 refine z7 rfl (zQ rfl rfl rfl rfl qf xn z0) xH fun hn10=>?_
 replace hn10:=xg hn10
 refine zc rfl (zu rfl yS yV rfl) x8 ?_
 refine zf (zi ?_)
 refine yJ xl hF (fun x1 o1 hl1 hx1 hF hK1=>?_) (fun hF=>?_)
 ·refine zI (zi (zk (zO (zk ?_))))
  refine yI [] [] trivial mixed (by kernel_rfl) ?_
  refine zq rfl rfl (ze rfl yg (zb rfl)) yE ?_
  refine zq rfl rfl (ze rfl yP (zb rfl)) yG ?_
  refine zq rfl rfl (yd rfl qf yC yr wd (yA hx1)) yN ?_
  refine zq rfl rfl (zY rfl ty55.choose_spec.1 yM (zL (cs':=[.int .u8 x1.actor.rep,.int .u32 x1.actor.inc,.int .u64 x1.seq]) ty55.choose_spec.2 rfl rfl) (zb rfl)) yO ?_
  refine zq rfl rfl (zw rfl ty55.choose_spec.1 yX rfl (zL (cs':=[.int .u8 d1.actor.rep,.int .u32 d1.actor.inc,.int .u64 d1.seq]) ty55.choose_spec.2 rfl rfl) (zb rfl)) yT ?_
  refine zq rfl rfl (zu rfl yL yQ (bin_eq pk55 rfl)) yZ ?_
  refine yo ?_
  refine zi ?_
  refine zH yY hF (fun hc11 hF=>?_) (fun hc11 hF=>?_)
  ·refine zk (zd ?_)
   refine zc rfl (zg rfl rfl (zb rfl)) yD ?_
   refine zf (zi (zJ ?_))
   refine zF ?_
   refine zA ?_
   refine yf ?_
   obtain rfl:=Option.some.inj hF
   replace hF:=hK1
   refine zF ?_
   refine zA ?_
   obtain rfl:=Option.some.inj hF
   refine zB rfl (zC yv zD) (zz (leV.refl _) rfl ?_)
   exact ⟨rfl,rfl⟩
  ·refine zI (yb (zi (zd ?_)))
   refine zc rfl (ze rfl yP (zb rfl)) yq ?_
   refine zc rfl (zu rfl yi rfl rfl) yy ?_
   refine zc rfl (zg rfl yl (zb rfl)) xw ?_
   refine zf (yu ?_)
   obtain rfl:=Option.some.inj hF
   exact ⟨(),hl1,hK1,wk.le (by exact (.eq (.drop (.drop (.eq (.drop (.cons (leV.of_eq (wx (by omega) (by omega))) (.d4 (.d4 (.d4 leL.nil))))))))))⟩
 ·refine yF ?_
  refine zX ?_
  refine zU ?_
  refine zV ?_
  refine zi (zk (zd ?_))
  refine zc rfl (zg rfl rfl (zb rfl)) yD ?_
  refine zf (zi (zJ ?_))
  obtain rfl:=Option.some.inj hF
  refine zB rfl (zC yv zD) (zz (leV.refl _) rfl ?_)
  exact ⟨rfl,rfl⟩
end Go.Vv
