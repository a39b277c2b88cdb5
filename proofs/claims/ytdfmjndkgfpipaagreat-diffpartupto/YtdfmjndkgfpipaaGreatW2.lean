/- Each function that the law reaches computes what its reading says; printed by a program. -/
import Derived.Test.YtdfmjndkgfpipaaGreatW1
namespace Go.Vv
open Go Go.Proofs
set_option maxRecDepth 100000
set_option maxHeartbeats 1000000
set_option linter.unusedSimpArgs false
set_option linter.unusedVariables false
/-! slices.Equal[[]varve/api.Item,varve/api.Item] -/
theorem ok55 {s10:(List GItem)} {s21:(List GItem)} {res:Bool} {h:AH}  (hF:vT s10 s21=some res):Spec Tryz.prog 55 [.sl 5 (s10.map GItem.row),.sl 5 (s21.map GItem.row)] h (fun rr hh=>rr=.bool res∧hh=h):=by
 unfold vT at hF
 refine zt Tryz.func55 rfl (by kernel_rfl) (env:=[.sl 5 (s10.map GItem.row),.sl 5 (s21.map GItem.row),za,za,za,za,za,za,za,za,za,za,za,za,za,za,za,za,za,za,za,za,za,za,za,za]) (by rfl) ?_
 refine zk (zd ?_)
 refine zc rfl (zi rfl rfl (zb rfl)) yC ?_
 refine ze (zj (zk (zk (zd ?_))))
 refine zc rfl (zf rfl yq (zb rfl)) xD ?_
 refine ya rfl (zS rfl rfl rfl rfl qe yV yb) xM fun hn1=>?_
 replace hn1:=xB hn1
 refine zc rfl (zf rfl yF (zb rfl)) xU ?_
 refine ya rfl (zS rfl rfl rfl rfl qe xp yb) wy fun hn2=>?_
 replace hn2:=xB hn2
 refine zc rfl (zy rfl xE xQ rfl) yJ ?_
 refine ze (zj ?_)
 refine zN yD hF (fun hc3 hF=>?_) (fun hc3 hF=>?_)
 ·refine zk (zd ?_)
  refine zc rfl (zi rfl rfl (zb rfl)) yC ?_
  refine ze (zj (zI (zx ?_)))
  obtain rfl:=Option.some.inj hF
  refine zz rfl (zD yx zF) (zA (leV.refl _) rfl ?_)
  exact ⟨rfl,rfl⟩
 ·refine zK (zj (zk (zk (zd ?_))))
  refine zc rfl (zf rfl yq (zb rfl)) yN ?_
  refine ya rfl (zS rfl rfl rfl rfl qe yy yb) yX fun hn4=>?_
  replace hn4:=xB hn4
  refine zc rfl (zf rfl rfl (zb rfl)) y4 ?_
  refine ze (zj (zR ?_))
  refine yu (fun (n1:Nat) (s1:Unit)=>yQ [2,3,4,5,6,7,8,9,10,11,14,15,16,17,18,19,20,21,22,23,24,25] [(13,.int .i64 (n1:Int))]) (fun s1=>h.ext [] []) hF (fun _ _=>by simp only [yQ,upd,List.set_cons_succ,List.set_cons_zero];try rfl) (wk.le (by exact (.eq (.eq (.d4 (.d4 (.drop (.drop (.eq (.cons (leV.of_eq rfl) (.d4 (.d4 (.d4 leL.nil))))))))))))) ?_
  intro n1 s1 hi1 hF
  refine zk (zd ?_)
  refine zc rfl (zy rfl yE yM rfl) yZ ?_
  refine ze (zj (zk ?_))
  refine yL yS hF (fun x1 o1 hl1 hx1 hF hK1=>?_) (fun hF=>?_)
  ·refine zK (zj (zk (zR (zk (zd ?_)))))
   refine zc rfl (zf rfl yE (zb rfl)) y6 ?_
   refine zc rfl (zi rfl yY (zb rfl)) xw ?_
   refine ze (zj (zk ?_))
   refine yK [] [] trivial mixed (by kernel_rfl) ?_
   refine zq rfl rfl (zf rfl yq (zb rfl)) xj ?_
   refine zq rfl rfl (zf rfl yR (zb rfl)) xy ?_
   refine zq rfl rfl (yk rfl qe xh xq va (yO hx1)) xF ?_
   refine zq rfl rfl (ye rfl ty93.choose_spec.1 xC (zH (cs':=[.int .u64 x1.time,.int .u8 x1.dot.actor.rep,.int .u32 x1.dot.actor.inc,.int .u64 x1.dot.seq,.str x1.text]) ty93.choose_spec.2 rfl rfl) (zb rfl)) xN ?_
   refine zq rfl rfl (zf rfl yF (zb rfl)) x8 ?_
   refine zq rfl rfl (zf rfl yR (zb rfl)) wg ?_
   refine zQ hF (fun y10 hy10 hF=>?_)
   refine zq rfl rfl (yk rfl qe x9 wb va hy10) wo ?_
   refine zq rfl rfl (ye rfl ty93.choose_spec.1 wl (zH (cs':=[.int .u64 y10.time,.int .u8 y10.dot.actor.rep,.int .u32 y10.dot.actor.inc,.int .u64 y10.dot.seq,.str y10.text]) ty93.choose_spec.2 rfl rfl) (zb rfl)) we ?_
   refine zq rfl rfl (zy rfl xL x4 (bin_ne pk93 rfl)) wi ?_
   refine yo ?_
   refine zj ?_
   refine zN wh hF (fun hc11 hF=>?_) (fun hc11 hF=>?_)
   ·refine zk (zd ?_)
    refine zc rfl (zi rfl rfl (zb rfl)) yC ?_
    refine ze (zj (zI ?_))
    refine zG ?_
    refine zx ?_
    refine yd ?_
    obtain rfl:=Option.some.inj hF
    replace hF:=hK1
    refine zG ?_
    refine zx ?_
    obtain rfl:=Option.some.inj hF
    refine zz rfl (zD yx zF) (zA (leV.refl _) rfl ?_)
    exact ⟨rfl,rfl⟩
   ·refine zK (yg (zj (zd ?_)))
    refine zc rfl (zy rfl yE rfl rfl) wt ?_
    refine zc rfl (zf rfl wp (zb rfl)) y4 ?_
    refine ze (yH ?_)
    obtain rfl:=Option.some.inj hF
    exact ⟨(),hl1,hK1,wk.le (by exact (.eq (.eq (.d4 (.d4 (.drop (.drop (.eq (.cons (leV.of_eq (ve (by omega) (by omega))) (.d4 (.d4 (.d4 leL.nil))))))))))))⟩
  ·refine yU ?_
   refine zZ ?_
   refine zW ?_
   refine zX ?_
   refine zj (zk (zd ?_))
   refine zc rfl (zi rfl rfl (zb rfl)) yC ?_
   refine ze (zj (zI ?_))
   obtain rfl:=Option.some.inj hF
   refine zz rfl (zD yx zF) (zA (leV.refl _) rfl ?_)
   exact ⟨rfl,rfl⟩
/-! varve/leaf.Same -/
theorem ok28 {a0:GLeaf} {b1:GLeaf} {res:Bool} {h:AH}  (hF:wB a0 b1=some res):Spec Tryz.prog 28 [.agg [.int .u8 a0.typ,.int .i64 a0.n,.int .u64 a0.time,.int .u8 a0.dot.actor.rep,.int .u32 a0.dot.actor.inc,.int .u64 a0.dot.seq,.str a0.text,.sl 5 (a0.items.map GItem.row),.sl 3 (a0.tombs.map GDot.row)],.agg [.int .u8 b1.typ,.int .i64 b1.n,.int .u64 b1.time,.int .u8 b1.dot.actor.rep,.int .u32 b1.dot.actor.inc,.int .u64 b1.dot.seq,.str b1.text,.sl 5 (b1.items.map GItem.row),.sl 3 (b1.tombs.map GDot.row)]] h (fun rr hh=>rr=.bool res∧hh=h):=by
 unfold wB at hF
 refine zt Tryz.func28 rfl (by kernel_rfl) (env:=[.agg [.int .u8 a0.typ,.int .i64 a0.n,.int .u64 a0.time,.int .u8 a0.dot.actor.rep,.int .u32 a0.dot.actor.inc,.int .u64 a0.dot.seq,.str a0.text,.sl 5 (a0.items.map GItem.row),.sl 3 (a0.tombs.map GDot.row)],.agg [.int .u8 b1.typ,.int .i64 b1.n,.int .u64 b1.time,.int .u8 b1.dot.actor.rep,.int .u32 b1.dot.actor.inc,.int .u64 b1.dot.seq,.str b1.text,.sl 5 (b1.items.map GItem.row),.sl 3 (b1.tombs.map GDot.row)],za,za,za,za,za,za,za,za,za,za,za,za,za,za,za,za,za,za,za,za,za,za,za,za,za,za,za,za,za,za,za,za,za,za,za,za,za,za,za,za,za,za,za,za,za,za,za,za,za,za]) (by rfl) ?_
 refine zk (zd ?_)
 refine zc rfl (xr (n:=0) rfl yq (zb rfl) rfl rfl) xg ?_
 refine zc rfl (xr (n:=1) rfl yF (zb rfl) rfl rfl) wa ?_
 refine zc rfl (zi rfl rfl (zb rfl)) yC ?_
 refine ze (zj (zk (zd ?_)))
 refine zc rfl (zg rfl xY yW rfl) xw ?_
 refine zc rfl (zu rfl ty5 yR rfl (zr rfl) (zb rfl)) xD ?_
 refine zc rfl (zg rfl xY xu rfl) xM ?_
 refine zc rfl (zu rfl ty5 xE rfl (zr rfl) (zb rfl)) xU ?_
 refine zc rfl (zy rfl yV xp rfl) wy ?_
 refine zc rfl (zf rfl xQ (zb rfl)) yJ ?_
 refine zp rfl (fun hb=>zg rfl fo42x1 yW rfl) yN ?_
 refine zp rfl (fun hb=>zu rfl ty2 (zn yy hb) rfl (zr rfl) (zb rfl)) yX ?_
 refine zp rfl (fun hb=>zg rfl fo42x1 xu rfl) y4 ?_
 refine zp rfl (fun hb=>zu rfl ty2 (zn yE hb) rfl (zr rfl) (zb rfl)) yZ ?_
 refine zp rfl (fun hb=>zy rfl (zn yM hb) (zn yS hb) rfl) y6 ?_
 refine zc rfl (zM rfl yD yY rfl (zU (fun ht=>gT ht))) xj ?_
 refine zc rfl (zf rfl xh (zb rfl)) xy ?_
 refine zp rfl (fun hb=>zg rfl fo42x2 yW rfl) xF ?_
 refine zp rfl (fun hb=>zu rfl ty33 (zn xC hb) rfl (zr rfl) (zb rfl)) xN ?_
 refine zp rfl (fun hb=>zg rfl fo42x2 xu rfl) x8 ?_
 refine zp rfl (fun hb=>zu rfl ty33 (zn x9 hb) rfl (zr rfl) (zb rfl)) wg ?_
 refine zp rfl (fun hb=>zy rfl (zn xL hb) (zn wb hb) rfl) wo ?_
 refine zc rfl (zM rfl xq wl rfl (zU (fun ht=>gT ht))) we ?_
 refine zc rfl (zf rfl x4 (zb rfl)) wi ?_
 refine zp rfl (fun hb=>zg rfl fo42x3 yW rfl) wt ?_
 refine zp rfl (fun hb=>zu rfl ty38.choose_spec.1 (zn wp hb) rfl (zH (cs':=[.int .u8 a0.dot.actor.rep,.int .u32 a0.dot.actor.inc,.int .u64 a0.dot.seq]) ty38.choose_spec.2 rfl rfl) (zb rfl)) wQ ?_
 refine zp rfl (fun hb=>zg rfl fo42x3 xu rfl) wY ?_
 refine zp rfl (fun hb=>zu rfl ty38.choose_spec.1 (zn wU hb) rfl (zH (cs':=[.int .u8 b1.dot.actor.rep,.int .u32 b1.dot.actor.inc,.int .u64 b1.dot.seq]) ty38.choose_spec.2 rfl rfl) (zb rfl)) wX ?_
 refine zp rfl (fun hb=>zy rfl (zn wO hb) (zn wT hb) (bin_eq pk38 rfl)) vi ?_
 refine zc rfl (zM rfl wh vm rfl (zU (fun ht=>gT ht))) vh ?_
 refine zc rfl (zf rfl vE (zb rfl)) vg ?_
 refine zp rfl (fun hb=>zg rfl fo42x4 yW rfl) vz ?_
 refine zp rfl (fun hb=>zu rfl ty9 (zn vk hb) rfl (zr rfl) (zb rfl)) vw ?_
 refine zp rfl (fun hb=>zg rfl fo42x4 xu rfl) vu ?_
 refine zp rfl (fun hb=>zu rfl ty9 (zn vj hb) rfl (zr rfl) (zb rfl)) vt ?_
 refine zp rfl (fun hb=>zy rfl (zn vD hb) (zn vC hb) rfl) vf ?_
 refine zc rfl (zM rfl vl vb rfl (zU (fun ht=>gT ht))) vr ?_
 refine zc rfl (zf rfl vB (zb rfl)) vN ?_
 refine zp rfl (fun hb=>zg rfl xR yW rfl) vM ?_
 refine zp rfl (fun hb=>zu rfl ty39 (zn vJ hb) rfl (zr rfl) (zb rfl)) (sk st0) ?_
 refine zp rfl (fun hb=>zg rfl xR xu rfl) (sk st1) ?_
 refine zp rfl (fun hb=>zu rfl ty39 (zn (gk yF) hb) rfl (zr rfl) (zb rfl)) (sk xg) ?_
 refine yP hF (fun v1 hv1 hF=>?_)
 refine yj rfl (fun hb=>zC rfl rfl rfl (zo (zn (gk yq) hb) (zo (zn (gk yW) hb) zw)) (.cons (zb rfl) (.cons (zb rfl) .nil))) (fun hb=>ok55 (hv1 hb)) (sk wa) ?_
 refine zc rfl (zM rfl vQ (gk xu) rfl (zU (fun ht=>gT ht))) (sk yC) ?_
 refine zc rfl (zf rfl (gk yx) (zb rfl)) (sk xw) ?_
 refine zp rfl (fun hb=>zg rfl wm yW rfl) (sk xD) ?_
 refine zp rfl (fun hb=>zu rfl ty40 (zn (gk yV) hb) rfl (zr rfl) (zb rfl)) (sk xM) ?_
 refine zp rfl (fun hb=>zg rfl wm xu rfl) (sk xU) ?_
 refine zp rfl (fun hb=>zu rfl ty40 (zn (gk xp) hb) rfl (zr rfl) (zb rfl)) (sk wy) ?_
 refine yP hF (fun v2 hv2 hF=>?_)
 refine yj rfl (fun hb=>zC rfl rfl rfl (zo (zn (gk xE) hb) (zo (zn (gk xQ) hb) zw)) (.cons (zb rfl) (.cons (zb rfl) .nil))) (fun hb=>ok56 (hv2 hb)) (sk yJ) ?_
 refine zc rfl (zM rfl (gk yR) (gk yD) rfl (zU (fun ht=>gT ht))) (sk yN) ?_
 refine zc rfl (zi rfl (gk yy) (zb rfl)) yC ?_
 refine ze (zj (zI ?_))
 obtain rfl:=Option.some.inj hF
 refine zz rfl (zD yx zF) (zA (leV.refl _) rfl ?_)
 exact ⟨rfl,rfl⟩
/-! slices.SortFunc[[]varve/api.Edit,varve/api.Edit] -/
def sort45TryzRen:Go.Shelf.Ren :=
  { f:=fun x=>match x with
      | 6=>45
      | 15=>83
      | 14=>82
      | 28=>108
      | 29=>109
      | 20=>100
      | 21=>101
      | 22=>102
      | 23=>103
      | 24=>104
      | 25=>105
      | 26=>106
      | 27=>107
      | 46=>127
      | 47=>128
      | 48=>129
      | 49=>130
      | 50=>131
      | 57=>141
      | n=>n
    t:=fun x=>match x with
      | 22=>29
      | 24=>44
      | 25=>85
      | 3=>3
      | 39=>128
      | 0=>0
      | 53=>34
      | 55=>33
      | 4=>4
      | 46=>142
      | 45=>141
      | 50=>97
      | 5=>5
      | 9=>9
      | 66=>161
      | 70=>165
      | 76=>175
      | 77=>176
      | n=>n
    g:=fun n=>n }
theorem sort45TryzLays:Go.Proofs.SlLaysF0.n6 Tryz.prog sort45TryzRen where
  mixed:=mixed
  f6:=⟨Tryz.f45.name,by kernel_rfl,Tryz.func45.trans (by kernel_rfl)⟩
  f15:=Tryz.func83.trans (by kernel_rfl)
  f14:=⟨Tryz.f82.name,by kernel_rfl,Tryz.func82.trans (by kernel_rfl)⟩
  f28:=Tryz.func108.trans (by kernel_rfl)
  f29:=Tryz.func109.trans (by kernel_rfl)
  f20:=⟨Tryz.f100.name,by kernel_rfl,Tryz.func100.trans (by kernel_rfl)⟩
  f21:=⟨Tryz.f101.name,by kernel_rfl,Tryz.func101.trans (by kernel_rfl)⟩
  f22:=⟨Tryz.f102.name,by kernel_rfl,Tryz.func102.trans (by kernel_rfl)⟩
  f23:=⟨Tryz.f103.name,by kernel_rfl,Tryz.func103.trans (by kernel_rfl)⟩
  f24:=⟨Tryz.f104.name,by kernel_rfl,Tryz.func104.trans (by kernel_rfl)⟩
  f25:=⟨Tryz.f105.name,by kernel_rfl,Tryz.func105.trans (by kernel_rfl)⟩
  f26:=⟨Tryz.f106.name,by kernel_rfl,Tryz.func106.trans (by kernel_rfl)⟩
  f27:=⟨Tryz.f107.name,by kernel_rfl,Tryz.func107.trans (by kernel_rfl)⟩
  f46:=⟨Tryz.f127.name,by kernel_rfl,Tryz.func127.trans (by kernel_rfl)⟩
  f47:=Tryz.func128.trans (by kernel_rfl)
  f48:=Tryz.func129.trans (by kernel_rfl)
  f49:=⟨Tryz.f130.name,by kernel_rfl,Tryz.func130.trans (by kernel_rfl)⟩
  f50:=⟨Tryz.f131.name,by kernel_rfl,Tryz.func131.trans (by kernel_rfl)⟩
  f57:=⟨Tryz.f141.name,by kernel_rfl,Tryz.func141.trans (by kernel_rfl)⟩
  t0:=Tryz.underlying0
  a0:=Tryz.isAgg0
  z0:=Tryz.sizeOf0
  v0:=Tryz.zeroValue0
  t3:=Tryz.underlying3
  a3:=Tryz.isAgg3
  z3:=Tryz.sizeOf3
  v3:=Tryz.zeroValue3
  t4:=Tryz.underlying4
  a4:=Tryz.isAgg4
  z4:=Tryz.sizeOf4
  v4:=Tryz.zeroValue4
  t5:=Tryz.underlying5
  a5:=Tryz.isAgg5
  z5:=Tryz.sizeOf5
  v5:=Tryz.zeroValue5
  t9:=Tryz.underlying9
  a9:=Tryz.isAgg9
  z9:=Tryz.sizeOf9
  v9:=Tryz.zeroValue9
  t22:=Tryz.underlying29
  a22:=Tryz.isAgg29
  z22:=Tryz.sizeOf29
  v22:=Tryz.zeroValue29
  t25:=Tryz.underlying85
  a25:=Tryz.isAgg85
  z25:=Tryz.sizeOf85
  v25:=Tryz.zeroValue85
  t39:=Tryz.underlying128
  a39:=Tryz.isAgg128
  z39:=Tryz.sizeOf128
  v39:=Tryz.zeroValue128
  t45:=Tryz.underlying141
  a45:=Tryz.isAgg141
  z45:=Tryz.sizeOf141
  v45:=Tryz.zeroValue141
  t46:=Tryz.underlying142
  a46:=Tryz.isAgg142
  z46:=Tryz.sizeOf142
  v46:=Tryz.zeroValue142
  t50:=Tryz.underlying97
  a50:=Tryz.isAgg97
  z50:=Tryz.sizeOf97
  v50:=Tryz.zeroValue97
  t53:=Tryz.underlying34
  a53:=Tryz.isAgg34
  z53:=Tryz.sizeOf34
  v53:=Tryz.zeroValue34
  t55:=Tryz.underlying33
  a55:=Tryz.isAgg33
  z55:=Tryz.sizeOf33
  v55:=Tryz.zeroValue33
  t66:=Tryz.underlying161
  a66:=Tryz.isAgg161
  z66:=Tryz.sizeOf161
  v66:=Tryz.zeroValue161
  t70:=Tryz.underlying165
  a70:=Tryz.isAgg165
  z70:=Tryz.sizeOf165
  v70:=Tryz.zeroValue165
  t76:=Tryz.underlying175
  a76:=Tryz.isAgg175
  z76:=Tryz.sizeOf175
  v76:=Tryz.zeroValue175
  t77:=Tryz.underlying176
  a77:=Tryz.isAgg176
  z77:=Tryz.sizeOf176
  v77:=Tryz.zeroValue176
/-! slices.Clone[[]string,string] -/
theorem ok68 {s0:(List zJ)} {res:(List zJ)} {h:AH}  (hF:xW s0=some res):Spec Tryz.prog 68 [.sl 1 (s0.map zP)] h (OwnK h 1 res.length (res.map zP)):=by
 unfold xW at hF
 refine zt Tryz.func68 rfl (by kernel_rfl) (env:=[.sl 1 (s0.map zP),za,za,za,za,za,za,za]) (by rfl) ?_
 refine zk (zd ?_)
 refine zc rfl (zi rfl rfl (xi wD)) xg ?_
 refine ze (zj (zk (zk (zd ?_))))
 refine zc rfl (zf rfl yq (zb rfl)) wa ?_
 refine ops_nilqE rfl rfl wD xu va rfl (fun _=>yC) hF (fun b1 hb1 hF=>?_)
 refine ze (zj ?_)
 refine zN yx hF (fun hc2 hF=>?_) (fun hc2 hF=>?_)
 ·refine zk (zd ?_)
  refine zc rfl (zi rfl rfl (xi wD)) xg ?_
  refine ze (zj (zI (zx ?_)))
  obtain rfl:=Option.some.inj hF
  refine zz rfl (zD yW zF) (fin_own0 (row:=zP) (L:=([]:List zJ)) ?_)
  exact ⟨rfl,rfl⟩
 ·refine zK (zj (zk (zd ?_)))
  refine zc rfl (yr (es:=([]:List zJ).map zP) rfl wD ze9 rfl rfl ym .nil rfl rfl rfl) xw ?_
  refine zc rfl (zf rfl yq (zb rfl)) xD ?_
  refine wJ hF (fun hm3 hF=>?_)
  refine zc rfl (e_appN (m:=0) (T':=[((([]:List zJ)++s0)).length]) rfl rfl rfl rfl wD wD yR yV (zb rfl) (zb rfl) news_sl hm3 rfl rfl) xM ?_
  refine zc rfl (zi rfl xE (zb rfl)) xg ?_
  refine ze (zj (zI ?_))
  obtain rfl:=Option.some.inj hF
  refine zz rfl (zD yW zF) (fin_own ?_)
  exact ⟨rfl,rfl⟩
/-! slices.Clone[[]varve/api.Item,varve/api.Item] -/
theorem ok53 {s0:(List GItem)} {res:(List GItem)} {h:AH}  (hF:wv s0=some res):Spec Tryz.prog 53 [.sl 5 (s0.map GItem.row)] h (OwnK h 5 res.length (res.map GItem.row)):=by
 unfold wv at hF
 refine zt Tryz.func53 rfl (by kernel_rfl) (env:=[.sl 5 (s0.map GItem.row),za,za,za,za,za,za,za]) (by rfl) ?_
 refine zk (zd ?_)
 refine zc rfl (zi rfl rfl (xi qe)) xg ?_
 refine ze (zj (zk (zk (zd ?_))))
 refine zc rfl (zf rfl yq (zb rfl)) wa ?_
 refine ops_nilqE rfl rfl qe xu va rfl (fun _=>yC) hF (fun b1 hb1 hF=>?_)
 refine ze (zj ?_)
 refine zN yx hF (fun hc2 hF=>?_) (fun hc2 hF=>?_)
 ·refine zk (zd ?_)
  refine zc rfl (zi rfl rfl (xi qe)) xg ?_
  refine ze (zj (zI (zx ?_)))
  obtain rfl:=Option.some.inj hF
  refine zz rfl (zD yW zF) (fin_own0 (row:=GItem.row) (L:=([]:List GItem)) ?_)
  exact ⟨rfl,rfl⟩
 ·refine zK (zj (zk (zd ?_)))
  refine zc rfl (yr (es:=([]:List GItem).map GItem.row) rfl qe ze93 rfl rfl ym .nil rfl rfl rfl) xw ?_
  refine zc rfl (zf rfl yq (zb rfl)) xD ?_
  refine wJ hF (fun hm3 hF=>?_)
  refine zc rfl (e_appN (m:=0) (T':=[((([]:List GItem)++s0)).length]) rfl rfl rfl rfl qe qe yR yV (zb rfl) (zb rfl) news_sl hm3 rfl rfl) xM ?_
  refine zc rfl (zi rfl xE (zb rfl)) xg ?_
  refine ze (zj (zI ?_))
  obtain rfl:=Option.some.inj hF
  refine zz rfl (zD yW zF) (fin_own ?_)
  exact ⟨rfl,rfl⟩
/-! slices.Clone[[]varve/api.Dot,varve/api.Dot] -/
theorem ok54 {s0:(List GDot)} {res:(List GDot)} {h:AH}  (hF:wL s0=some res):Spec Tryz.prog 54 [.sl 3 (s0.map GDot.row)] h (OwnK h 3 res.length (res.map GDot.row)):=by
 unfold wL at hF
 refine zt Tryz.func54 rfl (by kernel_rfl) (env:=[.sl 3 (s0.map GDot.row),za,za,za,za,za,za,za]) (by rfl) ?_
 refine zk (zd ?_)
 refine zc rfl (zi rfl rfl (xi el40)) xg ?_
 refine ze (zj (zk (zk (zd ?_))))
 refine zc rfl (zf rfl yq (zb rfl)) wa ?_
 refine ops_nilqE rfl rfl el40 xu va rfl (fun _=>yC) hF (fun b1 hb1 hF=>?_)
 refine ze (zj ?_)
 refine zN yx hF (fun hc2 hF=>?_) (fun hc2 hF=>?_)
 ·refine zk (zd ?_)
  refine zc rfl (zi rfl rfl (xi el40)) xg ?_
  refine ze (zj (zI (zx ?_)))
  obtain rfl:=Option.some.inj hF
  refine zz rfl (zD yW zF) (fin_own0 (row:=GDot.row) (L:=([]:List GDot)) ?_)
  exact ⟨rfl,rfl⟩
 ·refine zK (zj (zk (zd ?_)))
  refine zc rfl (yr (es:=([]:List GDot).map GDot.row) rfl el40 ze38 rfl rfl ym .nil rfl rfl rfl) xw ?_
  refine zc rfl (zf rfl yq (zb rfl)) xD ?_
  refine wJ hF (fun hm3 hF=>?_)
  refine zc rfl (e_appN (m:=0) (T':=[((([]:List GDot)++s0)).length]) rfl rfl rfl rfl el40 el40 yR yV (zb rfl) (zb rfl) news_sl hm3 rfl rfl) xM ?_
  refine zc rfl (zi rfl xE (zb rfl)) xg ?_
  refine ze (zj (zI ?_))
  obtain rfl:=Option.some.inj hF
  refine zz rfl (zD yW zF) (fin_own ?_)
  exact ⟨rfl,rfl⟩
/-! varve/diff.own -/
theorem ok63 {l0:GLeaf} {res:GLeaf} {h:AH}  (hF:diffXown l0=some res):Spec Tryz.prog 63 [.agg [.int .u8 l0.typ,.int .i64 l0.n,.int .u64 l0.time,.int .u8 l0.dot.actor.rep,.int .u32 l0.dot.actor.inc,.int .u64 l0.dot.seq,.str l0.text,.sl 5 (l0.items.map GItem.row),.sl 3 (l0.tombs.map GDot.row)]] h (fun rr hh=>rr=.agg [.int .u8 res.typ,.int .i64 res.n,.int .u64 res.time,.int .u8 res.dot.actor.rep,.int .u32 res.dot.actor.inc,.int .u64 res.dot.seq,.str res.text,.sl 5 (res.items.map GItem.row),.sl 3 (res.tombs.map GDot.row)]∧hh=h):=by
 unfold diffXown at hF
 refine zt Tryz.func63 rfl (by kernel_rfl) (env:=[.agg [.int .u8 l0.typ,.int .i64 l0.n,.int .u64 l0.time,.int .u8 l0.dot.actor.rep,.int .u32 l0.dot.actor.inc,.int .u64 l0.dot.seq,.str l0.text,.sl 5 (l0.items.map GItem.row),.sl 3 (l0.tombs.map GDot.row)],za,za,za,za,za,za,za,za,za,za,za]) (by rfl) ?_
 refine zk (zd ?_)
 refine zc rfl (xr (n:=0) rfl yq (zb rfl) rfl rfl) st1 ?_
 refine zc rfl (xe (n:=1) rfl ze42 rfl) xg ?_
 refine ze (zj (zk ?_))
 refine yK [] [] trivial mixed (by kernel_rfl) ?_
 refine zq rfl rfl (zg rfl xR yF rfl) wa ?_
 refine zq rfl rfl (zu rfl ty39 xu rfl (zr rfl) (zb rfl)) yC ?_
 refine zQ hF (fun v1 hv1 hF=>?_)
 refine vd rfl FOk.nil (by rfl) rfl (zC rfl rfl rfl (zo yx zw) (.cons (zb rfl) .nil)) (own_ext (T':=[(v1).length]) (ok53 hv1) (m:=0) rfl rfl) xw ?_
 refine zq rfl rfl (zg rfl wm yF rfl) xD ?_
 refine zq rfl rfl (zu rfl ty40 yV rfl (zr rfl) (zb rfl)) xM ?_
 refine zQ hF (fun v2 hv2 hF=>?_)
 refine vd rfl FOk.nil (by rfl) rfl (zC rfl rfl rfl (zo xE zw) (.cons (zb rfl) .nil)) (own_ext (T':=[(v1).length,(v2).length]) (ok54 hv2) (m:=1) rfl rfl) xU ?_
 refine zq rfl rfl (zg rfl xR yF rfl) wy ?_
 refine xb rfl FOk.nil (by kernel_rfl) rfl (yf (cs':=[.int .u8 l0.typ,.int .i64 l0.n,.int .u64 l0.time,.int .u8 l0.dot.actor.rep,.int .u32 l0.dot.actor.inc,.int .u64 l0.dot.seq,.str l0.text,.osl (some (h.toks.length+0)) 5 (v1.map GItem.row),.sl 3 (l0.tombs.map GDot.row)]) rfl ty39 xQ yR (zb rfl) rfl rfl rfl rfl rfl) rfl ?_
 refine zq rfl rfl (zg rfl wm yF rfl) yJ ?_
 refine xb rfl FOk.nil (by kernel_rfl) rfl (yf (cs':=[.int .u8 l0.typ,.int .i64 l0.n,.int .u64 l0.time,.int .u8 l0.dot.actor.rep,.int .u32 l0.dot.actor.inc,.int .u64 l0.dot.seq,.str l0.text,.osl (some (h.toks.length+0)) 5 (v1.map GItem.row),.osl (some (h.toks.length+1)) 3 (v2.map GDot.row)]) rfl ty40 yD xp (zb rfl) rfl rfl rfl rfl rfl) rfl ?_
 refine yo ?_
 refine zj (zk (zd ?_))
 refine zc rfl (zu rfl ty42.choose_spec.1 yF rfl (zH (cs':=[.int .u8 l0.typ,.int .i64 l0.n,.int .u64 l0.time,.int .u8 l0.dot.actor.rep,.int .u32 l0.dot.actor.inc,.int .u64 l0.dot.seq,.str l0.text,.osl (some (h.toks.length+0)) 5 (v1.map GItem.row),.osl (some (h.toks.length+1)) 3 (v2.map GDot.row)]) ty42.choose_spec.2 rfl rfl) (zb rfl)) yN ?_
 refine zc rfl (yf (cs':=[.int .u8 l0.typ,.int .i64 l0.n,.int .u64 l0.time,.int .u8 l0.dot.actor.rep,.int .u32 l0.dot.actor.inc,.int .u64 l0.dot.seq,.str l0.text,.osl (some (h.toks.length+0)) 5 (v1.map GItem.row),.osl (some (h.toks.length+1)) 3 (v2.map GDot.row)]) rfl ty42.choose_spec.1 yW yy (zb rfl) rfl rfl rfl rfl rfl) rfl ?_
 refine ze (zj (zI ?_))
 obtain rfl:=Option.some.inj hF
 refine zz rfl (rl_cell ty42.choose_spec.1 yW rfl (zH (cs':=[.int .u8 l0.typ,.int .i64 l0.n,.int .u64 l0.time,.int .u8 l0.dot.actor.rep,.int .u32 l0.dot.actor.inc,.int .u64 l0.dot.seq,.str l0.text,.osl (some (h.toks.length+0)) 5 (v1.map GItem.row),.osl (some (h.toks.length+1)) 3 (v2.map GDot.row)]) ty42.choose_spec.2 rfl rfl) (zb rfl) zF) (zA (leV.agg (.eq (.eq (.eq (.eq (.eq (.eq (.eq (.cons (leV.osl _ _ _) (.cons (leV.osl _ _ _) leL.nil))))))))) rfl) rfl ?_)
 exact ⟨rfl,rfl⟩
/-! varve/diff.copied -/
theorem ok44 {e0:GEdit} {res:GEdit} {h:AH}  (hF:qn e0=some res):Spec Tryz.prog 44 [.agg [.sl 1 (e0.path.map zP),.int .u8 e0.typ,.bool e0.had,.bool e0.has,.int .u8 e0.was.typ,.int .i64 e0.was.n,.int .u64 e0.was.time,.int .u8 e0.was.dot.actor.rep,.int .u32 e0.was.dot.actor.inc,.int .u64 e0.was.dot.seq,.str e0.was.text,.sl 5 (e0.was.items.map GItem.row),.sl 3 (e0.was.tombs.map GDot.row),.int .u8 e0.is.typ,.int .i64 e0.is.n,.int .u64 e0.is.time,.int .u8 e0.is.dot.actor.rep,.int .u32 e0.is.dot.actor.inc,.int .u64 e0.is.dot.seq,.str e0.is.text,.sl 5 (e0.is.items.map GItem.row),.sl 3 (e0.is.tombs.map GDot.row)]] h (fun rr hh=>rr=.agg [.sl 1 (res.path.map zP),.int .u8 res.typ,.bool res.had,.bool res.has,.int .u8 res.was.typ,.int .i64 res.was.n,.int .u64 res.was.time,.int .u8 res.was.dot.actor.rep,.int .u32 res.was.dot.actor.inc,.int .u64 res.was.dot.seq,.str res.was.text,.sl 5 (res.was.items.map GItem.row),.sl 3 (res.was.tombs.map GDot.row),.int .u8 res.is.typ,.int .i64 res.is.n,.int .u64 res.is.time,.int .u8 res.is.dot.actor.rep,.int .u32 res.is.dot.actor.inc,.int .u64 res.is.dot.seq,.str res.is.text,.sl 5 (res.is.items.map GItem.row),.sl 3 (res.is.tombs.map GDot.row)]∧hh=h):=by
 unfold qn at hF
 refine zt Tryz.func44 rfl (by kernel_rfl) (env:=[.agg [.sl 1 (e0.path.map zP),.int .u8 e0.typ,.bool e0.had,.bool e0.has,.int .u8 e0.was.typ,.int .i64 e0.was.n,.int .u64 e0.was.time,.int .u8 e0.was.dot.actor.rep,.int .u32 e0.was.dot.actor.inc,.int .u64 e0.was.dot.seq,.str e0.was.text,.sl 5 (e0.was.items.map GItem.row),.sl 3 (e0.was.tombs.map GDot.row),.int .u8 e0.is.typ,.int .i64 e0.is.n,.int .u64 e0.is.time,.int .u8 e0.is.dot.actor.rep,.int .u32 e0.is.dot.actor.inc,.int .u64 e0.is.dot.seq,.str e0.is.text,.sl 5 (e0.is.items.map GItem.row),.sl 3 (e0.is.tombs.map GDot.row)],za,za,za,za,za,za,za,za,za,za,za,za,za,za,za]) (by rfl) ?_
 refine zk (zd ?_)
 refine zc rfl (xr (n:=0) rfl yq (zb rfl) rfl rfl) st1 ?_
 refine zc rfl (xe (n:=1) rfl ze44 rfl) xg ?_
 refine ze (zj (zk ?_))
 refine yK [5,8] [] trivial mixed (by kernel_rfl) ?_
 refine zq rfl rfl (zg rfl fo44x0 yF rfl) wa ?_
 refine zq rfl rfl (zu rfl ty24 xu rfl (zr rfl) (zb rfl)) yC ?_
 refine zQ hF (fun v1 hv1 hF=>?_)
 refine vd rfl (FOk.cons (.inr (xX trivial)) (FOk.cons (.inr (xX trivial)) FOk.nil)) (by rfl) rfl (zC rfl rfl rfl (zo yx zw) (.cons (zb rfl) .nil)) (own_ext (T':=[(v1).length]) (ok68 hv1) (m:=0) rfl rfl) xw ?_
 refine zq rfl rfl (zg rfl fo44x4 yF rfl) xD ?_
 refine zq rfl rfl (zu rfl ty42.choose_spec.1 yV rfl (zH (cs':=[.int .u8 e0.was.typ,.int .i64 e0.was.n,.int .u64 e0.was.time,.int .u8 e0.was.dot.actor.rep,.int .u32 e0.was.dot.actor.inc,.int .u64 e0.was.dot.seq,.str e0.was.text,.sl 5 (e0.was.items.map GItem.row),.sl 3 (e0.was.tombs.map GDot.row)]) ty42.choose_spec.2 rfl rfl) (zb rfl)) xM ?_
 refine zQ hF (fun v2 hv2 hF=>?_)
 refine yv rfl rfl (fun _=>zC rfl rfl rfl (zo xE zw) (.cons (zb rfl) .nil)) (by rintro _ ⟨B2,T2,rfl,hk2⟩;exact ok63 hv2) xU ?_
 refine zq rfl rfl (zg rfl fo44x5 yF rfl) wy ?_
 refine zq rfl rfl (zu rfl ty42.choose_spec.1 xQ rfl (zH (cs':=[.int .u8 e0.is.typ,.int .i64 e0.is.n,.int .u64 e0.is.time,.int .u8 e0.is.dot.actor.rep,.int .u32 e0.is.dot.actor.inc,.int .u64 e0.is.dot.seq,.str e0.is.text,.sl 5 (e0.is.items.map GItem.row),.sl 3 (e0.is.tombs.map GDot.row)]) ty42.choose_spec.2 rfl rfl) (zb rfl)) yJ ?_
 refine zQ hF (fun v3 hv3 hF=>?_)
 refine yv rfl rfl (fun _=>zC rfl rfl rfl (zo yD zw) (.cons (zb rfl) .nil)) (by rintro _ ⟨B2,T2,rfl,hk2⟩;exact ok63 hv3) yN ?_
 refine zq rfl rfl (zg rfl fo44x0 yF rfl) yX ?_
 refine xb rfl (FOk.cons (.inr (xX trivial)) (FOk.cons (.inr (xX trivial)) FOk.nil)) (by kernel_rfl) rfl (yf (cs':=[.osl (some (h.toks.length+0)) 1 (v1.map zP),.int .u8 e0.typ,.bool e0.had,.bool e0.has,.int .u8 e0.was.typ,.int .i64 e0.was.n,.int .u64 e0.was.time,.int .u8 e0.was.dot.actor.rep,.int .u32 e0.was.dot.actor.inc,.int .u64 e0.was.dot.seq,.str e0.was.text,.sl 5 (e0.was.items.map GItem.row),.sl 3 (e0.was.tombs.map GDot.row),.int .u8 e0.is.typ,.int .i64 e0.is.n,.int .u64 e0.is.time,.int .u8 e0.is.dot.actor.rep,.int .u32 e0.is.dot.actor.inc,.int .u64 e0.is.dot.seq,.str e0.is.text,.sl 5 (e0.is.items.map GItem.row),.sl 3 (e0.is.tombs.map GDot.row)]) rfl ty24 yM yR (zb rfl) rfl rfl rfl rfl rfl) rfl ?_
 refine zq rfl rfl (zg rfl fo44x4 yF rfl) y4 ?_
 refine xb rfl (FOk.cons (.inr (xX trivial)) (FOk.cons (.inr (xX trivial)) FOk.nil)) (by kernel_rfl) rfl (yf (cs':=[.osl (some (h.toks.length+0)) 1 (v1.map zP),.int .u8 e0.typ,.bool e0.had,.bool e0.has,.int .u8 v2.typ,.int .i64 v2.n,.int .u64 v2.time,.int .u8 v2.dot.actor.rep,.int .u32 v2.dot.actor.inc,.int .u64 v2.dot.seq,.str v2.text,.sl 5 (v2.items.map GItem.row),.sl 3 (v2.tombs.map GDot.row),.int .u8 e0.is.typ,.int .i64 e0.is.n,.int .u64 e0.is.time,.int .u8 e0.is.dot.actor.rep,.int .u32 e0.is.dot.actor.inc,.int .u64 e0.is.dot.seq,.str e0.is.text,.sl 5 (e0.is.items.map GItem.row),.sl 3 (e0.is.tombs.map GDot.row)]) rfl ty42.choose_spec.1 yE xp (zb rfl) rfl rfl rfl rfl rfl) rfl ?_
 refine zq rfl rfl (zg rfl fo44x5 yF rfl) yZ ?_
 refine xb rfl (FOk.cons (.inr (xX trivial)) (FOk.cons (.inr (xX trivial)) FOk.nil)) (by kernel_rfl) rfl (yf (cs':=[.osl (some (h.toks.length+0)) 1 (v1.map zP),.int .u8 e0.typ,.bool e0.had,.bool e0.has,.int .u8 v2.typ,.int .i64 v2.n,.int .u64 v2.time,.int .u8 v2.dot.actor.rep,.int .u32 v2.dot.actor.inc,.int .u64 v2.dot.seq,.str v2.text,.sl 5 (v2.items.map GItem.row),.sl 3 (v2.tombs.map GDot.row),.int .u8 v3.typ,.int .i64 v3.n,.int .u64 v3.time,.int .u8 v3.dot.actor.rep,.int .u32 v3.dot.actor.inc,.int .u64 v3.dot.seq,.str v3.text,.sl 5 (v3.items.map GItem.row),.sl 3 (v3.tombs.map GDot.row)]) rfl ty42.choose_spec.1 yS yy (zb rfl) rfl rfl rfl rfl rfl) rfl ?_
 refine yo ?_
 refine zj (zk (zd ?_))
 refine zc rfl (zu rfl ty44.choose_spec.1 yF rfl (zH (cs':=[.osl (some (h.toks.length+0)) 1 (v1.map zP),.int .u8 e0.typ,.bool e0.had,.bool e0.has,.int .u8 v2.typ,.int .i64 v2.n,.int .u64 v2.time,.int .u8 v2.dot.actor.rep,.int .u32 v2.dot.actor.inc,.int .u64 v2.dot.seq,.str v2.text,.sl 5 (v2.items.map GItem.row),.sl 3 (v2.tombs.map GDot.row),.int .u8 v3.typ,.int .i64 v3.n,.int .u64 v3.time,.int .u8 v3.dot.actor.rep,.int .u32 v3.dot.actor.inc,.int .u64 v3.dot.seq,.str v3.text,.sl 5 (v3.items.map GItem.row),.sl 3 (v3.tombs.map GDot.row)]) ty44.choose_spec.2 rfl rfl) (zb rfl)) y6 ?_
 refine zc rfl (yf (cs':=[.osl (some (h.toks.length+0)) 1 (v1.map zP),.int .u8 e0.typ,.bool e0.had,.bool e0.has,.int .u8 v2.typ,.int .i64 v2.n,.int .u64 v2.time,.int .u8 v2.dot.actor.rep,.int .u32 v2.dot.actor.inc,.int .u64 v2.dot.seq,.str v2.text,.sl 5 (v2.items.map GItem.row),.sl 3 (v2.tombs.map GDot.row),.int .u8 v3.typ,.int .i64 v3.n,.int .u64 v3.time,.int .u8 v3.dot.actor.rep,.int .u32 v3.dot.actor.inc,.int .u64 v3.dot.seq,.str v3.text,.sl 5 (v3.items.map GItem.row),.sl 3 (v3.tombs.map GDot.row)]) rfl ty44.choose_spec.1 yW yY (zb rfl) rfl rfl rfl rfl rfl) rfl ?_
 refine ze (zj (zI ?_))
 obtain rfl:=Option.some.inj hF
 refine zz rfl (rl_cell ty44.choose_spec.1 yW rfl (zH (cs':=[.osl (some (h.toks.length+0)) 1 (v1.map zP),.int .u8 e0.typ,.bool e0.had,.bool e0.has,.int .u8 v2.typ,.int .i64 v2.n,.int .u64 v2.time,.int .u8 v2.dot.actor.rep,.int .u32 v2.dot.actor.inc,.int .u64 v2.dot.seq,.str v2.text,.sl 5 (v2.items.map GItem.row),.sl 3 (v2.tombs.map GDot.row),.int .u8 v3.typ,.int .i64 v3.n,.int .u64 v3.time,.int .u8 v3.dot.actor.rep,.int .u32 v3.dot.actor.inc,.int .u64 v3.dot.seq,.str v3.text,.sl 5 (v3.items.map GItem.row),.sl 3 (v3.tombs.map GDot.row)]) ty44.choose_spec.2 rfl rfl) (zb rfl) zF) (zA (leV.agg (.cons (leV.osl _ _ _) (.eq (.eq (.eq (.eq (.eq (.eq (.eq (.eq (.eq (.eq (.eq (.eq (.eq (.eq (.eq (.eq (.eq (.eq (.eq (.eq (.eq leL.nil)))))))))))))))))))))) rfl) rfl ?_)
 exact ⟨rfl,rfl⟩
/-! varve/diff.sorted -/
theorem ok24 {byy0:List (zJ×GEdit)} {mbyy0:Nat} {res:(List GEdit)} {h:AH} (hbyy0:h.blk mbyy0=some (.mapo (byy0.map (qE AV.str (fun x=>AV.agg (GEdit.row x)))) 0)) (hF:q8 byy0=some res):Spec Tryz.prog 24 [.map mbyy0] h (fun rr hh=>rr=.sl 22 (res.map GEdit.row)∧hh=h):=by
 unfold q8 at hF
 refine zt Tryz.func24 rfl (by kernel_rfl) (env:=[.map mbyy0,za,za,za,za,za,za,za,za,za,za,za,za,za,za,za,za,za,za,za,za,za,za,za,za,za,za,za,za,za,za,za]) (by rfl) ?_
 have hlmbyy0:=blk_lt hbyy0 rfl
 have hlmbyy0b:∀ k,mbyy0 < h.blks.length+k:=fun k=>Nat.lt_of_lt_of_le hlmbyy0 (Nat.le_add_right _ _)
 refine zk (zd ?_)
 refine zc rfl (zi rfl rfl (xi el29)) xg ?_
 refine ze (zj (zk (zk (zd ?_))))
 refine zc rfl (zf rfl yq (zb rfl)) xw ?_
 refine ops_rangeM (kv:=AV.str) (vv:=(fun x=>AV.agg (GEdit.row x))) rfl rfl Tryz.underlying60 yR (blk_old hbyy0) rfl xD rfl ?_
 refine ze (zj (zR ?_))
 refine r_loopMF (fun (s1:(List GEdit))=>[(0,.any),(1,.any),(2,.rsl (h.blks.length+1) (h.toks.length+0) 22 ((s1).length)),(3,.any),(4,.any),(5,.any),(7,.any),(8,.any),(9,.any),(10,.any),(11,.any),(12,.any),(13,.any),(14,.any),(15,.any),(16,.any),(17,.any),(18,.any),(19,.any),(20,.any),(21,.any),(22,.any),(23,.any),(24,.any),(25,.any),(26,.any),(27,.any),(28,.any),(29,.any),(30,.any),(31,.any)]) (fun seen1 s1=>h.ext [.miter mbyy0 byy0.length seen1,.row (h.toks.length+0) 22 (s1.map GEdit.row)] [(s1).length]) hF (fun _=>by simp only [upd,List.set_cons_succ,List.set_cons_zero];try rfl) (wk.trans ((swk_thaw yW rfl rfl xg rfl rfl).wk) (wk.le (by exact (.drop (.drop (.cons (leV.of_eq rfl) (.drop (.drop (.drop (.eq (.d16 (.d4 (.d4 (.drop leL.nil)))))))))))))) ?_
 intro seen1 s1 hF
 refine zk (zd ?_)
 refine ops_nextMF rfl rfl yV rfl (blk_old hbyy0) xM hF (fun i1 x1 o1 hx1 hs1 hF hK1=>⟨_,xM,?_⟩) (fun hF=>?_)
 ·refine zc rfl (yl rfl xE rfl (zb rfl)) xU ?_
  refine ze (zj (zk ?_))
  refine r_cond xp (fun _=>?_) (fun hh=>by cases hh)
  refine zK (zj (zR (zk (zd ?_))))
  refine ops_entryM rfl rfl yV rfl (blk_old hbyy0) hx1 wy ?_
  refine zc rfl (yl rfl xQ rfl (zb rfl)) yJ ?_
  refine zc rfl (xe (n:=2) rfl ze44 rfl) yC ?_
  refine zc rfl (yf (cs':=[.sl 1 (x1.2.path.map zP),.int .u8 x1.2.typ,.bool x1.2.had,.bool x1.2.has,.int .u8 x1.2.was.typ,.int .i64 x1.2.was.n,.int .u64 x1.2.was.time,.int .u8 x1.2.was.dot.actor.rep,.int .u32 x1.2.was.dot.actor.inc,.int .u64 x1.2.was.dot.seq,.str x1.2.was.text,.sl 5 (x1.2.was.items.map GItem.row),.sl 3 (x1.2.was.tombs.map GDot.row),.int .u8 x1.2.is.typ,.int .i64 x1.2.is.n,.int .u64 x1.2.is.time,.int .u8 x1.2.is.dot.actor.rep,.int .u32 x1.2.is.dot.actor.inc,.int .u64 x1.2.is.dot.seq,.str x1.2.is.text,.sl 5 (x1.2.is.items.map GItem.row),.sl 3 (x1.2.is.tombs.map GDot.row)]) rfl ty44.choose_spec.1 yx yD (zb rfl) rfl rfl rfl rfl rfl) rfl ?_
  refine ze (zj (zk (zd ?_)))
  refine zc rfl (zg rfl fo44x2 yx rfl) yN ?_
  refine zc rfl (zu rfl ty4 yy rfl (zr rfl) (zb rfl)) yX ?_
  refine zc rfl (zg rfl fo44x3 yx rfl) y4 ?_
  refine zc rfl (zu rfl ty4 yE rfl (zr rfl) (zb rfl)) yZ ?_
  refine zc rfl (zy rfl yM yS (bin_boolE ty4)) y6 ?_
  refine zc rfl (zf rfl yY (zb rfl)) xj ?_
  refine zp rfl (fun hb=>zg rfl fo44x4 yx rfl) xy ?_
  refine zp rfl (fun hb=>zu rfl ty42.choose_spec.1 (zn xq hb) rfl (zH (cs':=[.int .u8 x1.2.was.typ,.int .i64 x1.2.was.n,.int .u64 x1.2.was.time,.int .u8 x1.2.was.dot.actor.rep,.int .u32 x1.2.was.dot.actor.inc,.int .u64 x1.2.was.dot.seq,.str x1.2.was.text,.sl 5 (x1.2.was.items.map GItem.row),.sl 3 (x1.2.was.tombs.map GDot.row)]) ty42.choose_spec.2 rfl rfl) (zb rfl)) xF ?_
  refine zp rfl (fun hb=>zg rfl fo44x5 yx rfl) xN ?_
  refine zp rfl (fun hb=>zu rfl ty42.choose_spec.1 (zn xL hb) rfl (zH (cs':=[.int .u8 x1.2.is.typ,.int .i64 x1.2.is.n,.int .u64 x1.2.is.time,.int .u8 x1.2.is.dot.actor.rep,.int .u32 x1.2.is.dot.actor.inc,.int .u64 x1.2.is.dot.seq,.str x1.2.is.text,.sl 5 (x1.2.is.items.map GItem.row),.sl 3 (x1.2.is.tombs.map GDot.row)]) ty42.choose_spec.2 rfl rfl) (zb rfl)) x8 ?_
  refine yP hF (fun v7 hv7 hF=>?_)
  refine yj rfl (fun hb=>zC rfl rfl rfl (zo (zn xC hb) (zo (zn x9 hb) zw)) (.cons (zb rfl) (.cons (zb rfl) .nil))) (fun hb=>ok28 (hv7 hb)) wg ?_
  refine zc rfl (zM rfl xh wb rfl (zU (fun ht=>gT ht))) wo ?_
  refine zc rfl (xT rfl wl rfl) we ?_
  refine ze (zj ?_)
  refine zN x4 hF (fun hc8 hF=>?_) (fun hc8 hF=>?_)
  ·refine zd ?_
   refine zc rfl (zf rfl yW (zb rfl)) wi ?_
   refine zc rfl (zu rfl ty44.choose_spec.1 yx rfl (zH (cs':=[.sl 1 (x1.2.path.map zP),.int .u8 x1.2.typ,.bool x1.2.had,.bool x1.2.has,.int .u8 x1.2.was.typ,.int .i64 x1.2.was.n,.int .u64 x1.2.was.time,.int .u8 x1.2.was.dot.actor.rep,.int .u32 x1.2.was.dot.actor.inc,.int .u64 x1.2.was.dot.seq,.str x1.2.was.text,.sl 5 (x1.2.was.items.map GItem.row),.sl 3 (x1.2.was.tombs.map GDot.row),.int .u8 x1.2.is.typ,.int .i64 x1.2.is.n,.int .u64 x1.2.is.time,.int .u8 x1.2.is.dot.actor.rep,.int .u32 x1.2.is.dot.actor.inc,.int .u64 x1.2.is.dot.seq,.str x1.2.is.text,.sl 5 (x1.2.is.items.map GItem.row),.sl 3 (x1.2.is.tombs.map GDot.row)]) ty44.choose_spec.2 rfl rfl) (zb rfl)) wt ?_
   refine zQ hF (fun v9 hv9 hF=>?_)
   refine zL rfl (zC rfl rfl rfl (zo wp zw) (.cons (zb rfl) .nil)) (ok44 hv9) wQ ?_
   refine zc rfl (yr (es:=([v9]:List GEdit).map GEdit.row) rfl el29 ze44 rfl rfl (yh wO ym) (.cons (zb rfl) .nil) rfl rfl rfl) wY ?_
   refine wJ hF (fun hm10 hF=>?_)
   refine zc rfl (e_appR (i:=1) (j:=0) (B':=[.miter mbyy0 byy0.length (seen1++[i1]),.row (h.toks.length+0) 22 ((s1++([v9]:List GEdit)).map GEdit.row),.cells [.sl 1 (x1.2.path.map zP),.int .u8 x1.2.typ,.bool x1.2.had,.bool x1.2.has,.int .u8 x1.2.was.typ,.int .i64 x1.2.was.n,.int .u64 x1.2.was.time,.int .u8 x1.2.was.dot.actor.rep,.int .u32 x1.2.was.dot.actor.inc,.int .u64 x1.2.was.dot.seq,.str x1.2.was.text,.sl 5 (x1.2.was.items.map GItem.row),.sl 3 (x1.2.was.tombs.map GDot.row),.int .u8 x1.2.is.typ,.int .i64 x1.2.is.n,.int .u64 x1.2.is.time,.int .u8 x1.2.is.dot.actor.rep,.int .u32 x1.2.is.dot.actor.inc,.int .u64 x1.2.is.dot.seq,.str x1.2.is.text,.sl 5 (x1.2.is.items.map GItem.row),.sl 3 (x1.2.is.tombs.map GDot.row)]]) (T':=[((s1++([v9]:List GEdit))).length]) rfl rfl rfl rfl el29 el29 wh wU rfl (zb rfl) news_osl hm10 rfl rfl rfl rfl rfl) wX ?_
   refine zc rfl (zi rfl wT (zb rfl)) xg ?_
   refine ze (yg (yH ?_))
   obtain rfl:=Option.some.inj hF
   exact ⟨i1,(s1++([v9]:List GEdit)),hs1,hK1,wk.trans (wk.le (by exact (.drop (.drop (.cons (leV.of_eq rfl) (.drop (.drop (.drop (.eq (.d16 (.d4 (.d4 (.drop leL.nil))))))))))))) (xJ (by simp [yi,AV.low,hlmbyy0,hlmbyy0b]) rfl rfl (by simp [Blk.low,yi,AV.low,hlmbyy0,hlmbyy0b]))⟩
  ·refine zK (yg (yH ?_))
   obtain rfl:=Option.some.inj hF
   exact ⟨i1,s1,hs1,hK1,wk.trans (wk.le (by exact (.drop (.drop (.cons (leV.of_eq rfl) (.drop (.drop (.drop (.eq (.d16 (.d4 (.d4 (.drop leL.nil))))))))))))) (xJ (by simp [yi,AV.low,hlmbyy0,hlmbyy0b]) rfl rfl (by simp [Blk.low,yi,AV.low,hlmbyy0,hlmbyy0b]))⟩
 ·refine zc rfl (yl rfl xE rfl (zb rfl)) xU ?_
  refine ze (zj (zk ?_))
  refine r_cond xp (fun hh=>by cases hh) (fun _=>?_)
  refine yU ?_
  refine zZ ?_
  refine zW ?_
  refine zX ?_
  refine zj (zk (zd ?_))
  refine zc rfl (zf rfl yW (zb rfl)) vi ?_
  refine zQ hF (fun v11 hv11 hF=>?_)
  refine ops_callH rfl (zC rfl rfl rfl (zo vm (zo rfl zw)) (.cons (zb rfl) (.cons (zb rfl) .nil))) (spec_sortO sort45TryzLays Tryz.isAgg44 Tryz.sizeOf44 (fun _=>rfl) (fun _=>rfl) (enters_fn Tryz.func46 rfl (by kernel_rfl)) (fun _ _ _ h=>ok46 h) hv11 (i:=1) (B':=[.miter mbyy0 byy0.length seen1,.row (h.toks.length+0) 22 (v11.map GEdit.row)]) rfl rfl) vh ?_
  refine ze ?_
  refine q_seqw ((swk_freeze (j:=1) (m:=0) (B':=[.miter mbyy0 byy0.length seen1,.dead]) (T':=[(v11.map GEdit.row).length+1]) rfl (by exact (FzL.cons (FzA.same _) (FzL.cons (FzA.same _) (FzL.cons (FzA.hit2 _ _ (by rw [List.length_map];exact (sortO_len hv11).symm)) (FzL.cons (FzA.same _) (FzL.cons (FzA.same _) (FzL.cons (FzA.same _) (FzL.cons (FzA.same _) (FzL.cons (FzA.same _) (FzL.cons (FzA.same _) (FzL.cons (FzA.same _) (FzL.cons (FzA.same _) (FzL.cons (FzA.same _) (FzL.cons (FzA.same _) (FzL.cons (FzA.same _) (FzL.cons (FzA.same _) (FzL.cons (FzA.same _) (FzL.cons (FzA.same _) (FzL.cons (FzA.same _) (FzL.cons (FzA.same _) (FzL.cons (FzA.same _) (FzL.cons (FzA.same _) (FzL.cons (FzA.same _) (FzL.cons (FzA.same _) (FzL.cons (FzA.same _) (FzL.cons (FzA.same _) (FzL.cons (FzA.same _) (FzL.cons (FzA.same _) (FzL.cons (FzA.same _) (FzL.cons (FzA.same _) (FzL.cons (FzA.hit2 _ _ (by rw [List.length_map];exact (sortO_len hv11).symm)) (FzL.refl _)))))))))))))))))))))))))))))))) rfl rfl).wk) ?_
  refine zk (zd ?_)
  refine zc rfl (zf rfl yW (zb rfl)) vg ?_
  refine zc rfl (zi rfl vl (zb rfl)) xg ?_
  refine ze (zj (zI ?_))
  obtain rfl:=Option.some.inj hF
  refine zz rfl (zD yW zF) (zA (leV.refl _) rfl ?_)
  exact ⟨rfl,rfl⟩
/-! cmp.isNaN[uint64] -/
theorem ok144 {x0:Int} {res:Bool} {h:AH}  (hF:vX x0=some res):Spec Tryz.prog 144 [.int .u64 x0] h (fun rr hh=>rr=.bool res∧hh=h):=by
 unfold vX at hF
 refine zt Tryz.func144 rfl (by kernel_rfl) (env:=[.int .u64 x0,za,za,za,za,za]) (by rfl) ?_
 refine zk (zd ?_)
 refine zc rfl (zi rfl rfl (zb rfl)) xg ?_
 refine ze (zj (zk (zd ?_)))
 refine zc rfl (zf rfl yq (zb rfl)) wa ?_
 refine zc rfl (zf rfl yq (zb rfl)) yC ?_
 refine zc rfl (zy rfl xu yx rfl) xw ?_
 refine zc rfl (zi rfl yR (zb rfl)) xg ?_
 refine ze (zj (zI ?_))
 obtain rfl:=Option.some.inj hF
 refine zz rfl (zD yW zF) (zA (leV.refl _) rfl ?_)
 exact ⟨rfl,rfl⟩
/-! cmp.Compare[uint64] -/
theorem ok138 {x0:Int} {y1:Int} {res:Int} {h:AH}  (hF:wI x0 y1=some res):Spec Tryz.prog 138 [.int .u64 x0,.int .u64 y1] h (fun rr hh=>rr=.int .i64 res∧hh=h):=by
 unfold wI at hF
 refine zt Tryz.func138 rfl (by kernel_rfl) (env:=[.int .u64 x0,.int .u64 y1,za,za,za,za,za,za,za,za,za,za,za,za,za,za,za,za,za,za]) (by rfl) ?_
 refine zk (zd ?_)
 refine zc rfl (zi rfl rfl (zb rfl)) yC ?_
 refine ze (zj (zk (zd ?_)))
 refine zc rfl (zf rfl yq (zb rfl)) xM ?_
 refine zQ hF (fun v1 hv1 hF=>?_)
 refine zL rfl (zC rfl rfl rfl (zo xE zw) (.cons (zb rfl) .nil)) (ok144 hv1) xU ?_
 refine zc rfl (zi rfl xp (zb rfl)) xw ?_
 refine ze (zj (zk (zd ?_)))
 refine zc rfl (zf rfl yF (zb rfl)) wy ?_
 refine zQ hF (fun v2 hv2 hF=>?_)
 refine zL rfl (zC rfl rfl rfl (zo xQ zw) (.cons (zb rfl) .nil)) (ok144 hv2) yJ ?_
 refine zc rfl (zi rfl yD (zb rfl)) xD ?_
 refine ze (zj (zk (zk (zd ?_))))
 refine zc rfl (zf rfl yR (zb rfl)) yN ?_
 refine ze (zj ?_)
 refine zN yy hF (fun hc3 hF=>?_) (fun hc3 hF=>?_)
 ·refine zk (zk (zd ?_))
  refine zc rfl (zf rfl yV (zb rfl)) yX ?_
  refine ze (zj ?_)
  refine zN yM hF (fun hc4 hF=>?_) (fun hc4 hF=>?_)
  ·refine zk (zd ?_)
   refine zc rfl (zi rfl rfl (zb rfl)) yC ?_
   refine ze (zj (zI (zx (zx ?_))))
   obtain rfl:=Option.some.inj hF
   refine zz rfl (zD yx zF) (zA (leV.refl _) rfl ?_)
   exact ⟨rfl,rfl⟩
  ·refine zK (zj (zk (zd ?_)))
   refine zc rfl (zi rfl rfl (zb rfl)) yC ?_
   refine ze (zj (zI (zx ?_)))
   obtain rfl:=Option.some.inj hF
   refine zz rfl (zD yx zF) (zA (leV.refl _) rfl ?_)
   exact ⟨rfl,rfl⟩
 ·refine zK (zj (zk (zk (zd ?_))))
  refine zc rfl (zf rfl yV (zb rfl)) y4 ?_
  refine ze (zj ?_)
  refine zN yE hF (fun hc5 hF=>?_) (fun hc5 hF=>?_)
  ·refine zk (zd ?_)
   refine zc rfl (zi rfl rfl (zb rfl)) yC ?_
   refine ze (zj (zI (zx ?_)))
   obtain rfl:=Option.some.inj hF
   refine zz rfl (zD yx zF) (zA (leV.refl _) rfl ?_)
   exact ⟨rfl,rfl⟩
  ·refine zK (zj (zk (zk (zd ?_))))
   refine zc rfl (zf rfl yq (zb rfl)) yZ ?_
   refine zc rfl (zf rfl yF (zb rfl)) y6 ?_
   refine zc rfl (zy rfl yS yY rfl) xj ?_
   refine ze (zj ?_)
   refine zN xh hF (fun hc6 hF=>?_) (fun hc6 hF=>?_)
   ·refine zk (zd ?_)
    refine zc rfl (zi rfl rfl (zb rfl)) yC ?_
    refine ze (zj (zI (zx ?_)))
    obtain rfl:=Option.some.inj hF
    refine zz rfl (zD yx zF) (zA (leV.refl _) rfl ?_)
    exact ⟨rfl,rfl⟩
   ·refine zK (zj (zk (zk (zd ?_))))
    refine zc rfl (zf rfl yq (zb rfl)) xy ?_
    refine zc rfl (zf rfl yF (zb rfl)) xF ?_
    refine zc rfl (zy rfl xq xC rfl) xN ?_
    refine ze (zj ?_)
    refine zN xL hF (fun hc7 hF=>?_) (fun hc7 hF=>?_)
    ·refine zk (zd ?_)
     refine zc rfl (zi rfl rfl (zb rfl)) yC ?_
     refine ze (zj (zI (zx ?_)))
     obtain rfl:=Option.some.inj hF
     refine zz rfl (zD yx zF) (zA (leV.refl _) rfl ?_)
     exact ⟨rfl,rfl⟩
    ·refine zK (zj (zk (zd ?_)))
     refine zc rfl (zi rfl rfl (zb rfl)) yC ?_
     refine ze (zj (zI ?_))
     obtain rfl:=Option.some.inj hF
     refine zz rfl (zD yx zF) (zA (leV.refl _) rfl ?_)
     exact ⟨rfl,rfl⟩
/-! cmp.isNaN[uint32] -/
theorem ok146 {x0:Int} {res:Bool} {h:AH}  (hF:vY x0=some res):Spec Tryz.prog 146 [.int .u32 x0] h (fun rr hh=>rr=.bool res∧hh=h):=by
 unfold vY at hF
 refine zt Tryz.func146 rfl (by kernel_rfl) (env:=[.int .u32 x0,za,za,za,za,za]) (by rfl) ?_
 refine zk (zd ?_)
 refine zc rfl (zi rfl rfl (zb rfl)) xg ?_
 refine ze (zj (zk (zd ?_)))
 refine zc rfl (zf rfl yq (zb rfl)) wa ?_
 refine zc rfl (zf rfl yq (zb rfl)) yC ?_
 refine zc rfl (zy rfl xu yx rfl) xw ?_
 refine zc rfl (zi rfl yR (zb rfl)) xg ?_
 refine ze (zj (zI ?_))
 obtain rfl:=Option.some.inj hF
 refine zz rfl (zD yW zF) (zA (leV.refl _) rfl ?_)
 exact ⟨rfl,rfl⟩
/-! cmp.Compare[uint32] -/
theorem ok143 {x0:Int} {y1:Int} {res:Int} {h:AH}  (hF:vH x0 y1=some res):Spec Tryz.prog 143 [.int .u32 x0,.int .u32 y1] h (fun rr hh=>rr=.int .i64 res∧hh=h):=by
 unfold vH at hF
 refine zt Tryz.func143 rfl (by kernel_rfl) (env:=[.int .u32 x0,.int .u32 y1,za,za,za,za,za,za,za,za,za,za,za,za,za,za,za,za,za,za]) (by rfl) ?_
 refine zk (zd ?_)
 refine zc rfl (zi rfl rfl (zb rfl)) yC ?_
 refine ze (zj (zk (zd ?_)))
 refine zc rfl (zf rfl yq (zb rfl)) xM ?_
 refine zQ hF (fun v1 hv1 hF=>?_)
 refine zL rfl (zC rfl rfl rfl (zo xE zw) (.cons (zb rfl) .nil)) (ok146 hv1) xU ?_
 refine zc rfl (zi rfl xp (zb rfl)) xw ?_
 refine ze (zj (zk (zd ?_)))
 refine zc rfl (zf rfl yF (zb rfl)) wy ?_
 refine zQ hF (fun v2 hv2 hF=>?_)
 refine zL rfl (zC rfl rfl rfl (zo xQ zw) (.cons (zb rfl) .nil)) (ok146 hv2) yJ ?_
 refine zc rfl (zi rfl yD (zb rfl)) xD ?_
 refine ze (zj (zk (zk (zd ?_))))
 refine zc rfl (zf rfl yR (zb rfl)) yN ?_
 refine ze (zj ?_)
 refine zN yy hF (fun hc3 hF=>?_) (fun hc3 hF=>?_)
 ·refine zk (zk (zd ?_))
  refine zc rfl (zf rfl yV (zb rfl)) yX ?_
  refine ze (zj ?_)
  refine zN yM hF (fun hc4 hF=>?_) (fun hc4 hF=>?_)
  ·refine zk (zd ?_)
   refine zc rfl (zi rfl rfl (zb rfl)) yC ?_
   refine ze (zj (zI (zx (zx ?_))))
   obtain rfl:=Option.some.inj hF
   refine zz rfl (zD yx zF) (zA (leV.refl _) rfl ?_)
   exact ⟨rfl,rfl⟩
  ·refine zK (zj (zk (zd ?_)))
   refine zc rfl (zi rfl rfl (zb rfl)) yC ?_
   refine ze (zj (zI (zx ?_)))
   obtain rfl:=Option.some.inj hF
   refine zz rfl (zD yx zF) (zA (leV.refl _) rfl ?_)
   exact ⟨rfl,rfl⟩
 ·refine zK (zj (zk (zk (zd ?_))))
  refine zc rfl (zf rfl yV (zb rfl)) y4 ?_
  refine ze (zj ?_)
  refine zN yE hF (fun hc5 hF=>?_) (fun hc5 hF=>?_)
  ·refine zk (zd ?_)
   refine zc rfl (zi rfl rfl (zb rfl)) yC ?_
   refine ze (zj (zI (zx ?_)))
   obtain rfl:=Option.some.inj hF
   refine zz rfl (zD yx zF) (zA (leV.refl _) rfl ?_)
   exact ⟨rfl,rfl⟩
  ·refine zK (zj (zk (zk (zd ?_))))
   refine zc rfl (zf rfl yq (zb rfl)) yZ ?_
   refine zc rfl (zf rfl yF (zb rfl)) y6 ?_
   refine zc rfl (zy rfl yS yY rfl) xj ?_
   refine ze (zj ?_)
   refine zN xh hF (fun hc6 hF=>?_) (fun hc6 hF=>?_)
   ·refine zk (zd ?_)
    refine zc rfl (zi rfl rfl (zb rfl)) yC ?_
    refine ze (zj (zI (zx ?_)))
    obtain rfl:=Option.some.inj hF
    refine zz rfl (zD yx zF) (zA (leV.refl _) rfl ?_)
    exact ⟨rfl,rfl⟩
   ·refine zK (zj (zk (zk (zd ?_))))
    refine zc rfl (zf rfl yq (zb rfl)) xy ?_
    refine zc rfl (zf rfl yF (zb rfl)) xF ?_
    refine zc rfl (zy rfl xq xC rfl) xN ?_
    refine ze (zj ?_)
    refine zN xL hF (fun hc7 hF=>?_) (fun hc7 hF=>?_)
    ·refine zk (zd ?_)
     refine zc rfl (zi rfl rfl (zb rfl)) yC ?_
     refine ze (zj (zI (zx ?_)))
     obtain rfl:=Option.some.inj hF
     refine zz rfl (zD yx zF) (zA (leV.refl _) rfl ?_)
     exact ⟨rfl,rfl⟩
    ·refine zK (zj (zk (zd ?_)))
     refine zc rfl (zi rfl rfl (zb rfl)) yC ?_
     refine ze (zj (zI ?_))
     obtain rfl:=Option.some.inj hF
     refine zz rfl (zD yx zF) (zA (leV.refl _) rfl ?_)
     exact ⟨rfl,rfl⟩
/-! varve/dot.compare -/
theorem ok137 {a0:GActor} {b1:GActor} {res:Int} {h:AH}  (hF:dotXcompare a0 b1=some res):Spec Tryz.prog 137 [.agg [.int .u8 a0.rep,.int .u32 a0.inc],.agg [.int .u8 b1.rep,.int .u32 b1.inc]] h (fun rr hh=>rr=.int .i64 res∧hh=h):=by
 unfold dotXcompare at hF
 refine zt Tryz.func137 rfl (by kernel_rfl) (env:=[.agg [.int .u8 a0.rep,.int .u32 a0.inc],.agg [.int .u8 b1.rep,.int .u32 b1.inc],za,za,za,za,za,za,za,za,za,za,za,za,za,za,za]) (by rfl) ?_
 refine zk (zd ?_)
 refine zc rfl (xr (n:=0) rfl yq (zb rfl) rfl rfl) xg ?_
 refine zc rfl (xr (n:=1) rfl yF (zb rfl) rfl rfl) wa ?_
 refine zc rfl (zi rfl rfl (zb rfl)) yC ?_
 refine ze (zj (zk ?_))
 refine yK [4,9,11] [] trivial mixed (by kernel_rfl) ?_
 refine zq rfl rfl (zg rfl fo36x0 yW rfl) xw ?_
 refine zq rfl rfl (zu rfl ty5 yR rfl (zr rfl) (zb rfl)) xD ?_
 refine zq rfl rfl (zg rfl fo36x0 xu rfl) xM ?_
 refine zq rfl rfl (zu rfl ty5 xE rfl (zr rfl) (zb rfl)) xU ?_
 refine zQ hF (fun v1 hv1 hF=>?_)
 refine yv rfl rfl (fun _=>zC rfl rfl rfl (zo yV (zo xp zw)) (.cons (zb rfl) (.cons (zb rfl) .nil))) (by rintro _ ⟨B2,T2,rfl,hk2⟩;exact ok66 hv1) wy ?_
 refine zq rfl rfl (zg rfl fo36x1 yW rfl) yJ ?_
 refine zq rfl rfl (zu rfl ty34 yD rfl (zr rfl) (zb rfl)) yN ?_
 refine zq rfl rfl (zg rfl fo36x1 xu rfl) yX ?_
 refine zq rfl rfl (zu rfl ty34 yM rfl (zr rfl) (zb rfl)) y4 ?_
 refine zQ hF (fun v2 hv2 hF=>?_)
 refine yv rfl rfl (fun _=>zC rfl rfl rfl (zo yy (zo yE zw)) (.cons (zb rfl) (.cons (zb rfl) .nil))) (by rintro _ ⟨B2,T2,rfl,hk2⟩;exact ok143 hv2) yZ ?_
 refine zq rfl rfl (yr (es:=([v1,v2]:List Int).map (intRow .i64)) rfl el149 ze3 rfl rfl (yh xQ (yh yS ym)) (.cons (zb rfl) (.cons (zb rfl) .nil)) rfl rfl rfl) y6 ?_
 refine zQ hF (fun v3 hv3 hF=>?_)
 refine yv rfl rfl (fun _=>zC rfl rfl rfl (zo yY zw) (.cons (zb rfl) .nil)) (by rintro _ ⟨B2,T2,rfl,hk2⟩;exact (ok84 hv3).le (.cons (leV.osl _ _ _) leL.nil)) xj ?_
 refine zq rfl rfl (zi rfl xh (zb rfl)) yC ?_
 refine yo ?_
 refine zj (zI ?_)
 obtain rfl:=Option.some.inj hF
 refine zz rfl (zD yx zF) (zA (leV.refl _) rfl ?_)
 exact ⟨rfl,rfl⟩
/-! varve/dot.Compare -/
theorem ok123 {a0:GDot} {b1:GDot} {res:Int} {h:AH}  (hF:dotCompare a0 b1=some res):Spec Tryz.prog 123 [.agg [.int .u8 a0.actor.rep,.int .u32 a0.actor.inc,.int .u64 a0.seq],.agg [.int .u8 b1.actor.rep,.int .u32 b1.actor.inc,.int .u64 b1.seq]] h (fun rr hh=>rr=.int .i64 res∧hh=h):=by
 unfold dotCompare at hF
 refine zt Tryz.func123 rfl (by kernel_rfl) (env:=[.agg [.int .u8 a0.actor.rep,.int .u32 a0.actor.inc,.int .u64 a0.seq],.agg [.int .u8 b1.actor.rep,.int .u32 b1.actor.inc,.int .u64 b1.seq],za,za,za,za,za,za,za,za,za,za,za,za,za,za,za]) (by rfl) ?_
 refine zk (zd ?_)
 refine zc rfl (xr (n:=0) rfl yq (zb rfl) rfl rfl) xg ?_
 refine zc rfl (xr (n:=1) rfl yF (zb rfl) rfl rfl) wa ?_
 refine zc rfl (zi rfl rfl (zb rfl)) yC ?_
 refine ze (zj (zk ?_))
 refine yK [4,9,11] [] trivial mixed (by kernel_rfl) ?_
 refine zq rfl rfl (zg rfl fo38x0 yW rfl) xw ?_
 refine zq rfl rfl (zu rfl ty36.choose_spec.1 yR rfl (zH (cs':=[.int .u8 a0.actor.rep,.int .u32 a0.actor.inc]) ty36.choose_spec.2 rfl rfl) (zb rfl)) xD ?_
 refine zq rfl rfl (zg rfl fo38x0 xu rfl) xM ?_
 refine zq rfl rfl (zu rfl ty36.choose_spec.1 xE rfl (zH (cs':=[.int .u8 b1.actor.rep,.int .u32 b1.actor.inc]) ty36.choose_spec.2 rfl rfl) (zb rfl)) xU ?_
 refine zQ hF (fun v1 hv1 hF=>?_)
 refine yv rfl rfl (fun _=>zC rfl rfl rfl (zo yV (zo xp zw)) (.cons (zb rfl) (.cons (zb rfl) .nil))) (by rintro _ ⟨B2,T2,rfl,hk2⟩;exact ok137 hv1) wy ?_
 refine zq rfl rfl (zg rfl fo38x1 yW rfl) yJ ?_
 refine zq rfl rfl (zu rfl ty33 yD rfl (zr rfl) (zb rfl)) yN ?_
 refine zq rfl rfl (zg rfl fo38x1 xu rfl) yX ?_
 refine zq rfl rfl (zu rfl ty33 yM rfl (zr rfl) (zb rfl)) y4 ?_
 refine zQ hF (fun v2 hv2 hF=>?_)
 refine yv rfl rfl (fun _=>zC rfl rfl rfl (zo yy (zo yE zw)) (.cons (zb rfl) (.cons (zb rfl) .nil))) (by rintro _ ⟨B2,T2,rfl,hk2⟩;exact ok138 hv2) yZ ?_
 refine zq rfl rfl (yr (es:=([v1,v2]:List Int).map (intRow .i64)) rfl el149 ze3 rfl rfl (yh xQ (yh yS ym)) (.cons (zb rfl) (.cons (zb rfl) .nil)) rfl rfl rfl) y6 ?_
 refine zQ hF (fun v3 hv3 hF=>?_)
 refine yv rfl rfl (fun _=>zC rfl rfl rfl (zo yY zw) (.cons (zb rfl) .nil)) (by rintro _ ⟨B2,T2,rfl,hk2⟩;exact (ok84 hv3).le (.cons (leV.osl _ _ _) leL.nil)) xj ?_
 refine zq rfl rfl (zi rfl xh (zb rfl)) yC ?_
 refine yo ?_
 refine zj (zI ?_)
 obtain rfl:=Option.some.inj hF
 refine zz rfl (zD yx zF) (zA (leV.refl _) rfl ?_)
 exact ⟨rfl,rfl⟩
/-! varve/leaf.compare -/
theorem ok136 {a0:Int} {d1:GDot} {b2:Int} {o3:GDot} {res:Int} {h:AH}  (hF:leafXcompare a0 d1 b2 o3=some res):Spec Tryz.prog 136 [.int .u64 a0,.agg [.int .u8 d1.actor.rep,.int .u32 d1.actor.inc,.int .u64 d1.seq],.int .u64 b2,.agg [.int .u8 o3.actor.rep,.int .u32 o3.actor.inc,.int .u64 o3.seq]] h (fun rr hh=>rr=.int .i64 res∧hh=h):=by
 unfold leafXcompare at hF
 refine zt Tryz.func136 rfl (by kernel_rfl) (env:=[.int .u64 a0,.agg [.int .u8 d1.actor.rep,.int .u32 d1.actor.inc,.int .u64 d1.seq],.int .u64 b2,.agg [.int .u8 o3.actor.rep,.int .u32 o3.actor.inc,.int .u64 o3.seq],za,za,za,za,za,za,za,za,za,za,za,za,za]) (by rfl) ?_
 refine zk (zd ?_)
 refine zc rfl (xr (n:=0) rfl yF (zb rfl) rfl rfl) xw ?_
 refine zc rfl (xr (n:=1) rfl xu (zb rfl) rfl rfl) xM ?_
 refine zc rfl (zi rfl rfl (zb rfl)) xU ?_
 refine ze (zj (zk ?_))
 refine yK [2,5,7] [] trivial mixed (by kernel_rfl) ?_
 refine zq rfl rfl (zf rfl yq (zb rfl)) wy ?_
 refine zq rfl rfl (zf rfl yW (zb rfl)) yJ ?_
 refine zQ hF (fun v1 hv1 hF=>?_)
 refine yv rfl rfl (fun _=>zC rfl rfl rfl (zo xQ (zo yD zw)) (.cons (zb rfl) (.cons (zb rfl) .nil))) (by rintro _ ⟨B2,T2,rfl,hk2⟩;exact ok138 hv1) yN ?_
 refine zq rfl rfl (zu rfl ty38.choose_spec.1 yR rfl (zH (cs':=[.int .u8 d1.actor.rep,.int .u32 d1.actor.inc,.int .u64 d1.seq]) ty38.choose_spec.2 rfl rfl) (zb rfl)) yX ?_
 refine zq rfl rfl (zu rfl ty38.choose_spec.1 xE rfl (zH (cs':=[.int .u8 o3.actor.rep,.int .u32 o3.actor.inc,.int .u64 o3.seq]) ty38.choose_spec.2 rfl rfl) (zb rfl)) y4 ?_
 refine zQ hF (fun v2 hv2 hF=>?_)
 refine yv rfl rfl (fun _=>zC rfl rfl rfl (zo yM (zo yE zw)) (.cons (zb rfl) (.cons (zb rfl) .nil))) (by rintro _ ⟨B2,T2,rfl,hk2⟩;exact ok123 hv2) yZ ?_
 refine zq rfl rfl (yr (es:=([v1,v2]:List Int).map (intRow .i64)) rfl el149 ze3 rfl rfl (yh yy (yh yS ym)) (.cons (zb rfl) (.cons (zb rfl) .nil)) rfl rfl rfl) y6 ?_
 refine zQ hF (fun v3 hv3 hF=>?_)
 refine yv rfl rfl (fun _=>zC rfl rfl rfl (zo yY zw) (.cons (zb rfl) .nil)) (by rintro _ ⟨B2,T2,rfl,hk2⟩;exact (ok84 hv3).le (.cons (leV.osl _ _ _) leL.nil)) xj ?_
 refine zq rfl rfl (zi rfl xh (zb rfl)) xU ?_
 refine yo ?_
 refine zj (zI ?_)
 obtain rfl:=Option.some.inj hF
 refine zz rfl (zD xp zF) (zA (leV.refl _) rfl ?_)
 exact ⟨rfl,rfl⟩
/-! varve/leaf.Ahead -/
theorem ok121 {time0:Int} {d1:GDot} {other2:Int} {o3:GDot} {res:Bool} {h:AH}  (hF:leafAhead time0 d1 other2 o3=some res):Spec Tryz.prog 121 [.int .u64 time0,.agg [.int .u8 d1.actor.rep,.int .u32 d1.actor.inc,.int .u64 d1.seq],.int .u64 other2,.agg [.int .u8 o3.actor.rep,.int .u32 o3.actor.inc,.int .u64 o3.seq]] h (fun rr hh=>rr=.bool res∧hh=h):=by
 unfold leafAhead at hF
 refine zt Tryz.func121 rfl (by kernel_rfl) (env:=[.int .u64 time0,.agg [.int .u8 d1.actor.rep,.int .u32 d1.actor.inc,.int .u64 d1.seq],.int .u64 other2,.agg [.int .u8 o3.actor.rep,.int .u32 o3.actor.inc,.int .u64 o3.seq],za,za,za,za,za,za,za,za,za,za,za]) (by rfl) ?_
 refine zk (zd ?_)
 refine zc rfl (xr (n:=0) rfl yF (zb rfl) rfl rfl) xw ?_
 refine zc rfl (xr (n:=1) rfl xu (zb rfl) rfl rfl) xM ?_
 refine zc rfl (zi rfl rfl (zb rfl)) xU ?_
 refine ze (zj (zk (zd ?_)))
 refine zc rfl (zf rfl yq (zb rfl)) wy ?_
 refine zc rfl (zu rfl ty38.choose_spec.1 yR rfl (zH (cs':=[.int .u8 d1.actor.rep,.int .u32 d1.actor.inc,.int .u64 d1.seq]) ty38.choose_spec.2 rfl rfl) (zb rfl)) yJ ?_
 refine zc rfl (zf rfl yW (zb rfl)) yN ?_
 refine zc rfl (zu rfl ty38.choose_spec.1 xE rfl (zH (cs':=[.int .u8 o3.actor.rep,.int .u32 o3.actor.inc,.int .u64 o3.seq]) ty38.choose_spec.2 rfl rfl) (zb rfl)) yX ?_
 refine zQ hF (fun v1 hv1 hF=>?_)
 refine zL rfl (zC rfl rfl rfl (zo xQ (zo yD (zo yy (zo yM zw)))) (.cons (zb rfl) (.cons (zb rfl) (.cons (zb rfl) (.cons (zb rfl) .nil))))) (ok136 hv1) y4 ?_
 refine zc rfl (zy rfl yE rfl rfl) yZ ?_
 refine zc rfl (zi rfl yS (zb rfl)) xU ?_
 refine ze (zj (zI ?_))
 obtain rfl:=Option.some.inj hF
 refine zz rfl (zD xp zF) (zA (leV.refl _) rfl ?_)
 exact ⟨rfl,rfl⟩
/-! varve/leaf.twice -/
theorem ok122 {l0:(List GItem)} {res:Bool} {h:AH}  (hF:leafXtwice l0=some res):Spec Tryz.prog 122 [.sl 5 (l0.map GItem.row)] h (fun rr hh=>rr=.bool res∧hh=h):=by
 unfold leafXtwice at hF
 refine zt Tryz.func122 rfl (by kernel_rfl) (env:=[.sl 5 (l0.map GItem.row),za,za,za,za,za,za,za,za,za,za,za,za,za,za,za,za,za,za,za,za,za,za,za,za,za]) (by rfl) ?_
 refine zk (zd ?_)
 refine zc rfl (zi rfl rfl (zb rfl)) xg ?_
 refine ze (zj (zk (zd ?_)))
 refine zc rfl (e_makeMap (n:=0) rfl rfl) xD ?_
 refine zc rfl (zi rfl yV (zb rfl)) wa ?_
 refine ze (zj (zk (zk (zd ?_))))
 refine zc rfl (zf rfl yq (zb rfl)) xM ?_
 refine ya rfl (zS rfl rfl rfl rfl qe xE yb) xU fun hn1=>?_
 replace hn1:=xB hn1
 refine zc rfl (zf rfl rfl (zb rfl)) wy ?_
 refine ze (zj (zR ?_))
 refine yu (fun (n1:Nat) (s1:List (GDot×Int))=>yQ [1,2,4,5,6,10,11,12,13,14,15,16,17,18,19,20,21,22,23,24,25] [(9,.int .i64 (n1:Int))]) (fun s1=>h.ext [.mapo (s1.map (qE (fun x=>AV.agg (GDot.row x)) (AV.int .i64))) 0] []) hF (fun _ _=>by simp only [yQ,upd,List.set_cons_succ,List.set_cons_zero];try rfl) (wk.le (by exact (.eq (.drop (.drop (.eq (.drop (.drop (.drop (.eq (.eq (.cons (leV.of_eq rfl) (.d16 leL.nil))))))))))))) ?_
 intro n1 s1 hi1 hF
 refine zk (zd ?_)
 refine zc rfl (zy rfl xQ xp rfl) yJ ?_
 refine ze (zj (zk ?_))
 refine yL yD hF (fun x1 o1 hl1 hx1 hF hK1=>?_) (fun hF=>?_)
 ·refine zK (zj (zk (zR (zk (zd ?_)))))
  refine zc rfl (yk rfl qe xE xQ va (yO hx1)) yN ?_
  refine zc rfl (ye rfl ty93.choose_spec.1 yy (zH (cs':=[.int .u64 x1.time,.int .u8 x1.dot.actor.rep,.int .u32 x1.dot.actor.inc,.int .u64 x1.dot.seq,.str x1.text]) ty93.choose_spec.2 rfl rfl) (zb rfl)) yX ?_
  refine zc rfl (xe (n:=1) rfl ze93 rfl) xw ?_
  refine zc rfl (yf (cs':=[.int .u64 x1.time,.int .u8 x1.dot.actor.rep,.int .u32 x1.dot.actor.inc,.int .u64 x1.dot.seq,.str x1.text]) rfl ty93.choose_spec.1 yR yM (zb rfl) rfl rfl rfl rfl rfl) rfl ?_
  refine ze (zj ?_)
  refine r_drawnF [3] (fun _=>MapE h 0 (s1.map (qE (fun x=>AV.agg (GDot.row x)) (AV.int .i64))) ((ment GDot.eqb (0:Int) s1 x1.dot).map (qE (fun x=>AV.agg (GDot.row x)) (AV.int .i64)))) (fun _=>⟨_,_,rfl,.inl rfl⟩) mixed (by kernel_rfl) ?_
  refine zq rfl rfl (zf rfl xu (zb rfl)) y4 ?_
  refine zq rfl rfl (zg rfl fo93x1 yR rfl) yZ ?_
  refine zq rfl rfl (zu rfl ty38.choose_spec.1 yS rfl (zH (cs':=[.int .u8 x1.dot.actor.rep,.int .u32 x1.dot.actor.inc,.int .u64 x1.dot.seq]) ty38.choose_spec.2 rfl rfl) (zb rfl)) y6 ?_
  refine draw_okN rfl rfl (e_lookupF (m:=s1) (k:=x1.dot) (d:=(0:Int)) (j:=0) (kv:=(fun x=>AV.agg (GDot.row x))) (vv:=(AV.int .i64)) rfl Tryz.underlying170 kq38 az3 yE yY) xj ?_
  refine zq rfl rfl (zy rfl xh rfl rfl) xy ?_
  refine xb rfl (FOk.all ⟨_,_,rfl,.inr rfl⟩) (by kernel_rfl) rfl (e_entry (m:=s1) (k:=x1.dot) (d:=(0:Int)) (j:=0) (kv:=(fun x=>AV.agg (GDot.row x))) (vv:=(AV.int .i64)) rfl Tryz.underlying170 kq38 az3 yE rfl yY rfl) xF ?_
  refine zq rfl rfl (yl rfl xC rfl (zb rfl)) xN ?_
  refine xb rfl (FOk.skip (by kernel_rfl)) (by kernel_rfl) rfl (e_entryStore (m:=s1) (k:=x1.dot) (d:=(0:Int)) (v:=(IntKind.wrap .i64 ((zT GDot.eqb (0:Int) s1 x1.dot)+(1:Int)))) (j:=0) (eq:=GDot.eqb) (kv:=(fun x=>AV.agg (GDot.row x))) (vv:=(AV.int .i64)) rfl yE rfl xL rfl xq rfl rfl) rfl ?_
  refine yo ?_
  refine yg (zj (zd ?_))
  refine zc rfl (zy rfl xQ rfl rfl) x8 ?_
  refine zc rfl (zf rfl x9 (zb rfl)) wy ?_
  refine ze (yH ?_)
  obtain rfl:=Option.some.inj hF
  exact ⟨(mput GDot.eqb s1 x1.dot (IntKind.wrap .i64 ((zT GDot.eqb (0:Int) s1 x1.dot)+(1:Int)))),hl1,hK1,wk.trans (wk.le (by exact (.eq (.drop (.drop (.eq (.drop (.drop (.drop (.eq (.eq (.cons (leV.of_eq (ve (by omega) (by omega))) (.d16 leL.nil))))))))))))) (xJ (by simp [yi,AV.low]) rfl rfl (by simp [Blk.low,yi,AV.low,GDot.row,qE]))⟩
 ·refine yU ?_
  refine zZ ?_
  refine zW ?_
  refine zX ?_
  refine zj (zk (zd ?_))
  refine zc rfl (zf rfl xu (zb rfl)) wg ?_
  refine ops_mlen (m:=s1) (j:=0) (kv:=(fun x=>AV.agg (GDot.row x))) (vv:=(AV.int .i64)) rfl rfl rfl rfl rfl Tryz.underlying170 wb rfl wo ?_
  refine zc rfl (zf rfl yq (zb rfl)) we ?_
  refine ya rfl (zS rfl rfl rfl rfl qe x4 yb) wi fun hn7=>?_
  replace hn7:=xB hn7
  refine zc rfl (zy rfl wl wh rfl) wt ?_
  refine zc rfl (zi rfl wp (zb rfl)) xg ?_
  refine ze (zj (zI ?_))
  obtain rfl:=Option.some.inj hF
  refine zz rfl (zD yW zF) (zA (leV.refl _) rfl ?_)
  exact ⟨rfl,rfl⟩
/-! varve/leaf.isTime -/
theorem ok93 {n0:Int} {res:Bool} {h:AH}  (hF:leafXisTime n0=some res):Spec Tryz.prog 93 [.int .u64 n0] h (fun rr hh=>rr=.bool res∧hh=h):=by
 unfold leafXisTime at hF
 refine zt Tryz.func93 rfl (by kernel_rfl) (env:=[.int .u64 n0,za,za,za,za,za,za,za,za]) (by rfl) ?_
 refine zk (zd ?_)
 refine zc rfl (zi rfl rfl (zb rfl)) xg ?_
 refine ze (zj (zk (zd ?_)))
 refine zc rfl (zf rfl yq (zb rfl)) wa ?_
 refine zc rfl (zy rfl xu rfl rfl) yC ?_
 refine zc rfl (zf rfl yx (zb rfl)) xw ?_
 refine zp rfl (fun hb=>zf rfl yq (zb rfl)) xD ?_
 refine zp rfl (fun hb=>zy rfl (zn yV hb) rfl rfl) xM ?_
 refine zc rfl (zM rfl yR xE rfl (zU (fun ht=>gT ht))) xU ?_
 refine zc rfl (zi rfl xp (zb rfl)) xg ?_
 refine ze (zj (zI ?_))
 obtain rfl:=Option.some.inj hF
 refine zz rfl (zD yW zF) (zA (leV.refl _) rfl ?_)
 exact ⟨rfl,rfl⟩
/-! varve/dot.MayActor -/
theorem ok120 {a0:GActor} {res:Bool} {h:AH}  (hF:dotMayActor a0=some res):Spec Tryz.prog 120 [.agg [.int .u8 a0.rep,.int .u32 a0.inc]] h (fun rr hh=>rr=.bool res∧hh=h):=by
 unfold dotMayActor at hF
 refine zt Tryz.func120 rfl (by kernel_rfl) (env:=[.agg [.int .u8 a0.rep,.int .u32 a0.inc],za,za,za,za,za,za,za,za,za,za,za,za,za,za,za]) (by rfl) ?_
 refine zk (zd ?_)
 refine zc rfl (xr (n:=0) rfl yq (zb rfl) rfl rfl) st1 ?_
 refine zc rfl (zi rfl rfl (zb rfl)) xg ?_
 refine ze (zj (zk (zd ?_)))
 refine zc rfl (zg rfl fo36x0 yF rfl) wa ?_
 refine zc rfl (zu rfl ty5 xu rfl (zr rfl) (zb rfl)) yC ?_
 refine zc rfl (zy rfl yx rfl rfl) xw ?_
 refine zc rfl (zf rfl yR (zb rfl)) xD ?_
 refine zp rfl (fun hb=>zg rfl fo36x1 yF rfl) xM ?_
 refine zp rfl (fun hb=>zu rfl ty34 (zn xE hb) rfl (zr rfl) (zb rfl)) xU ?_
 refine zp rfl (fun hb=>zy rfl (zn xp hb) rfl rfl) wy ?_
 refine zc rfl (zM rfl yV xQ rfl (zU (fun ht=>gT ht))) yJ ?_
 refine zc rfl (zf rfl yD (zb rfl)) yN ?_
 refine zp rfl (fun hb=>zg rfl fo36x1 yF rfl) yX ?_
 refine zp rfl (fun hb=>zu rfl ty34 (zn yM hb) rfl (zr rfl) (zb rfl)) y4 ?_
 refine zp rfl (fun hb=>zy rfl (zn yE hb) rfl rfl) yZ ?_
 refine zc rfl (zM rfl yy yS rfl (zU (fun ht=>gT ht))) y6 ?_
 refine zc rfl (zi rfl yY (zb rfl)) xg ?_
 refine ze (zj (zI ?_))
 obtain rfl:=Option.some.inj hF
 refine zz rfl (zD yW zF) (zA (leV.refl _) rfl ?_)
 exact ⟨rfl,rfl⟩
/-! varve/dot.May -/
theorem ok94 {d0:GDot} {res:Bool} {h:AH}  (hF:dotMay d0=some res):Spec Tryz.prog 94 [.agg [.int .u8 d0.actor.rep,.int .u32 d0.actor.inc,.int .u64 d0.seq]] h (fun rr hh=>rr=.bool res∧hh=h):=by
 unfold dotMay at hF
 refine zt Tryz.func94 rfl (by kernel_rfl) (env:=[.agg [.int .u8 d0.actor.rep,.int .u32 d0.actor.inc,.int .u64 d0.seq],za,za,za,za,za,za,za,za,za,za,za,za,za,za,za]) (by rfl) ?_
 refine zk (zd ?_)
 refine zc rfl (xr (n:=0) rfl yq (zb rfl) rfl rfl) st1 ?_
 refine zc rfl (zi rfl rfl (zb rfl)) xg ?_
 refine ze (zj (zk (zd ?_)))
 refine zc rfl (zg rfl fo38x0 yF rfl) wa ?_
 refine zc rfl (zu rfl ty36.choose_spec.1 xu rfl (zH (cs':=[.int .u8 d0.actor.rep,.int .u32 d0.actor.inc]) ty36.choose_spec.2 rfl rfl) (zb rfl)) yC ?_
 refine zQ hF (fun v1 hv1 hF=>?_)
 refine zL rfl (zC rfl rfl rfl (zo yx zw) (.cons (zb rfl) .nil)) (ok120 hv1) xw ?_
 refine zc rfl (zf rfl yR (zb rfl)) xD ?_
 refine zp rfl (fun hb=>zg rfl fo38x1 yF rfl) xM ?_
 refine zp rfl (fun hb=>zu rfl ty33 (zn xE hb) rfl (zr rfl) (zb rfl)) xU ?_
 refine zp rfl (fun hb=>zy rfl (zn xp hb) rfl rfl) wy ?_
 refine zc rfl (zM rfl yV xQ rfl (zU (fun ht=>gT ht))) yJ ?_
 refine zc rfl (zf rfl yD (zb rfl)) yN ?_
 refine zp rfl (fun hb=>zg rfl fo38x1 yF rfl) yX ?_
 refine zp rfl (fun hb=>zu rfl ty33 (zn yM hb) rfl (zr rfl) (zb rfl)) y4 ?_
 refine zp rfl (fun hb=>zy rfl (zn yE hb) rfl rfl) yZ ?_
 refine zc rfl (zM rfl yy yS rfl (zU (fun ht=>gT ht))) y6 ?_
 refine zc rfl (zi rfl yY (zb rfl)) xg ?_
 refine ze (zj (zI ?_))
 obtain rfl:=Option.some.inj hF
 refine zz rfl (zD yW zF) (zA (leV.refl _) rfl ?_)
 exact ⟨rfl,rfl⟩
/-! varve/leaf.isText -/
theorem ok95 {s0:zJ} {res:Bool} {h:AH}  (hF:qX s0=some res):Spec Tryz.prog 95 [.str s0] h (fun rr hh=>rr=.bool res∧hh=h):=by
 unfold qX at hF
 refine zt Tryz.func95 rfl (by kernel_rfl) (env:=[.str s0,za,za,za,za,za]) (by rfl) ?_
 refine zk (zd ?_)
 refine zc rfl (zi rfl rfl (zb rfl)) xg ?_
 refine ze (zj (zk (zd ?_)))
 refine zc rfl (zf rfl yq (zb rfl)) wa ?_
 refine ya rfl (vU rfl rfl rfl rfl ty9 xu) yC fun hn1=>?_
 replace hn1:=xB hn1
 refine zc rfl (zy rfl yx rfl rfl) xw ?_
 refine zc rfl (zi rfl yR (zb rfl)) xg ?_
 refine ze (zj (zI ?_))
 obtain rfl:=Option.some.inj hF
 refine zz rfl (zD yW zF) (zA (leV.refl _) rfl ?_)
 exact ⟨rfl,rfl⟩
/-! varve/leaf.items -/
theorem ok96 {l0:(List GItem)} {timed1:Bool} {res:Bool} {h:AH}  (hF:leafXitems l0 timed1=some res):Spec Tryz.prog 96 [.sl 5 (l0.map GItem.row),.bool timed1] h (fun rr hh=>rr=.bool res∧hh=h):=by
 unfold leafXitems at hF
 refine zt Tryz.func96 rfl (by kernel_rfl) (env:=[.sl 5 (l0.map GItem.row),.bool timed1,za,za,za,za,za,za,za,za,za,za,za,za,za,za,za,za,za,za,za,za,za,za,za,za,za,za,za,za,za,za,za,za,za,za,za,za,za,za,za,za,za,za,za,za,za,za,za,za,za,za,za,za,za,za,za,za,za,za,za,za,za,za,za,za]) (by rfl) ?_
 refine zk (zd ?_)
 refine zc rfl (zi rfl rfl (zb rfl)) yC ?_
 refine ze (zj (zk (zk (zd ?_))))
 refine zc rfl (zf rfl yq (zb rfl)) xM ?_
 refine ya rfl (zS rfl rfl rfl rfl qe xE yb) xU fun hn1=>?_
 replace hn1:=xB hn1
 refine zc rfl (zf rfl rfl (zb rfl)) wy ?_
 refine ze (zj (zR ?_))
 refine yu (fun (n1:Nat) (s1:Unit)=>yQ [2,3,4,5,6,10,11,12,13,14,15,16,17,18,19,20,21,22,23,24,25,26,27,28,29,30,31,32,33,34,35,36,37,38,39,40,41,42,43,44,45,46,47,48,49,50,51,52,53,54,55,56,57,58,59,60,61,62,63,64,65] [(9,.int .i64 (n1:Int))]) (fun s1=>h.ext [] []) hF (fun _ _=>by simp only [yQ,upd,List.set_cons_succ,List.set_cons_zero];try rfl) (wk.le (by exact (.eq (.eq (.d4 (.drop (.eq (.eq (.cons (leV.of_eq rfl) (.d16 (.d16 (.d16 (.d4 (.d4 leL.nil)))))))))))))) ?_
 intro n1 s1 hi1 hF
 refine zk (zd ?_)
 refine zc rfl (zy rfl xQ xp rfl) yJ ?_
 refine ze (zj (zk ?_))
 refine yL yD hF (fun x1 o1 hl1 hx1 hF hK1=>?_) (fun hF=>?_)
 ·refine zK (zj (zk (zR (zk (zd ?_)))))
  refine zc rfl (zf rfl xQ (zb rfl)) yN ?_
  refine zc rfl (yk rfl qe xE xQ va (yO hx1)) yX ?_
  refine zc rfl (ye rfl ty93.choose_spec.1 yM (zH (cs':=[.int .u64 x1.time,.int .u8 x1.dot.actor.rep,.int .u32 x1.dot.actor.inc,.int .u64 x1.dot.seq,.str x1.text]) ty93.choose_spec.2 rfl rfl) (zb rfl)) y4 ?_
  refine zc rfl (xe (n:=0) rfl ze93 rfl) xD ?_
  refine zc rfl (zi rfl yy (zb rfl)) xw ?_
  refine zc rfl (yf (cs':=[.int .u64 x1.time,.int .u8 x1.dot.actor.rep,.int .u32 x1.dot.actor.inc,.int .u64 x1.dot.seq,.str x1.text]) rfl ty93.choose_spec.1 yV yE (zb rfl) rfl rfl rfl rfl rfl) rfl ?_
  refine ze (zj (zk (zk (zd ?_))))
  refine zc rfl (zg rfl fo93x1 yV rfl) yZ ?_
  refine zc rfl (zu rfl ty38.choose_spec.1 yS rfl (zH (cs':=[.int .u8 x1.dot.actor.rep,.int .u32 x1.dot.actor.inc,.int .u64 x1.dot.seq]) ty38.choose_spec.2 rfl rfl) (zb rfl)) y6 ?_
  refine zQ hF (fun v13 hv13 hF=>?_)
  refine zL rfl (zC rfl rfl rfl (zo yY zw) (.cons (zb rfl) .nil)) (ok94 hv13) xj ?_
  refine zc rfl (xT rfl xh rfl) xy ?_
  refine zc rfl (zf rfl xq (zb rfl)) xF ?_
  refine zp rfl (fun hb=>zg rfl fo93x2 yV rfl) xN ?_
  refine zp rfl (fun hb=>zu rfl ty9 (zn xL hb) rfl (zr rfl) (zb rfl)) x8 ?_
  refine yP hF (fun v14 hv14 hF=>?_)
  refine yj rfl (fun hb=>zC rfl rfl rfl (zo (zn x9 hb) zw) (.cons (zb rfl) .nil)) (fun hb=>ok95 (hv14 hb)) wg ?_
  refine zp rfl (fun hb=>xT rfl (zn wb hb) rfl) wo ?_
  refine zc rfl (zM rfl xC rfl wl (z8 (fun ht=>gF ht))) we ?_
  refine zc rfl (zf rfl x4 (zb rfl)) wi ?_
  refine zp rfl (fun hb=>zf rfl yF (zb rfl)) wt ?_
  refine zp rfl (fun hb=>zg rfl fo93x0 yV rfl) wQ ?_
  refine zp rfl (fun hb=>zu rfl ty33 (zn wO hb) rfl (zr rfl) (zb rfl)) wY ?_
  refine yP hF (fun v15 hv15 hF=>?_)
  refine yj rfl (fun hb=>zC rfl rfl rfl (zo (zn wU hb) zw) (.cons (zb rfl) .nil)) (fun hb=>ok93 (hv15 hb)) wX ?_
  refine zp rfl (fun hb=>zy rfl (zn wp hb) (zn wT hb) (bin_boolN ty4)) vi ?_
  refine zc rfl (zM rfl wh rfl vm (z8 (fun ht=>gF ht))) vh ?_
  refine zc rfl (zf rfl vE (zb rfl)) vg ?_
  refine zp rfl (fun hb=>zf rfl yF (zb rfl)) vz ?_
  refine zp rfl (fun hb=>xT rfl (zn vk hb) rfl) vw ?_
  refine zp rfl (fun hb=>zf rfl (zn vD hb) (zb rfl)) vu ?_
  refine zp (z7 rfl rfl rfl) (fun hb=>zg rfl fo93x0 yV rfl) vt ?_
  refine zp (z7 rfl rfl rfl) (fun hb=>zu rfl ty33 (zn vC hb) rfl (zr rfl) (zb rfl)) vf ?_
  refine zp (z7 rfl rfl rfl) (fun hb=>zy rfl (zn vb hb) rfl rfl) vr ?_
  refine zp rfl (fun hb=>zM rfl (zn vj hb) vB rfl (zU (fun ht=>gT2 hb ht))) vN ?_
  refine zc rfl (zM rfl vl rfl vQ (z8 (fun ht=>gF ht))) vM ?_
  refine ze (zj ?_)
  refine zN vJ hF (fun hc16 hF=>?_) (fun hc16 hF=>?_)
  ·refine zk (zd ?_)
   refine zc rfl (zi rfl rfl (zb rfl)) yC ?_
   refine ze (zj (zI (zx ?_)))
   refine zG ?_
   refine zx ?_
   refine yd ?_
   obtain rfl:=Option.some.inj hF
   replace hF:=hK1
   refine zG ?_
   refine zx ?_
   obtain rfl:=Option.some.inj hF
   refine zz rfl (zD yx zF) (zA (leV.refl _) rfl ?_)
   exact ⟨rfl,rfl⟩
  ·refine zK (zj (zk ?_))
   refine yK [] [] trivial mixed (by kernel_rfl) ?_
   refine zq rfl rfl (zf rfl yR (zb rfl)) (sk st0) ?_
   refine zq rfl rfl (zy rfl (gk yq) rfl rfl) (sk st1) ?_
   refine zq rfl rfl (zf rfl (gk yF) (zb rfl)) (sk xg) ?_
   refine zB rfl rfl (fun hb=>zf rfl yq (zb rfl)) (sk wa) ?_
   refine zB rfl rfl (fun hb=>zf rfl yR (zb rfl)) (sk yC) ?_
   refine zB rfl rfl (fun hb=>zy rfl (zn (gk yx) hb) rfl rfl) (sk xw) ?_
   refine wJ hF (fun hg17 hF=>?_)
   refine zB rfl rfl (fun hb=>xP default rfl qe (zn (gk xu) hb) (zn (gk yR) hb) va (hg17 hb)) (sk xD) ?_
   refine zB rfl rfl (fun hb=>zg rfl fo93x0 (zn (gk yV) hb) rfl) (sk xM) ?_
   refine zB rfl rfl (fun hb=>ye rfl ty33 (zn (gk xE) hb) (zr rfl) (zb rfl)) (sk xU) ?_
   refine zB rfl rfl (fun hb=>zf rfl yq (zb rfl)) (sk wy) ?_
   refine zB rfl rfl (fun hb=>zf rfl yR (zb rfl)) (sk yJ) ?_
   refine zB rfl rfl (fun hb=>zy rfl (zn (gk yD) hb) rfl rfl) (sk yN) ?_
   refine wJ hF (fun hg18 hF=>?_)
   refine zB rfl rfl (fun hb=>xP default rfl qe (zn (gk xQ) hb) (zn (gk yy) hb) va (hg18 hb)) (sk yX) ?_
   refine zB rfl rfl (fun hb=>zg rfl fo93x1 (zn (gk yM) hb) rfl) (sk y4) ?_
   refine zB rfl rfl (fun hb=>ye rfl ty38.choose_spec.1 (zn (gk yE) hb) (zH (cs':=[.int .u8 (((l0).getD (IntKind.wrap .i64 ((n1:Int) - (1:Int))).toNat default).dot.actor.rep),.int .u32 (((l0).getD (IntKind.wrap .i64 ((n1:Int) - (1:Int))).toNat default).dot.actor.inc),.int .u64 (((l0).getD (IntKind.wrap .i64 ((n1:Int) - (1:Int))).toNat default).dot.seq)]) ty38.choose_spec.2 rfl rfl) (zb rfl)) (sk yZ) ?_
   refine zB rfl rfl (fun hb=>zg rfl fo93x0 yV rfl) (sk y6) ?_
   refine zB rfl rfl (fun hb=>zu rfl ty33 (zn (gk yY) hb) rfl (zr rfl) (zb rfl)) (sk xj) ?_
   refine zB rfl rfl (fun hb=>zg rfl fo93x1 yV rfl) (sk xy) ?_
   refine zB rfl rfl (fun hb=>zu rfl ty38.choose_spec.1 (zn (gk xq) hb) rfl (zH (cs':=[.int .u8 x1.dot.actor.rep,.int .u32 x1.dot.actor.inc,.int .u64 x1.dot.seq]) ty38.choose_spec.2 rfl rfl) (zb rfl)) (sk xF) ?_
   refine yP hF (fun v19 hv19 hF=>?_)
   refine vc rfl rfl (fun hb=>zC rfl rfl rfl (zo (zn (gk xp) hb) (zo (zn (gk yS) hb) (zo (zn (gk xh) hb) (zo (zn (gk xC) hb) zw)))) (.cons (zb rfl) (.cons (zb rfl) (.cons (zb rfl) (.cons (zb rfl) .nil))))) (fun hb=>ok121 (hv19 hb)) (sk xN) ?_
   refine zB rfl rfl (fun hb=>xT rfl (zn (gk xL) hb) rfl) (sk x8) ?_
   refine zq rfl rfl (zM rfl (gk yW) (gk x9) rfl (zU (fun ht=>gT ht))) (sk wg) ?_
   refine yo ?_
   refine zj ?_
   refine zN (gk wb) hF (fun hc20 hF=>?_) (fun hc20 hF=>?_)
   ·refine zk (zd ?_)
    refine zc rfl (zi rfl rfl (zb rfl)) yC ?_
    refine ze (zj (zI ?_))
    refine zG ?_
    refine zx ?_
    refine yd ?_
    obtain rfl:=Option.some.inj hF
    replace hF:=hK1
    refine zG ?_
    refine zx ?_
    obtain rfl:=Option.some.inj hF
    refine zz rfl (zD yx zF) (zA (leV.refl _) rfl ?_)
    exact ⟨rfl,rfl⟩
   ·refine zK (yg (zj (zd ?_)))
    refine zc rfl (zy rfl xQ rfl rfl) (sk wo) ?_
    refine zc rfl (zf rfl (gk wl) (zb rfl)) wy ?_
    refine ze (yH ?_)
    obtain rfl:=Option.some.inj hF
    exact ⟨(),hl1,hK1,wk.trans (wk.le (by exact (.eq (.eq (.d4 (.drop (.eq (.eq (.cons (leV.of_eq (ve (by omega) (by omega))) (.d16 (.d16 (.d16 (.d4 (.d4 leL.nil)))))))))))))) (xJ (by simp [yi,AV.low]) rfl rfl (by simp [Blk.low,yi,AV.low]))⟩
 ·refine yU ?_
  refine zZ ?_
  refine zW ?_
  refine zX ?_
  refine zj (zk (zd ?_))
  refine zc rfl (zf rfl yq (zb rfl)) (sk we) ?_
  refine zQ hF (fun v21 hv21 hF=>?_)
  refine zL rfl (zC rfl rfl rfl (zo (gk x4) zw) (.cons (zb rfl) .nil)) (ok122 hv21) (sk wi) ?_
  refine zc rfl (xT rfl (gk wh) rfl) (sk wt) ?_
  refine zc rfl (zi rfl (gk wp) (zb rfl)) yC ?_
  refine ze (zj (zI ?_))
  obtain rfl:=Option.some.inj hF
  refine zz rfl (zD yx zF) (zA (leV.refl _) rfl ?_)
  exact ⟨rfl,rfl⟩
/-! slices.IndexFunc[[]varve/api.Item,varve/api.Item] -/
theorem ok145 {s0:(List GItem)} {f1:(GItem→Option Bool)} {ff1:FuncId} {af1 kf1:List AV} {res:Int} {h:AH} (hf1:∀ x0 v (L:List Blk) (M:List Nat),f1 x0=some v→Spec Tryz.prog ff1 (af1++[.agg [.int .u64 x0.time,.int .u8 x0.dot.actor.rep,.int .u32 x0.dot.actor.inc,.int .u64 x0.dot.seq,.str x0.text]]++kf1) (h.ext L M) (fun rr hh=>rr=.bool v∧hh=h.ext L M)) (hF:vn s0 f1=some res):Spec Tryz.prog 145 [.sl 5 (s0.map GItem.row),.fn (.func ff1) af1 kf1] h (fun rr hh=>rr=.int .i64 res∧hh=h):=by
 unfold vn at hF
 refine yG Tryz.func145 rfl (by kernel_rfl) (env:=[.sl 5 (s0.map GItem.row),.fn (.func ff1) af1 kf1,za,za,za,za,za,za,za,za,za,za,za,za,za,za,za,za,za]) (by rfl) (fun hlow hC=>?_)
 simp only [yi,AV.low,Bool.and_eq_true,Bool.true_and,and_true] at hlow
 have hlaf1:∀ n m,h.blks.length≤n→h.toks.length≤m→yi n m af1=true:=fun n m h1 h2=>xd h1 h2 _ (by simp [hlow])
 have hlkf1:∀ n m,h.blks.length≤n→h.toks.length≤m→yi n m kf1=true:=fun n m h1 h2=>xd h1 h2 _ (by simp [hlow])
 refine zk (zd ?_)
 refine zc rfl (zi rfl rfl (zb rfl)) yC ?_
 refine ze (zj (zk (zk (zd ?_))))
 refine zc rfl (zf rfl yq (zb rfl)) xD ?_
 refine ya rfl (zS rfl rfl rfl rfl qe yV yb) xM fun hn1=>?_
 replace hn1:=xB hn1
 refine zc rfl (zf rfl rfl (zb rfl)) xU ?_
 refine ze (zj (zR ?_))
 refine yu (fun (n1:Nat) (s1:Unit)=>yQ [2,3,4,5,6,9,10,11,12,13,14,15,16,17,18] [(8,.int .i64 (n1:Int))]) (fun s1=>h.ext [] []) hF (fun _ _=>by simp only [yQ,upd,List.set_cons_succ,List.set_cons_zero];try rfl) (wk.le (by exact (.eq (.eq (.d4 (.drop (.eq (.cons (leV.of_eq rfl) (.d4 (.d4 (.drop (.drop leL.nil)))))))))))) ?_
 intro n1 s1 hi1 hF
 refine zk (zd ?_)
 refine zc rfl (zy rfl xp xE rfl) wy ?_
 refine ze (zj (zk ?_))
 refine yL xQ hF (fun x1 o1 hl1 hx1 hF hK1=>?_) (fun hF=>?_)
 ·refine zK (zj (zk (zR (zk (zd ?_)))))
  refine zc rfl (zf rfl xp (zb rfl)) yJ ?_
  refine zc rfl (zi rfl yD (zb rfl)) xw ?_
  refine ze (zj (zk (zd ?_)))
  refine zc rfl (zf rfl yF (zb rfl)) yN ?_
  refine zc rfl (zf rfl yq (zb rfl)) yX ?_
  refine zc rfl (zf rfl yR (zb rfl)) y4 ?_
  refine zc rfl (yk rfl qe yM yE va (yO hx1)) yZ ?_
  refine zc rfl (ye rfl ty93.choose_spec.1 yS (zH (cs':=[.int .u64 x1.time,.int .u8 x1.dot.actor.rep,.int .u32 x1.dot.actor.inc,.int .u64 x1.dot.seq,.str x1.text]) ty93.choose_spec.2 rfl rfl) (zb rfl)) y6 ?_
  refine zQ hF (fun v7 hv7 hF=>?_)
  refine zL rfl (s_callC rfl rfl yy (zo yY zw) (.cons (zb rfl) .nil) rfl) (hf1 _ _ _ _ hv7) xj ?_
  refine ze (zj ?_)
  refine zN xh hF (fun hc8 hF=>?_) (fun hc8 hF=>?_)
  ·refine zk (zd ?_)
   refine zc rfl (zf rfl yR (zb rfl)) xy ?_
   refine zc rfl (zi rfl xq (zb rfl)) yC ?_
   refine ze (zj (zI ?_))
   refine zG ?_
   refine zx ?_
   refine yd ?_
   obtain rfl:=Option.some.inj hF
   replace hF:=hK1
   refine zG ?_
   refine zx ?_
   obtain rfl:=Option.some.inj hF
   refine zz rfl (zD yx zF) (zA (leV.refl _) rfl ?_)
   exact ⟨rfl,rfl⟩
  ·refine zK (yg (zj (zd ?_)))
   refine zc rfl (zy rfl xp rfl rfl) xF ?_
   refine zc rfl (zf rfl xC (zb rfl)) xU ?_
   refine ze (yH ?_)
   obtain rfl:=Option.some.inj hF
   exact ⟨(),hl1,hK1,wk.le (by exact (.eq (.eq (.d4 (.drop (.eq (.cons (leV.of_eq (ve (by omega) (by omega))) (.d4 (.d4 (.drop (.drop leL.nil)))))))))))⟩
 ·refine yU ?_
  refine zZ ?_
  refine zW ?_
  refine zX ?_
  refine zj (zk (zd ?_))
  refine zc rfl (zi rfl rfl (zb rfl)) yC ?_
  refine ze (zj (zI ?_))
  obtain rfl:=Option.some.inj hF
  refine zz rfl (zD yx zF) (zA (leV.refl _) rfl ?_)
  exact ⟨rfl,rfl⟩
/-! slices.ContainsFunc[[]varve/api.Item,varve/api.Item] -/
theorem ok139 {s0:(List GItem)} {f1:(GItem→Option Bool)} {ff1:FuncId} {af1 kf1:List AV} {res:Bool} {h:AH} (hf1:∀ x0 v (L:List Blk) (M:List Nat),f1 x0=some v→Spec Tryz.prog ff1 (af1++[.agg [.int .u64 x0.time,.int .u8 x0.dot.actor.rep,.int .u32 x0.dot.actor.inc,.int .u64 x0.dot.seq,.str x0.text]]++kf1) (h.ext L M) (fun rr hh=>rr=.bool v∧hh=h.ext L M)) (hF:xV s0 f1=some res):Spec Tryz.prog 139 [.sl 5 (s0.map GItem.row),.fn (.func ff1) af1 kf1] h (fun rr hh=>rr=.bool res∧hh=h):=by
 unfold xV at hF
 refine yG Tryz.func139 rfl (by kernel_rfl) (env:=[.sl 5 (s0.map GItem.row),.fn (.func ff1) af1 kf1,za,za,za,za,za,za,za]) (by rfl) (fun hlow hC=>?_)
 simp only [yi,AV.low,Bool.and_eq_true,Bool.true_and,and_true] at hlow
 have hlaf1:∀ n m,h.blks.length≤n→h.toks.length≤m→yi n m af1=true:=fun n m h1 h2=>xd h1 h2 _ (by simp [hlow])
 have hlkf1:∀ n m,h.blks.length≤n→h.toks.length≤m→yi n m kf1=true:=fun n m h1 h2=>xd h1 h2 _ (by simp [hlow])
 refine zk (zd ?_)
 refine zc rfl (zi rfl rfl (zb rfl)) yC ?_
 refine ze (zj (zk (zd ?_)))
 refine zc rfl (zf rfl yq (zb rfl)) xw ?_
 refine zc rfl (zf rfl yF (zb rfl)) xD ?_
 refine zQ hF (fun v1 hv1 hF=>?_)
 refine zL rfl (zC rfl rfl rfl (zo yR (zo yV zw)) (.cons (zb rfl) (.cons (zb rfl) .nil))) (ok145 (fun x0 v L M hv=>by rw [wr];exact hf1 x0 v _ _ hv) hv1) xM ?_
 refine zc rfl (zy rfl xE rfl rfl) xU ?_
 refine zc rfl (zi rfl xp (zb rfl)) yC ?_
 refine ze (zj (zI ?_))
 obtain rfl:=Option.some.inj hF
 refine zz rfl (zD yx zF) (zA (leV.refl _) rfl ?_)
 exact ⟨rfl,rfl⟩
/-! varve/leaf.has 1 -/
theorem ok140 {x0:GItem} {c0:GDot} {i0:Nat} {res:Bool} {h:AH} (hb0:h.blk i0=some (.cells [.int .u8 c0.actor.rep,.int .u32 c0.actor.inc,.int .u64 c0.seq])) (hF:leafXhasC1 x0 c0=some res):Spec Tryz.prog 140 [.agg [.int .u64 x0.time,.int .u8 x0.dot.actor.rep,.int .u32 x0.dot.actor.inc,.int .u64 x0.dot.seq,.str x0.text],.ptr i0 0] h (fun rr hh=>rr=.bool res∧hh=h):=by
 unfold leafXhasC1 at hF
 refine zt Tryz.func140 rfl (by kernel_rfl) (env:=[.agg [.int .u64 x0.time,.int .u8 x0.dot.actor.rep,.int .u32 x0.dot.actor.inc,.int .u64 x0.dot.seq,.str x0.text],.ptr i0 0,za,za,za,za,za,za]) (by rfl) ?_
 refine zk (zd ?_)
 refine zc rfl (xr (n:=0) rfl yq (zb rfl) rfl rfl) xg ?_
 refine zc rfl (zi rfl rfl (zb rfl)) wa ?_
 refine ze (zj (zk (zd ?_)))
 refine zc rfl (zg rfl fo93x1 yW rfl) yC ?_
 refine zc rfl (zu rfl ty38.choose_spec.1 yx rfl (zH (cs':=[.int .u8 x0.dot.actor.rep,.int .u32 x0.dot.actor.inc,.int .u64 x0.dot.seq]) ty38.choose_spec.2 rfl rfl) (zb rfl)) xw ?_
 refine zc rfl (b_load rfl ty38.choose_spec.1 yF hb0 (zH (cs':=[.int .u8 c0.actor.rep,.int .u32 c0.actor.inc,.int .u64 c0.seq]) ty38.choose_spec.2 rfl rfl) (zb rfl)) xD ?_
 refine zc rfl (zy rfl yR yV (bin_eq pk38 rfl)) xM ?_
 refine zc rfl (zi rfl xE (zb rfl)) wa ?_
 refine ze (zj (zI ?_))
 obtain rfl:=Option.some.inj hF
 refine zz rfl (zD xu zF) (zA (leV.refl _) rfl ?_)
 exact ⟨rfl,rfl⟩
/-! varve/leaf.has -/
theorem ok124 {l0:(List GItem)} {d1:GDot} {res:Bool} {h:AH}  (hF:leafXhas l0 d1=some res):Spec Tryz.prog 124 [.sl 5 (l0.map GItem.row),.agg [.int .u8 d1.actor.rep,.int .u32 d1.actor.inc,.int .u64 d1.seq]] h (fun rr hh=>rr=.bool res∧hh=h):=by
 unfold leafXhas at hF
 refine zt Tryz.func124 rfl (by kernel_rfl) (env:=[.sl 5 (l0.map GItem.row),.agg [.int .u8 d1.actor.rep,.int .u32 d1.actor.inc,.int .u64 d1.seq],za,za,za,za,za,za]) (by rfl) ?_
 refine zk (zd ?_)
 refine zc rfl (xr (n:=0) rfl yF (zb rfl) rfl rfl) wa ?_
 refine zc rfl (zi rfl rfl (zb rfl)) yC ?_
 refine ze (zj (zk (zd ?_)))
 refine zc rfl (zf rfl yq (zb rfl)) xw ?_
 refine zc rfl (qJ rfl rfl rfl) xD ?_
 refine zQ hF (fun v1 hv1 hF=>?_)
 refine zL rfl (zC rfl rfl rfl (zo yR (zo yV zw)) (.cons (zb rfl) (.cons (zb rfl) .nil))) (ok139 (fun _ v L M hv=>ok140 (blk_ext2 (j:=0) rfl) hv) hv1) xM ?_
 refine zc rfl (zi rfl xE (zb rfl)) yC ?_
 refine ze (zj (zI ?_))
 obtain rfl:=Option.some.inj hF
 refine zz rfl (zD yx zF) (zA (leV.refl _) rfl ?_)
 exact ⟨rfl,rfl⟩
/-! varve/leaf.tombs -/
theorem ok97 {l0:GLeaf} {res:Bool} {h:AH}  (hF:leafXtombs l0=some res):Spec Tryz.prog 97 [.agg [.int .u8 l0.typ,.int .i64 l0.n,.int .u64 l0.time,.int .u8 l0.dot.actor.rep,.int .u32 l0.dot.actor.inc,.int .u64 l0.dot.seq,.str l0.text,.sl 5 (l0.items.map GItem.row),.sl 3 (l0.tombs.map GDot.row)]] h (fun rr hh=>rr=.bool res∧hh=h):=by
 unfold leafXtombs at hF
 refine zt Tryz.func97 rfl (by kernel_rfl) (env:=[.agg [.int .u8 l0.typ,.int .i64 l0.n,.int .u64 l0.time,.int .u8 l0.dot.actor.rep,.int .u32 l0.dot.actor.inc,.int .u64 l0.dot.seq,.str l0.text,.sl 5 (l0.items.map GItem.row),.sl 3 (l0.tombs.map GDot.row)],za,za,za,za,za,za,za,za,za,za,za,za,za,za,za,za,za,za,za,za,za,za,za,za,za,za,za,za,za,za,za,za,za,za,za,za,za]) (by rfl) ?_
 refine zk (zd ?_)
 refine zc rfl (xr (n:=0) rfl yq (zb rfl) rfl rfl) st1 ?_
 refine zc rfl (zi rfl rfl (zb rfl)) xg ?_
 refine ze (zj (zk (zk (zd ?_))))
 refine zc rfl (zg rfl wm yF rfl) xw ?_
 refine zc rfl (zu rfl ty40 yR rfl (zr rfl) (zb rfl)) xD ?_
 refine ya rfl (zS rfl rfl rfl rfl el40 yV yb) xM fun hn1=>?_
 replace hn1:=xB hn1
 refine zc rfl (zf rfl rfl (zb rfl)) xU ?_
 refine ze (zj (zR ?_))
 refine yu (fun (n1:Nat) (s1:Unit)=>yQ [0,2,3,4,5,9,10,11,12,13,14,15,16,17,18,19,20,21,22,23,24,25,26,27,28,29,30,31,32,33,34,35,36,37] [(8,.int .i64 (n1:Int))]) (fun s1=>h.ext [.cells [.int .u8 l0.typ,.int .i64 l0.n,.int .u64 l0.time,.int .u8 l0.dot.actor.rep,.int .u32 l0.dot.actor.inc,.int .u64 l0.dot.seq,.str l0.text,.sl 5 (l0.items.map GItem.row),.sl 3 (l0.tombs.map GDot.row)]] []) hF (fun _ _=>by simp only [yQ,upd,List.set_cons_succ,List.set_cons_zero];try rfl) (wk.le (by exact (.drop (.eq (.d4 (.eq (.eq (.cons (leV.of_eq rfl) (.d16 (.d4 (.d4 (.d4 (.drop leL.nil))))))))))))) ?_
 intro n1 s1 hi1 hF
 refine zk (zd ?_)
 refine zc rfl (zy rfl xp xE rfl) wy ?_
 refine ze (zj (zk ?_))
 refine yL xQ hF (fun x1 o1 hl1 hx1 hF hK1=>?_) (fun hF=>?_)
 ·refine zK (zj (zk (zR (zk (zd ?_)))))
  refine zc rfl (zf rfl xp (zb rfl)) yJ ?_
  refine zc rfl (yk rfl el40 yV xp va (yO hx1)) yN ?_
  refine zc rfl (ye rfl ty38.choose_spec.1 yy (zH (cs':=[.int .u8 x1.actor.rep,.int .u32 x1.actor.inc,.int .u64 x1.seq]) ty38.choose_spec.2 rfl rfl) (zb rfl)) yX ?_
  refine zc rfl (xe (n:=1) rfl ze38 rfl) yC ?_
  refine zc rfl (zi rfl yD (zb rfl)) wa ?_
  refine zc rfl (yf (cs':=[.int .u8 x1.actor.rep,.int .u32 x1.actor.inc,.int .u64 x1.seq]) rfl ty38.choose_spec.1 yx yM (zb rfl) rfl rfl rfl rfl rfl) rfl ?_
  refine ze (zj (zk ?_))
  refine yK [1] [] trivial mixed (by kernel_rfl) ?_
  refine zq rfl rfl (zu rfl ty38.choose_spec.1 yx rfl (zH (cs':=[.int .u8 x1.actor.rep,.int .u32 x1.actor.inc,.int .u64 x1.seq]) ty38.choose_spec.2 rfl rfl) (zb rfl)) y4 ?_
  refine zQ hF (fun v19 hv19 hF=>?_)
  refine yv rfl rfl (fun _=>zC rfl rfl rfl (zo yE zw) (.cons (zb rfl) .nil)) (by rintro _ ⟨B2,T2,rfl,hk2⟩;exact ok94 hv19) yZ ?_
  refine zq rfl rfl (xT rfl yS rfl) y6 ?_
  refine zq rfl rfl (zf rfl yY (zb rfl)) xj ?_
  refine zB rfl rfl (fun hb=>zf rfl xu (zb rfl)) xy ?_
  refine zB rfl rfl (fun hb=>zy rfl (zn xq hb) rfl rfl) xF ?_
  refine zB rfl rfl (fun hb=>zf rfl (zn xC hb) (zb rfl)) xN ?_
  refine zB rfl (z7 rfl rfl rfl) (fun hb=>zg rfl wm yF rfl) x8 ?_
  refine zB rfl (z7 rfl rfl rfl) (fun hb=>zu rfl ty40 (zn x9 hb) rfl (zr rfl) (zb rfl)) wg ?_
  refine zB rfl (z7 rfl rfl rfl) (fun hb=>zf rfl xu (zb rfl)) wo ?_
  refine zB rfl (z7 rfl rfl rfl) (fun hb=>zy rfl (zn wl hb) rfl rfl) we ?_
  refine wJ hF (fun hg20 hF=>?_)
  refine zB rfl (z7 rfl rfl rfl) (fun hb=>xP default rfl el40 (zn wb hb) (zn x4 hb) va (hg20 hb)) wi ?_
  refine zB rfl (z7 rfl rfl rfl) (fun hb=>ye rfl ty38.choose_spec.1 (zn wh hb) (zH (cs':=[.int .u8 (((l0.tombs).getD (IntKind.wrap .i64 ((n1:Int) - (1:Int))).toNat default).actor.rep),.int .u32 (((l0.tombs).getD (IntKind.wrap .i64 ((n1:Int) - (1:Int))).toNat default).actor.inc),.int .u64 (((l0.tombs).getD (IntKind.wrap .i64 ((n1:Int) - (1:Int))).toNat default).seq)]) ty38.choose_spec.2 rfl rfl) (zb rfl)) wt ?_
  refine zB rfl (z7 rfl rfl rfl) (fun hb=>zu rfl ty38.choose_spec.1 yx rfl (zH (cs':=[.int .u8 x1.actor.rep,.int .u32 x1.actor.inc,.int .u64 x1.seq]) ty38.choose_spec.2 rfl rfl) (zb rfl)) wQ ?_
  refine yP hF (fun v21 hv21 hF=>?_)
  refine vc rfl (z7 rfl rfl rfl) (fun hb=>zC rfl rfl rfl (zo (zn wp hb) (zo (zn wO hb) zw)) (.cons (zb rfl) (.cons (zb rfl) .nil))) (fun hb=>ok123 (hv21 hb)) wY ?_
  refine zB rfl (z7 rfl rfl rfl) (fun hb=>zy rfl (zn wU hb) rfl rfl) wX ?_
  refine zB rfl rfl (fun hb=>zM rfl (zn xL hb) wT rfl (zU (fun ht=>gT2 hb ht))) vi ?_
  refine zq rfl rfl (zM rfl xh rfl vm (z8 (fun ht=>gF ht))) vh ?_
  refine zq rfl rfl (zf rfl vE (zb rfl)) vg ?_
  refine zB rfl rfl (fun hb=>zg rfl xR yF rfl) vz ?_
  refine zB rfl rfl (fun hb=>zu rfl ty39 (zn vk hb) rfl (zr rfl) (zb rfl)) vw ?_
  refine zB rfl rfl (fun hb=>zu rfl ty38.choose_spec.1 yx rfl (zH (cs':=[.int .u8 x1.actor.rep,.int .u32 x1.actor.inc,.int .u64 x1.seq]) ty38.choose_spec.2 rfl rfl) (zb rfl)) vu ?_
  refine yP hF (fun v22 hv22 hF=>?_)
  refine vc rfl rfl (fun hb=>zC rfl rfl rfl (zo (zn vD hb) (zo (zn vj hb) zw)) (.cons (zb rfl) (.cons (zb rfl) .nil))) (fun hb=>ok124 (hv22 hb)) vt ?_
  refine zq rfl rfl (zM rfl vl rfl vC (z8 (fun ht=>gF ht))) vf ?_
  refine yo ?_
  refine zj ?_
  refine zN vb hF (fun hc23 hF=>?_) (fun hc23 hF=>?_)
  ·refine zk (zd ?_)
   refine zc rfl (zi rfl rfl (zb rfl)) xg ?_
   refine ze (zj (zI ?_))
   refine zG ?_
   refine zx ?_
   refine yd ?_
   obtain rfl:=Option.some.inj hF
   replace hF:=hK1
   refine zG ?_
   refine zx ?_
   obtain rfl:=Option.some.inj hF
   refine zz rfl (zD yW zF) (zA (leV.refl _) rfl ?_)
   exact ⟨rfl,rfl⟩
  ·refine zK (yg (zj (zd ?_)))
   refine zc rfl (zy rfl xp rfl rfl) vr ?_
   refine zc rfl (zf rfl vB (zb rfl)) xU ?_
   refine ze (yH ?_)
   obtain rfl:=Option.some.inj hF
   exact ⟨(),hl1,hK1,wk.trans (wk.le (by exact (.drop (.eq (.d4 (.eq (.eq (.cons (leV.of_eq (ve (by omega) (by omega))) (.d16 (.d4 (.d4 (.d4 (.drop leL.nil))))))))))))) (xJ (by simp [yi,AV.low]) rfl rfl (by simp [Blk.low,yi,AV.low]))⟩
 ·refine yU ?_
  refine zZ ?_
  refine zW ?_
  refine zX ?_
  refine zj (zk (zd ?_))
  refine zc rfl (zi rfl rfl (zb rfl)) xg ?_
  refine ze (zj (zI ?_))
  obtain rfl:=Option.some.inj hF
  refine zz rfl (zD yW zF) (zA (leV.refl _) rfl ?_)
  exact ⟨rfl,rfl⟩
/-! varve/leaf.May -/
theorem ok76 {l0:GLeaf} {res:Bool} {h:AH}  (hF:leafMay l0=some res):Spec Tryz.prog 76 [.agg [.int .u8 l0.typ,.int .i64 l0.n,.int .u64 l0.time,.int .u8 l0.dot.actor.rep,.int .u32 l0.dot.actor.inc,.int .u64 l0.dot.seq,.str l0.text,.sl 5 (l0.items.map GItem.row),.sl 3 (l0.tombs.map GDot.row)]] h (fun rr hh=>rr=.bool res∧hh=h):=by
 unfold leafMay at hF
 refine zt Tryz.func76 rfl (by kernel_rfl) (env:=[.agg [.int .u8 l0.typ,.int .i64 l0.n,.int .u64 l0.time,.int .u8 l0.dot.actor.rep,.int .u32 l0.dot.actor.inc,.int .u64 l0.dot.seq,.str l0.text,.sl 5 (l0.items.map GItem.row),.sl 3 (l0.tombs.map GDot.row)],za,za,za,za,za,za,za,za,za,za,za,za,za,za,za,za,za,za,za,za,za,za,za,za,za,za,za,za,za,za,za,za,za,za,za,za,za,za,za,za,za,za,za,za,za,za,za,za,za,za,za,za,za,za,za,za,za,za,za,za,za,za,za,za,za,za,za,za,za,za,za,za,za,za,za,za,za,za,za,za,za,za,za,za,za,za,za,za]) (by rfl) ?_
 refine zk (zd ?_)
 refine zc rfl (xr (n:=0) rfl yq (zb rfl) rfl rfl) st1 ?_
 refine zc rfl (zi rfl rfl (zb rfl)) xg ?_
 refine ze (zj (zk (zd ?_)))
 refine zc rfl (zg rfl xY yF rfl) yC ?_
 refine zc rfl (zu rfl ty5 yx rfl (zr rfl) (zb rfl)) xw ?_
 refine zc rfl (qu (cs':=[.int .u8 l0.typ,.int .i64 (0:Int),.int .u64 (0:Int),.int .u8 (0:Int),.int .u32 (0:Int),.int .u64 (0:Int),.str ([]:zJ),.osl none 5 (([]:List GItem).map GItem.row),.osl none 3 (([]:List GDot).map GDot.row)]) rfl su42 ze42 pl42 (yh yR ym) (.cons (zb rfl) .nil) rfl rfl) xD ?_
 refine zc rfl (xe (n:=1) rfl ze42 rfl) wa ?_
 refine zc rfl (yf (cs':=[.int .u8 l0.typ,.int .i64 (0:Int),.int .u64 (0:Int),.int .u8 (0:Int),.int .u32 (0:Int),.int .u64 (0:Int),.str ([]:zJ),.osl none 5 (([]:List GItem).map GItem.row),.osl none 3 (([]:List GDot).map GDot.row)]) rfl ty42.choose_spec.1 xu yV (zb rfl) rfl rfl rfl rfl rfl) rfl ?_
 refine ze (zj (zk (zk (zd ?_))))
 refine zc rfl (zg rfl xY yF rfl) xM ?_
 refine zc rfl (zu rfl ty5 xE rfl (zr rfl) (zb rfl)) xU ?_
 refine ze (zj (zR (zk (zd ?_))))
 refine zc rfl (zy rfl xp rfl rfl) yJ ?_
 refine zc rfl (zi rfl yD (zb rfl)) wy ?_
 refine ze (zj ?_)
 refine zN xQ hF (fun hc1 hF=>?_) (fun hc1 hF=>?_)
 ·refine zd ?_
  refine zc rfl (zg rfl fo42x1 yF rfl) yN ?_
  refine zc rfl (zu rfl ty2 yy rfl (zr rfl) (zb rfl)) yX ?_
  refine zc rfl (zg rfl fo42x1 xu rfl) y4 ?_
  refine zc rfl (yf (cs':=[.int .u8 l0.typ,.int .i64 l0.n,.int .u64 (0:Int),.int .u8 (0:Int),.int .u32 (0:Int),.int .u64 (0:Int),.str ([]:zJ),.osl none 5 (([]:List GItem).map GItem.row),.osl none 3 (([]:List GDot).map GDot.row)]) rfl ty2 yE yM (zb rfl) rfl rfl rfl rfl rfl) rfl ?_
  refine ze (yg (zj (zk (zd ?_))))
  refine zc rfl (zu rfl ty42.choose_spec.1 yF rfl (zH (cs':=[.int .u8 l0.typ,.int .i64 l0.n,.int .u64 l0.time,.int .u8 l0.dot.actor.rep,.int .u32 l0.dot.actor.inc,.int .u64 l0.dot.seq,.str l0.text,.sl 5 (l0.items.map GItem.row),.sl 3 (l0.tombs.map GDot.row)]) ty42.choose_spec.2 rfl rfl) (zb rfl)) (sk (sk xD)) ?_
  refine zc rfl (zu rfl ty42.choose_spec.1 xu rfl (zH (cs':=[.int .u8 l0.typ,.int .i64 l0.n,.int .u64 (0:Int),.int .u8 (0:Int),.int .u32 (0:Int),.int .u64 (0:Int),.str ([]:zJ),.osl none 5 (([]:List GItem).map GItem.row),.osl none 3 (([]:List GDot).map GDot.row)]) ty42.choose_spec.2 rfl rfl) (zb rfl)) (sk (sk xM)) ?_
  refine zQ hF (fun v2 hv2 hF=>?_)
  refine zL rfl (zC rfl rfl rfl (zo (gk (gk yV)) (zo (gk (gk xE)) zw)) (.cons (zb rfl) (.cons (zb rfl) .nil))) ((ok28 hv2).le (.eq (.cons (leV.agg (.eq (.eq (.eq (.eq (.eq (.eq (.eq (.cons (leV.osl _ _ _) (.cons (leV.osl _ _ _) leL.nil))))))))) rfl) leL.nil))) (sk (sk xU)) ?_
  refine zc rfl (zi rfl (gk (gk xp)) (zb rfl)) xg ?_
  refine ze (zj (zI ?_))
  obtain rfl:=Option.some.inj hF
  refine zz rfl (zD yW zF) (zA (leV.refl _) rfl ?_)
  exact ⟨rfl,rfl⟩
 ·refine zk (zd ?_)
  refine zc rfl (zy rfl xp rfl rfl) y6 ?_
  refine zc rfl (zi rfl yY (zb rfl)) yZ ?_
  refine ze (zj ?_)
  refine zN yS hF (fun hc3 hF=>?_) (fun hc3 hF=>?_)
  ·refine zk ?_
   refine yK [3,5] [(3,[(0,.cells [.int .u8 l0.typ,.int .i64 l0.n,.int .u64 l0.time,.int .u8 l0.dot.actor.rep,.int .u32 l0.dot.actor.inc,.int .u64 l0.dot.seq,.str l0.text,.sl 5 (l0.items.map GItem.row),.sl 3 (l0.tombs.map GDot.row)])]),(5,[(0,.cells [.int .u8 l0.typ,.int .i64 l0.n,.int .u64 l0.time,.int .u8 l0.dot.actor.rep,.int .u32 l0.dot.actor.inc,.int .u64 l0.dot.seq,.str l0.text,.sl 5 (l0.items.map GItem.row),.sl 3 (l0.tombs.map GDot.row)])])] ⟨⟨rfl,trivial⟩,⟨rfl,trivial⟩,trivial⟩ mixed (by kernel_rfl) ?_
   refine zq rfl rfl (zg rfl fo42x2 yF rfl) xj ?_
   refine zq rfl rfl (zu rfl ty33 xh rfl (zr rfl) (zb rfl)) xy ?_
   refine zq rfl rfl (zg rfl fo42x3 yF rfl) xF ?_
   refine draw_okN rfl rfl (by rintro _ ⟨B2,T2,rfl,hk2⟩;exact zu rfl ty38.choose_spec.1 xC (keeps1 hk2) (zH (cs':=[.int .u8 l0.dot.actor.rep,.int .u32 l0.dot.actor.inc,.int .u64 l0.dot.seq]) ty38.choose_spec.2 rfl rfl) (zb rfl)) xN ?_
   refine zq rfl rfl (zg rfl fo42x4 yF rfl) x8 ?_
   refine draw_okN rfl rfl (by rintro _ ⟨B2,T2,rfl,hk2⟩;exact zu rfl ty9 x9 (keeps1 hk2) (zr rfl) (zb rfl)) wg ?_
   refine zq rfl rfl (zg rfl fo42x2 xu rfl) wo ?_
   refine xb rfl (FOk.cons (.inr (xX ⟨rfl,trivial⟩)) (FOk.cons (.inr (xX ⟨rfl,trivial⟩)) FOk.nil)) (by kernel_rfl) rfl (yf (cs':=[.int .u8 l0.typ,.int .i64 (0:Int),.int .u64 l0.time,.int .u8 (0:Int),.int .u32 (0:Int),.int .u64 (0:Int),.str ([]:zJ),.osl none 5 (([]:List GItem).map GItem.row),.osl none 3 (([]:List GDot).map GDot.row)]) rfl ty33 wl xq (zb rfl) rfl rfl rfl rfl rfl) rfl ?_
   refine zq rfl rfl (zg rfl fo42x3 xu rfl) we ?_
   refine xb rfl (FOk.cons (.inr (xX ⟨rfl,trivial⟩)) (FOk.cons (.inr (xX ⟨rfl,trivial⟩)) FOk.nil)) (by kernel_rfl) rfl (yf (cs':=[.int .u8 l0.typ,.int .i64 (0:Int),.int .u64 l0.time,.int .u8 l0.dot.actor.rep,.int .u32 l0.dot.actor.inc,.int .u64 l0.dot.seq,.str ([]:zJ),.osl none 5 (([]:List GItem).map GItem.row),.osl none 3 (([]:List GDot).map GDot.row)]) rfl ty38.choose_spec.1 x4 xL (zb rfl) rfl rfl rfl rfl rfl) rfl ?_
   refine zq rfl rfl (zg rfl fo42x4 xu rfl) wi ?_
   refine xb rfl (FOk.cons (.inr (xX ⟨rfl,trivial⟩)) (FOk.cons (.inr (xX ⟨rfl,trivial⟩)) FOk.nil)) (by kernel_rfl) rfl (yf (cs':=[.int .u8 l0.typ,.int .i64 (0:Int),.int .u64 l0.time,.int .u8 l0.dot.actor.rep,.int .u32 l0.dot.actor.inc,.int .u64 l0.dot.seq,.str l0.text,.osl none 5 (([]:List GItem).map GItem.row),.osl none 3 (([]:List GDot).map GDot.row)]) rfl ty9 wh wb (zb rfl) rfl rfl rfl rfl rfl) rfl ?_
   refine yo ?_
   refine zj (zk (zd ?_))
   refine zc rfl (zg rfl fo42x2 yF rfl) wt ?_
   refine zc rfl (zu rfl ty33 wp rfl (zr rfl) (zb rfl)) wQ ?_
   refine zc rfl (zy rfl wO rfl rfl) wY ?_
   refine zc rfl (zf rfl wU (zb rfl)) wX ?_
   refine zp rfl (fun hb=>zg rfl fo42x2 yF rfl) vi ?_
   refine zp rfl (fun hb=>zu rfl ty33 (zn vm hb) rfl (zr rfl) (zb rfl)) vh ?_
   refine yP hF (fun v4 hv4 hF=>?_)
   refine yj rfl (fun hb=>zC rfl rfl rfl (zo (zn vE hb) zw) (.cons (zb rfl) .nil)) (fun hb=>ok93 (hv4 hb)) vg ?_
   refine zp rfl (fun hb=>zf rfl (zn vl hb) (zb rfl)) vz ?_
   refine zp (z7 rfl rfl rfl) (fun hb=>zg rfl fo42x3 yF rfl) vw ?_
   refine zp (z7 rfl rfl rfl) (fun hb=>zu rfl ty38.choose_spec.1 (zn vD hb) rfl (zH (cs':=[.int .u8 l0.dot.actor.rep,.int .u32 l0.dot.actor.inc,.int .u64 l0.dot.seq]) ty38.choose_spec.2 rfl rfl) (zb rfl)) vu ?_
   refine yP hF (fun v5 hv5 hF=>?_)
   refine yj (z7 rfl rfl rfl) (fun hb=>zC rfl rfl rfl (zo (zn vj hb) zw) (.cons (zb rfl) .nil)) (fun hb=>ok94 (hv5 hb)) vt ?_
   refine zp rfl (fun hb=>zM rfl (zn vk hb) vC rfl (zU (fun ht=>gT2 hb ht))) vf ?_
   refine zp rfl (fun hb=>zf rfl (zn vb hb) (zb rfl)) vr ?_
   refine zp (z7 rfl rfl rfl) (fun hb=>zg rfl fo42x4 yF rfl) vN ?_
   refine zp (z7 rfl rfl rfl) (fun hb=>zu rfl ty9 (zn vQ hb) rfl (zr rfl) (zb rfl)) vM ?_
   refine yP hF (fun v6 hv6 hF=>?_)
   refine yj (z7 rfl rfl rfl) (fun hb=>zC rfl rfl rfl (zo (zn vJ hb) zw) (.cons (zb rfl) .nil)) (fun hb=>ok95 (hv6 hb)) (sk st0) ?_
   refine zp rfl (fun hb=>zM rfl (zn vB hb) (gk yq) rfl (zU (fun ht=>gT2 hb ht))) (sk st1) ?_
   refine zp rfl (fun hb=>xT rfl (zn (gk yF) hb) rfl) (sk xg) ?_
   refine zc rfl (zM rfl wT (gk yW) rfl (zU (fun ht=>gT ht))) (sk wa) ?_
   refine zc rfl (zf rfl (gk xu) (zb rfl)) (sk yC) ?_
   refine zp rfl (fun hb=>zg rfl fo42x2 yF rfl) (sk xw) ?_
   refine zp rfl (fun hb=>zu rfl ty33 (zn (gk yR) hb) rfl (zr rfl) (zb rfl)) (sk xD) ?_
   refine zp rfl (fun hb=>zy rfl (zn (gk yV) hb) rfl rfl) (sk xM) ?_
   refine zp rfl (fun hb=>zf rfl (zn (gk xE) hb) (zb rfl)) (sk xU) ?_
   refine zp (z7 rfl rfl rfl) (fun hb=>zg rfl fo42x3 yF rfl) (sk wy) ?_
   refine zp (z7 rfl rfl rfl) (fun hb=>zu rfl ty38.choose_spec.1 (zn (gk xQ) hb) rfl (zH (cs':=[.int .u8 l0.dot.actor.rep,.int .u32 l0.dot.actor.inc,.int .u64 l0.dot.seq]) ty38.choose_spec.2 rfl rfl) (zb rfl)) (sk yJ) ?_
   refine zp (z7 rfl rfl rfl) (fun hb=>qu (cs':=[.int .u8 (0:Int),.int .u32 (0:Int),.int .u64 (0:Int)]) rfl su38 ze38 pl38 ym .nil rfl rfl) (sk yN) ?_
   refine zp (z7 rfl rfl rfl) (fun hb=>zy rfl (zn (gk yD) hb) (zn (gk yy) hb) (bin_ne pk38 rfl)) (sk yX) ?_
   refine zp (z7 rfl rfl rfl) (fun hb=>zf rfl (zn (gk yM) hb) (zb rfl)) (sk y4) ?_
   refine zp (z7 rfl rfl rfl) (fun hb=>zg rfl fo42x4 yF rfl) (sk yZ) ?_
   refine zp (z7 rfl rfl rfl) (fun hb=>zu rfl ty9 (zn (gk yS) hb) rfl (zr rfl) (zb rfl)) (sk y6) ?_
   refine zp (z7 rfl rfl rfl) (fun hb=>zy rfl (zn (gk yY) hb) rfl rfl) (sk xj) ?_
   refine zp (z7 rfl rfl rfl) (fun hb=>zM rfl (zn (gk yE) hb) rfl (gk xh) (z8 (fun ht=>gF2 hb ht))) (sk xy) ?_
   refine zp rfl (fun hb=>zM rfl (zn (gk xp) hb) (gk xq) rfl (zU (fun ht=>gT2 hb ht))) (sk xF) ?_
   refine zc rfl (zM rfl (gk yx) rfl (gk xC) (z8 (fun ht=>gF ht))) (sk xN) ?_
   refine ze (zj ?_)
   refine zN (gk xL) hF (fun hc7 hF=>?_) (fun hc7 hF=>?_)
   ·refine zk (zd ?_)
    refine zc rfl (zi rfl rfl (zb rfl)) xg ?_
    refine ze (zj (zI ?_))
    refine zG ?_
    refine zx ?_
    obtain rfl:=Option.some.inj hF
    refine zz rfl (zD yW zF) (zA (leV.refl _) rfl ?_)
    exact ⟨rfl,rfl⟩
   ·refine zK (yg (zj (zk (zd ?_))))
    refine zc rfl (zu rfl ty42.choose_spec.1 yF rfl (zH (cs':=[.int .u8 l0.typ,.int .i64 l0.n,.int .u64 l0.time,.int .u8 l0.dot.actor.rep,.int .u32 l0.dot.actor.inc,.int .u64 l0.dot.seq,.str l0.text,.sl 5 (l0.items.map GItem.row),.sl 3 (l0.tombs.map GDot.row)]) ty42.choose_spec.2 rfl rfl) (zb rfl)) (sk (sk xD)) ?_
    refine zc rfl (zu rfl ty42.choose_spec.1 xu rfl (zH (cs':=[.int .u8 l0.typ,.int .i64 (0:Int),.int .u64 l0.time,.int .u8 l0.dot.actor.rep,.int .u32 l0.dot.actor.inc,.int .u64 l0.dot.seq,.str l0.text,.osl none 5 (([]:List GItem).map GItem.row),.osl none 3 (([]:List GDot).map GDot.row)]) ty42.choose_spec.2 rfl rfl) (zb rfl)) (sk (sk xM)) ?_
    refine zQ hF (fun v8 hv8 hF=>?_)
    refine zL rfl (zC rfl rfl rfl (zo (gk (gk yV)) (zo (gk (gk xE)) zw)) (.cons (zb rfl) (.cons (zb rfl) .nil))) ((ok28 hv8).le (.eq (.cons (leV.agg (.eq (.eq (.eq (.eq (.eq (.eq (.eq (.cons (leV.osl _ _ _) (.cons (leV.osl _ _ _) leL.nil))))))))) rfl) leL.nil))) (sk (sk xU)) ?_
    refine zc rfl (zi rfl (gk (gk xp)) (zb rfl)) xg ?_
    refine ze (zj (zI ?_))
    obtain rfl:=Option.some.inj hF
    refine zz rfl (zD yW zF) (zA (leV.refl _) rfl ?_)
    exact ⟨rfl,rfl⟩
  ·refine zk (zd ?_)
   refine zc rfl (zy rfl xp rfl rfl) (sk wg) ?_
   refine zc rfl (zi rfl (gk wb) (zb rfl)) (sk x8) ?_
   refine ze (zj ?_)
   refine zN (gk x9) hF (fun hc9 hF=>?_) (fun hc9 hF=>?_)
   ·refine zk ?_
    refine yK [3] [(3,[(0,.cells [.int .u8 l0.typ,.int .i64 l0.n,.int .u64 l0.time,.int .u8 l0.dot.actor.rep,.int .u32 l0.dot.actor.inc,.int .u64 l0.dot.seq,.str l0.text,.sl 5 (l0.items.map GItem.row),.sl 3 (l0.tombs.map GDot.row)])])] ⟨⟨rfl,trivial⟩,trivial⟩ mixed (by kernel_rfl) ?_
    refine zq rfl rfl (zg rfl xR yF rfl) (sk wo) ?_
    refine zq rfl rfl (zu rfl ty39 (gk wl) rfl (zr rfl) (zb rfl)) (sk we) ?_
    refine zq rfl rfl (zg rfl wm yF rfl) (sk wi) ?_
    refine draw_okN rfl rfl (by rintro _ ⟨B2,T2,rfl,hk2⟩;exact zu rfl ty40 (gk wh) (keeps1 hk2) (zr rfl) (zb rfl)) (sk wt) ?_
    refine zq rfl rfl (zg rfl xR xu rfl) (sk wQ) ?_
    refine xb rfl (FOk.cons (.inr (xX ⟨rfl,trivial⟩)) FOk.nil) (by kernel_rfl) rfl (yf (cs':=[.int .u8 l0.typ,.int .i64 (0:Int),.int .u64 (0:Int),.int .u8 (0:Int),.int .u32 (0:Int),.int .u64 (0:Int),.str ([]:zJ),.sl 5 (l0.items.map GItem.row),.osl none 3 (([]:List GDot).map GDot.row)]) rfl ty39 (gk wO) (gk x4) (zb rfl) rfl rfl rfl rfl rfl) rfl ?_
    refine zq rfl rfl (zg rfl wm xu rfl) (sk wY) ?_
    refine xb rfl (FOk.cons (.inr (xX ⟨rfl,trivial⟩)) FOk.nil) (by kernel_rfl) rfl (yf (cs':=[.int .u8 l0.typ,.int .i64 (0:Int),.int .u64 (0:Int),.int .u8 (0:Int),.int .u32 (0:Int),.int .u64 (0:Int),.str ([]:zJ),.sl 5 (l0.items.map GItem.row),.sl 3 (l0.tombs.map GDot.row)]) rfl ty40 (gk wU) (gk wp) (zb rfl) rfl rfl rfl rfl rfl) rfl ?_
    refine yo ?_
    refine zj (zk (zd ?_))
    refine zc rfl (zg rfl xR yF rfl) (sk wX) ?_
    refine zc rfl (zu rfl ty39 (gk wT) rfl (zr rfl) (zb rfl)) (sk vi) ?_
    refine zQ hF (fun v10 hv10 hF=>?_)
    refine zL rfl (zC rfl rfl rfl (zo (gk vm) (zo rfl zw)) (.cons (zb rfl) (.cons (zb rfl) .nil))) (ok96 hv10) (sk vh) ?_
    refine zc rfl (xT rfl (gk vE) rfl) (sk vg) ?_
    refine zc rfl (zf rfl (gk vl) (zb rfl)) (sk vz) ?_
    refine zp rfl (fun hb=>zu rfl ty42.choose_spec.1 yF rfl (zH (cs':=[.int .u8 l0.typ,.int .i64 l0.n,.int .u64 l0.time,.int .u8 l0.dot.actor.rep,.int .u32 l0.dot.actor.inc,.int .u64 l0.dot.seq,.str l0.text,.sl 5 (l0.items.map GItem.row),.sl 3 (l0.tombs.map GDot.row)]) ty42.choose_spec.2 rfl rfl) (zb rfl)) (sk vw) ?_
    refine yP hF (fun v11 hv11 hF=>?_)
    refine yj rfl (fun hb=>zC rfl rfl rfl (zo (zn (gk vD) hb) zw) (.cons (zb rfl) .nil)) (fun hb=>ok97 (hv11 hb)) (sk vu) ?_
    refine zp rfl (fun hb=>xT rfl (zn (gk vj) hb) rfl) (sk vt) ?_
    refine zc rfl (zM rfl (gk vk) rfl (gk vC) (z8 (fun ht=>gF ht))) (sk vf) ?_
    refine ze (zj ?_)
    refine zN (gk vb) hF (fun hc12 hF=>?_) (fun hc12 hF=>?_)
    ·refine zk (zd ?_)
     refine zc rfl (zi rfl rfl (zb rfl)) xg ?_
     refine ze (zj (zI ?_))
     refine zG ?_
     refine zx ?_
     obtain rfl:=Option.some.inj hF
     refine zz rfl (zD yW zF) (zA (leV.refl _) rfl ?_)
     exact ⟨rfl,rfl⟩
    ·refine zK (yg (zj (zk (zd ?_))))
     refine zc rfl (zu rfl ty42.choose_spec.1 yF rfl (zH (cs':=[.int .u8 l0.typ,.int .i64 l0.n,.int .u64 l0.time,.int .u8 l0.dot.actor.rep,.int .u32 l0.dot.actor.inc,.int .u64 l0.dot.seq,.str l0.text,.sl 5 (l0.items.map GItem.row),.sl 3 (l0.tombs.map GDot.row)]) ty42.choose_spec.2 rfl rfl) (zb rfl)) (sk (sk xD)) ?_
     refine zc rfl (zu rfl ty42.choose_spec.1 xu rfl (zH (cs':=[.int .u8 l0.typ,.int .i64 (0:Int),.int .u64 (0:Int),.int .u8 (0:Int),.int .u32 (0:Int),.int .u64 (0:Int),.str ([]:zJ),.sl 5 (l0.items.map GItem.row),.sl 3 (l0.tombs.map GDot.row)]) ty42.choose_spec.2 rfl rfl) (zb rfl)) (sk (sk xM)) ?_
     refine zQ hF (fun v13 hv13 hF=>?_)
     refine zL rfl (zC rfl rfl rfl (zo (gk (gk yV)) (zo (gk (gk xE)) zw)) (.cons (zb rfl) (.cons (zb rfl) .nil))) (ok28 hv13) (sk (sk xU)) ?_
     refine zc rfl (zi rfl (gk (gk xp)) (zb rfl)) xg ?_
     refine ze (zj (zI ?_))
     obtain rfl:=Option.some.inj hF
     refine zz rfl (zD yW zF) (zA (leV.refl _) rfl ?_)
     exact ⟨rfl,rfl⟩
   ·refine zk (zd ?_)
    refine zc rfl (zy rfl xp rfl rfl) (sk vN) ?_
    refine zc rfl (zi rfl (gk vQ) (zb rfl)) (sk vr) ?_
    refine ze (zj ?_)
    refine zN (gk vB) hF (fun hc14 hF=>?_) (fun hc14 hF=>?_)
    ·refine zk (zd ?_)
     refine zc rfl (zg rfl xR yF rfl) (sk vM) ?_
     refine zc rfl (zu rfl ty39 (gk vJ) rfl (zr rfl) (zb rfl)) (sk (sk st0)) ?_
     refine zc rfl (zg rfl xR xu rfl) (sk (sk st1)) ?_
     refine zc rfl (yf (cs':=[.int .u8 l0.typ,.int .i64 (0:Int),.int .u64 (0:Int),.int .u8 (0:Int),.int .u32 (0:Int),.int .u64 (0:Int),.str ([]:zJ),.sl 5 (l0.items.map GItem.row),.osl none 3 (([]:List GDot).map GDot.row)]) rfl ty39 (gk (gk yF)) (gk (gk yq)) (zb rfl) rfl rfl rfl rfl rfl) rfl ?_
     refine ze (zj (zk (zd ?_)))
     refine zc rfl (zg rfl xR yF rfl) (sk (sk xg)) ?_
     refine zc rfl (zu rfl ty39 (gk (gk yW)) rfl (zr rfl) (zb rfl)) (sk (sk wa)) ?_
     refine zQ hF (fun v15 hv15 hF=>?_)
     refine zL rfl (zC rfl rfl rfl (zo (gk (gk xu)) (zo rfl zw)) (.cons (zb rfl) (.cons (zb rfl) .nil))) (ok96 hv15) (sk (sk yC)) ?_
     refine zc rfl (xT rfl (gk (gk yx)) rfl) (sk (sk xw)) ?_
     refine ze (zj ?_)
     refine zN (gk (gk yR)) hF (fun hc16 hF=>?_) (fun hc16 hF=>?_)
     ·refine zk (zd ?_)
      refine zc rfl (zi rfl rfl (zb rfl)) xg ?_
      refine ze (zj (zI ?_))
      refine zG ?_
      refine zx ?_
      obtain rfl:=Option.some.inj hF
      refine zz rfl (zD yW zF) (zA (leV.refl _) rfl ?_)
      exact ⟨rfl,rfl⟩
     ·refine zK (yg (zj (zk (zd ?_))))
      refine zc rfl (zu rfl ty42.choose_spec.1 yF rfl (zH (cs':=[.int .u8 l0.typ,.int .i64 l0.n,.int .u64 l0.time,.int .u8 l0.dot.actor.rep,.int .u32 l0.dot.actor.inc,.int .u64 l0.dot.seq,.str l0.text,.sl 5 (l0.items.map GItem.row),.sl 3 (l0.tombs.map GDot.row)]) ty42.choose_spec.2 rfl rfl) (zb rfl)) (sk (sk xD)) ?_
      refine zc rfl (zu rfl ty42.choose_spec.1 xu rfl (zH (cs':=[.int .u8 l0.typ,.int .i64 (0:Int),.int .u64 (0:Int),.int .u8 (0:Int),.int .u32 (0:Int),.int .u64 (0:Int),.str ([]:zJ),.sl 5 (l0.items.map GItem.row),.osl none 3 (([]:List GDot).map GDot.row)]) ty42.choose_spec.2 rfl rfl) (zb rfl)) (sk (sk xM)) ?_
      refine zQ hF (fun v17 hv17 hF=>?_)
      refine zL rfl (zC rfl rfl rfl (zo (gk (gk yV)) (zo (gk (gk xE)) zw)) (.cons (zb rfl) (.cons (zb rfl) .nil))) ((ok28 hv17).le (.eq (.cons (leV.agg (.eq (.eq (.eq (.eq (.eq (.eq (.eq (.eq (.cons (leV.osl _ _ _) leL.nil))))))))) rfl) leL.nil))) (sk (sk xU)) ?_
      refine zc rfl (zi rfl (gk (gk xp)) (zb rfl)) xg ?_
      refine ze (zj (zI ?_))
      obtain rfl:=Option.some.inj hF
      refine zz rfl (zD yW zF) (zA (leV.refl _) rfl ?_)
      exact ⟨rfl,rfl⟩
    ·refine zk (zd ?_)
     refine zc rfl (zi rfl rfl (zb rfl)) xg ?_
     refine ze (zj (zI ?_))
     refine zG ?_
     refine zx ?_
     obtain rfl:=Option.some.inj hF
     refine zz rfl (zD yW zF) (zA (leV.refl _) rfl ?_)
     exact ⟨rfl,rfl⟩
/-! varve/tree.may -/
theorem ok40N (n:Nat):∀ {t0:(List GNode)} {deep1:Int} {res:Bool} {h:AH} , qQ n t0 deep1=some res→Spec Tryz.prog 40 [.sl 3 (t0.map GNode.row),.int .i64 deep1] h (fun rr hh=>rr=.bool res∧hh=h):=by
 induction n with
 | zero=>intro t0 deep1 res h  hF;simp [qQ] at hF
 | succ n ih =>
  intro t0 deep1 res h  hF
  unfold qQ at hF
  refine zt Tryz.func40 rfl (by kernel_rfl) (env:=[.sl 3 (t0.map GNode.row),.int .i64 deep1,za,za,za,za,za,za,za,za,za,za,za,za,za,za,za,za,za,za,za,za,za,za,za,za,za,za,za,za,za,za,za,za,za,za,za,za,za,za,za,za,za,za,za,za,za,za,za,za,za,za,za,za,za,za,za,za,za,za,za,za,za,za,za,za,za,za,za,za,za,za,za,za,za,za,za,za,za,za,za,za,za,za,za,za,za,za,za]) (by rfl) ?_
  refine zk (zd ?_)
  refine zc rfl (zi rfl rfl (zb rfl)) yC ?_
  refine ze (zj (zk (zk (zd ?_))))
  refine zc rfl (zf rfl yq (zb rfl)) wy ?_
  refine ya rfl (zS rfl rfl rfl rfl xl xQ yb) yJ fun hn1=>?_
  replace hn1:=xB hn1
  refine zc rfl (zy rfl yD rfl rfl) yN ?_
  refine zc rfl (zf rfl yy (zb rfl)) yX ?_
  refine zp rfl (fun hb=>zf rfl yF (zb rfl)) y4 ?_
  refine zp rfl (fun hb=>zy rfl (zn yE hb) rfl rfl) yZ ?_
  refine zc rfl (zM rfl yM yS rfl (zU (fun ht=>gT ht))) y6 ?_
  refine ze (zj ?_)
  refine zN yY hF (fun hc2 hF=>?_) (fun hc2 hF=>?_)
  ·refine zk (zd ?_)
   refine zc rfl (zi rfl rfl (zb rfl)) yC ?_
   refine ze (zj (zI (zx ?_)))
   obtain rfl:=Option.some.inj hF
   refine zz rfl (zD yx zF) (zA (leV.refl _) rfl ?_)
   exact ⟨rfl,rfl⟩
  ·refine zK (zj (zk (zk (zd ?_))))
   refine zc rfl (zf rfl yq (zb rfl)) xj ?_
   refine ya rfl (zS rfl rfl rfl rfl xl xh yb) xy fun hn3=>?_
   replace hn3:=xB hn3
   refine zc rfl (zf rfl rfl (zb rfl)) xF ?_
   refine ze (zj (zR ?_))
   refine yu (fun (n1:Nat) (s1:Unit)=>yQ [2,3,4,5,6,7,8,9,10,11,12,13,14,15,19,20,21,22,23,24,25,26,27,28,29,30,31,32,33,34,35,36,37,38,39,40,41,42,43,44,45,46,47,48,49,50,51,52,53,54,55,56,57,58,59,60,61,62,63,64,65,66,67,68,69,70,71,72,73,74,75,76,77,78,79,80,81,82,83,84,85,86,87,88] [(18,.int .i64 (n1:Int))]) (fun s1=>h.ext [] []) hF (fun _ _=>by simp only [yQ,upd,List.set_cons_succ,List.set_cons_zero];try rfl) (wk.le (by exact (.eq (.eq (.d4 (.d4 (.d4 (.drop (.drop (.eq (.eq (.cons (leV.of_eq rfl) (.d16 (.d16 (.d16 (.d16 (.d4 (.drop (.drop leL.nil))))))))))))))))))) ?_
   intro n1 s1 hi1 hF
   refine zk (zd ?_)
   refine zc rfl (zy rfl xC xq rfl) xN ?_
   refine ze (zj (zk ?_))
   refine yL xL hF (fun x1 o1 hl1 hx1 hF hK1=>?_) (fun hF=>?_)
   ·refine zK (zj (zk (zR (zk (zd ?_)))))
    refine zc rfl (zf rfl xC (zb rfl)) x8 ?_
    refine zc rfl (xO rfl xl xh xC va (yO hx1) (GNode.row_eq _)) wg ?_
    refine zc rfl (ye rfl ty59.choose_spec.1 wb (zH (cs':=[.str x1.name,.sl 9 (x1.leaves.map GLeaf.row),.sl 3 (x1.subs.map GNode.row)]) ty59.choose_spec.2 rfl rfl) (zb rfl)) wo ?_
    refine zc rfl (xe (n:=0) rfl ze59 rfl) xD ?_
    refine zc rfl (zi rfl x9 (zb rfl)) xw ?_
    refine zc rfl (yf (cs':=[.str x1.name,.sl 9 (x1.leaves.map GLeaf.row),.sl 3 (x1.subs.map GNode.row)]) rfl ty59.choose_spec.1 yV wl (zb rfl) rfl rfl rfl rfl rfl) rfl ?_
    refine ze (zj (zk (zk ?_)))
    refine yK [2] [] trivial mixed (by kernel_rfl) ?_
    refine zq rfl rfl (zg rfl fo59x0 yV rfl) we ?_
    refine zq rfl rfl (zu rfl ty9 x4 rfl (zr rfl) (zb rfl)) wi ?_
    refine zQ hF (fun v27 hv27 hF=>?_)
    refine yv rfl rfl (fun _=>zC rfl rfl rfl (zo wh zw) (.cons (zb rfl) .nil)) (by rintro _ ⟨B2,T2,rfl,hk2⟩;exact ok19 hv27) wt ?_
    refine zq rfl rfl (xT rfl wp rfl) wQ ?_
    refine zq rfl rfl (zf rfl wO (zb rfl)) wY ?_
    refine zB rfl rfl (fun hb=>zf rfl yR (zb rfl)) wX ?_
    refine zB rfl rfl (fun hb=>zy rfl (zn wT hb) rfl rfl) vi ?_
    refine zB rfl rfl (fun hb=>zf rfl (zn vm hb) (zb rfl)) vh ?_
    refine zB rfl (z7 rfl rfl rfl) (fun hb=>zf rfl yq (zb rfl)) vg ?_
    refine zB rfl (z7 rfl rfl rfl) (fun hb=>zf rfl yR (zb rfl)) vz ?_
    refine zB rfl (z7 rfl rfl rfl) (fun hb=>zy rfl (zn vk hb) rfl rfl) vw ?_
    refine wJ hF (fun hg28 hF=>?_)
    refine zB rfl (z7 rfl rfl rfl) (fun hb=>qK default rfl xl (zn vl hb) (zn vD hb) va (hg28 hb) (GNode.row_eq _)) vu ?_
    refine zB rfl (z7 rfl rfl rfl) (fun hb=>zg rfl fo59x0 (zn vj hb) rfl) vt ?_
    refine zB rfl (z7 rfl rfl rfl) (fun hb=>ye rfl ty9 (zn vC hb) (zr rfl) (zb rfl)) vf ?_
    refine zB rfl (z7 rfl rfl rfl) (fun hb=>zg rfl fo59x0 yV rfl) vr ?_
    refine zB rfl (z7 rfl rfl rfl) (fun hb=>zu rfl ty9 (zn vB hb) rfl (zr rfl) (zb rfl)) vN ?_
    refine zB rfl (z7 rfl rfl rfl) (fun hb=>zy rfl (zn vb hb) (zn vQ hb) rfl) vM ?_
    refine zB rfl rfl (fun hb=>zM rfl (zn vE hb) vJ rfl (zU (fun ht=>gT2 hb ht))) (sk st0) ?_
    refine zq rfl rfl (zM rfl wU rfl (gk yq) (z8 (fun ht=>gF ht))) (sk st1) ?_
    refine zq rfl rfl (zf rfl (gk yF) (zb rfl)) (sk xg) ?_
    refine zB rfl rfl (fun hb=>zg rfl x6 yV rfl) (sk wa) ?_
    refine zB rfl rfl (fun hb=>zu rfl ty57 (zn (gk xu) hb) rfl (zr rfl) (zb rfl)) (sk yC) ?_
    refine draw_glen rfl rfl (fun hb=>zS rfl rfl rfl rfl wn (zn (gk yx) hb) yb) (sk xw) ?_
    refine zB rfl rfl (fun hb=>zg rfl fo59x2 yV rfl) (sk xD) ?_
    refine zB rfl rfl (fun hb=>zu rfl ty23 (zn (gk yV) hb) rfl (zr rfl) (zb rfl)) (sk xM) ?_
    refine draw_glen rfl rfl (fun hb=>zS rfl rfl rfl rfl xl (zn (gk xE) hb) yb) (sk xU) ?_
    refine zB rfl rfl (fun hb=>zy rfl (zn (gk yR) hb) (zn (gk xp) hb) rfl) (sk wy) ?_
    refine zB rfl rfl (fun hb=>zy rfl (zn (gk xQ) hb) rfl rfl) (sk yJ) ?_
    refine zq rfl rfl (zM rfl (gk yW) rfl (gk yD) (z8 (fun ht=>gF ht))) (sk yN) ?_
    refine zq rfl rfl (zf rfl (gk yy) (zb rfl)) (sk yX) ?_
    refine zB rfl rfl (fun hb=>zg rfl fo59x2 yV rfl) (sk y4) ?_
    refine zB rfl rfl (fun hb=>zu rfl ty23 (zn (gk yE) hb) rfl (zr rfl) (zb rfl)) (sk yZ) ?_
    refine zB rfl rfl (fun hb=>zf rfl yF (zb rfl)) (sk y6) ?_
    refine zB rfl rfl (fun hb=>zy rfl (zn (gk yY) hb) rfl rfl) (sk xj) ?_
    refine yP hF (fun v31 hv31 hF=>?_)
    refine vc rfl rfl (fun hb=>zC rfl rfl rfl (zo (zn (gk yS) hb) (zo (zn (gk xh) hb) zw)) (.cons (zb rfl) (.cons (zb rfl) .nil))) (fun hb=>ih (hv31 hb)) (sk xy) ?_
    refine zB rfl rfl (fun hb=>xT rfl (zn (gk xq) hb) rfl) (sk xF) ?_
    refine zq rfl rfl (zM rfl (gk yM) rfl (gk xC) (z8 (fun ht=>gF ht))) (sk xN) ?_
    refine yo ?_
    refine zj ?_
    refine zN (gk xL) hF (fun hc32 hF=>?_) (fun hc32 hF=>?_)
    ·refine zk (zd ?_)
     refine zc rfl (zi rfl rfl (zb rfl)) yC ?_
     refine ze (zj (zI (zx ?_)))
     refine zG ?_
     refine zx ?_
     refine yd ?_
     obtain rfl:=Option.some.inj hF
     replace hF:=hK1
     refine zG ?_
     refine zx ?_
     obtain rfl:=Option.some.inj hF
     refine zz rfl (zD yx zF) (zA (leV.refl _) rfl ?_)
     exact ⟨rfl,rfl⟩
    ·refine zK (zj (zk (zd ?_)))
     refine zc rfl (zg rfl x6 yV rfl) (sk x8) ?_
     refine zc rfl (zu rfl ty57 (gk x9) rfl (zr rfl) (zb rfl)) (sk wg) ?_
     refine ya rfl (zS rfl rfl rfl rfl wn (gk wb) yb) (sk wo) fun hn33=>?_
     replace hn33:=xB hn33
     refine zc rfl (zf rfl rfl (zb rfl)) (sk we) ?_
     refine ze (zj (zR ?_))
     refine yu (fun (n2:Nat) (s2:Unit)=>yQ [2,3,4,5,7,8,9,10,11,12,13,14,15,19,20,21,22,23,24,25,26,27,28,29,30,31,32,33,34,35,36,37,38,39,40,41,42,43,44,45,46,47,48,49,50,51,52,53,54,55,56,57,58,59,60,64,65,66,67,68,69,70,71,72,73,74,75,76,77,78,79,80,81,82,83,84,85,86,87,88] [(63,.int .i64 (n2:Int))]) (fun s2=>h.ext [.cells [.str x1.name,.sl 9 (x1.leaves.map GLeaf.row),.sl 3 (x1.subs.map GNode.row)]] []) hF (fun _ _=>by simp only [yQ,upd,List.set_cons_succ,List.set_cons_zero];try rfl) (wk.le (by exact (.eq (.eq (.d4 (.eq (.d4 (.d4 (.drop (.eq (.eq (.eq (.d16 (.d16 (.d4 (.d4 (.drop (.drop (.eq (.eq (.cons (leV.of_eq rfl) (.d16 (.d4 (.d4 (.drop leL.nil))))))))))))))))))))))))) ?_
     intro n2 s2 hi2 hF
     refine zk (zd ?_)
     refine zc rfl (zy rfl (gk x4) (gk wl) rfl) (sk wi) ?_
     refine ze (zj (zk ?_))
     refine yL (gk wh) hF (fun x2 o2 hl2 hx2 hF hK2=>?_) (fun hF=>?_)
     ·refine zK (zj (zk (zR (zk (zd ?_)))))
      refine zc rfl (zf rfl (gk x4) (zb rfl)) (sk wt) ?_
      refine zc rfl (yk rfl wn (gk wb) (gk x4) va (yO hx2)) (sk wQ) ?_
      refine zc rfl (ye rfl ty42.choose_spec.1 (gk wO) (zH (cs':=[.int .u8 x2.typ,.int .i64 x2.n,.int .u64 x2.time,.int .u8 x2.dot.actor.rep,.int .u32 x2.dot.actor.inc,.int .u64 x2.dot.seq,.str x2.text,.sl 5 (x2.items.map GItem.row),.sl 3 (x2.tombs.map GDot.row)]) ty42.choose_spec.2 rfl rfl) (zb rfl)) (sk wY) ?_
      refine zc rfl (xe (n:=1) rfl ze42 rfl) xU ?_
      refine zc rfl (zi rfl (gk wp) (zb rfl)) xM ?_
      refine zc rfl (yf (cs':=[.int .u8 x2.typ,.int .i64 x2.n,.int .u64 x2.time,.int .u8 x2.dot.actor.rep,.int .u32 x2.dot.actor.inc,.int .u64 x2.dot.seq,.str x2.text,.sl 5 (x2.items.map GItem.row),.sl 3 (x2.tombs.map GDot.row)]) rfl ty42.choose_spec.1 xp (gk wU) (zb rfl) rfl rfl rfl rfl rfl) rfl ?_
      refine ze (zj (zk ?_))
      refine yK [1] [] trivial mixed (by kernel_rfl) ?_
      refine zq rfl rfl (zu rfl ty42.choose_spec.1 xp rfl (zH (cs':=[.int .u8 x2.typ,.int .i64 x2.n,.int .u64 x2.time,.int .u8 x2.dot.actor.rep,.int .u32 x2.dot.actor.inc,.int .u64 x2.dot.seq,.str x2.text,.sl 5 (x2.items.map GItem.row),.sl 3 (x2.tombs.map GDot.row)]) ty42.choose_spec.2 rfl rfl) (zb rfl)) (sk wX) ?_
      refine zQ hF (fun v43 hv43 hF=>?_)
      refine yv rfl rfl (fun _=>zC rfl rfl rfl (zo (gk wT) zw) (.cons (zb rfl) .nil)) (by rintro _ ⟨B2,T2,rfl,hk2⟩;exact ok76 hv43) (sk vi) ?_
      refine zq rfl rfl (xT rfl (gk vm) rfl) (sk vh) ?_
      refine zq rfl rfl (zf rfl (gk vE) (zb rfl)) (sk vg) ?_
      refine zB rfl rfl (fun hb=>zf rfl xE (zb rfl)) (sk vz) ?_
      refine zB rfl rfl (fun hb=>zy rfl (zn (gk vk) hb) rfl rfl) (sk vw) ?_
      refine zB rfl rfl (fun hb=>zf rfl (zn (gk vD) hb) (zb rfl)) (sk vu) ?_
      refine zB rfl (z7 rfl rfl rfl) (fun hb=>zg rfl x6 yV rfl) (sk vt) ?_
      refine zB rfl (z7 rfl rfl rfl) (fun hb=>zu rfl ty57 (zn (gk vC) hb) rfl (zr rfl) (zb rfl)) (sk vf) ?_
      refine zB rfl (z7 rfl rfl rfl) (fun hb=>zf rfl xE (zb rfl)) (sk vr) ?_
      refine zB rfl (z7 rfl rfl rfl) (fun hb=>zy rfl (zn (gk vB) hb) rfl rfl) (sk vN) ?_
      refine wJ hF (fun hg44 hF=>?_)
      refine zB rfl (z7 rfl rfl rfl) (fun hb=>xP default rfl wn (zn (gk vb) hb) (zn (gk vQ) hb) va (hg44 hb)) (sk vM) ?_
      refine zB rfl (z7 rfl rfl rfl) (fun hb=>zg rfl xY (zn (gk vJ) hb) rfl) (sk (sk st0)) ?_
      refine zB rfl (z7 rfl rfl rfl) (fun hb=>ye rfl ty5 (zn (gk (gk yq)) hb) (zr rfl) (zb rfl)) (sk (sk st1)) ?_
      refine zB rfl (z7 rfl rfl rfl) (fun hb=>zg rfl xY xp rfl) (sk (sk xg)) ?_
      refine zB rfl (z7 rfl rfl rfl) (fun hb=>zu rfl ty5 (zn (gk (gk yW)) hb) rfl (zr rfl) (zb rfl)) (sk (sk wa)) ?_
      refine zB rfl (z7 rfl rfl rfl) (fun hb=>zy rfl (zn (gk (gk yF)) hb) (zn (gk (gk xu)) hb) rfl) (sk (sk yC)) ?_
      refine zB rfl rfl (fun hb=>zM rfl (zn (gk vj) hb) (gk (gk yx)) rfl (zU (fun ht=>gT2 hb ht))) (sk (sk xw)) ?_
      refine zq rfl rfl (zM rfl (gk vl) rfl (gk (gk yR)) (z8 (fun ht=>gF ht))) (sk (sk xD)) ?_
      refine yo ?_
      refine zj ?_
      refine zN (gk (gk yV)) hF (fun hc45 hF=>?_) (fun hc45 hF=>?_)
      ·refine zk (zd ?_)
       refine zc rfl (zi rfl rfl (zb rfl)) yC ?_
       refine ze (zj (zI ?_))
       refine zG ?_
       refine zx ?_
       refine yd ?_
       obtain rfl:=Option.some.inj hF
       replace hF:=hK2
       refine zG ?_
       refine zG ?_
       refine zx ?_
       refine yd ?_
       obtain rfl:=Option.some.inj hF
       replace hF:=hK1
       refine zG ?_
       refine zx ?_
       obtain rfl:=Option.some.inj hF
       refine zz rfl (zD yx zF) (zA (leV.refl _) rfl ?_)
       exact ⟨rfl,rfl⟩
      ·refine zK (yg (zj (zd ?_)))
       refine zc rfl (zy rfl (gk x4) rfl rfl) (sk (sk xM)) ?_
       refine zc rfl (zf rfl (gk (gk xE)) (zb rfl)) (sk we) ?_
       refine ze (yH ?_)
       obtain rfl:=Option.some.inj hF
       exact ⟨(),hl2,hK2,wk.trans (wk.le (by exact (.eq (.eq (.d4 (.eq (.d4 (.d4 (.drop (.eq (.eq (.eq (.d16 (.d16 (.d4 (.d4 (.drop (.drop (.eq (.eq (.cons (leV.of_eq (ve (by omega) (by omega))) (.d16 (.d4 (.d4 (.drop leL.nil))))))))))))))))))))))))) (xJ (by simp [yi,AV.low]) rfl rfl (by simp [Blk.low,yi,AV.low]))⟩
     ·refine yU ?_
      refine zZ ?_
      refine zW ?_
      refine zX ?_
      refine yg (zj (zd ?_))
      refine zc rfl (zy rfl xC rfl rfl) (sk (sk xU)) ?_
      refine zc rfl (zf rfl (gk (gk xp)) (zb rfl)) xF ?_
      refine ze (yH ?_)
      obtain rfl:=Option.some.inj hF
      exact ⟨(),hl1,hK1,wk.trans (wk.le (by exact (.eq (.eq (.d4 (.d4 (.d4 (.drop (.drop (.eq (.eq (.cons (leV.of_eq (ve (by omega) (by omega))) (.d16 (.d16 (.d16 (.d16 (.d4 (.drop (.drop leL.nil))))))))))))))))))) (xJ (by simp [yi,AV.low]) rfl rfl (by simp [Blk.low,yi,AV.low]))⟩
   ·refine yU ?_
    refine zZ ?_
    refine zW ?_
    refine zX ?_
    refine zj (zk (zd ?_))
    refine zc rfl (zi rfl rfl (zb rfl)) yC ?_
    refine ze (zj (zI ?_))
    obtain rfl:=Option.some.inj hF
    refine zz rfl (zD yx zF) (zA (leV.refl _) rfl ?_)
    exact ⟨rfl,rfl⟩
theorem ok40 {t0:(List GNode)} {deep1:Int} {res:Bool} {h:AH}  (hF:treeXmay t0 deep1=some res):Spec Tryz.prog 40 [.sl 3 (t0.map GNode.row),.int .i64 deep1] h (fun rr hh=>rr=.bool res∧hh=h):=by
 obtain ⟨n,hn⟩:=anyN_is hF
 exact ok40N n  hn
/-! varve/tree.May -/
theorem ok21 {t0:(List GNode)} {res:Bool} {h:AH}  (hF:qr t0=some res):Spec Tryz.prog 21 [.sl 3 (t0.map GNode.row)] h (fun rr hh=>rr=.bool res∧hh=h):=by
 unfold qr at hF
 refine zt Tryz.func21 rfl (by kernel_rfl) (env:=[.sl 3 (t0.map GNode.row),za,za,za,za]) (by rfl) ?_
 refine zk (zd ?_)
 refine zc rfl (zi rfl rfl (zb rfl)) xg ?_
 refine ze (zj (zk (zd ?_)))
 refine zc rfl (zf rfl yq (zb rfl)) wa ?_
 refine zQ hF (fun v1 hv1 hF=>?_)
 refine zL rfl (zC rfl rfl rfl (zo xu (zo rfl zw)) (.cons (zb rfl) (.cons (zb rfl) .nil))) (ok40 hv1) yC ?_
 refine zc rfl (zi rfl yx (zb rfl)) xg ?_
 refine ze (zj (zI ?_))
 obtain rfl:=Option.some.inj hF
 refine zz rfl (zD yW zF) (zA (leV.refl _) rfl ?_)
 exact ⟨rfl,rfl⟩
/-! slices.AppendSeq[[]varve/api.Row,varve/api.Row] -/
theorem ok77 {s0:(List GRow)} {seq1:(S:Type)→(S→GRow→Option (Bool×S))→S→Option S} {fseq1:FuncId} {aseq1 kseq1:List AV} {res:(List GRow)} {h:AH} (hseq1:∀ (S:Type) (Hy:S→AH) (nb nt:Nat),(∀ s,(Hy s).blks.length=nb)→(∀ s,(Hy s).toks.length=nt)→(∀ s,(Hy s).closed nb nt)→(∀ s,∃ L M,Hy s=h.ext L M)→∀ (y:S→GRow→Option (Bool×S)) (idy:Nat),idy < nb→(∀ s x b s' L M,y s x=some (b,s')→SpecY Tryz.prog idy [.agg [.sl 1 (x.path.map zP),.int .u8 x.leaf.typ,.int .i64 x.leaf.n,.int .u64 x.leaf.time,.int .u8 x.leaf.dot.actor.rep,.int .u32 x.leaf.dot.actor.inc,.int .u64 x.leaf.dot.seq,.str x.leaf.text,.sl 5 (x.leaf.items.map GItem.row),.sl 3 (x.leaf.tombs.map GDot.row)]] ((Hy s).ext L M) (fun rr hh=>rr=.bool b∧hh=(Hy s').ext L M))→∀ s s',seq1 S y s=some s'→Spec Tryz.prog fseq1 (aseq1++[.yld idy]++kseq1) (Hy s) (fun rr hh=>rr=.tup []∧hh=Hy s')) (hF:vO s0 seq1=some res):Spec Tryz.prog 77 [.osl none 10 (s0.map GRow.row),.fn (.func fseq1) aseq1 kseq1] h (fun rr hh=>rr=.sl 10 (res.map GRow.row)∧hh=h):=by
 unfold vO at hF
 refine yG Tryz.func77 rfl (by kernel_rfl) (env:=[.osl none 10 (s0.map GRow.row),.fn (.func fseq1) aseq1 kseq1,za,za,za,za,za,za,za,za,za,za,za]) (by rfl) (fun hlow hC=>?_)
 simp only [yi,AV.low,Bool.and_eq_true,Bool.true_and,and_true] at hlow
 have hlaseq1:∀ n m,h.blks.length≤n→h.toks.length≤m→yi n m aseq1=true:=fun n m h1 h2=>xd h1 h2 _ (by simp [hlow])
 have hlkseq1:∀ n m,h.blks.length≤n→h.toks.length≤m→yi n m kseq1=true:=fun n m h1 h2=>xd h1 h2 _ (by simp [hlow])
 refine zk (zd ?_)
 refine zc rfl (xr (n:=0) rfl yq (zb rfl) rfl rfl) xg ?_
 refine zc rfl (zi rfl rfl (xi el61)) yC ?_
 refine ze (zj (zk (zk (zd ?_))))
 refine zc rfl (zf rfl yF (zb rfl)) xD ?_
 refine ze (zj (zR ?_))
 refine r_range (fun (s1:(List GRow))=>h) (fun (s1:(List GRow))=>[.cells [.osl (some (h.toks.length+0)) 10 (s1.map GRow.row)]]) (fun (s1:(List GRow))=>[(s1).length]) s0 hF (wk.trans (wk_tokB (j:=0) rfl yq rfl st0 rfl rfl) (wk.le (by exact (.drop (.drop (.eq (.drop (.drop (.drop (.eq (.d4 (.drop (.drop leL.nil))))))))))))) (fun _=>rfl) rfl rfl rfl (fun _=>rfl) rfl yV rfl (fun lp1 hlp1 r1 hr1q=>?_) (fun s1 H1 hH hF=>?_) (fun j1 s1 H1 hH hF=>?_)
 ·have hlowlp1:∀ q1 q2,(lp1 q1 q2).low (h.blks.length+2) (h.toks.length+1)=true:=by intro q1 q2;rw [hlp1];simp [Blk.low,yi,AV.low,hlaseq1,hlkseq1]
  refine Spec.mono (hseq1 _ (fam (fun (s1:(List GRow))=>h) (fun (s1:(List GRow))=>[.cells [.osl (some (h.toks.length+0)) 10 (s1.map GRow.row)]]) (fun (s1:(List GRow))=>[(s1).length]) lp1) (h.blks.length+2) (h.toks.length+1) (fun _=>by simp only [fam];rw [ext_len rfl];rfl) (fun _=>by simp only [fam];rw [ext_tlen rfl];rfl) (fun _=>closed_ext hC (Nat.le_add_right _ _) (Nat.le_add_right _ _) (by simp only [List.all_append,List.all_cons,List.all_nil,Bool.and_true,List.length_cons,List.length_nil,Nat.reduceAdd,Nat.zero_add,hlowlp1] <;> simp [Blk.low,yi,AV.low,hlaseq1,hlkseq1])) (fun _=>⟨_,_,rfl⟩) _ _ (Nat.lt_succ_self _) (y_body hlp1 (xs:=fun (x:GRow)=>[.agg [.sl 1 (x.path.map zP),.int .u8 x.leaf.typ,.int .i64 x.leaf.n,.int .u64 x.leaf.time,.int .u8 x.leaf.dot.actor.rep,.int .u32 x.leaf.dot.actor.inc,.int .u64 x.leaf.dot.seq,.str x.leaf.text,.sl 5 (x.leaf.items.map GItem.row),.sl 3 (x.leaf.tombs.map GDot.row)]]) (fun _=>rfl) (fun _=>rfl) rfl (fun _=>rfl) (fun _=>by simp only [setL,List.set_cons_succ,List.set_cons_zero];try rfl) (fun s1 x1 o1 L1 M1 H1 hH hF=>?_)) _ _ hr1q) (fun _ _ h=>h.2)
  obtain rfl:H1=((h.ext ([.cells [.osl (some (h.toks.length+0)) 10 (s1.map GRow.row)]]++[lp1 .ready none]) [(s1).length]).ext L1 M1).ext [] []:=hH
  refine zd ?_
  refine zc rfl (n_alloc (deep_len rfl rfl) (n:=0) rfl ze64 rfl) xw ?_
  refine zc rfl (n_store (deep_len rfl rfl) (cs':=[.sl 1 (x1.path.map zP),.int .u8 x1.leaf.typ,.int .i64 x1.leaf.n,.int .u64 x1.leaf.time,.int .u8 x1.leaf.dot.actor.rep,.int .u32 x1.leaf.dot.actor.inc,.int .u64 x1.leaf.dot.seq,.str x1.leaf.text,.sl 5 (x1.leaf.items.map GItem.row),.sl 3 (x1.leaf.tombs.map GDot.row)]) rfl ty64.choose_spec.1 yR xE (zb rfl) rfl rfl rfl rfl rfl) rfl ?_
  refine ze ?_
  refine q_assign rfl rfl ?_
  refine zR (zd ?_)
  refine zc rfl (d_load rfl rfl ty61 yW rfl (zr rfl) (zb rfl)) xU ?_
  refine zc rfl (n_load (deep_len rfl rfl) rfl ty64.choose_spec.1 yR rfl (zH (cs':=[.sl 1 (x1.path.map zP),.int .u8 x1.leaf.typ,.int .i64 x1.leaf.n,.int .u64 x1.leaf.time,.int .u8 x1.leaf.dot.actor.rep,.int .u32 x1.leaf.dot.actor.inc,.int .u64 x1.leaf.dot.seq,.str x1.leaf.text,.sl 5 (x1.leaf.items.map GItem.row),.sl 3 (x1.leaf.tombs.map GDot.row)]) ty64.choose_spec.2 rfl rfl) (zb rfl)) wy ?_
  refine zc rfl (yr (es:=([x1]:List GRow).map GRow.row) rfl el61 ze64 rfl rfl (yh xQ ym) (.cons (zb rfl) .nil) rfl rfl rfl) yJ ?_
  refine wJ hF (fun hm3 hF=>?_)
  refine zc rfl (d_appT (j:=0) (T':=[((s1++([x1]:List GRow))).length]) rfl rfl rfl rfl rfl el61 el61 xp yD (zb rfl) (zb rfl) news_osl hm3 rfl rfl) yN ?_
  refine zc rfl (d_store (A':=[.cells [.osl (some (h.toks.length+0)) 10 ((s1++([x1]:List GRow)).map GRow.row)]]++[lp1 .busy none]) (cs':=[.osl (some (h.toks.length+0)) 10 ((s1++([x1]:List GRow)).map GRow.row)]) rfl rfl ty61 yW yy (zb rfl) rfl rfl rfl rfl rfl rfl) rfl ?_
  refine ze (yg ?_)
  obtain rfl:=Option.some.inj hF
  exact q_roundN hC rfl rfl rfl rfl rfl rfl rfl rfl rfl rfl rfl (by simp only [List.all_append,List.all_cons,List.all_nil,Bool.and_true,List.length_cons,List.length_nil,Nat.reduceAdd,Nat.zero_add,hlowlp1] <;> simp [Blk.low,yi,AV.low,hlaseq1,hlkseq1])
 ·obtain rfl:H1=h.ext [.cells [.osl (some (h.toks.length+0)) 10 (s1.map GRow.row)],.dead] [(s1).length]:=hH
  refine yg (zj (zk (zd ?_)))
  refine zc rfl (zu rfl ty61 yW rfl (zr rfl) (zb rfl)) yX ?_
  refine zc rfl (zi rfl yM (zb rfl)) yC ?_
  refine ze (zj (zI ?_))
  obtain rfl:=Option.some.inj hF
  refine zz rfl (zD yx zF) (zA (leV.osl _ _ _) rfl ?_)
  exact ⟨rfl,rfl⟩
 ·obtain rfl:H1=h.ext [.cells [.osl (some (h.toks.length+0)) 10 (s1.map GRow.row)],.dead] [(s1).length]:=hH
  cases hF
/-! slices.Collect[varve/api.Row] -/
theorem ok41 {seq0:(S:Type)→(S→GRow→Option (Bool×S))→S→Option S} {fseq0:FuncId} {aseq0 kseq0:List AV} {res:(List GRow)} {h:AH} (hseq0:∀ (S:Type) (Hy:S→AH) (nb nt:Nat),(∀ s,(Hy s).blks.length=nb)→(∀ s,(Hy s).toks.length=nt)→(∀ s,(Hy s).closed nb nt)→(∀ s,∃ L M,Hy s=h.ext L M)→∀ (y:S→GRow→Option (Bool×S)) (idy:Nat),idy < nb→(∀ s x b s' L M,y s x=some (b,s')→SpecY Tryz.prog idy [.agg [.sl 1 (x.path.map zP),.int .u8 x.leaf.typ,.int .i64 x.leaf.n,.int .u64 x.leaf.time,.int .u8 x.leaf.dot.actor.rep,.int .u32 x.leaf.dot.actor.inc,.int .u64 x.leaf.dot.seq,.str x.leaf.text,.sl 5 (x.leaf.items.map GItem.row),.sl 3 (x.leaf.tombs.map GDot.row)]] ((Hy s).ext L M) (fun rr hh=>rr=.bool b∧hh=(Hy s').ext L M))→∀ s s',seq0 S y s=some s'→Spec Tryz.prog fseq0 (aseq0++[.yld idy]++kseq0) (Hy s) (fun rr hh=>rr=.tup []∧hh=Hy s')) (hF:qt seq0=some res):Spec Tryz.prog 41 [.fn (.func fseq0) aseq0 kseq0] h (fun rr hh=>rr=.sl 10 (res.map GRow.row)∧hh=h):=by
 unfold qt at hF
 refine yG Tryz.func41 rfl (by kernel_rfl) (env:=[.fn (.func fseq0) aseq0 kseq0,za,za,za,za]) (by rfl) (fun hlow hC=>?_)
 simp only [yi,AV.low,Bool.and_eq_true,Bool.true_and,and_true] at hlow
 have hlaseq0:∀ n m,h.blks.length≤n→h.toks.length≤m→yi n m aseq0=true:=fun n m h1 h2=>xd h1 h2 _ (by simp [hlow])
 have hlkseq0:∀ n m,h.blks.length≤n→h.toks.length≤m→yi n m kseq0=true:=fun n m h1 h2=>xd h1 h2 _ (by simp [hlow])
 refine zk (zd ?_)
 refine zc rfl (zi rfl rfl (xi el61)) xg ?_
 refine ze (zj (zk (zd ?_)))
 refine zc rfl (zf rfl yq (zb rfl)) wa ?_
 refine zQ hF (fun v1 hv1 hF=>?_)
 refine zL rfl (zC rfl rfl rfl (zo rfl (zo xu zw)) (.cons (xi el61) (.cons (zb rfl) .nil))) (ok77 (fun S Hy nb nt hN hNt hC hE y idy hly hy s s' hF=>hseq0 S Hy nb nt hN hNt hC (fun s=>by obtain ⟨L,M,e⟩:=hE s;exact ⟨_,_,by rw [e,wr]⟩) y idy hly hy s s' hF) hv1) yC ?_
 refine zc rfl (zi rfl yx (zb rfl)) xg ?_
 refine ze (zj (zI ?_))
 obtain rfl:=Option.some.inj hF
 refine zz rfl (zD yW zF) (zA (leV.refl _) rfl ?_)
 exact ⟨rfl,rfl⟩
/-! varve/paths.rows -/
theorem ok42 {t0:(List GNode)} {ahead1:(List zJ)} {res:((List GNode)×(List zJ))} {h:AH}  (hF:pathsXrows t0 ahead1=some res):Spec Tryz.prog 42 [.sl 3 (t0.map GNode.row),.sl 1 (ahead1.map zP)] h (CloK h 78 [.cells [.sl 3 (res.1.map GNode.row)],.cells [.sl 1 (res.2.map zP)]]):=by
 unfold pathsXrows at hF
 refine zt Tryz.func42 rfl (by kernel_rfl) (env:=[.sl 3 (t0.map GNode.row),.sl 1 (ahead1.map zP),za,za,za,za]) (by rfl) ?_
 refine zk (zd ?_)
 refine zc rfl (xr (n:=0) rfl yq (zb rfl) rfl rfl) xg ?_
 refine zc rfl (xr (n:=1) rfl yF (zb rfl) rfl rfl) wa ?_
 refine zc rfl (zi rfl rfl (zb rfl)) yC ?_
 refine ze (zj (zk (zd ?_)))
 refine zc rfl (qJ rfl rfl rfl) xw ?_
 refine zc rfl (zi rfl yR (zb rfl)) yC ?_
 refine ze (zj (zI ?_))
 obtain rfl:=Option.some.inj hF
 refine zz rfl (zD yx zF) (fin_clo (bs:=[.cells [.sl 3 (t0.map GNode.row)],.cells [.sl 1 (ahead1.map zP)]]) (by simp [AV.low,yi]) rfl (by simp [Blk.low,yi,AV.low]) ?_)
 exact ⟨rfl,rfl⟩
/-! varve/paths.own -/
theorem ok69 {l0:GLeaf} {res:GLeaf} {h:AH}  (hF:pathsXown l0=some res):Spec Tryz.prog 69 [.agg [.int .u8 l0.typ,.int .i64 l0.n,.int .u64 l0.time,.int .u8 l0.dot.actor.rep,.int .u32 l0.dot.actor.inc,.int .u64 l0.dot.seq,.str l0.text,.sl 5 (l0.items.map GItem.row),.sl 3 (l0.tombs.map GDot.row)]] h (fun rr hh=>rr=.agg [.int .u8 res.typ,.int .i64 res.n,.int .u64 res.time,.int .u8 res.dot.actor.rep,.int .u32 res.dot.actor.inc,.int .u64 res.dot.seq,.str res.text,.sl 5 (res.items.map GItem.row),.sl 3 (res.tombs.map GDot.row)]∧hh=h):=by
 unfold pathsXown at hF
 refine zt Tryz.func69 rfl (by kernel_rfl) (env:=[.agg [.int .u8 l0.typ,.int .i64 l0.n,.int .u64 l0.time,.int .u8 l0.dot.actor.rep,.int .u32 l0.dot.actor.inc,.int .u64 l0.dot.seq,.str l0.text,.sl 5 (l0.items.map GItem.row),.sl 3 (l0.tombs.map GDot.row)],za,za,za,za,za,za,za,za,za,za,za]) (by rfl) ?_
 refine zk (zd ?_)
 refine zc rfl (xr (n:=0) rfl yq (zb rfl) rfl rfl) st1 ?_
 refine zc rfl (xe (n:=1) rfl ze42 rfl) xg ?_
 refine ze (zj (zk ?_))
 refine yK [] [] trivial mixed (by kernel_rfl) ?_
 refine zq rfl rfl (zg rfl xR yF rfl) wa ?_
 refine zq rfl rfl (zu rfl ty39 xu rfl (zr rfl) (zb rfl)) yC ?_
 refine zQ hF (fun v1 hv1 hF=>?_)
 refine vd rfl FOk.nil (by rfl) rfl (zC rfl rfl rfl (zo yx zw) (.cons (zb rfl) .nil)) (own_ext (T':=[(v1).length]) (ok53 hv1) (m:=0) rfl rfl) xw ?_
 refine zq rfl rfl (zg rfl wm yF rfl) xD ?_
 refine zq rfl rfl (zu rfl ty40 yV rfl (zr rfl) (zb rfl)) xM ?_
 refine zQ hF (fun v2 hv2 hF=>?_)
 refine vd rfl FOk.nil (by rfl) rfl (zC rfl rfl rfl (zo xE zw) (.cons (zb rfl) .nil)) (own_ext (T':=[(v1).length,(v2).length]) (ok54 hv2) (m:=1) rfl rfl) xU ?_
 refine zq rfl rfl (zg rfl xR yF rfl) wy ?_
 refine xb rfl FOk.nil (by kernel_rfl) rfl (yf (cs':=[.int .u8 l0.typ,.int .i64 l0.n,.int .u64 l0.time,.int .u8 l0.dot.actor.rep,.int .u32 l0.dot.actor.inc,.int .u64 l0.dot.seq,.str l0.text,.osl (some (h.toks.length+0)) 5 (v1.map GItem.row),.sl 3 (l0.tombs.map GDot.row)]) rfl ty39 xQ yR (zb rfl) rfl rfl rfl rfl rfl) rfl ?_
 refine zq rfl rfl (zg rfl wm yF rfl) yJ ?_
 refine xb rfl FOk.nil (by kernel_rfl) rfl (yf (cs':=[.int .u8 l0.typ,.int .i64 l0.n,.int .u64 l0.time,.int .u8 l0.dot.actor.rep,.int .u32 l0.dot.actor.inc,.int .u64 l0.dot.seq,.str l0.text,.osl (some (h.toks.length+0)) 5 (v1.map GItem.row),.osl (some (h.toks.length+1)) 3 (v2.map GDot.row)]) rfl ty40 yD xp (zb rfl) rfl rfl rfl rfl rfl) rfl ?_
 refine yo ?_
 refine zj (zk (zd ?_))
 refine zc rfl (zu rfl ty42.choose_spec.1 yF rfl (zH (cs':=[.int .u8 l0.typ,.int .i64 l0.n,.int .u64 l0.time,.int .u8 l0.dot.actor.rep,.int .u32 l0.dot.actor.inc,.int .u64 l0.dot.seq,.str l0.text,.osl (some (h.toks.length+0)) 5 (v1.map GItem.row),.osl (some (h.toks.length+1)) 3 (v2.map GDot.row)]) ty42.choose_spec.2 rfl rfl) (zb rfl)) yN ?_
 refine zc rfl (yf (cs':=[.int .u8 l0.typ,.int .i64 l0.n,.int .u64 l0.time,.int .u8 l0.dot.actor.rep,.int .u32 l0.dot.actor.inc,.int .u64 l0.dot.seq,.str l0.text,.osl (some (h.toks.length+0)) 5 (v1.map GItem.row),.osl (some (h.toks.length+1)) 3 (v2.map GDot.row)]) rfl ty42.choose_spec.1 yW yy (zb rfl) rfl rfl rfl rfl rfl) rfl ?_
 refine ze (zj (zI ?_))
 obtain rfl:=Option.some.inj hF
 refine zz rfl (rl_cell ty42.choose_spec.1 yW rfl (zH (cs':=[.int .u8 l0.typ,.int .i64 l0.n,.int .u64 l0.time,.int .u8 l0.dot.actor.rep,.int .u32 l0.dot.actor.inc,.int .u64 l0.dot.seq,.str l0.text,.osl (some (h.toks.length+0)) 5 (v1.map GItem.row),.osl (some (h.toks.length+1)) 3 (v2.map GDot.row)]) ty42.choose_spec.2 rfl rfl) (zb rfl) zF) (zA (leV.agg (.eq (.eq (.eq (.eq (.eq (.eq (.eq (.cons (leV.osl _ _ _) (.cons (leV.osl _ _ _) leL.nil))))))))) rfl) rfl ?_)
 exact ⟨rfl,rfl⟩
/-! varve/paths.rows 1 -/
theorem ok78N (n:Nat):∀ {S:Type} {Hy:S→AH} {nb nt:Nat} {yield0:S→GRow→Option (Bool×S)} {idy:Nat} {c0:(List GNode)} {i0:Nat} {c1:(List zJ)} {i1:Nat} {s0:S} {res:S} (hN:∀ s,(Hy s).blks.length=nb) (hNt:∀ s,(Hy s).toks.length=nt) (hC:∀ s,(Hy s).closed nb nt) (hly:idy < nb) (hy:∀ s x b s' L M,yield0 s x=some (b,s')→SpecY Tryz.prog idy [.agg [.sl 1 (x.path.map zP),.int .u8 x.leaf.typ,.int .i64 x.leaf.n,.int .u64 x.leaf.time,.int .u8 x.leaf.dot.actor.rep,.int .u32 x.leaf.dot.actor.inc,.int .u64 x.leaf.dot.seq,.str x.leaf.text,.sl 5 (x.leaf.items.map GItem.row),.sl 3 (x.leaf.tombs.map GDot.row)]] ((Hy s).ext L M) (fun rr hh=>rr=.bool b∧hh=(Hy s').ext L M)) (hb0:∀ s,(Hy s).blk i0=some (.cells [.sl 3 (c0.map GNode.row)])) (hb1:∀ s,(Hy s).blk i1=some (.cells [.sl 1 (c1.map zP)])),w9 n S yield0 c0 c1 s0=some res→Spec Tryz.prog 78 [.yld idy,.ptr i0 0,.ptr i1 0] (Hy s0) (fun rr hh=>rr=.tup []∧hh=Hy res):=by
 induction n with
 | zero=>intro S Hy nb nt yield0 idy c0 i0 c1 i1 s0 res hN hNt hC hly hy hb0 hb1 hF;simp [w9] at hF
 | succ n ih =>
  intro S Hy nb nt yield0 idy c0 i0 c1 i1 s0 res hN hNt hC hly hy hb0 hb1 hF
  unfold w9 at hF
  refine zt Tryz.func78 rfl (by kernel_rfl) (env:=[.yld idy,.ptr i0 0,.ptr i1 0,za,za,za,za,za,za,za,za,za,za,za,za,za,za,za,za,za,za,za,za,za,za,za,za,za,za,za,za,za,za,za,za,za,za,za,za,za,za,za,za,za,za,za,za,za]) (by rfl) ?_
  have hly2:∀ k,idy < nb+k:=fun k=>Nat.lt_of_lt_of_le hly (Nat.le_add_right _ _)
  have hli0:=blk_lt (hb0 s0) (hN s0)
  have hli0b:∀ k,i0 < nb+k:=fun k=>Nat.lt_of_lt_of_le hli0 (Nat.le_add_right _ _)
  have hli1:=blk_lt (hb1 s0) (hN s0)
  have hli1b:∀ k,i1 < nb+k:=fun k=>Nat.lt_of_lt_of_le hli1 (Nat.le_add_right _ _)
  refine zk (zd ?_)
  refine zc rfl (n_box (hN _) (n:=0) rfl yq (zb rfl) rfl rfl) wa ?_
  refine ze (zj (zk (zd ?_)))
  refine zc rfl (b_load rfl ty23 yF (hb0 _) (zr rfl) (zb rfl)) yJ ?_
  refine ya rfl (zS rfl rfl rfl rfl xl yD yb) yN fun hn1=>?_
  replace hn1:=xB hn1
  refine zc rfl (zf rfl rfl (zb rfl)) yX ?_
  refine ze (zj (zR ?_))
  refine yu (fun (n1:Nat) (s1:S)=>yQ [0,1,4,5,6,7,8,9,13,14,15,16,17,18,19,20,21,22,23,24,25,26,27,28,29,30,31,32,33,34,35,36,37,38,39,40,41,42,43,44,45,46,47] [(12,.int .i64 (n1:Int))]) (fun s1=>(Hy s1).ext [.cells [.yld idy]] []) hF (fun _ _=>by simp only [yQ,upd,List.set_cons_succ,List.set_cons_zero];try rfl) (wk.le (by exact (.drop (.drop (.eq (.eq (.d4 (.drop (.drop (.eq (.eq (.cons (leV.of_eq rfl) (.d16 (.d16 (.drop (.drop (.drop leL.nil))))))))))))))))) ?_
  intro n1 s1 hi1 hF
  refine zk (zd ?_)
  refine zc rfl (zy rfl yM yy rfl) y4 ?_
  refine ze (zj (zk ?_))
  refine yL yE hF (fun x1 o1 hl1 hx1 hF hK1=>?_) (fun hF=>?_)
  ·refine zK (zj (zk (zR (zk (zd ?_)))))
   refine zc rfl (xO rfl xl yD yM va (yO hx1) (GNode.row_eq _)) yZ ?_
   refine zc rfl (ye rfl ty59.choose_spec.1 yS (zH (cs':=[.str x1.name,.sl 9 (x1.leaves.map GLeaf.row),.sl 3 (x1.subs.map GNode.row)]) ty59.choose_spec.2 rfl rfl) (zb rfl)) y6 ?_
   refine zc rfl (n_alloc (hN _) (n:=1) rfl ze59 rfl) xw ?_
   refine zc rfl (n_store (hN _) (cs':=[.str x1.name,.sl 9 (x1.leaves.map GLeaf.row),.sl 3 (x1.subs.map GNode.row)]) rfl ty59.choose_spec.1 yR yY (zb rfl) rfl rfl rfl rfl rfl) rfl ?_
   refine ze (zj (zk ?_))
   refine yK [] [] trivial mixed (by kernel_rfl) ?_
   refine zq rfl rfl (b_load rfl ty24 yW (hb1 _) (zr rfl) (zb rfl)) xj ?_
   refine zQ hF (fun v37 hv37 hF=>?_)
   refine vd rfl FOk.nil (by rfl) rfl (zC rfl rfl rfl (zo xh zw) (.cons (zb rfl) .nil)) (n_own (hNt _) (T':=[(v37).length]) (ok68 hv37) (m:=0) rfl rfl) xy ?_
   refine zq rfl rfl (zg rfl fo59x0 yR rfl) xF ?_
   refine zq rfl rfl (n_load (hN _) rfl ty9 xC rfl (zr rfl) (zb rfl)) xN ?_
   refine zq rfl rfl (yr (es:=([x1.name]:List zJ).map zP) rfl wD ze9 rfl rfl (yh xL ym) (.cons (zb rfl) .nil) rfl rfl rfl) x8 ?_
   refine wJ hF (fun hm38 hF=>?_)
   refine draw_okH rfl FOk.nil (by rfl) rfl (n_appT (hNt _) (j:=0) (T':=[((v37++([x1.name]:List zJ))).length]) rfl rfl rfl rfl wD wD xq x9 (zb rfl) (zb rfl) news_osl hm38 rfl rfl) wg ?_
   refine zq rfl rfl (zi rfl wb (zb rfl)) xD ?_
   refine yo ?_
   refine zj (zk (zk (zd ?_)))
   refine zc rfl (zg rfl x6 yR rfl) wo ?_
   refine zc rfl (n_load (hN _) rfl ty57 wl rfl (zr rfl) (zb rfl)) we ?_
   refine ya rfl (zS rfl rfl rfl rfl wn x4 yb) wi fun hn39=>?_
   replace hn39:=xB hn39
   refine zc rfl (zf rfl rfl (zb rfl)) wt ?_
   refine ze (zj (zR ?_))
   refine yu (fun (n2:Nat) (s2:S)=>yQ [0,1,4,7,8,9,13,14,15,16,17,18,19,20,21,22,26,27,28,29,30,31,32,33,34,35,36,37,38,39,40,41,42,43,44,45,46,47] [(25,.int .i64 (n2:Int))]) (fun s2=>(Hy s2).ext [.cells [.yld idy],.cells [.str x1.name,.sl 9 (x1.leaves.map GLeaf.row),.sl 3 (x1.subs.map GNode.row)]] [((v37++([x1.name]:List zJ))).length]) hF (fun _ _=>by simp only [yQ,upd,List.set_cons_succ,List.set_cons_zero];try rfl) (wk.le (by exact (.drop (.drop (.eq (.eq (.drop (.eq (.eq (.drop (.drop (.drop (.eq (.eq (.eq (.d4 (.d4 (.drop (.drop (.eq (.eq (.cons (leV.of_eq rfl) (.d16 (.d4 (.drop (.drop leL.nil)))))))))))))))))))))))))) ?_
   intro n2 s2 hi2 hF
   refine zk (zd ?_)
   refine zc rfl (zy rfl wp wh rfl) wQ ?_
   refine ze (zj (zk ?_))
   refine yL wO hF (fun x2 o2 hl2 hx2 hF hK2=>?_) (fun hF=>?_)
   ·refine zK (zj (zk (zR (zk (zd ?_)))))
    refine zc rfl (yk rfl wn x4 wp va (yO hx2)) wY ?_
    refine zc rfl (ye rfl ty42.choose_spec.1 wU (zH (cs':=[.int .u8 x2.typ,.int .i64 x2.n,.int .u64 x2.time,.int .u8 x2.dot.actor.rep,.int .u32 x2.dot.actor.inc,.int .u64 x2.dot.seq,.str x2.text,.sl 5 (x2.items.map GItem.row),.sl 3 (x2.tombs.map GDot.row)]) ty42.choose_spec.2 rfl rfl) (zb rfl)) wX ?_
    refine zc rfl (n_alloc (hN _) (n:=2) rfl ze42 rfl) xU ?_
    refine zc rfl (n_store (hN _) (cs':=[.int .u8 x2.typ,.int .i64 x2.n,.int .u64 x2.time,.int .u8 x2.dot.actor.rep,.int .u32 x2.dot.actor.inc,.int .u64 x2.dot.seq,.str x2.text,.sl 5 (x2.items.map GItem.row),.sl 3 (x2.tombs.map GDot.row)]) rfl ty42.choose_spec.1 xp wT (zb rfl) rfl rfl rfl rfl rfl) rfl ?_
    refine ze (zj (zk ?_))
    refine yK [4] [] trivial mixed (by kernel_rfl) ?_
    refine zq rfl rfl (n_load (hN _) rfl ty116 xu rfl (zr rfl) (zb rfl)) vi ?_
    refine zq rfl rfl (zf rfl yV (zb rfl)) vh ?_
    refine zQ hF (fun v51 hv51 hF=>?_)
    refine vd rfl (FOk.cons (.inr (xX trivial)) FOk.nil) (by rfl) rfl (zC rfl rfl rfl (zo vE zw) (.cons (zb rfl) .nil)) (n_own (hNt _) (T':=[((v37++([x1.name]:List zJ))).length,(v51).length]) ((ok68 hv51).le (.cons (leV.osl _ _ _) leL.nil)) (m:=1) rfl rfl) vg ?_
    refine zq rfl rfl (n_load (hN _) rfl ty42.choose_spec.1 xp rfl (zH (cs':=[.int .u8 x2.typ,.int .i64 x2.n,.int .u64 x2.time,.int .u8 x2.dot.actor.rep,.int .u32 x2.dot.actor.inc,.int .u64 x2.dot.seq,.str x2.text,.sl 5 (x2.items.map GItem.row),.sl 3 (x2.tombs.map GDot.row)]) ty42.choose_spec.2 rfl rfl) (zb rfl)) vz ?_
    refine zQ hF (fun v52 hv52 hF=>?_)
    refine yv rfl rfl (fun _=>zC rfl rfl rfl (zo vk zw) (.cons (zb rfl) .nil)) (by rintro _ ⟨B2,T2,rfl,hk2⟩;exact ok69 hv52) vw ?_
    refine zq rfl rfl (qu (cs':=[.osl (some (nt+1)) 1 (v51.map zP),.int .u8 v52.typ,.int .i64 v52.n,.int .u64 v52.time,.int .u8 v52.dot.actor.rep,.int .u32 v52.dot.actor.inc,.int .u64 v52.dot.seq,.str v52.text,.sl 5 (v52.items.map GItem.row),.sl 3 (v52.tombs.map GDot.row)]) rfl su64 ze64 pl64 (yh vl (yh vD ym)) (.cons (zb rfl) (.cons (zb rfl) .nil)) rfl rfl) vu ?_
    refine zQ hF (fun v53 hv53 hF=>?_)
    refine draw_round rfl (FOk.cons (.inl (by kernel_rfl)) FOk.nil) (by kernel_rfl) rfl (s_yield rfl rfl vm (zo vj zw) (.cons (zb rfl) .nil)) ((hy _ _ _ _ _ _ hv53).le (.cons (leV.agg (.cons (leV.osl _ _ _) (.eq (.eq (.eq (.eq (.eq (.eq (.eq (.eq (.eq leL.nil)))))))))) rfl) leL.nil)) vt ?_
    refine zq rfl rfl (xT rfl vC rfl) vf ?_
    refine yo ?_
    refine zj ?_
    refine zN vb hF (fun hc54 hF=>?_) (fun hc54 hF=>?_)
    ·refine zI ?_
     refine zG ?_
     refine zx ?_
     refine yd ?_
     obtain rfl:=Option.some.inj hF
     replace hF:=hK2
     refine zG ?_
     refine zx ?_
     refine zG ?_
     refine zx ?_
     refine yd ?_
     obtain rfl:=Option.some.inj hF
     replace hF:=hK1
     refine zG ?_
     obtain rfl:=Option.some.inj hF
     refine q_retL0 rfl zF (fin_exts (hN _) (hNt _) (hN _) (hNt _) (hC _) (leV.refl _) rfl ?_)
     exact ⟨rfl,rfl⟩
    ·refine zK (yg (zj (zd ?_)))
     refine zc rfl (zy rfl wp rfl rfl) vr ?_
     refine zc rfl (zf rfl vB (zb rfl)) wt ?_
     refine ze (yH ?_)
     obtain rfl:=Option.some.inj hF
     exact ⟨v53.2,hl2,hK2,wk.trans (wk.le (by exact (.drop (.drop (.eq (.eq (.drop (.eq (.eq (.drop (.drop (.drop (.eq (.eq (.eq (.d4 (.d4 (.drop (.drop (.eq (.eq (.cons (leV.of_eq (ve (by omega) (by omega))) (.d16 (.d4 (.drop (.drop leL.nil)))))))))))))))))))))))))) (wk_ext3s (hN _) (hNt _) (hN _) (hNt _) (hC _) (by simp [yi,AV.low,hly,hly2,hli0,hli0b,hli1,hli1b]) rfl rfl (by simp [Blk.low,yi,AV.low,hly,hly2,hli0,hli0b,hli1,hli1b]))⟩
   ·refine yU ?_
    refine zZ ?_
    refine zW ?_
    refine zX ?_
    refine zj (zk (zd ?_))
    refine zc rfl (zg rfl fo59x2 yR rfl) vN ?_
    refine zc rfl (n_load (hN _) rfl ty23 vQ rfl (zr rfl) (zb rfl)) vM ?_
    refine zc rfl (zf rfl yV (zb rfl)) (sk st0) ?_
    refine zQ hF (fun v55 hv55 hF=>?_)
    refine ops_callH rfl (zC rfl rfl rfl (zo vJ (zo (gk yq) zw)) (.cons (zb rfl) (.cons (zb rfl) .nil))) (clo_ext (hN _) (n:=2) (B':=[.cells [.yld idy],.cells [.str x1.name,.sl 9 (x1.leaves.map GLeaf.row),.sl 3 (x1.subs.map GNode.row)],.cells [.sl 3 (v55.1.map GNode.row)],.cells [.sl 1 (v55.2.map zP)]]) (caps:=[.ptr (nb+2) 0,.ptr (nb+3) 0]) ((ok42 hv55).le (.eq (.cons (leV.osl _ _ _) leL.nil))) rfl rfl rfl) (sk st1) ?_
    refine ze (zj (zR ?_))
    refine r_range (fun (s3:S)=>(Hy s3)) (fun (s3:S)=>[.cells [.yld idy],.cells [.str x1.name,.sl 9 (x1.leaves.map GLeaf.row),.sl 3 (x1.subs.map GNode.row)],.cells [.sl 3 (v55.1.map GNode.row)],.cells [.sl 1 (v55.2.map zP)]]) (fun (s3:S)=>[((v37++([x1.name]:List zJ))).length]) s2 hF (wk.le (by exact (.drop (.drop (.eq (.eq (.d4 (.drop (.drop (.eq (.eq (.eq (.d16 (.d4 (.d4 (.d4 (.eq (.d4 (.drop (.drop leL.nil)))))))))))))))))))) (fun _=>(hN _)) rfl rfl rfl (fun _=>rfl) rfl (gk yF) rfl (fun lp3 hlp3 r3 hr3q=>?_) (fun s3 H1 hH hF=>?_) (fun j3 s3 H1 hH hF=>?_)
    ·have hlowlp3:∀ q1 q2,(lp3 q1 q2).low (nb+5) (nt+1)=true:=by intro q1 q2;rw [hlp3];simp [Blk.low,yi,AV.low,hly,hly2,hli0,hli0b,hli1,hli1b]
     refine Spec.mono (ih (Hy:=(fam (fun (s3:S)=>(Hy s3)) (fun (s3:S)=>[.cells [.yld idy],.cells [.str x1.name,.sl 9 (x1.leaves.map GLeaf.row),.sl 3 (x1.subs.map GNode.row)],.cells [.sl 3 (v55.1.map GNode.row)],.cells [.sl 1 (v55.2.map zP)]]) (fun (s3:S)=>[((v37++([x1.name]:List zJ))).length]) lp3)) (nb:=nb+5) (nt:=nt+1) (fun _=>by simp only [fam];rw [ext_len (hN _)];rfl) (fun _=>by simp only [fam];rw [ext_tlen (hNt _)];rfl) (fun _=>closed_ext (hC _) (Nat.le_add_right _ _) (Nat.le_add_right _ _) (by simp only [List.all_append,List.all_cons,List.all_nil,Bool.and_true,List.length_cons,List.length_nil,Nat.reduceAdd,Nat.zero_add,hlowlp3] <;> simp [Blk.low,yi,AV.low,hly,hly2,hli0,hli0b,hli1,hli1b])) (Nat.lt_succ_self _) (y_body hlp3 (xs:=fun (x:GRow)=>[.agg [.sl 1 (x.path.map zP),.int .u8 x.leaf.typ,.int .i64 x.leaf.n,.int .u64 x.leaf.time,.int .u8 x.leaf.dot.actor.rep,.int .u32 x.leaf.dot.actor.inc,.int .u64 x.leaf.dot.seq,.str x.leaf.text,.sl 5 (x.leaf.items.map GItem.row),.sl 3 (x.leaf.tombs.map GDot.row)]]) (fun _=>(hN _)) (fun _=>rfl) rfl (fun _=>rfl) (fun _=>by simp only [setL,List.set_cons_succ,List.set_cons_zero];try rfl) (fun s3 x3 o3 L3 M3 H1 hH hF=>?_)) (fun _=>by simp only [fam];exact n_blk (j:=2) (hN _) rfl) (fun _=>by simp only [fam];exact n_blk (j:=3) (hN _) rfl) hr3q) (fun _ _ h=>h.2)
     obtain rfl:H1=(((Hy s3).ext ([.cells [.yld idy],.cells [.str x1.name,.sl 9 (x1.leaves.map GLeaf.row),.sl 3 (x1.subs.map GNode.row)],.cells [.sl 3 (v55.1.map GNode.row)],.cells [.sl 1 (v55.2.map zP)]]++[lp3 .ready none]) [((v37++([x1.name]:List zJ))).length]).ext L3 M3).ext [] []:=hH
     refine zd ?_
     refine zc rfl (n_alloc (deep_len (hN _) rfl) (n:=0) rfl ze64 rfl) wy ?_
     refine zc rfl (n_store (deep_len (hN _) rfl) (cs':=[.sl 1 (x3.path.map zP),.int .u8 x3.leaf.typ,.int .i64 x3.leaf.n,.int .u64 x3.leaf.time,.int .u8 x3.leaf.dot.actor.rep,.int .u32 x3.leaf.dot.actor.inc,.int .u64 x3.leaf.dot.seq,.str x3.leaf.text,.sl 5 (x3.leaf.items.map GItem.row),.sl 3 (x3.leaf.tombs.map GDot.row)]) rfl ty64.choose_spec.1 xQ (gk yW) (zb rfl) rfl rfl rfl rfl rfl) rfl ?_
     refine ze ?_
     refine q_assign (hN _) rfl ?_
     refine zR (zk (zd ?_))
     refine zc rfl (d_load (hN _) rfl ty116 xu rfl (zr rfl) (zb rfl)) (sk wa) ?_
     refine zc rfl (n_load (deep_len (hN _) rfl) rfl ty64.choose_spec.1 xQ rfl (zH (cs':=[.sl 1 (x3.path.map zP),.int .u8 x3.leaf.typ,.int .i64 x3.leaf.n,.int .u64 x3.leaf.time,.int .u8 x3.leaf.dot.actor.rep,.int .u32 x3.leaf.dot.actor.inc,.int .u64 x3.leaf.dot.seq,.str x3.leaf.text,.sl 5 (x3.leaf.items.map GItem.row),.sl 3 (x3.leaf.tombs.map GDot.row)]) ty64.choose_spec.2 rfl rfl) (zb rfl)) (sk yC) ?_
     refine zQ hF (fun v64 hv64 hF=>?_)
     refine ops_round rfl (s_yield rfl rfl (gk xu) (zo (gk yx) zw) (.cons (zb rfl) .nil)) (SpecY.deep fun A B=>hy _ _ _ _ A B hv64) (sk xw) ?_
     refine zc rfl (xT rfl (gk yR) rfl) (sk xD) ?_
     refine ze (zj ?_)
     refine zN (gk yV) hF (fun hc65 hF=>?_) (fun hc65 hF=>?_)
     ·refine zI ?_
      refine zG ?_
      obtain rfl:=Option.some.inj hF
      exact q_roundR (hC _) (hN _) (hNt _) (hN _) (hNt _) rfl rfl rfl rfl rfl rfl rfl (by simp only [List.all_append,List.all_cons,List.all_nil,Bool.and_true,List.length_cons,List.length_nil,Nat.reduceAdd,Nat.zero_add,hlowlp3] <;> simp [Blk.low,yi,AV.low,hly,hly2,hli0,hli0b,hli1,hli1b])
     ·refine zK (yg ?_)
      obtain rfl:=Option.some.inj hF
      exact q_roundN (hC _) (hN _) (hNt _) (hN _) (hNt _) rfl rfl rfl rfl rfl rfl rfl (by simp only [List.all_append,List.all_cons,List.all_nil,Bool.and_true,List.length_cons,List.length_nil,Nat.reduceAdd,Nat.zero_add,hlowlp3] <;> simp [Blk.low,yi,AV.low,hly,hly2,hli0,hli0b,hli1,hli1b])
    ·obtain rfl:H1=(Hy s3).ext [.cells [.yld idy],.cells [.str x1.name,.sl 9 (x1.leaves.map GLeaf.row),.sl 3 (x1.subs.map GNode.row)],.cells [.sl 3 (v55.1.map GNode.row)],.cells [.sl 1 (v55.2.map zP)],.dead] [((v37++([x1.name]:List zJ))).length]:=hH
     refine yg (yg (zj (zd ?_)))
     refine zc rfl (zy rfl yM rfl rfl) (sk xM) ?_
     refine zc rfl (zf rfl (gk xE) (zb rfl)) yX ?_
     refine ze (yH ?_)
     obtain rfl:=Option.some.inj hF
     exact ⟨s3,hl1,hK1,wk.trans (wk.le (by exact (.drop (.drop (.eq (.eq (.d4 (.drop (.drop (.eq (.eq (.cons (leV.of_eq (ve (by omega) (by omega))) (.d16 (.d16 (.drop (.drop (.drop leL.nil))))))))))))))))) (wk_ext3s (hN _) (hNt _) (hN _) (hNt _) (hC _) (by simp [yi,AV.low,hly,hly2,hli0,hli0b,hli1,hli1b]) rfl rfl (by simp [Blk.low,yi,AV.low,hly,hly2,hli0,hli0b,hli1,hli1b]))⟩
    ·obtain rfl:H1=(Hy s3).ext [.cells [.yld idy],.cells [.str x1.name,.sl 9 (x1.leaves.map GLeaf.row),.sl 3 (x1.subs.map GNode.row)],.cells [.sl 3 (v55.1.map GNode.row)],.cells [.sl 1 (v55.2.map zP)],.dead] [((v37++([x1.name]:List zJ))).length]:=hH
     refine jmp1 (G:=fun j=>jumpQ _ j _ _) hF (fun hF=>?_)
     refine jmp_ret ?_
     refine zG ?_
     refine zG ?_
     refine zx ?_
     refine yd ?_
     obtain rfl:=Option.some.inj hF
     replace hF:=hK1
     refine zG ?_
     obtain rfl:=Option.some.inj hF
     refine q_retL0 rfl zF (fin_exts (hN _) (hNt _) (hN _) (hNt _) (hC _) (leV.refl _) rfl ?_)
     exact ⟨rfl,rfl⟩
  ·refine yU ?_
   refine zZ ?_
   refine zW ?_
   refine zX ?_
   refine q_end ?_
   obtain rfl:=Option.some.inj hF
   refine q_retL0 rfl zF (fin_exts (hN _) (hNt _) (hN _) (hNt _) (hC _) (leV.refl _) rfl ?_)
   exact ⟨rfl,rfl⟩
theorem ok78 {S:Type} {Hy:S→AH} {nb nt:Nat} {yield0:S→GRow→Option (Bool×S)} {idy:Nat} {c0:(List GNode)} {i0:Nat} {c1:(List zJ)} {i1:Nat} {s0:S} {res:S} (hN:∀ s,(Hy s).blks.length=nb) (hNt:∀ s,(Hy s).toks.length=nt) (hC:∀ s,(Hy s).closed nb nt) (hly:idy < nb) (hy:∀ s x b s' L M,yield0 s x=some (b,s')→SpecY Tryz.prog idy [.agg [.sl 1 (x.path.map zP),.int .u8 x.leaf.typ,.int .i64 x.leaf.n,.int .u64 x.leaf.time,.int .u8 x.leaf.dot.actor.rep,.int .u32 x.leaf.dot.actor.inc,.int .u64 x.leaf.dot.seq,.str x.leaf.text,.sl 5 (x.leaf.items.map GItem.row),.sl 3 (x.leaf.tombs.map GDot.row)]] ((Hy s).ext L M) (fun rr hh=>rr=.bool b∧hh=(Hy s').ext L M)) (hb0:∀ s,(Hy s).blk i0=some (.cells [.sl 3 (c0.map GNode.row)])) (hb1:∀ s,(Hy s).blk i1=some (.cells [.sl 1 (c1.map zP)])) (hF:pathsXrowsC1 S yield0 c0 c1 s0=some res):Spec Tryz.prog 78 [.yld idy,.ptr i0 0,.ptr i1 0] (Hy s0) (fun rr hh=>rr=.tup []∧hh=Hy res):=by
 obtain ⟨n,hn⟩:=anyN_is hF
 exact ok78N n hN hNt hC hly hy hb0 hb1 hn
/-! varve/paths.Rows -/
theorem ok22 {t0:(List GNode)} {res:(List GRow)} {h:AH}  (hF:qV t0=some res):Spec Tryz.prog 22 [.sl 3 (t0.map GNode.row)] h (fun rr hh=>rr=.sl 10 (res.map GRow.row)∧hh=h):=by
 unfold qV at hF
 refine zt Tryz.func22 rfl (by kernel_rfl) (env:=[.sl 3 (t0.map GNode.row),za,za,za,za,za,za,za,za]) (by rfl) ?_
 refine zk (zd ?_)
 refine zc rfl (zi rfl rfl (xi el61)) xg ?_
 refine ze (zj (zk (zk (zd ?_))))
 refine zc rfl (zf rfl yq (zb rfl)) wa ?_
 refine zQ hF (fun v1 hv1 hF=>?_)
 refine zL rfl (zC rfl rfl rfl (zo xu zw) (.cons (zb rfl) .nil)) (ok21 hv1) yC ?_
 refine zc rfl (xT rfl yx rfl) xw ?_
 refine ze (zj ?_)
 refine zN yR hF (fun hc2 hF=>?_) (fun hc2 hF=>?_)
 ·refine zk (zd ?_)
  refine zc rfl (zi rfl rfl (xi el61)) xg ?_
  refine ze (zj (zI (zx ?_)))
  obtain rfl:=Option.some.inj hF
  refine zz rfl (zD yW zF) (zA (leV.osl _ _ _) rfl ?_)
  exact ⟨rfl,rfl⟩
 ·refine zK (zj (zk (zd ?_)))
  refine zc rfl (zf rfl yq (zb rfl)) xD ?_
  refine zQ hF (fun v3 hv3 hF=>?_)
  refine ops_callH rfl (zC rfl rfl rfl (zo yV (zo rfl zw)) (.cons (zb rfl) (.cons (xi wD) .nil))) (clo_ext rfl (n:=0) (B':=[.cells [.sl 3 (v3.1.map GNode.row)],.cells [.sl 1 (v3.2.map zP)]]) (caps:=[.ptr (h.blks.length+0) 0,.ptr (h.blks.length+1) 0]) ((ok42 hv3).le (.eq (.cons (leV.osl _ _ _) leL.nil))) rfl rfl rfl) xM ?_
  refine zQ hF (fun v4 hv4 hF=>?_)
  refine zL rfl (zC rfl rfl rfl (zo xE zw) (.cons (zb rfl) .nil)) (ok41 (fun S Hy nb nt hN hNt hC hE y idy hly hy s s' hF=>ok78 hN hNt hC hly hy (fun s=>by obtain ⟨L,M,e⟩:=hE s;rw [e];exact n_blk2 (j:=0) rfl rfl) (fun s=>by obtain ⟨L,M,e⟩:=hE s;rw [e];exact n_blk2 (j:=1) rfl rfl) hF) hv4) xU ?_
  refine zc rfl (zi rfl xp (zb rfl)) xg ?_
  refine ze (zj (zI ?_))
  obtain rfl:=Option.some.inj hF
  refine zz rfl (zD yW zF) (zA (leV.refl _) rfl ?_)
  exact ⟨rfl,rfl⟩
/-! strings.Join -/
def joinTryzRen:Go.Shelf.Ren :=
  { f:=fun x=>match x with
      | 156=>43
      | 165=>79
      | 166=>80
      | 169=>81
      | 240=>98
      | 241=>99
      | 276=>125
      | 277=>126
      | n=>n
    t:=fun x=>match x with
      | 0=>0
      | 3=>3
      | 4=>4
      | 9=>9
      | 20=>20
      | 31=>24
      | 37=>82
      | 70=>117
      | 72=>119
      | 75=>122
      | 76=>123
      | 127=>139
      | 164=>158
      | 5=>5
      | 80=>125
      | n=>n
    g:=fun n=>n }
theorem joinTryzLays:Go.Proofs.Lays.n156 Tryz.prog joinTryzRen where
  mixed:=mixed
  f156:=Tryz.func43.trans (by kernel_rfl)
  f165:=Tryz.func79.trans (by kernel_rfl)
  f166:=Tryz.func80.trans (by kernel_rfl)
  f169:=Tryz.func81.trans (by kernel_rfl)
  f240:=Tryz.func98.trans (by kernel_rfl)
  f241:=Tryz.func99.trans (by kernel_rfl)
  f276:=Tryz.func125.trans (by kernel_rfl)
  f277:=Tryz.func126.trans (by kernel_rfl)
  t0:=Tryz.underlying0
  a0:=Tryz.isAgg0
  z0:=Tryz.sizeOf0
  v0:=Tryz.zeroValue0
  t3:=Tryz.underlying3
  a3:=Tryz.isAgg3
  z3:=Tryz.sizeOf3
  v3:=Tryz.zeroValue3
  t4:=Tryz.underlying4
  a4:=Tryz.isAgg4
  z4:=Tryz.sizeOf4
  v4:=Tryz.zeroValue4
  t9:=Tryz.underlying9
  a9:=Tryz.isAgg9
  z9:=Tryz.sizeOf9
  v9:=Tryz.zeroValue9
  t20:=Tryz.underlying20
  a20:=Tryz.isAgg20
  z20:=Tryz.sizeOf20
  v20:=Tryz.zeroValue20
  t31:=Tryz.underlying24
  a31:=Tryz.isAgg24
  z31:=Tryz.sizeOf24
  v31:=Tryz.zeroValue24
  t37:=Tryz.underlying82
  a37:=Tryz.isAgg82
  z37:=Tryz.sizeOf82
  v37:=Tryz.zeroValue82
  t70:=Tryz.underlying117
  a70:=Tryz.isAgg117
  z70:=Tryz.sizeOf117
  v70:=Tryz.zeroValue117
  t72:=Tryz.underlying119
  a72:=Tryz.isAgg119
  z72:=Tryz.sizeOf119
  v72:=Tryz.zeroValue119
  t75:=Tryz.underlying122
  a75:=Tryz.isAgg122
  z75:=Tryz.sizeOf122
  v75:=Tryz.zeroValue122
  t76:=Tryz.underlying123
  a76:=Tryz.isAgg123
  z76:=Tryz.sizeOf123
  v76:=Tryz.zeroValue123
  t127:=Tryz.underlying139
  a127:=Tryz.isAgg139
  z127:=Tryz.sizeOf139
  v127:=Tryz.zeroValue139
  t164:=Tryz.underlying158
  a164:=Tryz.isAgg158
  z164:=Tryz.sizeOf158
  v164:=Tryz.zeroValue158
theorem joinTryzExtra:Go.Proofs.Builder.Extra Tryz.prog joinTryzRen where
  sizeBuilder:=by kernel_rfl
  liesBuilder:=by kernel_rfl
  t5:=Tryz.underlying5
  a5:=Tryz.isAgg5
  z5:=Tryz.sizeOf5
  v5:=Tryz.zeroValue5
  infoByte:=by kernel_rfl
  cellsByte:=by kernel_rfl
  sizeByte:=by kernel_rfl
  neB5:=by decide
theorem ok43 {p0:List zJ} {p1:zJ} {res:zJ} {h:AH} (hF:stringsJoin p0 p1=some res):Spec Tryz.prog 43 [.sl 1 (p0.map zP),.str p1] h (fun rr hh=>rr=.str res∧hh=h) :=
 spec_join joinTryzLays joinTryzExtra hF
/-! varve/diff.key -/
theorem ok23 {path0:(List zJ)} {kind1:Int} {res:zJ} {h:AH}  (hF:vW path0 kind1=some res):Spec Tryz.prog 23 [.sl 1 (path0.map zP),.int .u8 kind1] h (fun rr hh=>rr=.str res∧hh=h):=by
 unfold vW at hF
 refine zt Tryz.func23 rfl (by kernel_rfl) (env:=[.sl 1 (path0.map zP),.int .u8 kind1,za,za,za,za,za,za,za,za,za,za]) (by rfl) ?_
 refine zk (zd ?_)
 refine zc rfl (zi rfl rfl (zb rfl)) yC ?_
 refine ze (zj (zk ?_))
 refine yK [1] [] trivial mixed (by kernel_rfl) ?_
 refine zq rfl rfl (zf rfl yq (zb rfl)) xw ?_
 refine zQ hF (fun v1 hv1 hF=>?_)
 refine yv rfl rfl (fun _=>zC rfl rfl rfl (zo yR (zo rfl zw)) (.cons (zb rfl) (.cons (zb rfl) .nil))) (by rintro _ ⟨B2,T2,rfl,hk2⟩;exact ok43 hv1) xD ?_
 refine wJ hF (fun hm2 hF=>?_)
 refine zq rfl rfl (zy rfl yV rfl (if_pos hm2)) xM ?_
 refine zq rfl rfl (zf rfl yF (zb rfl)) xU ?_
 refine wJ hF (fun hm3 hF=>?_)
 refine zq rfl rfl (yr (es:=([(UInt8.ofNat kind1.toNat)]:List UInt8).map byteRow) rfl el82 ze5 rfl rfl (yh xp ym) (.cons (zb rfl) .nil) rfl rfl (by simp only [List.map_cons,List.map_nil,byteRow,byte_of hm3];rfl)) wy ?_
 refine wJ hF (fun hm4 hF=>?_)
 refine draw_b rfl rfl rfl (convB rfl el82.u ty5.u ty9.u xQ (.inr ⟨_,zb rfl⟩) hm4) yJ ?_
 refine wJ hF (fun hm5 hF=>?_)
 refine zq rfl rfl (zy rfl xE yD (if_pos hm5)) yN ?_
 refine zq rfl rfl (zi rfl yy (zb rfl)) yC ?_
 refine yo ?_
 refine zj (zI ?_)
 obtain rfl:=Option.some.inj hF
 refine zz rfl (zD yx zF) (zA (leV.refl _) rfl ?_)
 exact ⟨rfl,rfl⟩
end Go.Vv
