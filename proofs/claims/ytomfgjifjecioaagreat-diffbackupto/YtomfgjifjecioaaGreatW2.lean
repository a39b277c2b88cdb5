/- Each function that the law reaches computes what its reading says; printed by a program. -/
import Derived.Test.YtomfgjifjecioaaGreatW1
namespace Go.Vv
open Go Go.Proofs
set_option maxRecDepth 100000
set_option maxHeartbeats 1000000
set_option linter.unusedSimpArgs false
set_option linter.unusedVariables false
/-! varve/leaf.May -/
theorem ok63 {l0:GLeaf} {res:Bool} {h:AH}  (hF:leafMay l0=some res):Spec Tryz.prog 63 [.agg [.int .u8 l0.typ,.int .i64 l0.n,.int .u64 l0.time,.int .u8 l0.dot.actor.rep,.int .u32 l0.dot.actor.inc,.int .u64 l0.dot.seq,.str l0.text,.sl 5 (l0.items.map GItem.row),.sl 3 (l0.tombs.map GDot.row)]] h (fun rr hh=>rr=.bool res∧hh=h):=by
 unfold leafMay at hF
 refine zt Tryz.func63 rfl (by kernel_rfl) (env:=[.agg [.int .u8 l0.typ,.int .i64 l0.n,.int .u64 l0.time,.int .u8 l0.dot.actor.rep,.int .u32 l0.dot.actor.inc,.int .u64 l0.dot.seq,.str l0.text,.sl 5 (l0.items.map GItem.row),.sl 3 (l0.tombs.map GDot.row)],za,za,za,za,za,za,za,za,za,za,za,za,za,za,za,za,za,za,za,za,za,za,za,za,za,za,za,za,za,za,za,za,za,za,za,za,za,za,za,za,za,za,za,za,za,za,za,za,za,za,za,za,za,za,za,za,za,za,za,za,za,za,za,za,za,za,za,za,za,za,za,za,za,za,za,za,za,za,za,za,za,za,za,za,za,za,za,za]) (by rfl) ?_
 refine zk (zd ?_)
 refine zc rfl (xq (n:=0) rfl yr (zb rfl) rfl rfl) st1 ?_
 refine zc rfl (zi rfl rfl (zb rfl)) xe ?_
 refine ze (zj (zk (zd ?_)))
 refine zc rfl (zg rfl xV yE rfl) yz ?_
 refine zc rfl (zu rfl ty5 ym rfl (zr rfl) (zb rfl)) xy ?_
 refine zc rfl (ql (cs':=[.int .u8 l0.typ,.int .i64 (0:Int),.int .u64 (0:Int),.int .u8 (0:Int),.int .u32 (0:Int),.int .u64 (0:Int),.str ([]:zH),.osl none 5 (([]:List GItem).map GItem.row),.osl none 3 (([]:List GDot).map GDot.row)]) rfl su45 ze45 pl45 (yg yM yl) (.cons (zb rfl) .nil) rfl rfl) xF ?_
 refine zc rfl (xc (n:=1) rfl ze45 rfl) wd ?_
 refine zc rfl (ye (cs':=[.int .u8 l0.typ,.int .i64 (0:Int),.int .u64 (0:Int),.int .u8 (0:Int),.int .u32 (0:Int),.int .u64 (0:Int),.str ([]:zH),.osl none 5 (([]:List GItem).map GItem.row),.osl none 3 (([]:List GDot).map GDot.row)]) rfl ty45.choose_spec.1 xw yU (zb rfl) rfl rfl rfl rfl rfl) rfl ?_
 refine ze (zj (zk (zk (zd ?_))))
 refine zc rfl (zg rfl xV yE rfl) xJ ?_
 refine zc rfl (zu rfl ty5 xC rfl (zr rfl) (zb rfl)) xP ?_
 refine ze (zj (zQ (zk (zd ?_))))
 refine zc rfl (zy rfl xl rfl rfl) yI ?_
 refine zc rfl (zi rfl yB (zb rfl)) ww ?_
 refine ze (zj ?_)
 refine zN xQ hF (fun hc1 hF=>?_) (fun hc1 hF=>?_)
 ·refine zd ?_
  refine zc rfl (zg rfl fo45x1 yE rfl) yN ?_
  refine zc rfl (zu rfl ty2 yA rfl (zr rfl) (zb rfl)) yS ?_
  refine zc rfl (zg rfl fo45x1 xw rfl) yV ?_
  refine zc rfl (ye (cs':=[.int .u8 l0.typ,.int .i64 l0.n,.int .u64 (0:Int),.int .u8 (0:Int),.int .u32 (0:Int),.int .u64 (0:Int),.str ([]:zH),.osl none 5 (([]:List GItem).map GItem.row),.osl none 3 (([]:List GDot).map GDot.row)]) rfl ty2 yD yP (zb rfl) rfl rfl rfl rfl rfl) rfl ?_
  refine ze (yh (zj (zk (zd ?_))))
  refine zc rfl (zu rfl ty45.choose_spec.1 yE rfl (zI (cs':=[.int .u8 l0.typ,.int .i64 l0.n,.int .u64 l0.time,.int .u8 l0.dot.actor.rep,.int .u32 l0.dot.actor.inc,.int .u64 l0.dot.seq,.str l0.text,.sl 5 (l0.items.map GItem.row),.sl 3 (l0.tombs.map GDot.row)]) ty45.choose_spec.2 rfl rfl) (zb rfl)) (sk (sk xF)) ?_
  refine zc rfl (zu rfl ty45.choose_spec.1 xw rfl (zI (cs':=[.int .u8 l0.typ,.int .i64 l0.n,.int .u64 (0:Int),.int .u8 (0:Int),.int .u32 (0:Int),.int .u64 (0:Int),.str ([]:zH),.osl none 5 (([]:List GItem).map GItem.row),.osl none 3 (([]:List GDot).map GDot.row)]) ty45.choose_spec.2 rfl rfl) (zb rfl)) (sk (sk xJ)) ?_
  refine zO hF (fun v2 hv2 hF=>?_)
  refine zL rfl (zC rfl rfl rfl (zo (gk (gk yU)) (zo (gk (gk xC)) zw)) (.cons (zb rfl) (.cons (zb rfl) .nil))) ((ok21 hv2).le (.eq (.cons (leV.agg (.eq (.eq (.eq (.eq (.eq (.eq (.eq (.cons (leV.osl _ _ _) (.cons (leV.osl _ _ _) leL.nil))))))))) rfl) leL.nil))) (sk (sk xP)) ?_
  refine zc rfl (zi rfl (gk (gk xl)) (zb rfl)) xe ?_
  refine ze (zj (zJ ?_))
  obtain rfl:=Option.some.inj hF
  refine zz rfl (zD yW zF) (zA (leV.refl _) rfl ?_)
  exact ⟨rfl,rfl⟩
 ·refine zk (zd ?_)
  refine zc rfl (zy rfl xl rfl rfl) y8 ?_
  refine zc rfl (zi rfl yT (zb rfl)) y4 ?_
  refine ze (zj ?_)
  refine zN yX hF (fun hc3 hF=>?_) (fun hc3 hF=>?_)
  ·refine zk ?_
   refine yJ [3,5] [(3,[(0,.cells [.int .u8 l0.typ,.int .i64 l0.n,.int .u64 l0.time,.int .u8 l0.dot.actor.rep,.int .u32 l0.dot.actor.inc,.int .u64 l0.dot.seq,.str l0.text,.sl 5 (l0.items.map GItem.row),.sl 3 (l0.tombs.map GDot.row)])]),(5,[(0,.cells [.int .u8 l0.typ,.int .i64 l0.n,.int .u64 l0.time,.int .u8 l0.dot.actor.rep,.int .u32 l0.dot.actor.inc,.int .u64 l0.dot.seq,.str l0.text,.sl 5 (l0.items.map GItem.row),.sl 3 (l0.tombs.map GDot.row)])])] ⟨⟨rfl,trivial⟩,⟨rfl,trivial⟩,trivial⟩ mixed (by kernel_rfl) ?_
   refine zq rfl rfl (zg rfl fo45x2 yE rfl) xg ?_
   refine zq rfl rfl (zu rfl qW xf rfl (zr rfl) (zb rfl)) xr ?_
   refine zq rfl rfl (zg rfl fo45x3 yE rfl) xD ?_
   refine draw_okN rfl rfl (by rintro _ ⟨B2,T2,rfl,hk2⟩;exact zu rfl ty41.choose_spec.1 xB (keeps1 hk2) (zI (cs':=[.int .u8 l0.dot.actor.rep,.int .u32 l0.dot.actor.inc,.int .u64 l0.dot.seq]) ty41.choose_spec.2 rfl rfl) (zb rfl)) xK ?_
   refine zq rfl rfl (zg rfl fo45x4 yE rfl) x4 ?_
   refine draw_okN rfl rfl (by rintro _ ⟨B2,T2,rfl,hk2⟩;exact zu rfl ty9 x5 (keeps1 hk2) (zr rfl) (zb rfl)) x9 ?_
   refine zq rfl rfl (zg rfl fo45x2 xw rfl) wl ?_
   refine xa rfl (FOk.cons (.inr (xU ⟨rfl,trivial⟩)) (FOk.cons (.inr (xU ⟨rfl,trivial⟩)) FOk.nil)) (by kernel_rfl) rfl (ye (cs':=[.int .u8 l0.typ,.int .i64 (0:Int),.int .u64 l0.time,.int .u8 (0:Int),.int .u32 (0:Int),.int .u64 (0:Int),.str ([]:zH),.osl none 5 (([]:List GItem).map GItem.row),.osl none 3 (([]:List GDot).map GDot.row)]) rfl qW wi xp (zb rfl) rfl rfl rfl rfl rfl) rfl ?_
   refine zq rfl rfl (zg rfl fo45x3 xw rfl) x8 ?_
   refine xa rfl (FOk.cons (.inr (xU ⟨rfl,trivial⟩)) (FOk.cons (.inr (xU ⟨rfl,trivial⟩)) FOk.nil)) (by kernel_rfl) rfl (ye (cs':=[.int .u8 l0.typ,.int .i64 (0:Int),.int .u64 l0.time,.int .u8 l0.dot.actor.rep,.int .u32 l0.dot.actor.inc,.int .u64 l0.dot.seq,.str ([]:zH),.osl none 5 (([]:List GItem).map GItem.row),.osl none 3 (([]:List GDot).map GDot.row)]) rfl ty41.choose_spec.1 xX xI (zb rfl) rfl rfl rfl rfl rfl) rfl ?_
   refine zq rfl rfl (zg rfl fo45x4 xw rfl) we ?_
   refine xa rfl (FOk.cons (.inr (xU ⟨rfl,trivial⟩)) (FOk.cons (.inr (xU ⟨rfl,trivial⟩)) FOk.nil)) (by kernel_rfl) rfl (ye (cs':=[.int .u8 l0.typ,.int .i64 (0:Int),.int .u64 l0.time,.int .u8 l0.dot.actor.rep,.int .u32 l0.dot.actor.inc,.int .u64 l0.dot.seq,.str l0.text,.osl none 5 (([]:List GItem).map GItem.row),.osl none 3 (([]:List GDot).map GDot.row)]) rfl ty9 wa x6 (zb rfl) rfl rfl rfl rfl rfl) rfl ?_
   refine yo ?_
   refine zj (zk (zd ?_))
   refine zc rfl (zg rfl fo45x2 yE rfl) wo ?_
   refine zc rfl (zu rfl qW wm rfl (zr rfl) (zb rfl)) wK ?_
   refine zc rfl (zy rfl wI rfl rfl) wR ?_
   refine zc rfl (zf rfl wV (zb rfl)) wQ ?_
   refine zp rfl (fun hb=>zg rfl fo45x2 yE rfl) w9 ?_
   refine zp rfl (fun hb=>zu rfl qW (zn vb hb) rfl (zr rfl) (zb rfl)) w8 ?_
   refine yQ hF (fun v4 hv4 hF=>?_)
   refine yj rfl (fun hb=>zC rfl rfl rfl (zo (zn vm hb) zw) (.cons (zb rfl) .nil)) (fun hb=>ok89 (hv4 hb)) vh ?_
   refine zp rfl (fun hb=>zf rfl (zn vl hb) (zb rfl)) vz ?_
   refine zp (z7 rfl rfl rfl) (fun hb=>zg rfl fo45x3 yE rfl) vw ?_
   refine zp (z7 rfl rfl rfl) (fun hb=>zu rfl ty41.choose_spec.1 (zn vC hb) rfl (zI (cs':=[.int .u8 l0.dot.actor.rep,.int .u32 l0.dot.actor.inc,.int .u64 l0.dot.seq]) ty41.choose_spec.2 rfl rfl) (zb rfl)) vu ?_
   refine yQ hF (fun v5 hv5 hF=>?_)
   refine yj (z7 rfl rfl rfl) (fun hb=>zC rfl rfl rfl (zo (zn vj hb) zw) (.cons (zb rfl) .nil)) (fun hb=>ok90 (hv5 hb)) vt ?_
   refine zp rfl (fun hb=>zM rfl (zn vk hb) vB rfl (zX (fun ht=>gT2 hb ht))) vg ?_
   refine zp rfl (fun hb=>zf rfl (zn va hb) (zb rfl)) vr ?_
   refine zp (z7 rfl rfl rfl) (fun hb=>zg rfl fo45x4 yE rfl) vK ?_
   refine zp (z7 rfl rfl rfl) (fun hb=>zu rfl ty9 (zn vO hb) rfl (zr rfl) (zb rfl)) vJ ?_
   refine yQ hF (fun v6 hv6 hF=>?_)
   refine yj (z7 rfl rfl rfl) (fun hb=>zC rfl rfl rfl (zo (zn vG hb) zw) (.cons (zb rfl) .nil)) (fun hb=>ok91 (hv6 hb)) (sk st0) ?_
   refine zp rfl (fun hb=>zM rfl (zn vA hb) (gk yr) rfl (zX (fun ht=>gT2 hb ht))) (sk st1) ?_
   refine zp rfl (fun hb=>xT rfl (zn (gk yE) hb) rfl) (sk xe) ?_
   refine zc rfl (zM rfl wN (gk yW) rfl (zX (fun ht=>gT ht))) (sk wd) ?_
   refine zc rfl (zf rfl (gk xw) (zb rfl)) (sk yz) ?_
   refine zp rfl (fun hb=>zg rfl fo45x2 yE rfl) (sk xy) ?_
   refine zp rfl (fun hb=>zu rfl qW (zn (gk yM) hb) rfl (zr rfl) (zb rfl)) (sk xF) ?_
   refine zp rfl (fun hb=>zy rfl (zn (gk yU) hb) rfl rfl) (sk xJ) ?_
   refine zp rfl (fun hb=>zf rfl (zn (gk xC) hb) (zb rfl)) (sk xP) ?_
   refine zp (z7 rfl rfl rfl) (fun hb=>zg rfl fo45x3 yE rfl) (sk ww) ?_
   refine zp (z7 rfl rfl rfl) (fun hb=>zu rfl ty41.choose_spec.1 (zn (gk xQ) hb) rfl (zI (cs':=[.int .u8 l0.dot.actor.rep,.int .u32 l0.dot.actor.inc,.int .u64 l0.dot.seq]) ty41.choose_spec.2 rfl rfl) (zb rfl)) (sk yI) ?_
   refine zp (z7 rfl rfl rfl) (fun hb=>ql (cs':=[.int .u8 (0:Int),.int .u32 (0:Int),.int .u64 (0:Int)]) rfl su41 ze41 pl41 yl .nil rfl rfl) (sk yN) ?_
   refine zp (z7 rfl rfl rfl) (fun hb=>zy rfl (zn (gk yB) hb) (zn (gk yA) hb) (bin_ne pk41 rfl)) (sk yS) ?_
   refine zp (z7 rfl rfl rfl) (fun hb=>zf rfl (zn (gk yP) hb) (zb rfl)) (sk yV) ?_
   refine zp (z7 rfl rfl rfl) (fun hb=>zg rfl fo45x4 yE rfl) (sk y4) ?_
   refine zp (z7 rfl rfl rfl) (fun hb=>zu rfl ty9 (zn (gk yX) hb) rfl (zr rfl) (zb rfl)) (sk y8) ?_
   refine zp (z7 rfl rfl rfl) (fun hb=>zy rfl (zn (gk yT) hb) rfl rfl) (sk xg) ?_
   refine zp (z7 rfl rfl rfl) (fun hb=>zM rfl (zn (gk yD) hb) rfl (gk xf) (z8 (fun ht=>gF2 hb ht))) (sk xr) ?_
   refine zp rfl (fun hb=>zM rfl (zn (gk xl) hb) (gk xp) rfl (zX (fun ht=>gT2 hb ht))) (sk xD) ?_
   refine zc rfl (zM rfl (gk ym) rfl (gk xB) (z8 (fun ht=>gF ht))) (sk xK) ?_
   refine ze (zj ?_)
   refine zN (gk xI) hF (fun hc7 hF=>?_) (fun hc7 hF=>?_)
   ·refine zk (zd ?_)
    refine zc rfl (zi rfl rfl (zb rfl)) xe ?_
    refine ze (zj (zJ ?_))
    refine zG ?_
    refine zx ?_
    obtain rfl:=Option.some.inj hF
    refine zz rfl (zD yW zF) (zA (leV.refl _) rfl ?_)
    exact ⟨rfl,rfl⟩
   ·refine zK (yh (zj (zk (zd ?_))))
    refine zc rfl (zu rfl ty45.choose_spec.1 yE rfl (zI (cs':=[.int .u8 l0.typ,.int .i64 l0.n,.int .u64 l0.time,.int .u8 l0.dot.actor.rep,.int .u32 l0.dot.actor.inc,.int .u64 l0.dot.seq,.str l0.text,.sl 5 (l0.items.map GItem.row),.sl 3 (l0.tombs.map GDot.row)]) ty45.choose_spec.2 rfl rfl) (zb rfl)) (sk (sk xF)) ?_
    refine zc rfl (zu rfl ty45.choose_spec.1 xw rfl (zI (cs':=[.int .u8 l0.typ,.int .i64 (0:Int),.int .u64 l0.time,.int .u8 l0.dot.actor.rep,.int .u32 l0.dot.actor.inc,.int .u64 l0.dot.seq,.str l0.text,.osl none 5 (([]:List GItem).map GItem.row),.osl none 3 (([]:List GDot).map GDot.row)]) ty45.choose_spec.2 rfl rfl) (zb rfl)) (sk (sk xJ)) ?_
    refine zO hF (fun v8 hv8 hF=>?_)
    refine zL rfl (zC rfl rfl rfl (zo (gk (gk yU)) (zo (gk (gk xC)) zw)) (.cons (zb rfl) (.cons (zb rfl) .nil))) ((ok21 hv8).le (.eq (.cons (leV.agg (.eq (.eq (.eq (.eq (.eq (.eq (.eq (.cons (leV.osl _ _ _) (.cons (leV.osl _ _ _) leL.nil))))))))) rfl) leL.nil))) (sk (sk xP)) ?_
    refine zc rfl (zi rfl (gk (gk xl)) (zb rfl)) xe ?_
    refine ze (zj (zJ ?_))
    obtain rfl:=Option.some.inj hF
    refine zz rfl (zD yW zF) (zA (leV.refl _) rfl ?_)
    exact ⟨rfl,rfl⟩
  ·refine zk (zd ?_)
   refine zc rfl (zy rfl xl rfl rfl) (sk x9) ?_
   refine zc rfl (zi rfl (gk x6) (zb rfl)) (sk x4) ?_
   refine ze (zj ?_)
   refine zN (gk x5) hF (fun hc9 hF=>?_) (fun hc9 hF=>?_)
   ·refine zk ?_
    refine yJ [3] [(3,[(0,.cells [.int .u8 l0.typ,.int .i64 l0.n,.int .u64 l0.time,.int .u8 l0.dot.actor.rep,.int .u32 l0.dot.actor.inc,.int .u64 l0.dot.seq,.str l0.text,.sl 5 (l0.items.map GItem.row),.sl 3 (l0.tombs.map GDot.row)])])] ⟨⟨rfl,trivial⟩,trivial⟩ mixed (by kernel_rfl) ?_
    refine zq rfl rfl (zg rfl xO yE rfl) (sk wl) ?_
    refine zq rfl rfl (zu rfl qU (gk wi) rfl (zr rfl) (zb rfl)) (sk x8) ?_
    refine zq rfl rfl (zg rfl wj yE rfl) (sk we) ?_
    refine draw_okN rfl rfl (by rintro _ ⟨B2,T2,rfl,hk2⟩;exact zu rfl ty43 (gk wa) (keeps1 hk2) (zr rfl) (zb rfl)) (sk wo) ?_
    refine zq rfl rfl (zg rfl xO xw rfl) (sk wK) ?_
    refine xa rfl (FOk.cons (.inr (xU ⟨rfl,trivial⟩)) FOk.nil) (by kernel_rfl) rfl (ye (cs':=[.int .u8 l0.typ,.int .i64 (0:Int),.int .u64 (0:Int),.int .u8 (0:Int),.int .u32 (0:Int),.int .u64 (0:Int),.str ([]:zH),.sl 5 (l0.items.map GItem.row),.osl none 3 (([]:List GDot).map GDot.row)]) rfl qU (gk wI) (gk xX) (zb rfl) rfl rfl rfl rfl rfl) rfl ?_
    refine zq rfl rfl (zg rfl wj xw rfl) (sk wR) ?_
    refine xa rfl (FOk.cons (.inr (xU ⟨rfl,trivial⟩)) FOk.nil) (by kernel_rfl) rfl (ye (cs':=[.int .u8 l0.typ,.int .i64 (0:Int),.int .u64 (0:Int),.int .u8 (0:Int),.int .u32 (0:Int),.int .u64 (0:Int),.str ([]:zH),.sl 5 (l0.items.map GItem.row),.sl 3 (l0.tombs.map GDot.row)]) rfl ty43 (gk wV) (gk wm) (zb rfl) rfl rfl rfl rfl rfl) rfl ?_
    refine yo ?_
    refine zj (zk (zd ?_))
    refine zc rfl (zg rfl xO yE rfl) (sk wQ) ?_
    refine zc rfl (zu rfl qU (gk wN) rfl (zr rfl) (zb rfl)) (sk w9) ?_
    refine zO hF (fun v10 hv10 hF=>?_)
    refine zL rfl (zC rfl rfl rfl (zo (gk vb) (zo rfl zw)) (.cons (zb rfl) (.cons (zb rfl) .nil))) (ok92 hv10) (sk w8) ?_
    refine zc rfl (xT rfl (gk vm) rfl) (sk vh) ?_
    refine zc rfl (zf rfl (gk vl) (zb rfl)) (sk vz) ?_
    refine zp rfl (fun hb=>zu rfl ty45.choose_spec.1 yE rfl (zI (cs':=[.int .u8 l0.typ,.int .i64 l0.n,.int .u64 l0.time,.int .u8 l0.dot.actor.rep,.int .u32 l0.dot.actor.inc,.int .u64 l0.dot.seq,.str l0.text,.sl 5 (l0.items.map GItem.row),.sl 3 (l0.tombs.map GDot.row)]) ty45.choose_spec.2 rfl rfl) (zb rfl)) (sk vw) ?_
    refine yQ hF (fun v11 hv11 hF=>?_)
    refine yj rfl (fun hb=>zC rfl rfl rfl (zo (zn (gk vC) hb) zw) (.cons (zb rfl) .nil)) (fun hb=>ok93 (hv11 hb)) (sk vu) ?_
    refine zp rfl (fun hb=>xT rfl (zn (gk vj) hb) rfl) (sk vt) ?_
    refine zc rfl (zM rfl (gk vk) rfl (gk vB) (z8 (fun ht=>gF ht))) (sk vg) ?_
    refine ze (zj ?_)
    refine zN (gk va) hF (fun hc12 hF=>?_) (fun hc12 hF=>?_)
    ·refine zk (zd ?_)
     refine zc rfl (zi rfl rfl (zb rfl)) xe ?_
     refine ze (zj (zJ ?_))
     refine zG ?_
     refine zx ?_
     obtain rfl:=Option.some.inj hF
     refine zz rfl (zD yW zF) (zA (leV.refl _) rfl ?_)
     exact ⟨rfl,rfl⟩
    ·refine zK (yh (zj (zk (zd ?_))))
     refine zc rfl (zu rfl ty45.choose_spec.1 yE rfl (zI (cs':=[.int .u8 l0.typ,.int .i64 l0.n,.int .u64 l0.time,.int .u8 l0.dot.actor.rep,.int .u32 l0.dot.actor.inc,.int .u64 l0.dot.seq,.str l0.text,.sl 5 (l0.items.map GItem.row),.sl 3 (l0.tombs.map GDot.row)]) ty45.choose_spec.2 rfl rfl) (zb rfl)) (sk (sk xF)) ?_
     refine zc rfl (zu rfl ty45.choose_spec.1 xw rfl (zI (cs':=[.int .u8 l0.typ,.int .i64 (0:Int),.int .u64 (0:Int),.int .u8 (0:Int),.int .u32 (0:Int),.int .u64 (0:Int),.str ([]:zH),.sl 5 (l0.items.map GItem.row),.sl 3 (l0.tombs.map GDot.row)]) ty45.choose_spec.2 rfl rfl) (zb rfl)) (sk (sk xJ)) ?_
     refine zO hF (fun v13 hv13 hF=>?_)
     refine zL rfl (zC rfl rfl rfl (zo (gk (gk yU)) (zo (gk (gk xC)) zw)) (.cons (zb rfl) (.cons (zb rfl) .nil))) (ok21 hv13) (sk (sk xP)) ?_
     refine zc rfl (zi rfl (gk (gk xl)) (zb rfl)) xe ?_
     refine ze (zj (zJ ?_))
     obtain rfl:=Option.some.inj hF
     refine zz rfl (zD yW zF) (zA (leV.refl _) rfl ?_)
     exact ⟨rfl,rfl⟩
   ·refine zk (zd ?_)
    refine zc rfl (zy rfl xl rfl rfl) (sk vK) ?_
    refine zc rfl (zi rfl (gk vO) (zb rfl)) (sk vr) ?_
    refine ze (zj ?_)
    refine zN (gk vA) hF (fun hc14 hF=>?_) (fun hc14 hF=>?_)
    ·refine zk (zd ?_)
     refine zc rfl (zg rfl xO yE rfl) (sk vJ) ?_
     refine zc rfl (zu rfl qU (gk vG) rfl (zr rfl) (zb rfl)) (sk (sk st0)) ?_
     refine zc rfl (zg rfl xO xw rfl) (sk (sk st1)) ?_
     refine zc rfl (ye (cs':=[.int .u8 l0.typ,.int .i64 (0:Int),.int .u64 (0:Int),.int .u8 (0:Int),.int .u32 (0:Int),.int .u64 (0:Int),.str ([]:zH),.sl 5 (l0.items.map GItem.row),.osl none 3 (([]:List GDot).map GDot.row)]) rfl qU (gk (gk yE)) (gk (gk yr)) (zb rfl) rfl rfl rfl rfl rfl) rfl ?_
     refine ze (zj (zk (zd ?_)))
     refine zc rfl (zg rfl xO yE rfl) (sk (sk xe)) ?_
     refine zc rfl (zu rfl qU (gk (gk yW)) rfl (zr rfl) (zb rfl)) (sk (sk wd)) ?_
     refine zO hF (fun v15 hv15 hF=>?_)
     refine zL rfl (zC rfl rfl rfl (zo (gk (gk xw)) (zo rfl zw)) (.cons (zb rfl) (.cons (zb rfl) .nil))) (ok92 hv15) (sk (sk yz)) ?_
     refine zc rfl (xT rfl (gk (gk ym)) rfl) (sk (sk xy)) ?_
     refine ze (zj ?_)
     refine zN (gk (gk yM)) hF (fun hc16 hF=>?_) (fun hc16 hF=>?_)
     ·refine zk (zd ?_)
      refine zc rfl (zi rfl rfl (zb rfl)) xe ?_
      refine ze (zj (zJ ?_))
      refine zG ?_
      refine zx ?_
      obtain rfl:=Option.some.inj hF
      refine zz rfl (zD yW zF) (zA (leV.refl _) rfl ?_)
      exact ⟨rfl,rfl⟩
     ·refine zK (yh (zj (zk (zd ?_))))
      refine zc rfl (zu rfl ty45.choose_spec.1 yE rfl (zI (cs':=[.int .u8 l0.typ,.int .i64 l0.n,.int .u64 l0.time,.int .u8 l0.dot.actor.rep,.int .u32 l0.dot.actor.inc,.int .u64 l0.dot.seq,.str l0.text,.sl 5 (l0.items.map GItem.row),.sl 3 (l0.tombs.map GDot.row)]) ty45.choose_spec.2 rfl rfl) (zb rfl)) (sk (sk xF)) ?_
      refine zc rfl (zu rfl ty45.choose_spec.1 xw rfl (zI (cs':=[.int .u8 l0.typ,.int .i64 (0:Int),.int .u64 (0:Int),.int .u8 (0:Int),.int .u32 (0:Int),.int .u64 (0:Int),.str ([]:zH),.sl 5 (l0.items.map GItem.row),.osl none 3 (([]:List GDot).map GDot.row)]) ty45.choose_spec.2 rfl rfl) (zb rfl)) (sk (sk xJ)) ?_
      refine zO hF (fun v17 hv17 hF=>?_)
      refine zL rfl (zC rfl rfl rfl (zo (gk (gk yU)) (zo (gk (gk xC)) zw)) (.cons (zb rfl) (.cons (zb rfl) .nil))) ((ok21 hv17).le (.eq (.cons (leV.agg (.eq (.eq (.eq (.eq (.eq (.eq (.eq (.eq (.cons (leV.osl _ _ _) leL.nil))))))))) rfl) leL.nil))) (sk (sk xP)) ?_
      refine zc rfl (zi rfl (gk (gk xl)) (zb rfl)) xe ?_
      refine ze (zj (zJ ?_))
      obtain rfl:=Option.some.inj hF
      refine zz rfl (zD yW zF) (zA (leV.refl _) rfl ?_)
      exact ⟨rfl,rfl⟩
    ·refine zk (zd ?_)
     refine zc rfl (zi rfl rfl (zb rfl)) xe ?_
     refine ze (zj (zJ ?_))
     refine zG ?_
     refine zx ?_
     obtain rfl:=Option.some.inj hF
     refine zz rfl (zD yW zF) (zA (leV.refl _) rfl ?_)
     exact ⟨rfl,rfl⟩
/-! varve/tree.may -/
theorem ok29N (n:Nat):∀ {t0:(List GNode)} {deep1:Int} {res:Bool} {h:AH} , qJ n t0 deep1=some res→Spec Tryz.prog 29 [.sl 3 (t0.map GNode.row),.int .i64 deep1] h (fun rr hh=>rr=.bool res∧hh=h):=by
 induction n with
 | zero=>intro t0 deep1 res h  hF;simp [qJ] at hF
 | succ n ih =>
  intro t0 deep1 res h  hF
  unfold qJ at hF
  refine zt Tryz.func29 rfl (by kernel_rfl) (env:=[.sl 3 (t0.map GNode.row),.int .i64 deep1,za,za,za,za,za,za,za,za,za,za,za,za,za,za,za,za,za,za,za,za,za,za,za,za,za,za,za,za,za,za,za,za,za,za,za,za,za,za,za,za,za,za,za,za,za,za,za,za,za,za,za,za,za,za,za,za,za,za,za,za,za,za,za,za,za,za,za,za,za,za,za,za,za,za,za,za,za,za,za,za,za,za,za,za,za,za,za]) (by rfl) ?_
  refine zk (zd ?_)
  refine zc rfl (zi rfl rfl (zb rfl)) yz ?_
  refine ze (zj (zk (zk (zd ?_))))
  refine zc rfl (zf rfl yr (zb rfl)) ww ?_
  refine ya rfl (zR rfl rfl rfl rfl xn xQ yb) yI fun hn1=>?_
  replace hn1:=xu hn1
  refine zc rfl (zy rfl yB rfl rfl) yN ?_
  refine zc rfl (zf rfl yA (zb rfl)) yS ?_
  refine zp rfl (fun hb=>zf rfl yE (zb rfl)) yV ?_
  refine zp rfl (fun hb=>zy rfl (zn yD hb) rfl rfl) y4 ?_
  refine zc rfl (zM rfl yP yX rfl (zX (fun ht=>gT ht))) y8 ?_
  refine ze (zj ?_)
  refine zN yT hF (fun hc2 hF=>?_) (fun hc2 hF=>?_)
  ·refine zk (zd ?_)
   refine zc rfl (zi rfl rfl (zb rfl)) yz ?_
   refine ze (zj (zJ (zx ?_)))
   obtain rfl:=Option.some.inj hF
   refine zz rfl (zD ym zF) (zA (leV.refl _) rfl ?_)
   exact ⟨rfl,rfl⟩
  ·refine zK (zj (zk (zk (zd ?_))))
   refine zc rfl (zf rfl yr (zb rfl)) xg ?_
   refine ya rfl (zR rfl rfl rfl rfl xn xf yb) xr fun hn3=>?_
   replace hn3:=xu hn3
   refine zc rfl (zf rfl rfl (zb rfl)) xD ?_
   refine ze (zj (zQ ?_))
   refine yv (fun (n1:Nat) (s1:Unit)=>yO [2,3,4,5,6,7,8,9,10,11,12,13,14,15,19,20,21,22,23,24,25,26,27,28,29,30,31,32,33,34,35,36,37,38,39,40,41,42,43,44,45,46,47,48,49,50,51,52,53,54,55,56,57,58,59,60,61,62,63,64,65,66,67,68,69,70,71,72,73,74,75,76,77,78,79,80,81,82,83,84,85,86,87,88] [(18,.int .i64 (n1:Int))]) (fun s1=>h.ext [] []) hF (fun _ _=>by simp only [yO,upd,List.set_cons_succ,List.set_cons_zero];try rfl) (wk.le (by exact (.eq (.eq (.d4 (.d4 (.d4 (.drop (.drop (.eq (.eq (.cons (leV.of_eq rfl) (.d16 (.d16 (.d16 (.d16 (.d4 (.drop (.drop leL.nil))))))))))))))))))) ?_
   intro n1 s1 hi1 hF
   refine zk (zd ?_)
   refine zc rfl (zy rfl xB xp rfl) xK ?_
   refine ze (zj (zk ?_))
   refine yK xI hF (fun x1 o1 hl1 hx1 hF hK1=>?_) (fun hF=>?_)
   ·refine zK (zj (zk (zQ (zk (zd ?_)))))
    refine zc rfl (zf rfl xB (zb rfl)) x4 ?_
    refine zc rfl (xL rfl xn xf xB wZ (yL hx1) (GNode.row_eq _)) x9 ?_
    refine zc rfl (yf rfl ty48.choose_spec.1 x6 (zI (cs':=[.str x1.name,.sl 9 (x1.leaves.map GLeaf.row),.sl 3 (x1.subs.map GNode.row)]) ty48.choose_spec.2 rfl rfl) (zb rfl)) wl ?_
    refine zc rfl (xc (n:=0) rfl ze48 rfl) xF ?_
    refine zc rfl (zi rfl x5 (zb rfl)) xy ?_
    refine zc rfl (ye (cs':=[.str x1.name,.sl 9 (x1.leaves.map GLeaf.row),.sl 3 (x1.subs.map GNode.row)]) rfl ty48.choose_spec.1 yU wi (zb rfl) rfl rfl rfl rfl rfl) rfl ?_
    refine ze (zj (zk (zk ?_)))
    refine yJ [2] [] trivial mixed (by kernel_rfl) ?_
    refine zq rfl rfl (zg rfl fo48x0 yU rfl) x8 ?_
    refine zq rfl rfl (zu rfl ty9 xX rfl (zr rfl) (zb rfl)) we ?_
    refine zO hF (fun v27 hv27 hF=>?_)
    refine yw rfl rfl (fun _=>zC rfl rfl rfl (zo wa zw) (.cons (zb rfl) .nil)) (by rintro _ ⟨B2,T2,rfl,hk2⟩;exact ok62 hv27) wo ?_
    refine zq rfl rfl (xT rfl wm rfl) wK ?_
    refine zq rfl rfl (zf rfl wI (zb rfl)) wR ?_
    refine zB rfl rfl (fun hb=>zf rfl yM (zb rfl)) wQ ?_
    refine zB rfl rfl (fun hb=>zy rfl (zn wN hb) rfl rfl) w9 ?_
    refine zB rfl rfl (fun hb=>zf rfl (zn vb hb) (zb rfl)) w8 ?_
    refine zB rfl (z7 rfl rfl rfl) (fun hb=>zf rfl yr (zb rfl)) vh ?_
    refine zB rfl (z7 rfl rfl rfl) (fun hb=>zf rfl yM (zb rfl)) vz ?_
    refine zB rfl (z7 rfl rfl rfl) (fun hb=>zy rfl (zn vk hb) rfl rfl) vw ?_
    refine wC hF (fun hg28 hF=>?_)
    refine zB rfl (z7 rfl rfl rfl) (fun hb=>qF default rfl xn (zn vl hb) (zn vC hb) wZ (hg28 hb) (GNode.row_eq _)) vu ?_
    refine zB rfl (z7 rfl rfl rfl) (fun hb=>zg rfl fo48x0 (zn vj hb) rfl) vt ?_
    refine zB rfl (z7 rfl rfl rfl) (fun hb=>yf rfl ty9 (zn vB hb) (zr rfl) (zb rfl)) vg ?_
    refine zB rfl (z7 rfl rfl rfl) (fun hb=>zg rfl fo48x0 yU rfl) vr ?_
    refine zB rfl (z7 rfl rfl rfl) (fun hb=>zu rfl ty9 (zn vA hb) rfl (zr rfl) (zb rfl)) vK ?_
    refine zB rfl (z7 rfl rfl rfl) (fun hb=>zy rfl (zn va hb) (zn vO hb) rfl) vJ ?_
    refine zB rfl rfl (fun hb=>zM rfl (zn vm hb) vG rfl (zX (fun ht=>gT2 hb ht))) (sk st0) ?_
    refine zq rfl rfl (zM rfl wV rfl (gk yr) (z8 (fun ht=>gF ht))) (sk st1) ?_
    refine zq rfl rfl (zf rfl (gk yE) (zb rfl)) (sk xe) ?_
    refine zB rfl rfl (fun hb=>zg rfl xY yU rfl) (sk wd) ?_
    refine zB rfl rfl (fun hb=>zu rfl ty46 (zn (gk xw) hb) rfl (zr rfl) (zb rfl)) (sk yz) ?_
    refine draw_glen rfl rfl (fun hb=>zR rfl rfl rfl rfl wc (zn (gk ym) hb) yb) (sk xy) ?_
    refine zB rfl rfl (fun hb=>zg rfl fo48x2 yU rfl) (sk xF) ?_
    refine zB rfl rfl (fun hb=>zu rfl ty23 (zn (gk yU) hb) rfl (zr rfl) (zb rfl)) (sk xJ) ?_
    refine draw_glen rfl rfl (fun hb=>zR rfl rfl rfl rfl xn (zn (gk xC) hb) yb) (sk xP) ?_
    refine zB rfl rfl (fun hb=>zy rfl (zn (gk yM) hb) (zn (gk xl) hb) rfl) (sk ww) ?_
    refine zB rfl rfl (fun hb=>zy rfl (zn (gk xQ) hb) rfl rfl) (sk yI) ?_
    refine zq rfl rfl (zM rfl (gk yW) rfl (gk yB) (z8 (fun ht=>gF ht))) (sk yN) ?_
    refine zq rfl rfl (zf rfl (gk yA) (zb rfl)) (sk yS) ?_
    refine zB rfl rfl (fun hb=>zg rfl fo48x2 yU rfl) (sk yV) ?_
    refine zB rfl rfl (fun hb=>zu rfl ty23 (zn (gk yD) hb) rfl (zr rfl) (zb rfl)) (sk y4) ?_
    refine zB rfl rfl (fun hb=>zf rfl yE (zb rfl)) (sk y8) ?_
    refine zB rfl rfl (fun hb=>zy rfl (zn (gk yT) hb) rfl rfl) (sk xg) ?_
    refine yQ hF (fun v31 hv31 hF=>?_)
    refine w5 rfl rfl (fun hb=>zC rfl rfl rfl (zo (zn (gk yX) hb) (zo (zn (gk xf) hb) zw)) (.cons (zb rfl) (.cons (zb rfl) .nil))) (fun hb=>ih (hv31 hb)) (sk xr) ?_
    refine zB rfl rfl (fun hb=>xT rfl (zn (gk xp) hb) rfl) (sk xD) ?_
    refine zq rfl rfl (zM rfl (gk yP) rfl (gk xB) (z8 (fun ht=>gF ht))) (sk xK) ?_
    refine yo ?_
    refine zj ?_
    refine zN (gk xI) hF (fun hc32 hF=>?_) (fun hc32 hF=>?_)
    ·refine zk (zd ?_)
     refine zc rfl (zi rfl rfl (zb rfl)) yz ?_
     refine ze (zj (zJ (zx ?_)))
     refine zG ?_
     refine zx ?_
     refine yd ?_
     obtain rfl:=Option.some.inj hF
     replace hF:=hK1
     refine zG ?_
     refine zx ?_
     obtain rfl:=Option.some.inj hF
     refine zz rfl (zD ym zF) (zA (leV.refl _) rfl ?_)
     exact ⟨rfl,rfl⟩
    ·refine zK (zj (zk (zd ?_)))
     refine zc rfl (zg rfl xY yU rfl) (sk x4) ?_
     refine zc rfl (zu rfl ty46 (gk x5) rfl (zr rfl) (zb rfl)) (sk x9) ?_
     refine ya rfl (zR rfl rfl rfl rfl wc (gk x6) yb) (sk wl) fun hn33=>?_
     replace hn33:=xu hn33
     refine zc rfl (zf rfl rfl (zb rfl)) (sk x8) ?_
     refine ze (zj (zQ ?_))
     refine yv (fun (n2:Nat) (s2:Unit)=>yO [2,3,4,5,7,8,9,10,11,12,13,14,15,19,20,21,22,23,24,25,26,27,28,29,30,31,32,33,34,35,36,37,38,39,40,41,42,43,44,45,46,47,48,49,50,51,52,53,54,55,56,57,58,59,60,64,65,66,67,68,69,70,71,72,73,74,75,76,77,78,79,80,81,82,83,84,85,86,87,88] [(63,.int .i64 (n2:Int))]) (fun s2=>h.ext [.cells [.str x1.name,.sl 9 (x1.leaves.map GLeaf.row),.sl 3 (x1.subs.map GNode.row)]] []) hF (fun _ _=>by simp only [yO,upd,List.set_cons_succ,List.set_cons_zero];try rfl) (wk.le (by exact (.eq (.eq (.d4 (.eq (.d4 (.d4 (.drop (.eq (.eq (.eq (.d16 (.d16 (.d4 (.d4 (.drop (.drop (.eq (.eq (.cons (leV.of_eq rfl) (.d16 (.d4 (.d4 (.drop leL.nil))))))))))))))))))))))))) ?_
     intro n2 s2 hi2 hF
     refine zk (zd ?_)
     refine zc rfl (zy rfl (gk xX) (gk wi) rfl) (sk we) ?_
     refine ze (zj (zk ?_))
     refine yK (gk wa) hF (fun x2 o2 hl2 hx2 hF hK2=>?_) (fun hF=>?_)
     ·refine zK (zj (zk (zQ (zk (zd ?_)))))
      refine zc rfl (zf rfl (gk xX) (zb rfl)) (sk wo) ?_
      refine zc rfl (yk rfl wc (gk x6) (gk xX) wZ (yL hx2)) (sk wK) ?_
      refine zc rfl (yf rfl ty45.choose_spec.1 (gk wI) (zI (cs':=[.int .u8 x2.typ,.int .i64 x2.n,.int .u64 x2.time,.int .u8 x2.dot.actor.rep,.int .u32 x2.dot.actor.inc,.int .u64 x2.dot.seq,.str x2.text,.sl 5 (x2.items.map GItem.row),.sl 3 (x2.tombs.map GDot.row)]) ty45.choose_spec.2 rfl rfl) (zb rfl)) (sk wR) ?_
      refine zc rfl (xc (n:=1) rfl ze45 rfl) xP ?_
      refine zc rfl (zi rfl (gk wm) (zb rfl)) xJ ?_
      refine zc rfl (ye (cs':=[.int .u8 x2.typ,.int .i64 x2.n,.int .u64 x2.time,.int .u8 x2.dot.actor.rep,.int .u32 x2.dot.actor.inc,.int .u64 x2.dot.seq,.str x2.text,.sl 5 (x2.items.map GItem.row),.sl 3 (x2.tombs.map GDot.row)]) rfl ty45.choose_spec.1 xl (gk wV) (zb rfl) rfl rfl rfl rfl rfl) rfl ?_
      refine ze (zj (zk ?_))
      refine yJ [1] [] trivial mixed (by kernel_rfl) ?_
      refine zq rfl rfl (zu rfl ty45.choose_spec.1 xl rfl (zI (cs':=[.int .u8 x2.typ,.int .i64 x2.n,.int .u64 x2.time,.int .u8 x2.dot.actor.rep,.int .u32 x2.dot.actor.inc,.int .u64 x2.dot.seq,.str x2.text,.sl 5 (x2.items.map GItem.row),.sl 3 (x2.tombs.map GDot.row)]) ty45.choose_spec.2 rfl rfl) (zb rfl)) (sk wQ) ?_
      refine zO hF (fun v43 hv43 hF=>?_)
      refine yw rfl rfl (fun _=>zC rfl rfl rfl (zo (gk wN) zw) (.cons (zb rfl) .nil)) (by rintro _ ⟨B2,T2,rfl,hk2⟩;exact ok63 hv43) (sk w9) ?_
      refine zq rfl rfl (xT rfl (gk vb) rfl) (sk w8) ?_
      refine zq rfl rfl (zf rfl (gk vm) (zb rfl)) (sk vh) ?_
      refine zB rfl rfl (fun hb=>zf rfl xC (zb rfl)) (sk vz) ?_
      refine zB rfl rfl (fun hb=>zy rfl (zn (gk vk) hb) rfl rfl) (sk vw) ?_
      refine zB rfl rfl (fun hb=>zf rfl (zn (gk vC) hb) (zb rfl)) (sk vu) ?_
      refine zB rfl (z7 rfl rfl rfl) (fun hb=>zg rfl xY yU rfl) (sk vt) ?_
      refine zB rfl (z7 rfl rfl rfl) (fun hb=>zu rfl ty46 (zn (gk vB) hb) rfl (zr rfl) (zb rfl)) (sk vg) ?_
      refine zB rfl (z7 rfl rfl rfl) (fun hb=>zf rfl xC (zb rfl)) (sk vr) ?_
      refine zB rfl (z7 rfl rfl rfl) (fun hb=>zy rfl (zn (gk vA) hb) rfl rfl) (sk vK) ?_
      refine wC hF (fun hg44 hF=>?_)
      refine zB rfl (z7 rfl rfl rfl) (fun hb=>xM default rfl wc (zn (gk va) hb) (zn (gk vO) hb) wZ (hg44 hb)) (sk vJ) ?_
      refine zB rfl (z7 rfl rfl rfl) (fun hb=>zg rfl xV (zn (gk vG) hb) rfl) (sk (sk st0)) ?_
      refine zB rfl (z7 rfl rfl rfl) (fun hb=>yf rfl ty5 (zn (gk (gk yr)) hb) (zr rfl) (zb rfl)) (sk (sk st1)) ?_
      refine zB rfl (z7 rfl rfl rfl) (fun hb=>zg rfl xV xl rfl) (sk (sk xe)) ?_
      refine zB rfl (z7 rfl rfl rfl) (fun hb=>zu rfl ty5 (zn (gk (gk yW)) hb) rfl (zr rfl) (zb rfl)) (sk (sk wd)) ?_
      refine zB rfl (z7 rfl rfl rfl) (fun hb=>zy rfl (zn (gk (gk yE)) hb) (zn (gk (gk xw)) hb) rfl) (sk (sk yz)) ?_
      refine zB rfl rfl (fun hb=>zM rfl (zn (gk vj) hb) (gk (gk ym)) rfl (zX (fun ht=>gT2 hb ht))) (sk (sk xy)) ?_
      refine zq rfl rfl (zM rfl (gk vl) rfl (gk (gk yM)) (z8 (fun ht=>gF ht))) (sk (sk xF)) ?_
      refine yo ?_
      refine zj ?_
      refine zN (gk (gk yU)) hF (fun hc45 hF=>?_) (fun hc45 hF=>?_)
      ·refine zk (zd ?_)
       refine zc rfl (zi rfl rfl (zb rfl)) yz ?_
       refine ze (zj (zJ ?_))
       refine zG ?_
       refine zx ?_
       refine yd ?_
       obtain rfl:=Option.some.inj hF
       replace hF:=hK2
       refine zG ?_
       refine zG ?_
       refine zx ?_
       refine yd ?_
       obtain rfl:=Option.some.inj hF
       replace hF:=hK1
       refine zG ?_
       refine zx ?_
       obtain rfl:=Option.some.inj hF
       refine zz rfl (zD ym zF) (zA (leV.refl _) rfl ?_)
       exact ⟨rfl,rfl⟩
      ·refine zK (yh (zj (zd ?_)))
       refine zc rfl (zy rfl (gk xX) rfl rfl) (sk (sk xJ)) ?_
       refine zc rfl (zf rfl (gk (gk xC)) (zb rfl)) (sk x8) ?_
       refine ze (yH ?_)
       obtain rfl:=Option.some.inj hF
       exact ⟨(),hl2,hK2,wk.trans (wk.le (by exact (.eq (.eq (.d4 (.eq (.d4 (.d4 (.drop (.eq (.eq (.eq (.d16 (.d16 (.d4 (.d4 (.drop (.drop (.eq (.eq (.cons (leV.of_eq (vf (by omega) (by omega))) (.d16 (.d4 (.d4 (.drop leL.nil))))))))))))))))))))))))) (xN (by simp [yi,AV.low]) rfl rfl (by simp [Blk.low,yi,AV.low]))⟩
     ·refine yR ?_
      refine zZ ?_
      refine zU ?_
      refine zV ?_
      refine yh (zj (zd ?_))
      refine zc rfl (zy rfl xB rfl rfl) (sk (sk xP)) ?_
      refine zc rfl (zf rfl (gk (gk xl)) (zb rfl)) xD ?_
      refine ze (yH ?_)
      obtain rfl:=Option.some.inj hF
      exact ⟨(),hl1,hK1,wk.trans (wk.le (by exact (.eq (.eq (.d4 (.d4 (.d4 (.drop (.drop (.eq (.eq (.cons (leV.of_eq (vf (by omega) (by omega))) (.d16 (.d16 (.d16 (.d16 (.d4 (.drop (.drop leL.nil))))))))))))))))))) (xN (by simp [yi,AV.low]) rfl rfl (by simp [Blk.low,yi,AV.low]))⟩
   ·refine yR ?_
    refine zZ ?_
    refine zU ?_
    refine zV ?_
    refine zj (zk (zd ?_))
    refine zc rfl (zi rfl rfl (zb rfl)) yz ?_
    refine ze (zj (zJ ?_))
    obtain rfl:=Option.some.inj hF
    refine zz rfl (zD ym zF) (zA (leV.refl _) rfl ?_)
    exact ⟨rfl,rfl⟩
theorem ok29 {t0:(List GNode)} {deep1:Int} {res:Bool} {h:AH}  (hF:treeXmay t0 deep1=some res):Spec Tryz.prog 29 [.sl 3 (t0.map GNode.row),.int .i64 deep1] h (fun rr hh=>rr=.bool res∧hh=h):=by
 obtain ⟨n,hn⟩:=anyN_is hF
 exact ok29N n  hn
/-! varve/tree.May -/
theorem ok14 {t0:(List GNode)} {res:Bool} {h:AH}  (hF:qD t0=some res):Spec Tryz.prog 14 [.sl 3 (t0.map GNode.row)] h (fun rr hh=>rr=.bool res∧hh=h):=by
 unfold qD at hF
 refine zt Tryz.func14 rfl (by kernel_rfl) (env:=[.sl 3 (t0.map GNode.row),za,za,za,za]) (by rfl) ?_
 refine zk (zd ?_)
 refine zc rfl (zi rfl rfl (zb rfl)) xe ?_
 refine ze (zj (zk (zd ?_)))
 refine zc rfl (zf rfl yr (zb rfl)) wd ?_
 refine zO hF (fun v1 hv1 hF=>?_)
 refine zL rfl (zC rfl rfl rfl (zo xw (zo rfl zw)) (.cons (zb rfl) (.cons (zb rfl) .nil))) (ok29 hv1) yz ?_
 refine zc rfl (zi rfl ym (zb rfl)) xe ?_
 refine ze (zj (zJ ?_))
 obtain rfl:=Option.some.inj hF
 refine zz rfl (zD yW zF) (zA (leV.refl _) rfl ?_)
 exact ⟨rfl,rfl⟩
/-! varve/paths.own -/
theorem ok68 {l0:GLeaf} {res:GLeaf} {h:AH}  (hF:pathsXown l0=some res):Spec Tryz.prog 68 [.agg [.int .u8 l0.typ,.int .i64 l0.n,.int .u64 l0.time,.int .u8 l0.dot.actor.rep,.int .u32 l0.dot.actor.inc,.int .u64 l0.dot.seq,.str l0.text,.sl 5 (l0.items.map GItem.row),.sl 3 (l0.tombs.map GDot.row)]] h (fun rr hh=>rr=.agg [.int .u8 res.typ,.int .i64 res.n,.int .u64 res.time,.int .u8 res.dot.actor.rep,.int .u32 res.dot.actor.inc,.int .u64 res.dot.seq,.str res.text,.sl 5 (res.items.map GItem.row),.sl 3 (res.tombs.map GDot.row)]∧hh=h):=by
 unfold pathsXown at hF
 refine zt Tryz.func68 rfl (by kernel_rfl) (env:=[.agg [.int .u8 l0.typ,.int .i64 l0.n,.int .u64 l0.time,.int .u8 l0.dot.actor.rep,.int .u32 l0.dot.actor.inc,.int .u64 l0.dot.seq,.str l0.text,.sl 5 (l0.items.map GItem.row),.sl 3 (l0.tombs.map GDot.row)],za,za,za,za,za,za,za,za,za,za,za]) (by rfl) ?_
 refine zk (zd ?_)
 refine zc rfl (xq (n:=0) rfl yr (zb rfl) rfl rfl) st1 ?_
 refine zc rfl (xc (n:=1) rfl ze45 rfl) xe ?_
 refine ze (zj (zk ?_))
 refine yJ [] [] trivial mixed (by kernel_rfl) ?_
 refine zq rfl rfl (zg rfl xO yE rfl) wd ?_
 refine zq rfl rfl (zu rfl qU xw rfl (zr rfl) (zb rfl)) yz ?_
 refine zO hF (fun v1 hv1 hF=>?_)
 refine w6 rfl FOk.nil (by rfl) rfl (zC rfl rfl rfl (zo ym zw) (.cons (zb rfl) .nil)) (own_ext (T':=[(v1).length]) (ok44 hv1) (m:=0) rfl rfl) xy ?_
 refine zq rfl rfl (zg rfl wj yE rfl) xF ?_
 refine zq rfl rfl (zu rfl ty43 yU rfl (zr rfl) (zb rfl)) xJ ?_
 refine zO hF (fun v2 hv2 hF=>?_)
 refine w6 rfl FOk.nil (by rfl) rfl (zC rfl rfl rfl (zo xC zw) (.cons (zb rfl) .nil)) (own_ext (T':=[(v1).length,(v2).length]) (ok45 hv2) (m:=1) rfl rfl) xP ?_
 refine zq rfl rfl (zg rfl xO yE rfl) ww ?_
 refine xa rfl FOk.nil (by kernel_rfl) rfl (ye (cs':=[.int .u8 l0.typ,.int .i64 l0.n,.int .u64 l0.time,.int .u8 l0.dot.actor.rep,.int .u32 l0.dot.actor.inc,.int .u64 l0.dot.seq,.str l0.text,.osl (some (h.toks.length+0)) 5 (v1.map GItem.row),.sl 3 (l0.tombs.map GDot.row)]) rfl qU xQ yM (zb rfl) rfl rfl rfl rfl rfl) rfl ?_
 refine zq rfl rfl (zg rfl wj yE rfl) yI ?_
 refine xa rfl FOk.nil (by kernel_rfl) rfl (ye (cs':=[.int .u8 l0.typ,.int .i64 l0.n,.int .u64 l0.time,.int .u8 l0.dot.actor.rep,.int .u32 l0.dot.actor.inc,.int .u64 l0.dot.seq,.str l0.text,.osl (some (h.toks.length+0)) 5 (v1.map GItem.row),.osl (some (h.toks.length+1)) 3 (v2.map GDot.row)]) rfl ty43 yB xl (zb rfl) rfl rfl rfl rfl rfl) rfl ?_
 refine yo ?_
 refine zj (zk (zd ?_))
 refine zc rfl (zu rfl ty45.choose_spec.1 yE rfl (zI (cs':=[.int .u8 l0.typ,.int .i64 l0.n,.int .u64 l0.time,.int .u8 l0.dot.actor.rep,.int .u32 l0.dot.actor.inc,.int .u64 l0.dot.seq,.str l0.text,.osl (some (h.toks.length+0)) 5 (v1.map GItem.row),.osl (some (h.toks.length+1)) 3 (v2.map GDot.row)]) ty45.choose_spec.2 rfl rfl) (zb rfl)) yN ?_
 refine zc rfl (ye (cs':=[.int .u8 l0.typ,.int .i64 l0.n,.int .u64 l0.time,.int .u8 l0.dot.actor.rep,.int .u32 l0.dot.actor.inc,.int .u64 l0.dot.seq,.str l0.text,.osl (some (h.toks.length+0)) 5 (v1.map GItem.row),.osl (some (h.toks.length+1)) 3 (v2.map GDot.row)]) rfl ty45.choose_spec.1 yW yA (zb rfl) rfl rfl rfl rfl rfl) rfl ?_
 refine ze (zj (zJ ?_))
 obtain rfl:=Option.some.inj hF
 refine zz rfl (rl_cell ty45.choose_spec.1 yW rfl (zI (cs':=[.int .u8 l0.typ,.int .i64 l0.n,.int .u64 l0.time,.int .u8 l0.dot.actor.rep,.int .u32 l0.dot.actor.inc,.int .u64 l0.dot.seq,.str l0.text,.osl (some (h.toks.length+0)) 5 (v1.map GItem.row),.osl (some (h.toks.length+1)) 3 (v2.map GDot.row)]) ty45.choose_spec.2 rfl rfl) (zb rfl) zF) (zA (leV.agg (.eq (.eq (.eq (.eq (.eq (.eq (.eq (.cons (leV.osl _ _ _) (.cons (leV.osl _ _ _) leL.nil))))))))) rfl) rfl ?_)
 exact ⟨rfl,rfl⟩
/-! varve/paths.rows -/
theorem ok31 {t0:(List GNode)} {ahead1:(List zH)} {res:((List GNode)×(List zH))} {h:AH}  (hF:pathsXrows t0 ahead1=some res):Spec Tryz.prog 31 [.sl 3 (t0.map GNode.row),.sl 1 (ahead1.map zP)] h (CloK h 67 [.cells [.sl 3 (res.1.map GNode.row)],.cells [.sl 1 (res.2.map zP)]]):=by
 unfold pathsXrows at hF
 refine zt Tryz.func31 rfl (by kernel_rfl) (env:=[.sl 3 (t0.map GNode.row),.sl 1 (ahead1.map zP),za,za,za,za]) (by rfl) ?_
 refine zk (zd ?_)
 refine zc rfl (xq (n:=0) rfl yr (zb rfl) rfl rfl) xe ?_
 refine zc rfl (xq (n:=1) rfl yE (zb rfl) rfl rfl) wd ?_
 refine zc rfl (zi rfl rfl (zb rfl)) yz ?_
 refine ze (zj (zk (zd ?_)))
 refine zc rfl (s_makeFunc rfl rfl rfl) xy ?_
 refine zc rfl (zi rfl yM (zb rfl)) yz ?_
 refine ze (zj (zJ ?_))
 obtain rfl:=Option.some.inj hF
 refine zz rfl (zD ym zF) (fin_clo (bs:=[.cells [.sl 3 (t0.map GNode.row)],.cells [.sl 1 (ahead1.map zP)]]) (by simp [AV.low,yi]) rfl (by simp [Blk.low,yi,AV.low]) ?_)
 exact ⟨rfl,rfl⟩
/-! varve/paths.rows 1 -/
theorem ok67N (n:Nat):∀ {S:Type} {Hy:S→AH} {nb nt:Nat} {yield0:S→GRow→Option (Bool×S)} {idy:Nat} {c0:(List GNode)} {i0:Nat} {c1:(List zH)} {i1:Nat} {s0:S} {res:S} (hN:∀ s,(Hy s).blks.length=nb) (hNt:∀ s,(Hy s).toks.length=nt) (hC:∀ s,(Hy s).closed nb nt) (hly:idy < nb) (hy:∀ s x b s' L M,yield0 s x=some (b,s')→SpecY Tryz.prog idy [.agg [.sl 1 (x.path.map zP),.int .u8 x.leaf.typ,.int .i64 x.leaf.n,.int .u64 x.leaf.time,.int .u8 x.leaf.dot.actor.rep,.int .u32 x.leaf.dot.actor.inc,.int .u64 x.leaf.dot.seq,.str x.leaf.text,.sl 5 (x.leaf.items.map GItem.row),.sl 3 (x.leaf.tombs.map GDot.row)]] ((Hy s).ext L M) (fun rr hh=>rr=.bool b∧hh=(Hy s').ext L M)) (hb0:∀ s,(Hy s).blk i0=some (.cells [.sl 3 (c0.map GNode.row)])) (hb1:∀ s,(Hy s).blk i1=some (.cells [.sl 1 (c1.map zP)])),wY n S yield0 c0 c1 s0=some res→Spec Tryz.prog 67 [.yld idy,.ptr i0 0,.ptr i1 0] (Hy s0) (fun rr hh=>rr=.tup []∧hh=Hy res):=by
 induction n with
 | zero=>intro S Hy nb nt yield0 idy c0 i0 c1 i1 s0 res hN hNt hC hly hy hb0 hb1 hF;simp [wY] at hF
 | succ n ih =>
  intro S Hy nb nt yield0 idy c0 i0 c1 i1 s0 res hN hNt hC hly hy hb0 hb1 hF
  unfold wY at hF
  refine zt Tryz.func67 rfl (by kernel_rfl) (env:=[.yld idy,.ptr i0 0,.ptr i1 0,za,za,za,za,za,za,za,za,za,za,za,za,za,za,za,za,za,za,za,za,za,za,za,za,za,za,za,za,za,za,za,za,za,za,za,za,za,za,za,za,za,za,za,za,za]) (by rfl) ?_
  have hly2:∀ k,idy < nb+k:=fun k=>Nat.lt_of_lt_of_le hly (Nat.le_add_right _ _)
  have hli0:=blk_lt (hb0 s0) (hN s0)
  have hli0b:∀ k,i0 < nb+k:=fun k=>Nat.lt_of_lt_of_le hli0 (Nat.le_add_right _ _)
  have hli1:=blk_lt (hb1 s0) (hN s0)
  have hli1b:∀ k,i1 < nb+k:=fun k=>Nat.lt_of_lt_of_le hli1 (Nat.le_add_right _ _)
  refine zk (zd ?_)
  refine zc rfl (n_box (hN _) (n:=0) rfl yr (zb rfl) rfl rfl) wd ?_
  refine ze (zj (zk (zd ?_)))
  refine zc rfl (b_load rfl ty23 yE (hb0 _) (zr rfl) (zb rfl)) yI ?_
  refine ya rfl (zR rfl rfl rfl rfl xn yB yb) yN fun hn1=>?_
  replace hn1:=xu hn1
  refine zc rfl (zf rfl rfl (zb rfl)) yS ?_
  refine ze (zj (zQ ?_))
  refine yv (fun (n1:Nat) (s1:S)=>yO [0,1,4,5,6,7,8,9,13,14,15,16,17,18,19,20,21,22,23,24,25,26,27,28,29,30,31,32,33,34,35,36,37,38,39,40,41,42,43,44,45,46,47] [(12,.int .i64 (n1:Int))]) (fun s1=>(Hy s1).ext [.cells [.yld idy]] []) hF (fun _ _=>by simp only [yO,upd,List.set_cons_succ,List.set_cons_zero];try rfl) (wk.le (by exact (.drop (.drop (.eq (.eq (.d4 (.drop (.drop (.eq (.eq (.cons (leV.of_eq rfl) (.d16 (.d16 (.drop (.drop (.drop leL.nil))))))))))))))))) ?_
  intro n1 s1 hi1 hF
  refine zk (zd ?_)
  refine zc rfl (zy rfl yP yA rfl) yV ?_
  refine ze (zj (zk ?_))
  refine yK yD hF (fun x1 o1 hl1 hx1 hF hK1=>?_) (fun hF=>?_)
  ·refine zK (zj (zk (zQ (zk (zd ?_)))))
   refine zc rfl (xL rfl xn yB yP wZ (yL hx1) (GNode.row_eq _)) y4 ?_
   refine zc rfl (yf rfl ty48.choose_spec.1 yX (zI (cs':=[.str x1.name,.sl 9 (x1.leaves.map GLeaf.row),.sl 3 (x1.subs.map GNode.row)]) ty48.choose_spec.2 rfl rfl) (zb rfl)) y8 ?_
   refine zc rfl (n_alloc (hN _) (n:=1) rfl ze48 rfl) xy ?_
   refine zc rfl (n_store (hN _) (cs':=[.str x1.name,.sl 9 (x1.leaves.map GLeaf.row),.sl 3 (x1.subs.map GNode.row)]) rfl ty48.choose_spec.1 yM yT (zb rfl) rfl rfl rfl rfl rfl) rfl ?_
   refine ze (zj (zk ?_))
   refine yJ [] [] trivial mixed (by kernel_rfl) ?_
   refine zq rfl rfl (b_load rfl ty49 yW (hb1 _) (zr rfl) (zb rfl)) xg ?_
   refine zO hF (fun v37 hv37 hF=>?_)
   refine w6 rfl FOk.nil (by rfl) rfl (zC rfl rfl rfl (zo xf zw) (.cons (zb rfl) .nil)) (n_own (hNt _) (T':=[(v37).length]) (ok59 hv37) (m:=0) rfl rfl) xr ?_
   refine zq rfl rfl (zg rfl fo48x0 yM rfl) xD ?_
   refine zq rfl rfl (n_load (hN _) rfl ty9 xB rfl (zr rfl) (zb rfl)) xK ?_
   refine zq rfl rfl (yu (es:=([x1.name]:List zH).map zP) rfl wA ze9 rfl rfl (yg xI yl) (.cons (zb rfl) .nil) rfl rfl rfl) x4 ?_
   refine wC hF (fun hm38 hF=>?_)
   refine draw_okH rfl FOk.nil (by rfl) rfl (n_appT (hNt _) (j:=0) (T':=[((v37++([x1.name]:List zH))).length]) rfl rfl rfl rfl wA wA xp x5 (zb rfl) (zb rfl) qZ hm38 rfl rfl) x9 ?_
   refine zq rfl rfl (zi rfl x6 (zb rfl)) xF ?_
   refine yo ?_
   refine zj (zk (zk (zd ?_)))
   refine zc rfl (zg rfl xY yM rfl) wl ?_
   refine zc rfl (n_load (hN _) rfl ty46 wi rfl (zr rfl) (zb rfl)) x8 ?_
   refine ya rfl (zR rfl rfl rfl rfl wc xX yb) we fun hn39=>?_
   replace hn39:=xu hn39
   refine zc rfl (zf rfl rfl (zb rfl)) wo ?_
   refine ze (zj (zQ ?_))
   refine yv (fun (n2:Nat) (s2:S)=>yO [0,1,4,7,8,9,13,14,15,16,17,18,19,20,21,22,26,27,28,29,30,31,32,33,34,35,36,37,38,39,40,41,42,43,44,45,46,47] [(25,.int .i64 (n2:Int))]) (fun s2=>(Hy s2).ext [.cells [.yld idy],.cells [.str x1.name,.sl 9 (x1.leaves.map GLeaf.row),.sl 3 (x1.subs.map GNode.row)]] [((v37++([x1.name]:List zH))).length]) hF (fun _ _=>by simp only [yO,upd,List.set_cons_succ,List.set_cons_zero];try rfl) (wk.le (by exact (.drop (.drop (.eq (.eq (.drop (.eq (.eq (.drop (.drop (.drop (.eq (.eq (.eq (.d4 (.d4 (.drop (.drop (.eq (.eq (.cons (leV.of_eq rfl) (.d16 (.d4 (.drop (.drop leL.nil)))))))))))))))))))))))))) ?_
   intro n2 s2 hi2 hF
   refine zk (zd ?_)
   refine zc rfl (zy rfl wm wa rfl) wK ?_
   refine ze (zj (zk ?_))
   refine yK wI hF (fun x2 o2 hl2 hx2 hF hK2=>?_) (fun hF=>?_)
   ·refine zK (zj (zk (zQ (zk (zd ?_)))))
    refine zc rfl (yk rfl wc xX wm wZ (yL hx2)) wR ?_
    refine zc rfl (yf rfl ty45.choose_spec.1 wV (zI (cs':=[.int .u8 x2.typ,.int .i64 x2.n,.int .u64 x2.time,.int .u8 x2.dot.actor.rep,.int .u32 x2.dot.actor.inc,.int .u64 x2.dot.seq,.str x2.text,.sl 5 (x2.items.map GItem.row),.sl 3 (x2.tombs.map GDot.row)]) ty45.choose_spec.2 rfl rfl) (zb rfl)) wQ ?_
    refine zc rfl (n_alloc (hN _) (n:=2) rfl ze45 rfl) xP ?_
    refine zc rfl (n_store (hN _) (cs':=[.int .u8 x2.typ,.int .i64 x2.n,.int .u64 x2.time,.int .u8 x2.dot.actor.rep,.int .u32 x2.dot.actor.inc,.int .u64 x2.dot.seq,.str x2.text,.sl 5 (x2.items.map GItem.row),.sl 3 (x2.tombs.map GDot.row)]) rfl ty45.choose_spec.1 xl wN (zb rfl) rfl rfl rfl rfl rfl) rfl ?_
    refine ze (zj (zk ?_))
    refine yJ [4] [] trivial mixed (by kernel_rfl) ?_
    refine zq rfl rfl (n_load (hN _) rfl ty107 xw rfl (zr rfl) (zb rfl)) w9 ?_
    refine zq rfl rfl (zf rfl yU (zb rfl)) w8 ?_
    refine zO hF (fun v51 hv51 hF=>?_)
    refine w6 rfl (FOk.cons (.inr (xU trivial)) FOk.nil) (by rfl) rfl (zC rfl rfl rfl (zo vm zw) (.cons (zb rfl) .nil)) (n_own (hNt _) (T':=[((v37++([x1.name]:List zH))).length,(v51).length]) ((ok59 hv51).le (.cons (leV.osl _ _ _) leL.nil)) (m:=1) rfl rfl) vh ?_
    refine zq rfl rfl (n_load (hN _) rfl ty45.choose_spec.1 xl rfl (zI (cs':=[.int .u8 x2.typ,.int .i64 x2.n,.int .u64 x2.time,.int .u8 x2.dot.actor.rep,.int .u32 x2.dot.actor.inc,.int .u64 x2.dot.seq,.str x2.text,.sl 5 (x2.items.map GItem.row),.sl 3 (x2.tombs.map GDot.row)]) ty45.choose_spec.2 rfl rfl) (zb rfl)) vz ?_
    refine zO hF (fun v52 hv52 hF=>?_)
    refine yw rfl rfl (fun _=>zC rfl rfl rfl (zo vk zw) (.cons (zb rfl) .nil)) (by rintro _ ⟨B2,T2,rfl,hk2⟩;exact ok68 hv52) vw ?_
    refine zq rfl rfl (ql (cs':=[.osl (some (nt+1)) 1 (v51.map zP),.int .u8 v52.typ,.int .i64 v52.n,.int .u64 v52.time,.int .u8 v52.dot.actor.rep,.int .u32 v52.dot.actor.inc,.int .u64 v52.dot.seq,.str v52.text,.sl 5 (v52.items.map GItem.row),.sl 3 (v52.tombs.map GDot.row)]) rfl su56 ze56 pl56 (yg vl (yg vC yl)) (.cons (zb rfl) (.cons (zb rfl) .nil)) rfl rfl) vu ?_
    refine zO hF (fun v53 hv53 hF=>?_)
    refine draw_round rfl (FOk.cons (.inl (by kernel_rfl)) FOk.nil) (by kernel_rfl) rfl (s_yield rfl rfl vb (zo vj zw) (.cons (zb rfl) .nil)) ((hy _ _ _ _ _ _ hv53).le (.cons (leV.agg (.cons (leV.osl _ _ _) (.eq (.eq (.eq (.eq (.eq (.eq (.eq (.eq (.eq leL.nil)))))))))) rfl) leL.nil)) vt ?_
    refine zq rfl rfl (xT rfl vB rfl) vg ?_
    refine yo ?_
    refine zj ?_
    refine zN va hF (fun hc54 hF=>?_) (fun hc54 hF=>?_)
    ·refine zJ ?_
     refine zG ?_
     refine zx ?_
     refine yd ?_
     obtain rfl:=Option.some.inj hF
     replace hF:=hK2
     refine zG ?_
     refine zx ?_
     refine zG ?_
     refine zx ?_
     refine yd ?_
     obtain rfl:=Option.some.inj hF
     replace hF:=hK1
     refine zG ?_
     obtain rfl:=Option.some.inj hF
     refine q_retL0 rfl zF (fin_exts (hN _) (hNt _) (hN _) (hNt _) (hC _) (leV.refl _) rfl ?_)
     exact ⟨rfl,rfl⟩
    ·refine zK (yh (zj (zd ?_)))
     refine zc rfl (zy rfl wm rfl rfl) vr ?_
     refine zc rfl (zf rfl vA (zb rfl)) wo ?_
     refine ze (yH ?_)
     obtain rfl:=Option.some.inj hF
     exact ⟨v53.2,hl2,hK2,wk.trans (wk.le (by exact (.drop (.drop (.eq (.eq (.drop (.eq (.eq (.drop (.drop (.drop (.eq (.eq (.eq (.d4 (.d4 (.drop (.drop (.eq (.eq (.cons (leV.of_eq (vf (by omega) (by omega))) (.d16 (.d4 (.drop (.drop leL.nil)))))))))))))))))))))))))) (wk_ext3s (hN _) (hNt _) (hN _) (hNt _) (hC _) (by simp [yi,AV.low,hly,hly2,hli0,hli0b,hli1,hli1b]) rfl rfl (by simp [Blk.low,yi,AV.low,hly,hly2,hli0,hli0b,hli1,hli1b]))⟩
   ·refine yR ?_
    refine zZ ?_
    refine zU ?_
    refine zV ?_
    refine zj (zk (zd ?_))
    refine zc rfl (zg rfl fo48x2 yM rfl) vK ?_
    refine zc rfl (n_load (hN _) rfl ty23 vO rfl (zr rfl) (zb rfl)) vJ ?_
    refine zc rfl (zf rfl yU (zb rfl)) (sk st0) ?_
    refine zO hF (fun v55 hv55 hF=>?_)
    refine ops_callH rfl (zC rfl rfl rfl (zo vG (zo (gk yr) zw)) (.cons (zb rfl) (.cons (zb rfl) .nil))) (clo_ext (hN _) (n:=2) (B':=[.cells [.yld idy],.cells [.str x1.name,.sl 9 (x1.leaves.map GLeaf.row),.sl 3 (x1.subs.map GNode.row)],.cells [.sl 3 (v55.1.map GNode.row)],.cells [.sl 1 (v55.2.map zP)]]) (caps:=[.ptr (nb+2) 0,.ptr (nb+3) 0]) ((ok31 hv55).le (.eq (.cons (leV.osl _ _ _) leL.nil))) rfl rfl rfl) (sk st1) ?_
    refine ze (zj (zQ ?_))
    refine r_range (fun (s3:S)=>(Hy s3)) (fun (s3:S)=>[.cells [.yld idy],.cells [.str x1.name,.sl 9 (x1.leaves.map GLeaf.row),.sl 3 (x1.subs.map GNode.row)],.cells [.sl 3 (v55.1.map GNode.row)],.cells [.sl 1 (v55.2.map zP)]]) (fun (s3:S)=>[((v37++([x1.name]:List zH))).length]) s2 hF (wk.le (by exact (.drop (.drop (.eq (.eq (.d4 (.drop (.drop (.eq (.eq (.eq (.d16 (.d4 (.d4 (.d4 (.eq (.d4 (.drop (.drop leL.nil)))))))))))))))))))) (fun _=>(hN _)) rfl rfl rfl (fun _=>rfl) rfl (gk yE) rfl (fun lp3 hlp3 r3 hr3q=>?_) (fun s3 H1 hH hF=>?_) (fun j3 s3 H1 hH hF=>?_)
    ·have hlowlp3:∀ q1 q2,(lp3 q1 q2).low (nb+5) (nt+1)=true:=by intro q1 q2;rw [hlp3];simp [Blk.low,yi,AV.low,hly,hly2,hli0,hli0b,hli1,hli1b]
     refine Spec.mono (ih (Hy:=(fam (fun (s3:S)=>(Hy s3)) (fun (s3:S)=>[.cells [.yld idy],.cells [.str x1.name,.sl 9 (x1.leaves.map GLeaf.row),.sl 3 (x1.subs.map GNode.row)],.cells [.sl 3 (v55.1.map GNode.row)],.cells [.sl 1 (v55.2.map zP)]]) (fun (s3:S)=>[((v37++([x1.name]:List zH))).length]) lp3)) (nb:=nb+5) (nt:=nt+1) (fun _=>by simp only [fam];rw [ext_len (hN _)];rfl) (fun _=>by simp only [fam];rw [ext_tlen (hNt _)];rfl) (fun _=>closed_ext (hC _) (Nat.le_add_right _ _) (Nat.le_add_right _ _) (by simp only [List.all_append,List.all_cons,List.all_nil,Bool.and_true,List.length_cons,List.length_nil,Nat.reduceAdd,Nat.zero_add,hlowlp3] <;> simp [Blk.low,yi,AV.low,hly,hly2,hli0,hli0b,hli1,hli1b])) (Nat.lt_succ_self _) (y_body hlp3 (xs:=fun (x:GRow)=>[.agg [.sl 1 (x.path.map zP),.int .u8 x.leaf.typ,.int .i64 x.leaf.n,.int .u64 x.leaf.time,.int .u8 x.leaf.dot.actor.rep,.int .u32 x.leaf.dot.actor.inc,.int .u64 x.leaf.dot.seq,.str x.leaf.text,.sl 5 (x.leaf.items.map GItem.row),.sl 3 (x.leaf.tombs.map GDot.row)]]) (fun _=>(hN _)) (fun _=>rfl) rfl (fun _=>rfl) (fun _=>by simp only [setL,List.set_cons_succ,List.set_cons_zero];try rfl) (fun s3 x3 o3 L3 M3 H1 hH hF=>?_)) (fun _=>by simp only [fam];exact n_blk (j:=2) (hN _) rfl) (fun _=>by simp only [fam];exact n_blk (j:=3) (hN _) rfl) hr3q) (fun _ _ h=>h.2)
     obtain rfl:H1=(((Hy s3).ext ([.cells [.yld idy],.cells [.str x1.name,.sl 9 (x1.leaves.map GLeaf.row),.sl 3 (x1.subs.map GNode.row)],.cells [.sl 3 (v55.1.map GNode.row)],.cells [.sl 1 (v55.2.map zP)]]++[lp3 .ready none]) [((v37++([x1.name]:List zH))).length]).ext L3 M3).ext [] []:=hH
     refine zd ?_
     refine zc rfl (n_alloc (deep_len (hN _) rfl) (n:=0) rfl ze56 rfl) ww ?_
     refine zc rfl (n_store (deep_len (hN _) rfl) (cs':=[.sl 1 (x3.path.map zP),.int .u8 x3.leaf.typ,.int .i64 x3.leaf.n,.int .u64 x3.leaf.time,.int .u8 x3.leaf.dot.actor.rep,.int .u32 x3.leaf.dot.actor.inc,.int .u64 x3.leaf.dot.seq,.str x3.leaf.text,.sl 5 (x3.leaf.items.map GItem.row),.sl 3 (x3.leaf.tombs.map GDot.row)]) rfl ty56.choose_spec.1 xQ (gk yW) (zb rfl) rfl rfl rfl rfl rfl) rfl ?_
     refine ze ?_
     refine q_assign (hN _) rfl ?_
     refine zQ (zk (zd ?_))
     refine zc rfl (d_load (hN _) rfl ty107 xw rfl (zr rfl) (zb rfl)) (sk wd) ?_
     refine zc rfl (n_load (deep_len (hN _) rfl) rfl ty56.choose_spec.1 xQ rfl (zI (cs':=[.sl 1 (x3.path.map zP),.int .u8 x3.leaf.typ,.int .i64 x3.leaf.n,.int .u64 x3.leaf.time,.int .u8 x3.leaf.dot.actor.rep,.int .u32 x3.leaf.dot.actor.inc,.int .u64 x3.leaf.dot.seq,.str x3.leaf.text,.sl 5 (x3.leaf.items.map GItem.row),.sl 3 (x3.leaf.tombs.map GDot.row)]) ty56.choose_spec.2 rfl rfl) (zb rfl)) (sk yz) ?_
     refine zO hF (fun v64 hv64 hF=>?_)
     refine ops_round rfl (s_yield rfl rfl (gk xw) (zo (gk ym) zw) (.cons (zb rfl) .nil)) (SpecY.deep fun A B=>hy _ _ _ _ A B hv64) (sk xy) ?_
     refine zc rfl (xT rfl (gk yM) rfl) (sk xF) ?_
     refine ze (zj ?_)
     refine zN (gk yU) hF (fun hc65 hF=>?_) (fun hc65 hF=>?_)
     ·refine zJ ?_
      refine zG ?_
      obtain rfl:=Option.some.inj hF
      exact q_roundR (hC _) (hN _) (hNt _) (hN _) (hNt _) rfl rfl rfl rfl rfl rfl rfl (by simp only [List.all_append,List.all_cons,List.all_nil,Bool.and_true,List.length_cons,List.length_nil,Nat.reduceAdd,Nat.zero_add,hlowlp3] <;> simp [Blk.low,yi,AV.low,hly,hly2,hli0,hli0b,hli1,hli1b])
     ·refine zK (yh ?_)
      obtain rfl:=Option.some.inj hF
      exact q_roundN (hC _) (hN _) (hNt _) (hN _) (hNt _) rfl rfl rfl rfl rfl rfl rfl (by simp only [List.all_append,List.all_cons,List.all_nil,Bool.and_true,List.length_cons,List.length_nil,Nat.reduceAdd,Nat.zero_add,hlowlp3] <;> simp [Blk.low,yi,AV.low,hly,hly2,hli0,hli0b,hli1,hli1b])
    ·obtain rfl:H1=(Hy s3).ext [.cells [.yld idy],.cells [.str x1.name,.sl 9 (x1.leaves.map GLeaf.row),.sl 3 (x1.subs.map GNode.row)],.cells [.sl 3 (v55.1.map GNode.row)],.cells [.sl 1 (v55.2.map zP)],.dead] [((v37++([x1.name]:List zH))).length]:=hH
     refine yh (yh (zj (zd ?_)))
     refine zc rfl (zy rfl yP rfl rfl) (sk xJ) ?_
     refine zc rfl (zf rfl (gk xC) (zb rfl)) yS ?_
     refine ze (yH ?_)
     obtain rfl:=Option.some.inj hF
     exact ⟨s3,hl1,hK1,wk.trans (wk.le (by exact (.drop (.drop (.eq (.eq (.d4 (.drop (.drop (.eq (.eq (.cons (leV.of_eq (vf (by omega) (by omega))) (.d16 (.d16 (.drop (.drop (.drop leL.nil))))))))))))))))) (wk_ext3s (hN _) (hNt _) (hN _) (hNt _) (hC _) (by simp [yi,AV.low,hly,hly2,hli0,hli0b,hli1,hli1b]) rfl rfl (by simp [Blk.low,yi,AV.low,hly,hly2,hli0,hli0b,hli1,hli1b]))⟩
    ·obtain rfl:H1=(Hy s3).ext [.cells [.yld idy],.cells [.str x1.name,.sl 9 (x1.leaves.map GLeaf.row),.sl 3 (x1.subs.map GNode.row)],.cells [.sl 3 (v55.1.map GNode.row)],.cells [.sl 1 (v55.2.map zP)],.dead] [((v37++([x1.name]:List zH))).length]:=hH
     refine jmp1 (G:=fun j=>jumpQ _ j _ _) hF (fun hF=>?_)
     refine jmp_ret ?_
     refine zG ?_
     refine zG ?_
     refine zx ?_
     refine yd ?_
     obtain rfl:=Option.some.inj hF
     replace hF:=hK1
     refine zG ?_
     obtain rfl:=Option.some.inj hF
     refine q_retL0 rfl zF (fin_exts (hN _) (hNt _) (hN _) (hNt _) (hC _) (leV.refl _) rfl ?_)
     exact ⟨rfl,rfl⟩
  ·refine yR ?_
   refine zZ ?_
   refine zU ?_
   refine zV ?_
   refine q_end ?_
   obtain rfl:=Option.some.inj hF
   refine q_retL0 rfl zF (fin_exts (hN _) (hNt _) (hN _) (hNt _) (hC _) (leV.refl _) rfl ?_)
   exact ⟨rfl,rfl⟩
theorem ok67 {S:Type} {Hy:S→AH} {nb nt:Nat} {yield0:S→GRow→Option (Bool×S)} {idy:Nat} {c0:(List GNode)} {i0:Nat} {c1:(List zH)} {i1:Nat} {s0:S} {res:S} (hN:∀ s,(Hy s).blks.length=nb) (hNt:∀ s,(Hy s).toks.length=nt) (hC:∀ s,(Hy s).closed nb nt) (hly:idy < nb) (hy:∀ s x b s' L M,yield0 s x=some (b,s')→SpecY Tryz.prog idy [.agg [.sl 1 (x.path.map zP),.int .u8 x.leaf.typ,.int .i64 x.leaf.n,.int .u64 x.leaf.time,.int .u8 x.leaf.dot.actor.rep,.int .u32 x.leaf.dot.actor.inc,.int .u64 x.leaf.dot.seq,.str x.leaf.text,.sl 5 (x.leaf.items.map GItem.row),.sl 3 (x.leaf.tombs.map GDot.row)]] ((Hy s).ext L M) (fun rr hh=>rr=.bool b∧hh=(Hy s').ext L M)) (hb0:∀ s,(Hy s).blk i0=some (.cells [.sl 3 (c0.map GNode.row)])) (hb1:∀ s,(Hy s).blk i1=some (.cells [.sl 1 (c1.map zP)])) (hF:pathsXrowsC1 S yield0 c0 c1 s0=some res):Spec Tryz.prog 67 [.yld idy,.ptr i0 0,.ptr i1 0] (Hy s0) (fun rr hh=>rr=.tup []∧hh=Hy res):=by
 obtain ⟨n,hn⟩:=anyN_is hF
 exact ok67N n hN hNt hC hly hy hb0 hb1 hn
/-! slices.AppendSeq[[]varve/api.Row,varve/api.Row] -/
theorem ok66 {s0:(List GRow)} {seq1:(S:Type)→(S→GRow→Option (Bool×S))→S→Option S} {fseq1:FuncId} {aseq1 kseq1:List AV} {res:(List GRow)} {h:AH} (hseq1:∀ (S:Type) (Hy:S→AH) (nb nt:Nat),(∀ s,(Hy s).blks.length=nb)→(∀ s,(Hy s).toks.length=nt)→(∀ s,(Hy s).closed nb nt)→(∀ s,∃ L M,Hy s=h.ext L M)→∀ (y:S→GRow→Option (Bool×S)) (idy:Nat),idy < nb→(∀ s x b s' L M,y s x=some (b,s')→SpecY Tryz.prog idy [.agg [.sl 1 (x.path.map zP),.int .u8 x.leaf.typ,.int .i64 x.leaf.n,.int .u64 x.leaf.time,.int .u8 x.leaf.dot.actor.rep,.int .u32 x.leaf.dot.actor.inc,.int .u64 x.leaf.dot.seq,.str x.leaf.text,.sl 5 (x.leaf.items.map GItem.row),.sl 3 (x.leaf.tombs.map GDot.row)]] ((Hy s).ext L M) (fun rr hh=>rr=.bool b∧hh=(Hy s').ext L M))→∀ s s',seq1 S y s=some s'→Spec Tryz.prog fseq1 (aseq1++[.yld idy]++kseq1) (Hy s) (fun rr hh=>rr=.tup []∧hh=Hy s')) (hF:vE s0 seq1=some res):Spec Tryz.prog 66 [.osl none 10 (s0.map GRow.row),.fn (.func fseq1) aseq1 kseq1] h (fun rr hh=>rr=.sl 10 (res.map GRow.row)∧hh=h):=by
 unfold vE at hF
 refine yC Tryz.func66 rfl (by kernel_rfl) (env:=[.osl none 10 (s0.map GRow.row),.fn (.func fseq1) aseq1 kseq1,za,za,za,za,za,za,za,za,za,za,za]) (by rfl) (fun hlow hC=>?_)
 simp only [yi,AV.low,Bool.and_eq_true,Bool.true_and,and_true] at hlow
 have hlaseq1:∀ n m,h.blks.length≤n→h.toks.length≤m→yi n m aseq1=true:=fun n m h1 h2=>yY h1 h2 _ (by simp [hlow])
 have hlkseq1:∀ n m,h.blks.length≤n→h.toks.length≤m→yi n m kseq1=true:=fun n m h1 h2=>yY h1 h2 _ (by simp [hlow])
 refine zk (zd ?_)
 refine zc rfl (xq (n:=0) rfl yr (zb rfl) rfl rfl) xe ?_
 refine zc rfl (zi rfl rfl (xk el53)) yz ?_
 refine ze (zj (zk (zk (zd ?_))))
 refine zc rfl (zf rfl yE (zb rfl)) xF ?_
 refine ze (zj (zQ ?_))
 refine r_range (fun (s1:(List GRow))=>h) (fun (s1:(List GRow))=>[.cells [.osl (some (h.toks.length+0)) 10 (s1.map GRow.row)]]) (fun (s1:(List GRow))=>[(s1).length]) s0 hF (wk.trans (wk_tokB (j:=0) rfl yr rfl st0 rfl rfl) (wk.le (by exact (.drop (.drop (.eq (.drop (.drop (.drop (.eq (.d4 (.drop (.drop leL.nil))))))))))))) (fun _=>rfl) rfl rfl rfl (fun _=>rfl) rfl yU rfl (fun lp1 hlp1 r1 hr1q=>?_) (fun s1 H1 hH hF=>?_) (fun j1 s1 H1 hH hF=>?_)
 ·have hlowlp1:∀ q1 q2,(lp1 q1 q2).low (h.blks.length+2) (h.toks.length+1)=true:=by intro q1 q2;rw [hlp1];simp [Blk.low,yi,AV.low,hlaseq1,hlkseq1]
  refine Spec.mono (hseq1 _ (fam (fun (s1:(List GRow))=>h) (fun (s1:(List GRow))=>[.cells [.osl (some (h.toks.length+0)) 10 (s1.map GRow.row)]]) (fun (s1:(List GRow))=>[(s1).length]) lp1) (h.blks.length+2) (h.toks.length+1) (fun _=>by simp only [fam];rw [ext_len rfl];rfl) (fun _=>by simp only [fam];rw [ext_tlen rfl];rfl) (fun _=>closed_ext hC (Nat.le_add_right _ _) (Nat.le_add_right _ _) (by simp only [List.all_append,List.all_cons,List.all_nil,Bool.and_true,List.length_cons,List.length_nil,Nat.reduceAdd,Nat.zero_add,hlowlp1] <;> simp [Blk.low,yi,AV.low,hlaseq1,hlkseq1])) (fun _=>⟨_,_,rfl⟩) _ _ (Nat.lt_succ_self _) (y_body hlp1 (xs:=fun (x:GRow)=>[.agg [.sl 1 (x.path.map zP),.int .u8 x.leaf.typ,.int .i64 x.leaf.n,.int .u64 x.leaf.time,.int .u8 x.leaf.dot.actor.rep,.int .u32 x.leaf.dot.actor.inc,.int .u64 x.leaf.dot.seq,.str x.leaf.text,.sl 5 (x.leaf.items.map GItem.row),.sl 3 (x.leaf.tombs.map GDot.row)]]) (fun _=>rfl) (fun _=>rfl) rfl (fun _=>rfl) (fun _=>by simp only [setL,List.set_cons_succ,List.set_cons_zero];try rfl) (fun s1 x1 o1 L1 M1 H1 hH hF=>?_)) _ _ hr1q) (fun _ _ h=>h.2)
  obtain rfl:H1=((h.ext ([.cells [.osl (some (h.toks.length+0)) 10 (s1.map GRow.row)]]++[lp1 .ready none]) [(s1).length]).ext L1 M1).ext [] []:=hH
  refine zd ?_
  refine zc rfl (n_alloc (deep_len rfl rfl) (n:=0) rfl ze56 rfl) xy ?_
  refine zc rfl (n_store (deep_len rfl rfl) (cs':=[.sl 1 (x1.path.map zP),.int .u8 x1.leaf.typ,.int .i64 x1.leaf.n,.int .u64 x1.leaf.time,.int .u8 x1.leaf.dot.actor.rep,.int .u32 x1.leaf.dot.actor.inc,.int .u64 x1.leaf.dot.seq,.str x1.leaf.text,.sl 5 (x1.leaf.items.map GItem.row),.sl 3 (x1.leaf.tombs.map GDot.row)]) rfl ty56.choose_spec.1 yM xC (zb rfl) rfl rfl rfl rfl rfl) rfl ?_
  refine ze ?_
  refine q_assign rfl rfl ?_
  refine zQ (zd ?_)
  refine zc rfl (d_load rfl rfl ty53 yW rfl (zr rfl) (zb rfl)) xP ?_
  refine zc rfl (n_load (deep_len rfl rfl) rfl ty56.choose_spec.1 yM rfl (zI (cs':=[.sl 1 (x1.path.map zP),.int .u8 x1.leaf.typ,.int .i64 x1.leaf.n,.int .u64 x1.leaf.time,.int .u8 x1.leaf.dot.actor.rep,.int .u32 x1.leaf.dot.actor.inc,.int .u64 x1.leaf.dot.seq,.str x1.leaf.text,.sl 5 (x1.leaf.items.map GItem.row),.sl 3 (x1.leaf.tombs.map GDot.row)]) ty56.choose_spec.2 rfl rfl) (zb rfl)) ww ?_
  refine zc rfl (yu (es:=([x1]:List GRow).map GRow.row) rfl el53 ze56 rfl rfl (yg xQ yl) (.cons (zb rfl) .nil) rfl rfl rfl) yI ?_
  refine wC hF (fun hm3 hF=>?_)
  refine zc rfl (d_appT (j:=0) (T':=[((s1++([x1]:List GRow))).length]) rfl rfl rfl rfl rfl el53 el53 xl yB (zb rfl) (zb rfl) qZ hm3 rfl rfl) yN ?_
  refine zc rfl (d_store (A':=[.cells [.osl (some (h.toks.length+0)) 10 ((s1++([x1]:List GRow)).map GRow.row)]]++[lp1 .busy none]) (cs':=[.osl (some (h.toks.length+0)) 10 ((s1++([x1]:List GRow)).map GRow.row)]) rfl rfl ty53 yW yA (zb rfl) rfl rfl rfl rfl rfl rfl) rfl ?_
  refine ze (yh ?_)
  obtain rfl:=Option.some.inj hF
  exact q_roundN hC rfl rfl rfl rfl rfl rfl rfl rfl rfl rfl rfl (by simp only [List.all_append,List.all_cons,List.all_nil,Bool.and_true,List.length_cons,List.length_nil,Nat.reduceAdd,Nat.zero_add,hlowlp1] <;> simp [Blk.low,yi,AV.low,hlaseq1,hlkseq1])
 ·obtain rfl:H1=h.ext [.cells [.osl (some (h.toks.length+0)) 10 (s1.map GRow.row)],.dead] [(s1).length]:=hH
  refine yh (zj (zk (zd ?_)))
  refine zc rfl (zu rfl ty53 yW rfl (zr rfl) (zb rfl)) yS ?_
  refine zc rfl (zi rfl yP (zb rfl)) yz ?_
  refine ze (zj (zJ ?_))
  obtain rfl:=Option.some.inj hF
  refine zz rfl (zD ym zF) (zA (leV.osl _ _ _) rfl ?_)
  exact ⟨rfl,rfl⟩
 ·obtain rfl:H1=h.ext [.cells [.osl (some (h.toks.length+0)) 10 (s1.map GRow.row)],.dead] [(s1).length]:=hH
  cases hF
/-! slices.Collect[varve/api.Row] -/
theorem ok30 {seq0:(S:Type)→(S→GRow→Option (Bool×S))→S→Option S} {fseq0:FuncId} {aseq0 kseq0:List AV} {res:(List GRow)} {h:AH} (hseq0:∀ (S:Type) (Hy:S→AH) (nb nt:Nat),(∀ s,(Hy s).blks.length=nb)→(∀ s,(Hy s).toks.length=nt)→(∀ s,(Hy s).closed nb nt)→(∀ s,∃ L M,Hy s=h.ext L M)→∀ (y:S→GRow→Option (Bool×S)) (idy:Nat),idy < nb→(∀ s x b s' L M,y s x=some (b,s')→SpecY Tryz.prog idy [.agg [.sl 1 (x.path.map zP),.int .u8 x.leaf.typ,.int .i64 x.leaf.n,.int .u64 x.leaf.time,.int .u8 x.leaf.dot.actor.rep,.int .u32 x.leaf.dot.actor.inc,.int .u64 x.leaf.dot.seq,.str x.leaf.text,.sl 5 (x.leaf.items.map GItem.row),.sl 3 (x.leaf.tombs.map GDot.row)]] ((Hy s).ext L M) (fun rr hh=>rr=.bool b∧hh=(Hy s').ext L M))→∀ s s',seq0 S y s=some s'→Spec Tryz.prog fseq0 (aseq0++[.yld idy]++kseq0) (Hy s) (fun rr hh=>rr=.tup []∧hh=Hy s')) (hF:qk seq0=some res):Spec Tryz.prog 30 [.fn (.func fseq0) aseq0 kseq0] h (fun rr hh=>rr=.sl 10 (res.map GRow.row)∧hh=h):=by
 unfold qk at hF
 refine yC Tryz.func30 rfl (by kernel_rfl) (env:=[.fn (.func fseq0) aseq0 kseq0,za,za,za,za]) (by rfl) (fun hlow hC=>?_)
 simp only [yi,AV.low,Bool.and_eq_true,Bool.true_and,and_true] at hlow
 have hlaseq0:∀ n m,h.blks.length≤n→h.toks.length≤m→yi n m aseq0=true:=fun n m h1 h2=>yY h1 h2 _ (by simp [hlow])
 have hlkseq0:∀ n m,h.blks.length≤n→h.toks.length≤m→yi n m kseq0=true:=fun n m h1 h2=>yY h1 h2 _ (by simp [hlow])
 refine zk (zd ?_)
 refine zc rfl (zi rfl rfl (xk el53)) xe ?_
 refine ze (zj (zk (zd ?_)))
 refine zc rfl (zf rfl yr (zb rfl)) wd ?_
 refine zO hF (fun v1 hv1 hF=>?_)
 refine zL rfl (zC rfl rfl rfl (zo rfl (zo xw zw)) (.cons (xk el53) (.cons (zb rfl) .nil))) (ok66 (fun S Hy nb nt hN hNt hC hE y idy hly hy s s' hF=>hseq0 S Hy nb nt hN hNt hC (fun s=>by obtain ⟨L,M,e⟩:=hE s;exact ⟨_,_,by rw [e,wb]⟩) y idy hly hy s s' hF) hv1) yz ?_
 refine zc rfl (zi rfl ym (zb rfl)) xe ?_
 refine ze (zj (zJ ?_))
 obtain rfl:=Option.some.inj hF
 refine zz rfl (zD yW zF) (zA (leV.refl _) rfl ?_)
 exact ⟨rfl,rfl⟩
/-! varve/paths.Rows -/
theorem ok15 {t0:(List GNode)} {res:(List GRow)} {h:AH}  (hF:qO t0=some res):Spec Tryz.prog 15 [.sl 3 (t0.map GNode.row)] h (fun rr hh=>rr=.sl 10 (res.map GRow.row)∧hh=h):=by
 unfold qO at hF
 refine zt Tryz.func15 rfl (by kernel_rfl) (env:=[.sl 3 (t0.map GNode.row),za,za,za,za,za,za,za,za]) (by rfl) ?_
 refine zk (zd ?_)
 refine zc rfl (zi rfl rfl (xk el53)) xe ?_
 refine ze (zj (zk (zk (zd ?_))))
 refine zc rfl (zf rfl yr (zb rfl)) wd ?_
 refine zO hF (fun v1 hv1 hF=>?_)
 refine zL rfl (zC rfl rfl rfl (zo xw zw) (.cons (zb rfl) .nil)) (ok14 hv1) yz ?_
 refine zc rfl (xT rfl ym rfl) xy ?_
 refine ze (zj ?_)
 refine zN yM hF (fun hc2 hF=>?_) (fun hc2 hF=>?_)
 ·refine zk (zd ?_)
  refine zc rfl (zi rfl rfl (xk el53)) xe ?_
  refine ze (zj (zJ (zx ?_)))
  obtain rfl:=Option.some.inj hF
  refine zz rfl (zD yW zF) (zA (leV.osl _ _ _) rfl ?_)
  exact ⟨rfl,rfl⟩
 ·refine zK (zj (zk (zd ?_)))
  refine zc rfl (zf rfl yr (zb rfl)) xF ?_
  refine zO hF (fun v3 hv3 hF=>?_)
  refine ops_callH rfl (zC rfl rfl rfl (zo yU (zo rfl zw)) (.cons (zb rfl) (.cons (xk wA) .nil))) (clo_ext rfl (n:=0) (B':=[.cells [.sl 3 (v3.1.map GNode.row)],.cells [.sl 1 (v3.2.map zP)]]) (caps:=[.ptr (h.blks.length+0) 0,.ptr (h.blks.length+1) 0]) ((ok31 hv3).le (.eq (.cons (leV.osl _ _ _) leL.nil))) rfl rfl rfl) xJ ?_
  refine zO hF (fun v4 hv4 hF=>?_)
  refine zL rfl (zC rfl rfl rfl (zo xC zw) (.cons (zb rfl) .nil)) (ok30 (fun S Hy nb nt hN hNt hC hE y idy hly hy s s' hF=>ok67 hN hNt hC hly hy (fun s=>by obtain ⟨L,M,e⟩:=hE s;rw [e];exact n_blk2 (j:=0) rfl rfl) (fun s=>by obtain ⟨L,M,e⟩:=hE s;rw [e];exact n_blk2 (j:=1) rfl rfl) hF) hv4) xP ?_
  refine zc rfl (zi rfl xl (zb rfl)) xe ?_
  refine ze (zj (zJ ?_))
  obtain rfl:=Option.some.inj hF
  refine zz rfl (zD yW zF) (zA (leV.refl _) rfl ?_)
  exact ⟨rfl,rfl⟩
/-! varve/diff.Diff -/
theorem ok6 {a0:(List GNode)} {b1:(List GNode)} {res:((List GEdit)×Int)} {h:AH}  (hF:diffDiff a0 b1=some res):Spec Tryz.prog 6 [.sl 3 (a0.map GNode.row),.sl 3 (b1.map GNode.row)] h (fun rr hh=>rr=.tup [.sl 22 (res.1.map GEdit.row),.int .i64 res.2]∧hh=h):=by
 unfold diffDiff at hF
 refine zt Tryz.func6 rfl (by kernel_rfl) (env:=[.sl 3 (a0.map GNode.row),.sl 3 (b1.map GNode.row),za,za,za,za,za,za,za,za,za,za,za,za,za,za,za,za,za,za,za,za,za,za,za,za,za,za,za,za,za,za,za,za,za,za,za,za,za,za,za,za,za,za,za,za,za,za,za,za,za,za,za,za,za,za,za,za,za,za,za,za,za,za,za,za,za,za,za,za,za,za,za,za,za,za,za,za,za,za,za]) (by rfl) ?_
 refine zk (zd ?_)
 refine zc rfl (zi rfl rfl (xk el26)) yz ?_
 refine zc rfl (zi rfl rfl (zb rfl)) xy ?_
 refine ze (zj (zk (zk (zd ?_))))
 refine zc rfl (zf rfl yr (zb rfl)) yS ?_
 refine zO hF (fun v1 hv1 hF=>?_)
 refine zL rfl (zC rfl rfl rfl (zo yP zw) (.cons (zb rfl) .nil)) (ok14 hv1) yV ?_
 refine zc rfl (xT rfl yD rfl) y4 ?_
 refine zc rfl (zf rfl yX (zb rfl)) y8 ?_
 refine zp rfl (fun hb=>zf rfl yE (zb rfl)) xg ?_
 refine yQ hF (fun v2 hv2 hF=>?_)
 refine yj rfl (fun hb=>zC rfl rfl rfl (zo (zn xf hb) zw) (.cons (zb rfl) .nil)) (fun hb=>ok14 (hv2 hb)) xr ?_
 refine zp rfl (fun hb=>xT rfl (zn xp hb) rfl) xD ?_
 refine zc rfl (zM rfl yT rfl xB (z8 (fun ht=>gF ht))) xK ?_
 refine ze (zj ?_)
 refine zN xI hF (fun hc3 hF=>?_) (fun hc3 hF=>?_)
 ·refine zk (zd ?_)
  refine zc rfl (zi rfl rfl (xk el26)) yz ?_
  refine zc rfl (zi rfl rfl (zb rfl)) xy ?_
  refine ze (zj (zJ (zx ?_)))
  obtain rfl:=Option.some.inj hF
  refine qX rfl (zD ym (zD yM zF)) (zA (leV.tup (.cons (leV.osl _ _ _) (.eq leL.nil))) rfl ?_)
  exact ⟨rfl,rfl⟩
 ·refine zK (zj (zk (zd ?_)))
  refine zc rfl (e_makeMap (n:=0) rfl rfl) x4 ?_
  refine zc rfl (zi rfl x5 (zb rfl)) xF ?_
  refine ze (zj (zk (zk (zd ?_))))
  refine zc rfl (zf rfl yr (zb rfl)) x9 ?_
  refine zO hF (fun v4 hv4 hF=>?_)
  refine zL rfl (zC rfl rfl rfl (zo x6 zw) (.cons (zb rfl) .nil)) (ok15 hv4) wl ?_
  refine ya rfl (zR rfl rfl rfl rfl el53 wi yb) x8 fun hn5=>?_
  replace hn5:=xu hn5
  refine zc rfl (zf rfl rfl (zb rfl)) we ?_
  refine ze (zj (zQ ?_))
  refine yv (fun (n1:Nat) (s1:List (zH×GEdit))=>yO [0,2,3,4,5,7,8,9,10,11,12,13,14,15,16,17,18,19,20,21,25,26,27,28,29,30,31,32,33,34,35,36,37,38,39,40,41,42,43,44,45,46,47,48,49,50,51,52,53,54,55,56,57,58,59,60,61,62,63,64,65,66,67,68,69,70,71,72,73,74,75,76,77,78,79,80] [(24,.int .i64 (n1:Int))]) (fun s1=>h.ext [.mapo (s1.map (qw AV.str (fun x=>AV.agg (GEdit.row x)))) 0] []) hF (fun _ _=>by simp only [yO,upd,List.set_cons_succ,List.set_cons_zero];try rfl) (wk.le (by exact (.drop (.eq (.d4 (.eq (.d4 (.d4 (.d4 (.drop (.drop (.drop (.eq (.eq (.cons (leV.of_eq rfl) (.d16 (.d16 (.d16 (.d4 (.d4 leL.nil)))))))))))))))))))) ?_
  intro n1 s1 hi1 hF
  refine zk (zd ?_)
  refine zc rfl (zy rfl wa xX rfl) wo ?_
  refine ze (zj (zk ?_))
  refine yK wm hF (fun x1 o1 hl1 hx1 hF hK1=>?_) (fun hF=>?_)
  ·refine zK (zj (zk (zQ (zk (zd ?_)))))
   refine zc rfl (yk rfl el53 wi wa wZ (yL hx1)) wK ?_
   refine zc rfl (yf rfl ty56.choose_spec.1 wI (zI (cs':=[.sl 1 (x1.path.map zP),.int .u8 x1.leaf.typ,.int .i64 x1.leaf.n,.int .u64 x1.leaf.time,.int .u8 x1.leaf.dot.actor.rep,.int .u32 x1.leaf.dot.actor.inc,.int .u64 x1.leaf.dot.seq,.str x1.leaf.text,.sl 5 (x1.leaf.items.map GItem.row),.sl 3 (x1.leaf.tombs.map GDot.row)]) ty56.choose_spec.2 rfl rfl) (zb rfl)) wR ?_
   refine zc rfl (xc (n:=1) rfl ze56 rfl) xP ?_
   refine zc rfl (ye (cs':=[.sl 1 (x1.path.map zP),.int .u8 x1.leaf.typ,.int .i64 x1.leaf.n,.int .u64 x1.leaf.time,.int .u8 x1.leaf.dot.actor.rep,.int .u32 x1.leaf.dot.actor.inc,.int .u64 x1.leaf.dot.seq,.str x1.leaf.text,.sl 5 (x1.leaf.items.map GItem.row),.sl 3 (x1.leaf.tombs.map GDot.row)]) rfl ty56.choose_spec.1 xl wV (zb rfl) rfl rfl rfl rfl rfl) rfl ?_
   refine ze (zj ?_)
   refine yJ [6] [] trivial mixed (by kernel_rfl) ?_
   refine zq rfl rfl (zf rfl yU (zb rfl)) wQ ?_
   refine zq rfl rfl (zg rfl fo56x0 xl rfl) w9 ?_
   refine zq rfl rfl (zu rfl ty49 vb rfl (zr rfl) (zb rfl)) w8 ?_
   refine zq rfl rfl (zg rfl fo56x1 xl rfl) vh ?_
   refine zq rfl rfl (zg rfl xV vl rfl) vz ?_
   refine zq rfl rfl (zu rfl ty5 vk rfl (zr rfl) (zb rfl)) vw ?_
   refine zO hF (fun v11 hv11 hF=>?_)
   refine yw rfl rfl (fun _=>zC rfl rfl rfl (zo vm (zo vC zw)) (.cons (zb rfl) (.cons (zb rfl) .nil))) (by rintro _ ⟨B2,T2,rfl,hk2⟩;exact ok16 hv11) vu ?_
   refine zq rfl rfl (zg rfl fo56x0 xl rfl) vt ?_
   refine zq rfl rfl (zu rfl ty49 vB rfl (zr rfl) (zb rfl)) vg ?_
   refine zq rfl rfl (zg rfl fo56x1 xl rfl) vr ?_
   refine zq rfl rfl (zg rfl xV vA rfl) vK ?_
   refine zq rfl rfl (zu rfl ty5 vO rfl (zr rfl) (zb rfl)) vJ ?_
   refine zq rfl rfl (zg rfl fo56x1 xl rfl) (sk st0) ?_
   refine zq rfl rfl (zu rfl ty45.choose_spec.1 (gk yr) rfl (zI (cs':=[.int .u8 x1.leaf.typ,.int .i64 x1.leaf.n,.int .u64 x1.leaf.time,.int .u8 x1.leaf.dot.actor.rep,.int .u32 x1.leaf.dot.actor.inc,.int .u64 x1.leaf.dot.seq,.str x1.leaf.text,.sl 5 (x1.leaf.items.map GItem.row),.sl 3 (x1.leaf.tombs.map GDot.row)]) ty45.choose_spec.2 rfl rfl) (zb rfl)) (sk st1) ?_
   refine zq rfl rfl (ql (cs':=[.sl 1 (x1.path.map zP),.int .u8 x1.leaf.typ,.bool true,.bool false,.int .u8 x1.leaf.typ,.int .i64 x1.leaf.n,.int .u64 x1.leaf.time,.int .u8 x1.leaf.dot.actor.rep,.int .u32 x1.leaf.dot.actor.inc,.int .u64 x1.leaf.dot.seq,.str x1.leaf.text,.sl 5 (x1.leaf.items.map GItem.row),.sl 3 (x1.leaf.tombs.map GDot.row),.int .u8 (0:Int),.int .i64 (0:Int),.int .u64 (0:Int),.int .u8 (0:Int),.int .u32 (0:Int),.int .u64 (0:Int),.str ([]:zH),.osl none 5 (([]:List GItem).map GItem.row),.osl none 3 (([]:List GDot).map GDot.row)]) rfl su51 ze51 pl51 (yg va (yg vG (yg rfl (yg (gk yE) yl)))) (.cons (zb rfl) (.cons (zb rfl) (.cons (zb rfl) (.cons (zb rfl) .nil)))) rfl rfl) (sk xe) ?_
   refine xa rfl (FOk.cons (.inr (xU trivial)) FOk.nil) (by kernel_rfl) rfl (e_mapPut (m:=s1) (k:=v11) (v:=(GEdit.mk x1.path x1.leaf.typ true false x1.leaf (GLeaf.mk (0:Int) (0:Int) (0:Int) (GDot.mk (GActor.mk (0:Int) (0:Int)) (0:Int)) ([]:zH) ([]:List GItem) ([]:List GDot)))) (j:=0) (kv:=AV.str) (vv:=(fun x=>AV.agg (GEdit.row x))) rfl Tryz.underlying52 kq9 wN rfl vj (gk yW) rfl rfl) rfl ?_
   refine yo ?_
   refine yh (zj (zd ?_))
   refine zc rfl (zy rfl wa rfl rfl) (sk wd) ?_
   refine zc rfl (zf rfl (gk xw) (zb rfl)) we ?_
   refine ze (yH ?_)
   obtain rfl:=Option.some.inj hF
   exact ⟨(wJ (fun a b=>a==b) s1 v11 (GEdit.mk x1.path x1.leaf.typ true false x1.leaf (GLeaf.mk (0:Int) (0:Int) (0:Int) (GDot.mk (GActor.mk (0:Int) (0:Int)) (0:Int)) ([]:zH) ([]:List GItem) ([]:List GDot)))),hl1,hK1,wk.trans (wk.le (by exact (.drop (.eq (.d4 (.eq (.d4 (.d4 (.d4 (.drop (.drop (.drop (.eq (.eq (.cons (leV.of_eq (vf (by omega) (by omega))) (.d16 (.d16 (.d16 (.d4 (.d4 leL.nil)))))))))))))))))))) (xN (by simp [yi,AV.low]) rfl rfl (by simp [Blk.low,yi,AV.low,GEdit.row,qw]))⟩
  ·refine yR ?_
   refine zZ ?_
   refine zU ?_
   refine zV ?_
   refine zj (zk (zk (zd ?_)))
   refine zc rfl (zf rfl yE (zb rfl)) (sk yz) ?_
   refine zO hF (fun v12 hv12 hF=>?_)
   refine zL rfl (zC rfl rfl rfl (zo (gk ym) zw) (.cons (zb rfl) .nil)) (ok15 hv12) (sk xy) ?_
   refine ya rfl (zR rfl rfl rfl rfl el53 (gk yM) yb) (sk xF) fun hn13=>?_
   replace hn13:=xu hn13
   refine zc rfl (zf rfl rfl (zb rfl)) (sk xJ) ?_
   refine ze (zj (zQ ?_))
   refine yv (fun (n2:Nat) (s2:List (zH×GEdit))=>yO [0,1,2,3,4,5,7,8,9,10,11,12,13,14,15,16,17,18,19,20,21,22,23,24,25,26,27,28,29,30,31,32,33,34,35,36,37,38,39,40,41,42,43,44,48,49,50,51,52,53,54,55,56,57,58,59,60,61,62,63,64,65,66,67,68,69,70,71,72,73,74,75,76,77,78,79,80] [(47,.int .i64 (n2:Int))]) (fun s2=>h.ext [.mapo (s2.map (qw AV.str (fun x=>AV.agg (GEdit.row x)))) 0] []) hF (fun _ _=>by simp only [yO,upd,List.set_cons_succ,List.set_cons_zero];try rfl) (wk.le (by exact (.d4 (.drop (.drop (.eq (.d16 (.d16 (.d4 (.drop (.drop (.eq (.eq (.cons (leV.of_eq rfl) (.d16 (.d16 (.drop leL.nil))))))))))))))))) ?_
   intro n2 s2 hi2 hF
   refine zk (zd ?_)
   refine zc rfl (zy rfl (gk xC) (gk yU) rfl) (sk xP) ?_
   refine ze (zj (zk ?_))
   refine yK (gk xl) hF (fun x2 o2 hl2 hx2 hF hK2=>?_) (fun hF=>?_)
   ·refine zK (zj (zk (zQ (zk (zd ?_)))))
    refine zc rfl (yk rfl el53 (gk yM) (gk xC) wZ (yL hx2)) (sk ww) ?_
    refine zc rfl (yf rfl ty56.choose_spec.1 (gk xQ) (zI (cs':=[.sl 1 (x2.path.map zP),.int .u8 x2.leaf.typ,.int .i64 x2.leaf.n,.int .u64 x2.leaf.time,.int .u8 x2.leaf.dot.actor.rep,.int .u32 x2.leaf.dot.actor.inc,.int .u64 x2.leaf.dot.seq,.str x2.leaf.text,.sl 5 (x2.leaf.items.map GItem.row),.sl 3 (x2.leaf.tombs.map GDot.row)]) ty56.choose_spec.2 rfl rfl) (zb rfl)) (sk yI) ?_
    refine zc rfl (xc (n:=1) rfl ze56 rfl) yI ?_
    refine zc rfl (ye (cs':=[.sl 1 (x2.path.map zP),.int .u8 x2.leaf.typ,.int .i64 x2.leaf.n,.int .u64 x2.leaf.time,.int .u8 x2.leaf.dot.actor.rep,.int .u32 x2.leaf.dot.actor.inc,.int .u64 x2.leaf.dot.seq,.str x2.leaf.text,.sl 5 (x2.leaf.items.map GItem.row),.sl 3 (x2.leaf.tombs.map GDot.row)]) rfl ty56.choose_spec.1 yB (gk yB) (zb rfl) rfl rfl rfl rfl rfl) rfl ?_
    refine ze (zj (zk (zd ?_)))
    refine zc rfl (zf rfl yU (zb rfl)) (sk yN) ?_
    refine zc rfl (zg rfl fo56x0 yB rfl) (sk yS) ?_
    refine zc rfl (zu rfl ty49 (gk yP) rfl (zr rfl) (zb rfl)) (sk yV) ?_
    refine zc rfl (zg rfl fo56x1 yB rfl) (sk y4) ?_
    refine zc rfl (zg rfl xV (gk yX) rfl) (sk y8) ?_
    refine zc rfl (zu rfl ty5 (gk yT) rfl (zr rfl) (zb rfl)) (sk xg) ?_
    refine zO hF (fun v20 hv20 hF=>?_)
    refine zL rfl (zC rfl rfl rfl (zo (gk yD) (zo (gk xf) zw)) (.cons (zb rfl) (.cons (zb rfl) .nil))) (ok16 hv20) (sk xr) ?_
    refine zc rfl (e_lookup (m:=s2) (k:=v20) (d:=(GEdit.mk ([]:List zH) (0:Int) false false (GLeaf.mk (0:Int) (0:Int) (0:Int) (GDot.mk (GActor.mk (0:Int) (0:Int)) (0:Int)) ([]:zH) ([]:List GItem) ([]:List GDot)) (GLeaf.mk (0:Int) (0:Int) (0:Int) (GDot.mk (GActor.mk (0:Int) (0:Int)) (0:Int)) ([]:zH) ([]:List GItem) ([]:List GDot)))) (j:=0) (kv:=AV.str) (vv:=(fun x=>AV.agg (GEdit.row x))) rfl Tryz.underlying52 kq9 az51 (gk yA) rfl (gk xp)) (sk xD) ?_
    refine zc rfl (xc (n:=2) rfl ze51 rfl) yN ?_
    refine zc rfl (ye (cs':=[.sl 1 (((zS (fun a b=>a==b) (GEdit.mk ([]:List zH) (0:Int) false false (GLeaf.mk (0:Int) (0:Int) (0:Int) (GDot.mk (GActor.mk (0:Int) (0:Int)) (0:Int)) ([]:zH) ([]:List GItem) ([]:List GDot)) (GLeaf.mk (0:Int) (0:Int) (0:Int) (GDot.mk (GActor.mk (0:Int) (0:Int)) (0:Int)) ([]:zH) ([]:List GItem) ([]:List GDot))) s2 v20).path).map zP),.int .u8 ((zS (fun a b=>a==b) (GEdit.mk ([]:List zH) (0:Int) false false (GLeaf.mk (0:Int) (0:Int) (0:Int) (GDot.mk (GActor.mk (0:Int) (0:Int)) (0:Int)) ([]:zH) ([]:List GItem) ([]:List GDot)) (GLeaf.mk (0:Int) (0:Int) (0:Int) (GDot.mk (GActor.mk (0:Int) (0:Int)) (0:Int)) ([]:zH) ([]:List GItem) ([]:List GDot))) s2 v20).typ),.bool ((zS (fun a b=>a==b) (GEdit.mk ([]:List zH) (0:Int) false false (GLeaf.mk (0:Int) (0:Int) (0:Int) (GDot.mk (GActor.mk (0:Int) (0:Int)) (0:Int)) ([]:zH) ([]:List GItem) ([]:List GDot)) (GLeaf.mk (0:Int) (0:Int) (0:Int) (GDot.mk (GActor.mk (0:Int) (0:Int)) (0:Int)) ([]:zH) ([]:List GItem) ([]:List GDot))) s2 v20).had),.bool ((zS (fun a b=>a==b) (GEdit.mk ([]:List zH) (0:Int) false false (GLeaf.mk (0:Int) (0:Int) (0:Int) (GDot.mk (GActor.mk (0:Int) (0:Int)) (0:Int)) ([]:zH) ([]:List GItem) ([]:List GDot)) (GLeaf.mk (0:Int) (0:Int) (0:Int) (GDot.mk (GActor.mk (0:Int) (0:Int)) (0:Int)) ([]:zH) ([]:List GItem) ([]:List GDot))) s2 v20).has),.int .u8 ((zS (fun a b=>a==b) (GEdit.mk ([]:List zH) (0:Int) false false (GLeaf.mk (0:Int) (0:Int) (0:Int) (GDot.mk (GActor.mk (0:Int) (0:Int)) (0:Int)) ([]:zH) ([]:List GItem) ([]:List GDot)) (GLeaf.mk (0:Int) (0:Int) (0:Int) (GDot.mk (GActor.mk (0:Int) (0:Int)) (0:Int)) ([]:zH) ([]:List GItem) ([]:List GDot))) s2 v20).was.typ),.int .i64 ((zS (fun a b=>a==b) (GEdit.mk ([]:List zH) (0:Int) false false (GLeaf.mk (0:Int) (0:Int) (0:Int) (GDot.mk (GActor.mk (0:Int) (0:Int)) (0:Int)) ([]:zH) ([]:List GItem) ([]:List GDot)) (GLeaf.mk (0:Int) (0:Int) (0:Int) (GDot.mk (GActor.mk (0:Int) (0:Int)) (0:Int)) ([]:zH) ([]:List GItem) ([]:List GDot))) s2 v20).was.n),.int .u64 ((zS (fun a b=>a==b) (GEdit.mk ([]:List zH) (0:Int) false false (GLeaf.mk (0:Int) (0:Int) (0:Int) (GDot.mk (GActor.mk (0:Int) (0:Int)) (0:Int)) ([]:zH) ([]:List GItem) ([]:List GDot)) (GLeaf.mk (0:Int) (0:Int) (0:Int) (GDot.mk (GActor.mk (0:Int) (0:Int)) (0:Int)) ([]:zH) ([]:List GItem) ([]:List GDot))) s2 v20).was.time),.int .u8 ((zS (fun a b=>a==b) (GEdit.mk ([]:List zH) (0:Int) false false (GLeaf.mk (0:Int) (0:Int) (0:Int) (GDot.mk (GActor.mk (0:Int) (0:Int)) (0:Int)) ([]:zH) ([]:List GItem) ([]:List GDot)) (GLeaf.mk (0:Int) (0:Int) (0:Int) (GDot.mk (GActor.mk (0:Int) (0:Int)) (0:Int)) ([]:zH) ([]:List GItem) ([]:List GDot))) s2 v20).was.dot.actor.rep),.int .u32 ((zS (fun a b=>a==b) (GEdit.mk ([]:List zH) (0:Int) false false (GLeaf.mk (0:Int) (0:Int) (0:Int) (GDot.mk (GActor.mk (0:Int) (0:Int)) (0:Int)) ([]:zH) ([]:List GItem) ([]:List GDot)) (GLeaf.mk (0:Int) (0:Int) (0:Int) (GDot.mk (GActor.mk (0:Int) (0:Int)) (0:Int)) ([]:zH) ([]:List GItem) ([]:List GDot))) s2 v20).was.dot.actor.inc),.int .u64 ((zS (fun a b=>a==b) (GEdit.mk ([]:List zH) (0:Int) false false (GLeaf.mk (0:Int) (0:Int) (0:Int) (GDot.mk (GActor.mk (0:Int) (0:Int)) (0:Int)) ([]:zH) ([]:List GItem) ([]:List GDot)) (GLeaf.mk (0:Int) (0:Int) (0:Int) (GDot.mk (GActor.mk (0:Int) (0:Int)) (0:Int)) ([]:zH) ([]:List GItem) ([]:List GDot))) s2 v20).was.dot.seq),.str ((zS (fun a b=>a==b) (GEdit.mk ([]:List zH) (0:Int) false false (GLeaf.mk (0:Int) (0:Int) (0:Int) (GDot.mk (GActor.mk (0:Int) (0:Int)) (0:Int)) ([]:zH) ([]:List GItem) ([]:List GDot)) (GLeaf.mk (0:Int) (0:Int) (0:Int) (GDot.mk (GActor.mk (0:Int) (0:Int)) (0:Int)) ([]:zH) ([]:List GItem) ([]:List GDot))) s2 v20).was.text),.sl 5 (((zS (fun a b=>a==b) (GEdit.mk ([]:List zH) (0:Int) false false (GLeaf.mk (0:Int) (0:Int) (0:Int) (GDot.mk (GActor.mk (0:Int) (0:Int)) (0:Int)) ([]:zH) ([]:List GItem) ([]:List GDot)) (GLeaf.mk (0:Int) (0:Int) (0:Int) (GDot.mk (GActor.mk (0:Int) (0:Int)) (0:Int)) ([]:zH) ([]:List GItem) ([]:List GDot))) s2 v20).was.items).map GItem.row),.sl 3 (((zS (fun a b=>a==b) (GEdit.mk ([]:List zH) (0:Int) false false (GLeaf.mk (0:Int) (0:Int) (0:Int) (GDot.mk (GActor.mk (0:Int) (0:Int)) (0:Int)) ([]:zH) ([]:List GItem) ([]:List GDot)) (GLeaf.mk (0:Int) (0:Int) (0:Int) (GDot.mk (GActor.mk (0:Int) (0:Int)) (0:Int)) ([]:zH) ([]:List GItem) ([]:List GDot))) s2 v20).was.tombs).map GDot.row),.int .u8 ((zS (fun a b=>a==b) (GEdit.mk ([]:List zH) (0:Int) false false (GLeaf.mk (0:Int) (0:Int) (0:Int) (GDot.mk (GActor.mk (0:Int) (0:Int)) (0:Int)) ([]:zH) ([]:List GItem) ([]:List GDot)) (GLeaf.mk (0:Int) (0:Int) (0:Int) (GDot.mk (GActor.mk (0:Int) (0:Int)) (0:Int)) ([]:zH) ([]:List GItem) ([]:List GDot))) s2 v20).is.typ),.int .i64 ((zS (fun a b=>a==b) (GEdit.mk ([]:List zH) (0:Int) false false (GLeaf.mk (0:Int) (0:Int) (0:Int) (GDot.mk (GActor.mk (0:Int) (0:Int)) (0:Int)) ([]:zH) ([]:List GItem) ([]:List GDot)) (GLeaf.mk (0:Int) (0:Int) (0:Int) (GDot.mk (GActor.mk (0:Int) (0:Int)) (0:Int)) ([]:zH) ([]:List GItem) ([]:List GDot))) s2 v20).is.n),.int .u64 ((zS (fun a b=>a==b) (GEdit.mk ([]:List zH) (0:Int) false false (GLeaf.mk (0:Int) (0:Int) (0:Int) (GDot.mk (GActor.mk (0:Int) (0:Int)) (0:Int)) ([]:zH) ([]:List GItem) ([]:List GDot)) (GLeaf.mk (0:Int) (0:Int) (0:Int) (GDot.mk (GActor.mk (0:Int) (0:Int)) (0:Int)) ([]:zH) ([]:List GItem) ([]:List GDot))) s2 v20).is.time),.int .u8 ((zS (fun a b=>a==b) (GEdit.mk ([]:List zH) (0:Int) false false (GLeaf.mk (0:Int) (0:Int) (0:Int) (GDot.mk (GActor.mk (0:Int) (0:Int)) (0:Int)) ([]:zH) ([]:List GItem) ([]:List GDot)) (GLeaf.mk (0:Int) (0:Int) (0:Int) (GDot.mk (GActor.mk (0:Int) (0:Int)) (0:Int)) ([]:zH) ([]:List GItem) ([]:List GDot))) s2 v20).is.dot.actor.rep),.int .u32 ((zS (fun a b=>a==b) (GEdit.mk ([]:List zH) (0:Int) false false (GLeaf.mk (0:Int) (0:Int) (0:Int) (GDot.mk (GActor.mk (0:Int) (0:Int)) (0:Int)) ([]:zH) ([]:List GItem) ([]:List GDot)) (GLeaf.mk (0:Int) (0:Int) (0:Int) (GDot.mk (GActor.mk (0:Int) (0:Int)) (0:Int)) ([]:zH) ([]:List GItem) ([]:List GDot))) s2 v20).is.dot.actor.inc),.int .u64 ((zS (fun a b=>a==b) (GEdit.mk ([]:List zH) (0:Int) false false (GLeaf.mk (0:Int) (0:Int) (0:Int) (GDot.mk (GActor.mk (0:Int) (0:Int)) (0:Int)) ([]:zH) ([]:List GItem) ([]:List GDot)) (GLeaf.mk (0:Int) (0:Int) (0:Int) (GDot.mk (GActor.mk (0:Int) (0:Int)) (0:Int)) ([]:zH) ([]:List GItem) ([]:List GDot))) s2 v20).is.dot.seq),.str ((zS (fun a b=>a==b) (GEdit.mk ([]:List zH) (0:Int) false false (GLeaf.mk (0:Int) (0:Int) (0:Int) (GDot.mk (GActor.mk (0:Int) (0:Int)) (0:Int)) ([]:zH) ([]:List GItem) ([]:List GDot)) (GLeaf.mk (0:Int) (0:Int) (0:Int) (GDot.mk (GActor.mk (0:Int) (0:Int)) (0:Int)) ([]:zH) ([]:List GItem) ([]:List GDot))) s2 v20).is.text),.sl 5 (((zS (fun a b=>a==b) (GEdit.mk ([]:List zH) (0:Int) false false (GLeaf.mk (0:Int) (0:Int) (0:Int) (GDot.mk (GActor.mk (0:Int) (0:Int)) (0:Int)) ([]:zH) ([]:List GItem) ([]:List GDot)) (GLeaf.mk (0:Int) (0:Int) (0:Int) (GDot.mk (GActor.mk (0:Int) (0:Int)) (0:Int)) ([]:zH) ([]:List GItem) ([]:List GDot))) s2 v20).is.items).map GItem.row),.sl 3 (((zS (fun a b=>a==b) (GEdit.mk ([]:List zH) (0:Int) false false (GLeaf.mk (0:Int) (0:Int) (0:Int) (GDot.mk (GActor.mk (0:Int) (0:Int)) (0:Int)) ([]:zH) ([]:List GItem) ([]:List GDot)) (GLeaf.mk (0:Int) (0:Int) (0:Int) (GDot.mk (GActor.mk (0:Int) (0:Int)) (0:Int)) ([]:zH) ([]:List GItem) ([]:List GDot))) s2 v20).is.tombs).map GDot.row)]) rfl ty51.choose_spec.1 yA (gk xB) (zb rfl) rfl rfl rfl rfl rfl) rfl ?_
    refine ze (zj (zk ?_))
    refine yJ [4,6] [(4,[(1,.cells [.sl 1 (x2.path.map zP),.int .u8 x2.leaf.typ,.int .i64 x2.leaf.n,.int .u64 x2.leaf.time,.int .u8 x2.leaf.dot.actor.rep,.int .u32 x2.leaf.dot.actor.inc,.int .u64 x2.leaf.dot.seq,.str x2.leaf.text,.sl 5 (x2.leaf.items.map GItem.row),.sl 3 (x2.leaf.tombs.map GDot.row)])]),(6,[(1,.cells [.sl 1 (x2.path.map zP),.int .u8 x2.leaf.typ,.int .i64 x2.leaf.n,.int .u64 x2.leaf.time,.int .u8 x2.leaf.dot.actor.rep,.int .u32 x2.leaf.dot.actor.inc,.int .u64 x2.leaf.dot.seq,.str x2.leaf.text,.sl 5 (x2.leaf.items.map GItem.row),.sl 3 (x2.leaf.tombs.map GDot.row)])])] ⟨⟨rfl,trivial⟩,⟨rfl,trivial⟩,trivial⟩ mixed (by kernel_rfl) ?_
    refine zq rfl rfl (zg rfl fo56x0 yB rfl) (sk xK) ?_
    refine zq rfl rfl (zu rfl ty49 (gk xI) rfl (zr rfl) (zb rfl)) (sk x4) ?_
    refine zq rfl rfl (zg rfl fo56x1 yB rfl) (sk x9) ?_
    refine zq rfl rfl (zg rfl xV (gk x6) rfl) (sk wl) ?_
    refine draw_okN rfl rfl (by rintro _ ⟨B2,T2,rfl,hk2⟩;exact zu rfl ty5 (gk wi) (keeps1 hk2) (zr rfl) (zb rfl)) (sk x8) ?_
    refine zq rfl rfl (zg rfl fo56x1 yB rfl) (sk we) ?_
    refine draw_okN rfl rfl (by rintro _ ⟨B2,T2,rfl,hk2⟩;exact zu rfl ty45.choose_spec.1 (gk wa) (keeps1 hk2) (zI (cs':=[.int .u8 x2.leaf.typ,.int .i64 x2.leaf.n,.int .u64 x2.leaf.time,.int .u8 x2.leaf.dot.actor.rep,.int .u32 x2.leaf.dot.actor.inc,.int .u64 x2.leaf.dot.seq,.str x2.leaf.text,.sl 5 (x2.leaf.items.map GItem.row),.sl 3 (x2.leaf.tombs.map GDot.row)]) ty45.choose_spec.2 rfl rfl) (zb rfl)) (sk wo) ?_
    refine zq rfl rfl (zg rfl fo51x0 yA rfl) (sk wK) ?_
    refine xa rfl (FOk.cons (.inr (xU ⟨rfl,trivial⟩)) (FOk.cons (.inr (xU ⟨rfl,trivial⟩)) FOk.nil)) (by kernel_rfl) rfl (ye (cs':=[.sl 1 (x2.path.map zP),.int .u8 ((zS (fun a b=>a==b) (GEdit.mk ([]:List zH) (0:Int) false false (GLeaf.mk (0:Int) (0:Int) (0:Int) (GDot.mk (GActor.mk (0:Int) (0:Int)) (0:Int)) ([]:zH) ([]:List GItem) ([]:List GDot)) (GLeaf.mk (0:Int) (0:Int) (0:Int) (GDot.mk (GActor.mk (0:Int) (0:Int)) (0:Int)) ([]:zH) ([]:List GItem) ([]:List GDot))) s2 v20).typ),.bool ((zS (fun a b=>a==b) (GEdit.mk ([]:List zH) (0:Int) false false (GLeaf.mk (0:Int) (0:Int) (0:Int) (GDot.mk (GActor.mk (0:Int) (0:Int)) (0:Int)) ([]:zH) ([]:List GItem) ([]:List GDot)) (GLeaf.mk (0:Int) (0:Int) (0:Int) (GDot.mk (GActor.mk (0:Int) (0:Int)) (0:Int)) ([]:zH) ([]:List GItem) ([]:List GDot))) s2 v20).had),.bool ((zS (fun a b=>a==b) (GEdit.mk ([]:List zH) (0:Int) false false (GLeaf.mk (0:Int) (0:Int) (0:Int) (GDot.mk (GActor.mk (0:Int) (0:Int)) (0:Int)) ([]:zH) ([]:List GItem) ([]:List GDot)) (GLeaf.mk (0:Int) (0:Int) (0:Int) (GDot.mk (GActor.mk (0:Int) (0:Int)) (0:Int)) ([]:zH) ([]:List GItem) ([]:List GDot))) s2 v20).has),.int .u8 ((zS (fun a b=>a==b) (GEdit.mk ([]:List zH) (0:Int) false false (GLeaf.mk (0:Int) (0:Int) (0:Int) (GDot.mk (GActor.mk (0:Int) (0:Int)) (0:Int)) ([]:zH) ([]:List GItem) ([]:List GDot)) (GLeaf.mk (0:Int) (0:Int) (0:Int) (GDot.mk (GActor.mk (0:Int) (0:Int)) (0:Int)) ([]:zH) ([]:List GItem) ([]:List GDot))) s2 v20).was.typ),.int .i64 ((zS (fun a b=>a==b) (GEdit.mk ([]:List zH) (0:Int) false false (GLeaf.mk (0:Int) (0:Int) (0:Int) (GDot.mk (GActor.mk (0:Int) (0:Int)) (0:Int)) ([]:zH) ([]:List GItem) ([]:List GDot)) (GLeaf.mk (0:Int) (0:Int) (0:Int) (GDot.mk (GActor.mk (0:Int) (0:Int)) (0:Int)) ([]:zH) ([]:List GItem) ([]:List GDot))) s2 v20).was.n),.int .u64 ((zS (fun a b=>a==b) (GEdit.mk ([]:List zH) (0:Int) false false (GLeaf.mk (0:Int) (0:Int) (0:Int) (GDot.mk (GActor.mk (0:Int) (0:Int)) (0:Int)) ([]:zH) ([]:List GItem) ([]:List GDot)) (GLeaf.mk (0:Int) (0:Int) (0:Int) (GDot.mk (GActor.mk (0:Int) (0:Int)) (0:Int)) ([]:zH) ([]:List GItem) ([]:List GDot))) s2 v20).was.time),.int .u8 ((zS (fun a b=>a==b) (GEdit.mk ([]:List zH) (0:Int) false false (GLeaf.mk (0:Int) (0:Int) (0:Int) (GDot.mk (GActor.mk (0:Int) (0:Int)) (0:Int)) ([]:zH) ([]:List GItem) ([]:List GDot)) (GLeaf.mk (0:Int) (0:Int) (0:Int) (GDot.mk (GActor.mk (0:Int) (0:Int)) (0:Int)) ([]:zH) ([]:List GItem) ([]:List GDot))) s2 v20).was.dot.actor.rep),.int .u32 ((zS (fun a b=>a==b) (GEdit.mk ([]:List zH) (0:Int) false false (GLeaf.mk (0:Int) (0:Int) (0:Int) (GDot.mk (GActor.mk (0:Int) (0:Int)) (0:Int)) ([]:zH) ([]:List GItem) ([]:List GDot)) (GLeaf.mk (0:Int) (0:Int) (0:Int) (GDot.mk (GActor.mk (0:Int) (0:Int)) (0:Int)) ([]:zH) ([]:List GItem) ([]:List GDot))) s2 v20).was.dot.actor.inc),.int .u64 ((zS (fun a b=>a==b) (GEdit.mk ([]:List zH) (0:Int) false false (GLeaf.mk (0:Int) (0:Int) (0:Int) (GDot.mk (GActor.mk (0:Int) (0:Int)) (0:Int)) ([]:zH) ([]:List GItem) ([]:List GDot)) (GLeaf.mk (0:Int) (0:Int) (0:Int) (GDot.mk (GActor.mk (0:Int) (0:Int)) (0:Int)) ([]:zH) ([]:List GItem) ([]:List GDot))) s2 v20).was.dot.seq),.str ((zS (fun a b=>a==b) (GEdit.mk ([]:List zH) (0:Int) false false (GLeaf.mk (0:Int) (0:Int) (0:Int) (GDot.mk (GActor.mk (0:Int) (0:Int)) (0:Int)) ([]:zH) ([]:List GItem) ([]:List GDot)) (GLeaf.mk (0:Int) (0:Int) (0:Int) (GDot.mk (GActor.mk (0:Int) (0:Int)) (0:Int)) ([]:zH) ([]:List GItem) ([]:List GDot))) s2 v20).was.text),.sl 5 (((zS (fun a b=>a==b) (GEdit.mk ([]:List zH) (0:Int) false false (GLeaf.mk (0:Int) (0:Int) (0:Int) (GDot.mk (GActor.mk (0:Int) (0:Int)) (0:Int)) ([]:zH) ([]:List GItem) ([]:List GDot)) (GLeaf.mk (0:Int) (0:Int) (0:Int) (GDot.mk (GActor.mk (0:Int) (0:Int)) (0:Int)) ([]:zH) ([]:List GItem) ([]:List GDot))) s2 v20).was.items).map GItem.row),.sl 3 (((zS (fun a b=>a==b) (GEdit.mk ([]:List zH) (0:Int) false false (GLeaf.mk (0:Int) (0:Int) (0:Int) (GDot.mk (GActor.mk (0:Int) (0:Int)) (0:Int)) ([]:zH) ([]:List GItem) ([]:List GDot)) (GLeaf.mk (0:Int) (0:Int) (0:Int) (GDot.mk (GActor.mk (0:Int) (0:Int)) (0:Int)) ([]:zH) ([]:List GItem) ([]:List GDot))) s2 v20).was.tombs).map GDot.row),.int .u8 ((zS (fun a b=>a==b) (GEdit.mk ([]:List zH) (0:Int) false false (GLeaf.mk (0:Int) (0:Int) (0:Int) (GDot.mk (GActor.mk (0:Int) (0:Int)) (0:Int)) ([]:zH) ([]:List GItem) ([]:List GDot)) (GLeaf.mk (0:Int) (0:Int) (0:Int) (GDot.mk (GActor.mk (0:Int) (0:Int)) (0:Int)) ([]:zH) ([]:List GItem) ([]:List GDot))) s2 v20).is.typ),.int .i64 ((zS (fun a b=>a==b) (GEdit.mk ([]:List zH) (0:Int) false false (GLeaf.mk (0:Int) (0:Int) (0:Int) (GDot.mk (GActor.mk (0:Int) (0:Int)) (0:Int)) ([]:zH) ([]:List GItem) ([]:List GDot)) (GLeaf.mk (0:Int) (0:Int) (0:Int) (GDot.mk (GActor.mk (0:Int) (0:Int)) (0:Int)) ([]:zH) ([]:List GItem) ([]:List GDot))) s2 v20).is.n),.int .u64 ((zS (fun a b=>a==b) (GEdit.mk ([]:List zH) (0:Int) false false (GLeaf.mk (0:Int) (0:Int) (0:Int) (GDot.mk (GActor.mk (0:Int) (0:Int)) (0:Int)) ([]:zH) ([]:List GItem) ([]:List GDot)) (GLeaf.mk (0:Int) (0:Int) (0:Int) (GDot.mk (GActor.mk (0:Int) (0:Int)) (0:Int)) ([]:zH) ([]:List GItem) ([]:List GDot))) s2 v20).is.time),.int .u8 ((zS (fun a b=>a==b) (GEdit.mk ([]:List zH) (0:Int) false false (GLeaf.mk (0:Int) (0:Int) (0:Int) (GDot.mk (GActor.mk (0:Int) (0:Int)) (0:Int)) ([]:zH) ([]:List GItem) ([]:List GDot)) (GLeaf.mk (0:Int) (0:Int) (0:Int) (GDot.mk (GActor.mk (0:Int) (0:Int)) (0:Int)) ([]:zH) ([]:List GItem) ([]:List GDot))) s2 v20).is.dot.actor.rep),.int .u32 ((zS (fun a b=>a==b) (GEdit.mk ([]:List zH) (0:Int) false false (GLeaf.mk (0:Int) (0:Int) (0:Int) (GDot.mk (GActor.mk (0:Int) (0:Int)) (0:Int)) ([]:zH) ([]:List GItem) ([]:List GDot)) (GLeaf.mk (0:Int) (0:Int) (0:Int) (GDot.mk (GActor.mk (0:Int) (0:Int)) (0:Int)) ([]:zH) ([]:List GItem) ([]:List GDot))) s2 v20).is.dot.actor.inc),.int .u64 ((zS (fun a b=>a==b) (GEdit.mk ([]:List zH) (0:Int) false false (GLeaf.mk (0:Int) (0:Int) (0:Int) (GDot.mk (GActor.mk (0:Int) (0:Int)) (0:Int)) ([]:zH) ([]:List GItem) ([]:List GDot)) (GLeaf.mk (0:Int) (0:Int) (0:Int) (GDot.mk (GActor.mk (0:Int) (0:Int)) (0:Int)) ([]:zH) ([]:List GItem) ([]:List GDot))) s2 v20).is.dot.seq),.str ((zS (fun a b=>a==b) (GEdit.mk ([]:List zH) (0:Int) false false (GLeaf.mk (0:Int) (0:Int) (0:Int) (GDot.mk (GActor.mk (0:Int) (0:Int)) (0:Int)) ([]:zH) ([]:List GItem) ([]:List GDot)) (GLeaf.mk (0:Int) (0:Int) (0:Int) (GDot.mk (GActor.mk (0:Int) (0:Int)) (0:Int)) ([]:zH) ([]:List GItem) ([]:List GDot))) s2 v20).is.text),.sl 5 (((zS (fun a b=>a==b) (GEdit.mk ([]:List zH) (0:Int) false false (GLeaf.mk (0:Int) (0:Int) (0:Int) (GDot.mk (GActor.mk (0:Int) (0:Int)) (0:Int)) ([]:zH) ([]:List GItem) ([]:List GDot)) (GLeaf.mk (0:Int) (0:Int) (0:Int) (GDot.mk (GActor.mk (0:Int) (0:Int)) (0:Int)) ([]:zH) ([]:List GItem) ([]:List GDot))) s2 v20).is.items).map GItem.row),.sl 3 (((zS (fun a b=>a==b) (GEdit.mk ([]:List zH) (0:Int) false false (GLeaf.mk (0:Int) (0:Int) (0:Int) (GDot.mk (GActor.mk (0:Int) (0:Int)) (0:Int)) ([]:zH) ([]:List GItem) ([]:List GDot)) (GLeaf.mk (0:Int) (0:Int) (0:Int) (GDot.mk (GActor.mk (0:Int) (0:Int)) (0:Int)) ([]:zH) ([]:List GItem) ([]:List GDot))) s2 v20).is.tombs).map GDot.row)]) rfl ty49 (gk wI) (gk x5) (zb rfl) rfl rfl rfl rfl rfl) rfl ?_
    refine zq rfl rfl (zg rfl fo51x1 yA rfl) (sk wR) ?_
    refine xa rfl (FOk.cons (.inr (xU ⟨rfl,trivial⟩)) (FOk.cons (.inr (xU ⟨rfl,trivial⟩)) FOk.nil)) (by kernel_rfl) rfl (ye (cs':=[.sl 1 (x2.path.map zP),.int .u8 x2.leaf.typ,.bool ((zS (fun a b=>a==b) (GEdit.mk ([]:List zH) (0:Int) false false (GLeaf.mk (0:Int) (0:Int) (0:Int) (GDot.mk (GActor.mk (0:Int) (0:Int)) (0:Int)) ([]:zH) ([]:List GItem) ([]:List GDot)) (GLeaf.mk (0:Int) (0:Int) (0:Int) (GDot.mk (GActor.mk (0:Int) (0:Int)) (0:Int)) ([]:zH) ([]:List GItem) ([]:List GDot))) s2 v20).had),.bool ((zS (fun a b=>a==b) (GEdit.mk ([]:List zH) (0:Int) false false (GLeaf.mk (0:Int) (0:Int) (0:Int) (GDot.mk (GActor.mk (0:Int) (0:Int)) (0:Int)) ([]:zH) ([]:List GItem) ([]:List GDot)) (GLeaf.mk (0:Int) (0:Int) (0:Int) (GDot.mk (GActor.mk (0:Int) (0:Int)) (0:Int)) ([]:zH) ([]:List GItem) ([]:List GDot))) s2 v20).has),.int .u8 ((zS (fun a b=>a==b) (GEdit.mk ([]:List zH) (0:Int) false false (GLeaf.mk (0:Int) (0:Int) (0:Int) (GDot.mk (GActor.mk (0:Int) (0:Int)) (0:Int)) ([]:zH) ([]:List GItem) ([]:List GDot)) (GLeaf.mk (0:Int) (0:Int) (0:Int) (GDot.mk (GActor.mk (0:Int) (0:Int)) (0:Int)) ([]:zH) ([]:List GItem) ([]:List GDot))) s2 v20).was.typ),.int .i64 ((zS (fun a b=>a==b) (GEdit.mk ([]:List zH) (0:Int) false false (GLeaf.mk (0:Int) (0:Int) (0:Int) (GDot.mk (GActor.mk (0:Int) (0:Int)) (0:Int)) ([]:zH) ([]:List GItem) ([]:List GDot)) (GLeaf.mk (0:Int) (0:Int) (0:Int) (GDot.mk (GActor.mk (0:Int) (0:Int)) (0:Int)) ([]:zH) ([]:List GItem) ([]:List GDot))) s2 v20).was.n),.int .u64 ((zS (fun a b=>a==b) (GEdit.mk ([]:List zH) (0:Int) false false (GLeaf.mk (0:Int) (0:Int) (0:Int) (GDot.mk (GActor.mk (0:Int) (0:Int)) (0:Int)) ([]:zH) ([]:List GItem) ([]:List GDot)) (GLeaf.mk (0:Int) (0:Int) (0:Int) (GDot.mk (GActor.mk (0:Int) (0:Int)) (0:Int)) ([]:zH) ([]:List GItem) ([]:List GDot))) s2 v20).was.time),.int .u8 ((zS (fun a b=>a==b) (GEdit.mk ([]:List zH) (0:Int) false false (GLeaf.mk (0:Int) (0:Int) (0:Int) (GDot.mk (GActor.mk (0:Int) (0:Int)) (0:Int)) ([]:zH) ([]:List GItem) ([]:List GDot)) (GLeaf.mk (0:Int) (0:Int) (0:Int) (GDot.mk (GActor.mk (0:Int) (0:Int)) (0:Int)) ([]:zH) ([]:List GItem) ([]:List GDot))) s2 v20).was.dot.actor.rep),.int .u32 ((zS (fun a b=>a==b) (GEdit.mk ([]:List zH) (0:Int) false false (GLeaf.mk (0:Int) (0:Int) (0:Int) (GDot.mk (GActor.mk (0:Int) (0:Int)) (0:Int)) ([]:zH) ([]:List GItem) ([]:List GDot)) (GLeaf.mk (0:Int) (0:Int) (0:Int) (GDot.mk (GActor.mk (0:Int) (0:Int)) (0:Int)) ([]:zH) ([]:List GItem) ([]:List GDot))) s2 v20).was.dot.actor.inc),.int .u64 ((zS (fun a b=>a==b) (GEdit.mk ([]:List zH) (0:Int) false false (GLeaf.mk (0:Int) (0:Int) (0:Int) (GDot.mk (GActor.mk (0:Int) (0:Int)) (0:Int)) ([]:zH) ([]:List GItem) ([]:List GDot)) (GLeaf.mk (0:Int) (0:Int) (0:Int) (GDot.mk (GActor.mk (0:Int) (0:Int)) (0:Int)) ([]:zH) ([]:List GItem) ([]:List GDot))) s2 v20).was.dot.seq),.str ((zS (fun a b=>a==b) (GEdit.mk ([]:List zH) (0:Int) false false (GLeaf.mk (0:Int) (0:Int) (0:Int) (GDot.mk (GActor.mk (0:Int) (0:Int)) (0:Int)) ([]:zH) ([]:List GItem) ([]:List GDot)) (GLeaf.mk (0:Int) (0:Int) (0:Int) (GDot.mk (GActor.mk (0:Int) (0:Int)) (0:Int)) ([]:zH) ([]:List GItem) ([]:List GDot))) s2 v20).was.text),.sl 5 (((zS (fun a b=>a==b) (GEdit.mk ([]:List zH) (0:Int) false false (GLeaf.mk (0:Int) (0:Int) (0:Int) (GDot.mk (GActor.mk (0:Int) (0:Int)) (0:Int)) ([]:zH) ([]:List GItem) ([]:List GDot)) (GLeaf.mk (0:Int) (0:Int) (0:Int) (GDot.mk (GActor.mk (0:Int) (0:Int)) (0:Int)) ([]:zH) ([]:List GItem) ([]:List GDot))) s2 v20).was.items).map GItem.row),.sl 3 (((zS (fun a b=>a==b) (GEdit.mk ([]:List zH) (0:Int) false false (GLeaf.mk (0:Int) (0:Int) (0:Int) (GDot.mk (GActor.mk (0:Int) (0:Int)) (0:Int)) ([]:zH) ([]:List GItem) ([]:List GDot)) (GLeaf.mk (0:Int) (0:Int) (0:Int) (GDot.mk (GActor.mk (0:Int) (0:Int)) (0:Int)) ([]:zH) ([]:List GItem) ([]:List GDot))) s2 v20).was.tombs).map GDot.row),.int .u8 ((zS (fun a b=>a==b) (GEdit.mk ([]:List zH) (0:Int) false false (GLeaf.mk (0:Int) (0:Int) (0:Int) (GDot.mk (GActor.mk (0:Int) (0:Int)) (0:Int)) ([]:zH) ([]:List GItem) ([]:List GDot)) (GLeaf.mk (0:Int) (0:Int) (0:Int) (GDot.mk (GActor.mk (0:Int) (0:Int)) (0:Int)) ([]:zH) ([]:List GItem) ([]:List GDot))) s2 v20).is.typ),.int .i64 ((zS (fun a b=>a==b) (GEdit.mk ([]:List zH) (0:Int) false false (GLeaf.mk (0:Int) (0:Int) (0:Int) (GDot.mk (GActor.mk (0:Int) (0:Int)) (0:Int)) ([]:zH) ([]:List GItem) ([]:List GDot)) (GLeaf.mk (0:Int) (0:Int) (0:Int) (GDot.mk (GActor.mk (0:Int) (0:Int)) (0:Int)) ([]:zH) ([]:List GItem) ([]:List GDot))) s2 v20).is.n),.int .u64 ((zS (fun a b=>a==b) (GEdit.mk ([]:List zH) (0:Int) false false (GLeaf.mk (0:Int) (0:Int) (0:Int) (GDot.mk (GActor.mk (0:Int) (0:Int)) (0:Int)) ([]:zH) ([]:List GItem) ([]:List GDot)) (GLeaf.mk (0:Int) (0:Int) (0:Int) (GDot.mk (GActor.mk (0:Int) (0:Int)) (0:Int)) ([]:zH) ([]:List GItem) ([]:List GDot))) s2 v20).is.time),.int .u8 ((zS (fun a b=>a==b) (GEdit.mk ([]:List zH) (0:Int) false false (GLeaf.mk (0:Int) (0:Int) (0:Int) (GDot.mk (GActor.mk (0:Int) (0:Int)) (0:Int)) ([]:zH) ([]:List GItem) ([]:List GDot)) (GLeaf.mk (0:Int) (0:Int) (0:Int) (GDot.mk (GActor.mk (0:Int) (0:Int)) (0:Int)) ([]:zH) ([]:List GItem) ([]:List GDot))) s2 v20).is.dot.actor.rep),.int .u32 ((zS (fun a b=>a==b) (GEdit.mk ([]:List zH) (0:Int) false false (GLeaf.mk (0:Int) (0:Int) (0:Int) (GDot.mk (GActor.mk (0:Int) (0:Int)) (0:Int)) ([]:zH) ([]:List GItem) ([]:List GDot)) (GLeaf.mk (0:Int) (0:Int) (0:Int) (GDot.mk (GActor.mk (0:Int) (0:Int)) (0:Int)) ([]:zH) ([]:List GItem) ([]:List GDot))) s2 v20).is.dot.actor.inc),.int .u64 ((zS (fun a b=>a==b) (GEdit.mk ([]:List zH) (0:Int) false false (GLeaf.mk (0:Int) (0:Int) (0:Int) (GDot.mk (GActor.mk (0:Int) (0:Int)) (0:Int)) ([]:zH) ([]:List GItem) ([]:List GDot)) (GLeaf.mk (0:Int) (0:Int) (0:Int) (GDot.mk (GActor.mk (0:Int) (0:Int)) (0:Int)) ([]:zH) ([]:List GItem) ([]:List GDot))) s2 v20).is.dot.seq),.str ((zS (fun a b=>a==b) (GEdit.mk ([]:List zH) (0:Int) false false (GLeaf.mk (0:Int) (0:Int) (0:Int) (GDot.mk (GActor.mk (0:Int) (0:Int)) (0:Int)) ([]:zH) ([]:List GItem) ([]:List GDot)) (GLeaf.mk (0:Int) (0:Int) (0:Int) (GDot.mk (GActor.mk (0:Int) (0:Int)) (0:Int)) ([]:zH) ([]:List GItem) ([]:List GDot))) s2 v20).is.text),.sl 5 (((zS (fun a b=>a==b) (GEdit.mk ([]:List zH) (0:Int) false false (GLeaf.mk (0:Int) (0:Int) (0:Int) (GDot.mk (GActor.mk (0:Int) (0:Int)) (0:Int)) ([]:zH) ([]:List GItem) ([]:List GDot)) (GLeaf.mk (0:Int) (0:Int) (0:Int) (GDot.mk (GActor.mk (0:Int) (0:Int)) (0:Int)) ([]:zH) ([]:List GItem) ([]:List GDot))) s2 v20).is.items).map GItem.row),.sl 3 (((zS (fun a b=>a==b) (GEdit.mk ([]:List zH) (0:Int) false false (GLeaf.mk (0:Int) (0:Int) (0:Int) (GDot.mk (GActor.mk (0:Int) (0:Int)) (0:Int)) ([]:zH) ([]:List GItem) ([]:List GDot)) (GLeaf.mk (0:Int) (0:Int) (0:Int) (GDot.mk (GActor.mk (0:Int) (0:Int)) (0:Int)) ([]:zH) ([]:List GItem) ([]:List GDot))) s2 v20).is.tombs).map GDot.row)]) rfl ty5 (gk wV) (gk xX) (zb rfl) rfl rfl rfl rfl rfl) rfl ?_
    refine zq rfl rfl (zg rfl fo51x3 yA rfl) (sk wQ) ?_
    refine xa rfl (FOk.cons (.inr (xU ⟨rfl,trivial⟩)) (FOk.cons (.inr (xU ⟨rfl,trivial⟩)) FOk.nil)) (by kernel_rfl) rfl (ye (cs':=[.sl 1 (x2.path.map zP),.int .u8 x2.leaf.typ,.bool ((zS (fun a b=>a==b) (GEdit.mk ([]:List zH) (0:Int) false false (GLeaf.mk (0:Int) (0:Int) (0:Int) (GDot.mk (GActor.mk (0:Int) (0:Int)) (0:Int)) ([]:zH) ([]:List GItem) ([]:List GDot)) (GLeaf.mk (0:Int) (0:Int) (0:Int) (GDot.mk (GActor.mk (0:Int) (0:Int)) (0:Int)) ([]:zH) ([]:List GItem) ([]:List GDot))) s2 v20).had),.bool true,.int .u8 ((zS (fun a b=>a==b) (GEdit.mk ([]:List zH) (0:Int) false false (GLeaf.mk (0:Int) (0:Int) (0:Int) (GDot.mk (GActor.mk (0:Int) (0:Int)) (0:Int)) ([]:zH) ([]:List GItem) ([]:List GDot)) (GLeaf.mk (0:Int) (0:Int) (0:Int) (GDot.mk (GActor.mk (0:Int) (0:Int)) (0:Int)) ([]:zH) ([]:List GItem) ([]:List GDot))) s2 v20).was.typ),.int .i64 ((zS (fun a b=>a==b) (GEdit.mk ([]:List zH) (0:Int) false false (GLeaf.mk (0:Int) (0:Int) (0:Int) (GDot.mk (GActor.mk (0:Int) (0:Int)) (0:Int)) ([]:zH) ([]:List GItem) ([]:List GDot)) (GLeaf.mk (0:Int) (0:Int) (0:Int) (GDot.mk (GActor.mk (0:Int) (0:Int)) (0:Int)) ([]:zH) ([]:List GItem) ([]:List GDot))) s2 v20).was.n),.int .u64 ((zS (fun a b=>a==b) (GEdit.mk ([]:List zH) (0:Int) false false (GLeaf.mk (0:Int) (0:Int) (0:Int) (GDot.mk (GActor.mk (0:Int) (0:Int)) (0:Int)) ([]:zH) ([]:List GItem) ([]:List GDot)) (GLeaf.mk (0:Int) (0:Int) (0:Int) (GDot.mk (GActor.mk (0:Int) (0:Int)) (0:Int)) ([]:zH) ([]:List GItem) ([]:List GDot))) s2 v20).was.time),.int .u8 ((zS (fun a b=>a==b) (GEdit.mk ([]:List zH) (0:Int) false false (GLeaf.mk (0:Int) (0:Int) (0:Int) (GDot.mk (GActor.mk (0:Int) (0:Int)) (0:Int)) ([]:zH) ([]:List GItem) ([]:List GDot)) (GLeaf.mk (0:Int) (0:Int) (0:Int) (GDot.mk (GActor.mk (0:Int) (0:Int)) (0:Int)) ([]:zH) ([]:List GItem) ([]:List GDot))) s2 v20).was.dot.actor.rep),.int .u32 ((zS (fun a b=>a==b) (GEdit.mk ([]:List zH) (0:Int) false false (GLeaf.mk (0:Int) (0:Int) (0:Int) (GDot.mk (GActor.mk (0:Int) (0:Int)) (0:Int)) ([]:zH) ([]:List GItem) ([]:List GDot)) (GLeaf.mk (0:Int) (0:Int) (0:Int) (GDot.mk (GActor.mk (0:Int) (0:Int)) (0:Int)) ([]:zH) ([]:List GItem) ([]:List GDot))) s2 v20).was.dot.actor.inc),.int .u64 ((zS (fun a b=>a==b) (GEdit.mk ([]:List zH) (0:Int) false false (GLeaf.mk (0:Int) (0:Int) (0:Int) (GDot.mk (GActor.mk (0:Int) (0:Int)) (0:Int)) ([]:zH) ([]:List GItem) ([]:List GDot)) (GLeaf.mk (0:Int) (0:Int) (0:Int) (GDot.mk (GActor.mk (0:Int) (0:Int)) (0:Int)) ([]:zH) ([]:List GItem) ([]:List GDot))) s2 v20).was.dot.seq),.str ((zS (fun a b=>a==b) (GEdit.mk ([]:List zH) (0:Int) false false (GLeaf.mk (0:Int) (0:Int) (0:Int) (GDot.mk (GActor.mk (0:Int) (0:Int)) (0:Int)) ([]:zH) ([]:List GItem) ([]:List GDot)) (GLeaf.mk (0:Int) (0:Int) (0:Int) (GDot.mk (GActor.mk (0:Int) (0:Int)) (0:Int)) ([]:zH) ([]:List GItem) ([]:List GDot))) s2 v20).was.text),.sl 5 (((zS (fun a b=>a==b) (GEdit.mk ([]:List zH) (0:Int) false false (GLeaf.mk (0:Int) (0:Int) (0:Int) (GDot.mk (GActor.mk (0:Int) (0:Int)) (0:Int)) ([]:zH) ([]:List GItem) ([]:List GDot)) (GLeaf.mk (0:Int) (0:Int) (0:Int) (GDot.mk (GActor.mk (0:Int) (0:Int)) (0:Int)) ([]:zH) ([]:List GItem) ([]:List GDot))) s2 v20).was.items).map GItem.row),.sl 3 (((zS (fun a b=>a==b) (GEdit.mk ([]:List zH) (0:Int) false false (GLeaf.mk (0:Int) (0:Int) (0:Int) (GDot.mk (GActor.mk (0:Int) (0:Int)) (0:Int)) ([]:zH) ([]:List GItem) ([]:List GDot)) (GLeaf.mk (0:Int) (0:Int) (0:Int) (GDot.mk (GActor.mk (0:Int) (0:Int)) (0:Int)) ([]:zH) ([]:List GItem) ([]:List GDot))) s2 v20).was.tombs).map GDot.row),.int .u8 ((zS (fun a b=>a==b) (GEdit.mk ([]:List zH) (0:Int) false false (GLeaf.mk (0:Int) (0:Int) (0:Int) (GDot.mk (GActor.mk (0:Int) (0:Int)) (0:Int)) ([]:zH) ([]:List GItem) ([]:List GDot)) (GLeaf.mk (0:Int) (0:Int) (0:Int) (GDot.mk (GActor.mk (0:Int) (0:Int)) (0:Int)) ([]:zH) ([]:List GItem) ([]:List GDot))) s2 v20).is.typ),.int .i64 ((zS (fun a b=>a==b) (GEdit.mk ([]:List zH) (0:Int) false false (GLeaf.mk (0:Int) (0:Int) (0:Int) (GDot.mk (GActor.mk (0:Int) (0:Int)) (0:Int)) ([]:zH) ([]:List GItem) ([]:List GDot)) (GLeaf.mk (0:Int) (0:Int) (0:Int) (GDot.mk (GActor.mk (0:Int) (0:Int)) (0:Int)) ([]:zH) ([]:List GItem) ([]:List GDot))) s2 v20).is.n),.int .u64 ((zS (fun a b=>a==b) (GEdit.mk ([]:List zH) (0:Int) false false (GLeaf.mk (0:Int) (0:Int) (0:Int) (GDot.mk (GActor.mk (0:Int) (0:Int)) (0:Int)) ([]:zH) ([]:List GItem) ([]:List GDot)) (GLeaf.mk (0:Int) (0:Int) (0:Int) (GDot.mk (GActor.mk (0:Int) (0:Int)) (0:Int)) ([]:zH) ([]:List GItem) ([]:List GDot))) s2 v20).is.time),.int .u8 ((zS (fun a b=>a==b) (GEdit.mk ([]:List zH) (0:Int) false false (GLeaf.mk (0:Int) (0:Int) (0:Int) (GDot.mk (GActor.mk (0:Int) (0:Int)) (0:Int)) ([]:zH) ([]:List GItem) ([]:List GDot)) (GLeaf.mk (0:Int) (0:Int) (0:Int) (GDot.mk (GActor.mk (0:Int) (0:Int)) (0:Int)) ([]:zH) ([]:List GItem) ([]:List GDot))) s2 v20).is.dot.actor.rep),.int .u32 ((zS (fun a b=>a==b) (GEdit.mk ([]:List zH) (0:Int) false false (GLeaf.mk (0:Int) (0:Int) (0:Int) (GDot.mk (GActor.mk (0:Int) (0:Int)) (0:Int)) ([]:zH) ([]:List GItem) ([]:List GDot)) (GLeaf.mk (0:Int) (0:Int) (0:Int) (GDot.mk (GActor.mk (0:Int) (0:Int)) (0:Int)) ([]:zH) ([]:List GItem) ([]:List GDot))) s2 v20).is.dot.actor.inc),.int .u64 ((zS (fun a b=>a==b) (GEdit.mk ([]:List zH) (0:Int) false false (GLeaf.mk (0:Int) (0:Int) (0:Int) (GDot.mk (GActor.mk (0:Int) (0:Int)) (0:Int)) ([]:zH) ([]:List GItem) ([]:List GDot)) (GLeaf.mk (0:Int) (0:Int) (0:Int) (GDot.mk (GActor.mk (0:Int) (0:Int)) (0:Int)) ([]:zH) ([]:List GItem) ([]:List GDot))) s2 v20).is.dot.seq),.str ((zS (fun a b=>a==b) (GEdit.mk ([]:List zH) (0:Int) false false (GLeaf.mk (0:Int) (0:Int) (0:Int) (GDot.mk (GActor.mk (0:Int) (0:Int)) (0:Int)) ([]:zH) ([]:List GItem) ([]:List GDot)) (GLeaf.mk (0:Int) (0:Int) (0:Int) (GDot.mk (GActor.mk (0:Int) (0:Int)) (0:Int)) ([]:zH) ([]:List GItem) ([]:List GDot))) s2 v20).is.text),.sl 5 (((zS (fun a b=>a==b) (GEdit.mk ([]:List zH) (0:Int) false false (GLeaf.mk (0:Int) (0:Int) (0:Int) (GDot.mk (GActor.mk (0:Int) (0:Int)) (0:Int)) ([]:zH) ([]:List GItem) ([]:List GDot)) (GLeaf.mk (0:Int) (0:Int) (0:Int) (GDot.mk (GActor.mk (0:Int) (0:Int)) (0:Int)) ([]:zH) ([]:List GItem) ([]:List GDot))) s2 v20).is.items).map GItem.row),.sl 3 (((zS (fun a b=>a==b) (GEdit.mk ([]:List zH) (0:Int) false false (GLeaf.mk (0:Int) (0:Int) (0:Int) (GDot.mk (GActor.mk (0:Int) (0:Int)) (0:Int)) ([]:zH) ([]:List GItem) ([]:List GDot)) (GLeaf.mk (0:Int) (0:Int) (0:Int) (GDot.mk (GActor.mk (0:Int) (0:Int)) (0:Int)) ([]:zH) ([]:List GItem) ([]:List GDot))) s2 v20).is.tombs).map GDot.row)]) rfl ty4 (gk wN) rfl (zb rfl) rfl rfl rfl rfl rfl) rfl ?_
    refine zq rfl rfl (zg rfl fo51x5 yA rfl) (sk w9) ?_
    refine xa rfl (FOk.cons (.inr (xU ⟨rfl,trivial⟩)) (FOk.cons (.inr (xU ⟨rfl,trivial⟩)) FOk.nil)) (by kernel_rfl) rfl (ye (cs':=[.sl 1 (x2.path.map zP),.int .u8 x2.leaf.typ,.bool ((zS (fun a b=>a==b) (GEdit.mk ([]:List zH) (0:Int) false false (GLeaf.mk (0:Int) (0:Int) (0:Int) (GDot.mk (GActor.mk (0:Int) (0:Int)) (0:Int)) ([]:zH) ([]:List GItem) ([]:List GDot)) (GLeaf.mk (0:Int) (0:Int) (0:Int) (GDot.mk (GActor.mk (0:Int) (0:Int)) (0:Int)) ([]:zH) ([]:List GItem) ([]:List GDot))) s2 v20).had),.bool true,.int .u8 ((zS (fun a b=>a==b) (GEdit.mk ([]:List zH) (0:Int) false false (GLeaf.mk (0:Int) (0:Int) (0:Int) (GDot.mk (GActor.mk (0:Int) (0:Int)) (0:Int)) ([]:zH) ([]:List GItem) ([]:List GDot)) (GLeaf.mk (0:Int) (0:Int) (0:Int) (GDot.mk (GActor.mk (0:Int) (0:Int)) (0:Int)) ([]:zH) ([]:List GItem) ([]:List GDot))) s2 v20).was.typ),.int .i64 ((zS (fun a b=>a==b) (GEdit.mk ([]:List zH) (0:Int) false false (GLeaf.mk (0:Int) (0:Int) (0:Int) (GDot.mk (GActor.mk (0:Int) (0:Int)) (0:Int)) ([]:zH) ([]:List GItem) ([]:List GDot)) (GLeaf.mk (0:Int) (0:Int) (0:Int) (GDot.mk (GActor.mk (0:Int) (0:Int)) (0:Int)) ([]:zH) ([]:List GItem) ([]:List GDot))) s2 v20).was.n),.int .u64 ((zS (fun a b=>a==b) (GEdit.mk ([]:List zH) (0:Int) false false (GLeaf.mk (0:Int) (0:Int) (0:Int) (GDot.mk (GActor.mk (0:Int) (0:Int)) (0:Int)) ([]:zH) ([]:List GItem) ([]:List GDot)) (GLeaf.mk (0:Int) (0:Int) (0:Int) (GDot.mk (GActor.mk (0:Int) (0:Int)) (0:Int)) ([]:zH) ([]:List GItem) ([]:List GDot))) s2 v20).was.time),.int .u8 ((zS (fun a b=>a==b) (GEdit.mk ([]:List zH) (0:Int) false false (GLeaf.mk (0:Int) (0:Int) (0:Int) (GDot.mk (GActor.mk (0:Int) (0:Int)) (0:Int)) ([]:zH) ([]:List GItem) ([]:List GDot)) (GLeaf.mk (0:Int) (0:Int) (0:Int) (GDot.mk (GActor.mk (0:Int) (0:Int)) (0:Int)) ([]:zH) ([]:List GItem) ([]:List GDot))) s2 v20).was.dot.actor.rep),.int .u32 ((zS (fun a b=>a==b) (GEdit.mk ([]:List zH) (0:Int) false false (GLeaf.mk (0:Int) (0:Int) (0:Int) (GDot.mk (GActor.mk (0:Int) (0:Int)) (0:Int)) ([]:zH) ([]:List GItem) ([]:List GDot)) (GLeaf.mk (0:Int) (0:Int) (0:Int) (GDot.mk (GActor.mk (0:Int) (0:Int)) (0:Int)) ([]:zH) ([]:List GItem) ([]:List GDot))) s2 v20).was.dot.actor.inc),.int .u64 ((zS (fun a b=>a==b) (GEdit.mk ([]:List zH) (0:Int) false false (GLeaf.mk (0:Int) (0:Int) (0:Int) (GDot.mk (GActor.mk (0:Int) (0:Int)) (0:Int)) ([]:zH) ([]:List GItem) ([]:List GDot)) (GLeaf.mk (0:Int) (0:Int) (0:Int) (GDot.mk (GActor.mk (0:Int) (0:Int)) (0:Int)) ([]:zH) ([]:List GItem) ([]:List GDot))) s2 v20).was.dot.seq),.str ((zS (fun a b=>a==b) (GEdit.mk ([]:List zH) (0:Int) false false (GLeaf.mk (0:Int) (0:Int) (0:Int) (GDot.mk (GActor.mk (0:Int) (0:Int)) (0:Int)) ([]:zH) ([]:List GItem) ([]:List GDot)) (GLeaf.mk (0:Int) (0:Int) (0:Int) (GDot.mk (GActor.mk (0:Int) (0:Int)) (0:Int)) ([]:zH) ([]:List GItem) ([]:List GDot))) s2 v20).was.text),.sl 5 (((zS (fun a b=>a==b) (GEdit.mk ([]:List zH) (0:Int) false false (GLeaf.mk (0:Int) (0:Int) (0:Int) (GDot.mk (GActor.mk (0:Int) (0:Int)) (0:Int)) ([]:zH) ([]:List GItem) ([]:List GDot)) (GLeaf.mk (0:Int) (0:Int) (0:Int) (GDot.mk (GActor.mk (0:Int) (0:Int)) (0:Int)) ([]:zH) ([]:List GItem) ([]:List GDot))) s2 v20).was.items).map GItem.row),.sl 3 (((zS (fun a b=>a==b) (GEdit.mk ([]:List zH) (0:Int) false false (GLeaf.mk (0:Int) (0:Int) (0:Int) (GDot.mk (GActor.mk (0:Int) (0:Int)) (0:Int)) ([]:zH) ([]:List GItem) ([]:List GDot)) (GLeaf.mk (0:Int) (0:Int) (0:Int) (GDot.mk (GActor.mk (0:Int) (0:Int)) (0:Int)) ([]:zH) ([]:List GItem) ([]:List GDot))) s2 v20).was.tombs).map GDot.row),.int .u8 x2.leaf.typ,.int .i64 x2.leaf.n,.int .u64 x2.leaf.time,.int .u8 x2.leaf.dot.actor.rep,.int .u32 x2.leaf.dot.actor.inc,.int .u64 x2.leaf.dot.seq,.str x2.leaf.text,.sl 5 (x2.leaf.items.map GItem.row),.sl 3 (x2.leaf.tombs.map GDot.row)]) rfl ty45.choose_spec.1 (gk vb) (gk wm) (zb rfl) rfl rfl rfl rfl rfl) rfl ?_
    refine yo ?_
    refine zj ?_
    refine yJ [6] [] trivial mixed (by kernel_rfl) ?_
    refine zq rfl rfl (zf rfl yU (zb rfl)) (sk w8) ?_
    refine zq rfl rfl (zg rfl fo56x0 yB rfl) (sk vh) ?_
    refine zq rfl rfl (zu rfl ty49 (gk vl) rfl (zr rfl) (zb rfl)) (sk vz) ?_
    refine zq rfl rfl (zg rfl fo56x1 yB rfl) (sk vw) ?_
    refine zq rfl rfl (zg rfl xV (gk vC) rfl) (sk vu) ?_
    refine zq rfl rfl (zu rfl ty5 (gk vj) rfl (zr rfl) (zb rfl)) (sk vt) ?_
    refine zO hF (fun v21 hv21 hF=>?_)
    refine yw rfl rfl (fun _=>zC rfl rfl rfl (zo (gk vk) (zo (gk vB) zw)) (.cons (zb rfl) (.cons (zb rfl) .nil))) (by rintro _ ⟨B2,T2,rfl,hk2⟩;exact ok16 hv21) (sk vg) ?_
    refine zq rfl rfl (zu rfl ty51.choose_spec.1 yA rfl (zI (cs':=[.sl 1 (x2.path.map zP),.int .u8 x2.leaf.typ,.bool ((zS (fun a b=>a==b) (GEdit.mk ([]:List zH) (0:Int) false false (GLeaf.mk (0:Int) (0:Int) (0:Int) (GDot.mk (GActor.mk (0:Int) (0:Int)) (0:Int)) ([]:zH) ([]:List GItem) ([]:List GDot)) (GLeaf.mk (0:Int) (0:Int) (0:Int) (GDot.mk (GActor.mk (0:Int) (0:Int)) (0:Int)) ([]:zH) ([]:List GItem) ([]:List GDot))) s2 v20).had),.bool true,.int .u8 ((zS (fun a b=>a==b) (GEdit.mk ([]:List zH) (0:Int) false false (GLeaf.mk (0:Int) (0:Int) (0:Int) (GDot.mk (GActor.mk (0:Int) (0:Int)) (0:Int)) ([]:zH) ([]:List GItem) ([]:List GDot)) (GLeaf.mk (0:Int) (0:Int) (0:Int) (GDot.mk (GActor.mk (0:Int) (0:Int)) (0:Int)) ([]:zH) ([]:List GItem) ([]:List GDot))) s2 v20).was.typ),.int .i64 ((zS (fun a b=>a==b) (GEdit.mk ([]:List zH) (0:Int) false false (GLeaf.mk (0:Int) (0:Int) (0:Int) (GDot.mk (GActor.mk (0:Int) (0:Int)) (0:Int)) ([]:zH) ([]:List GItem) ([]:List GDot)) (GLeaf.mk (0:Int) (0:Int) (0:Int) (GDot.mk (GActor.mk (0:Int) (0:Int)) (0:Int)) ([]:zH) ([]:List GItem) ([]:List GDot))) s2 v20).was.n),.int .u64 ((zS (fun a b=>a==b) (GEdit.mk ([]:List zH) (0:Int) false false (GLeaf.mk (0:Int) (0:Int) (0:Int) (GDot.mk (GActor.mk (0:Int) (0:Int)) (0:Int)) ([]:zH) ([]:List GItem) ([]:List GDot)) (GLeaf.mk (0:Int) (0:Int) (0:Int) (GDot.mk (GActor.mk (0:Int) (0:Int)) (0:Int)) ([]:zH) ([]:List GItem) ([]:List GDot))) s2 v20).was.time),.int .u8 ((zS (fun a b=>a==b) (GEdit.mk ([]:List zH) (0:Int) false false (GLeaf.mk (0:Int) (0:Int) (0:Int) (GDot.mk (GActor.mk (0:Int) (0:Int)) (0:Int)) ([]:zH) ([]:List GItem) ([]:List GDot)) (GLeaf.mk (0:Int) (0:Int) (0:Int) (GDot.mk (GActor.mk (0:Int) (0:Int)) (0:Int)) ([]:zH) ([]:List GItem) ([]:List GDot))) s2 v20).was.dot.actor.rep),.int .u32 ((zS (fun a b=>a==b) (GEdit.mk ([]:List zH) (0:Int) false false (GLeaf.mk (0:Int) (0:Int) (0:Int) (GDot.mk (GActor.mk (0:Int) (0:Int)) (0:Int)) ([]:zH) ([]:List GItem) ([]:List GDot)) (GLeaf.mk (0:Int) (0:Int) (0:Int) (GDot.mk (GActor.mk (0:Int) (0:Int)) (0:Int)) ([]:zH) ([]:List GItem) ([]:List GDot))) s2 v20).was.dot.actor.inc),.int .u64 ((zS (fun a b=>a==b) (GEdit.mk ([]:List zH) (0:Int) false false (GLeaf.mk (0:Int) (0:Int) (0:Int) (GDot.mk (GActor.mk (0:Int) (0:Int)) (0:Int)) ([]:zH) ([]:List GItem) ([]:List GDot)) (GLeaf.mk (0:Int) (0:Int) (0:Int) (GDot.mk (GActor.mk (0:Int) (0:Int)) (0:Int)) ([]:zH) ([]:List GItem) ([]:List GDot))) s2 v20).was.dot.seq),.str ((zS (fun a b=>a==b) (GEdit.mk ([]:List zH) (0:Int) false false (GLeaf.mk (0:Int) (0:Int) (0:Int) (GDot.mk (GActor.mk (0:Int) (0:Int)) (0:Int)) ([]:zH) ([]:List GItem) ([]:List GDot)) (GLeaf.mk (0:Int) (0:Int) (0:Int) (GDot.mk (GActor.mk (0:Int) (0:Int)) (0:Int)) ([]:zH) ([]:List GItem) ([]:List GDot))) s2 v20).was.text),.sl 5 (((zS (fun a b=>a==b) (GEdit.mk ([]:List zH) (0:Int) false false (GLeaf.mk (0:Int) (0:Int) (0:Int) (GDot.mk (GActor.mk (0:Int) (0:Int)) (0:Int)) ([]:zH) ([]:List GItem) ([]:List GDot)) (GLeaf.mk (0:Int) (0:Int) (0:Int) (GDot.mk (GActor.mk (0:Int) (0:Int)) (0:Int)) ([]:zH) ([]:List GItem) ([]:List GDot))) s2 v20).was.items).map GItem.row),.sl 3 (((zS (fun a b=>a==b) (GEdit.mk ([]:List zH) (0:Int) false false (GLeaf.mk (0:Int) (0:Int) (0:Int) (GDot.mk (GActor.mk (0:Int) (0:Int)) (0:Int)) ([]:zH) ([]:List GItem) ([]:List GDot)) (GLeaf.mk (0:Int) (0:Int) (0:Int) (GDot.mk (GActor.mk (0:Int) (0:Int)) (0:Int)) ([]:zH) ([]:List GItem) ([]:List GDot))) s2 v20).was.tombs).map GDot.row),.int .u8 x2.leaf.typ,.int .i64 x2.leaf.n,.int .u64 x2.leaf.time,.int .u8 x2.leaf.dot.actor.rep,.int .u32 x2.leaf.dot.actor.inc,.int .u64 x2.leaf.dot.seq,.str x2.leaf.text,.sl 5 (x2.leaf.items.map GItem.row),.sl 3 (x2.leaf.tombs.map GDot.row)]) ty51.choose_spec.2 rfl rfl) (zb rfl)) (sk vr) ?_
    refine xa rfl (FOk.cons (.inr (xU trivial)) FOk.nil) (by kernel_rfl) rfl (e_mapPut (m:=s2) (k:=v21) (v:=(GEdit.mk x2.path x2.leaf.typ ((zS (fun a b=>a==b) (GEdit.mk ([]:List zH) (0:Int) false false (GLeaf.mk (0:Int) (0:Int) (0:Int) (GDot.mk (GActor.mk (0:Int) (0:Int)) (0:Int)) ([]:zH) ([]:List GItem) ([]:List GDot)) (GLeaf.mk (0:Int) (0:Int) (0:Int) (GDot.mk (GActor.mk (0:Int) (0:Int)) (0:Int)) ([]:zH) ([]:List GItem) ([]:List GDot))) s2 v20).had) true ((zS (fun a b=>a==b) (GEdit.mk ([]:List zH) (0:Int) false false (GLeaf.mk (0:Int) (0:Int) (0:Int) (GDot.mk (GActor.mk (0:Int) (0:Int)) (0:Int)) ([]:zH) ([]:List GItem) ([]:List GDot)) (GLeaf.mk (0:Int) (0:Int) (0:Int) (GDot.mk (GActor.mk (0:Int) (0:Int)) (0:Int)) ([]:zH) ([]:List GItem) ([]:List GDot))) s2 v20).was) x2.leaf)) (j:=0) (kv:=AV.str) (vv:=(fun x=>AV.agg (GEdit.row x))) rfl Tryz.underlying52 kq9 (gk vm) rfl (gk va) (gk vA) rfl rfl) rfl ?_
    refine yo ?_
    refine yh (zj (zd ?_))
    refine zc rfl (zy rfl (gk xC) rfl rfl) (sk vK) ?_
    refine zc rfl (zf rfl (gk vO) (zb rfl)) (sk xJ) ?_
    refine ze (yH ?_)
    obtain rfl:=Option.some.inj hF
    exact ⟨(wJ (fun a b=>a==b) s2 v21 (GEdit.mk x2.path x2.leaf.typ ((zS (fun a b=>a==b) (GEdit.mk ([]:List zH) (0:Int) false false (GLeaf.mk (0:Int) (0:Int) (0:Int) (GDot.mk (GActor.mk (0:Int) (0:Int)) (0:Int)) ([]:zH) ([]:List GItem) ([]:List GDot)) (GLeaf.mk (0:Int) (0:Int) (0:Int) (GDot.mk (GActor.mk (0:Int) (0:Int)) (0:Int)) ([]:zH) ([]:List GItem) ([]:List GDot))) s2 v20).had) true ((zS (fun a b=>a==b) (GEdit.mk ([]:List zH) (0:Int) false false (GLeaf.mk (0:Int) (0:Int) (0:Int) (GDot.mk (GActor.mk (0:Int) (0:Int)) (0:Int)) ([]:zH) ([]:List GItem) ([]:List GDot)) (GLeaf.mk (0:Int) (0:Int) (0:Int) (GDot.mk (GActor.mk (0:Int) (0:Int)) (0:Int)) ([]:zH) ([]:List GItem) ([]:List GDot))) s2 v20).was) x2.leaf)),hl2,hK2,wk.trans (wk.le (by exact (.d4 (.drop (.drop (.eq (.d16 (.d16 (.d4 (.drop (.drop (.eq (.eq (.cons (leV.of_eq (vf (by omega) (by omega))) (.d16 (.d16 (.drop leL.nil))))))))))))))))) (xN (by simp [yi,AV.low]) rfl rfl (by simp [Blk.low,yi,AV.low,GEdit.row,qw]))⟩
   ·refine yR ?_
    refine zZ ?_
    refine zU ?_
    refine zV ?_
    refine zj (zk (zd ?_))
    refine zc rfl (zf rfl yU (zb rfl)) (sk vJ) ?_
    refine zO hF (fun v22 hv22 hF=>?_)
    refine zL rfl (zC rfl rfl rfl (zo (gk vG) zw) (.cons (zb rfl) .nil)) (ok17 (n_blk rfl rfl) hv22) (sk (sk st0)) ?_
    refine zc rfl (zi rfl (gk (gk yr)) (zb rfl)) yz ?_
    refine zc rfl (zi rfl rfl (zb rfl)) xy ?_
    refine ze (zj (zJ ?_))
    obtain rfl:=Option.some.inj hF
    refine qX rfl (zD ym (zD yM zF)) (zA (leV.refl _) rfl ?_)
    exact ⟨rfl,rfl⟩
/-! varve/varvelaw31.known -/
theorem ok5  {res:Bool} {h:AH}  (hF:qd  = some res):Spec Tryz.prog 5 [] h (fun rr hh=>rr=.bool res∧hh=h):=by
 unfold qd at hF
 refine zt Tryz.func5 rfl (by kernel_rfl) (env:=[za,za,za,za,za,za,za,za,za,za,za,za,za,za,za,za,za,za,za,za,za,za,za,za,za,za,za,za,za,za,za,za,za,za,za,za,za,za,za,za,za,za,za,za,za,za,za,za,za,za,za,za,za,za,za,za,za,za]) (by rfl) ?_
 refine zk (zd ?_)
 refine zc rfl (zi rfl rfl (zb rfl)) st0 ?_
 refine ze (zj (zk (zd ?_)))
 refine zc rfl (ql (cs':=[.int .u8 (1:Int),.int .i64 (5:Int),.int .u64 (0:Int),.int .u8 (0:Int),.int .u32 (0:Int),.int .u64 (0:Int),.str ([]:zH),.osl none 5 (([]:List GItem).map GItem.row),.osl none 3 (([]:List GDot).map GDot.row)]) rfl su45 ze45 pl45 (yg rfl (yg rfl yl)) (.cons (zb rfl) (.cons (zb rfl) .nil)) rfl rfl) xF ?_
 refine zc rfl (yu (es:=([(GLeaf.mk (1:Int) (5:Int) (0:Int) (GDot.mk (GActor.mk (0:Int) (0:Int)) (0:Int)) ([]:zH) ([]:List GItem) ([]:List GDot))]:List GLeaf).map GLeaf.row) rfl wc ze45 rfl rfl (yg yU yl) (.cons (zb rfl) .nil) rfl rfl rfl) xJ ?_
 refine zc rfl (ql (cs':=[.str ([97]:zH),.osl none 9 (([(GLeaf.mk (1:Int) (5:Int) (0:Int) (GDot.mk (GActor.mk (0:Int) (0:Int)) (0:Int)) ([]:zH) ([]:List GItem) ([]:List GDot))]:List GLeaf).map GLeaf.row),.osl none 3 (([]:List GNode).map GNode.row)]) rfl su48 ze48 pl48 (yg rfl (yg xC yl)) (.cons (zb rfl) (.cons (zb rfl) .nil)) rfl rfl) xP ?_
 refine zc rfl (yu (es:=([(GNode.mk ([97]:zH) ([(GLeaf.mk (1:Int) (5:Int) (0:Int) (GDot.mk (GActor.mk (0:Int) (0:Int)) (0:Int)) ([]:zH) ([]:List GItem) ([]:List GDot))]:List GLeaf) ([]:List GNode))]:List GNode).map GNode.row) rfl xn ze48 rfl rfl (yg xl yl) (.cons (zb rfl) .nil) rfl rfl (by simp only [List.map_cons,List.map_nil,GNode.row_eq];rfl)) ww ?_
 refine zc rfl (zi rfl xQ (zb rfl)) st1 ?_
 refine ze (zj (zk (zd ?_)))
 refine zc rfl (zf rfl yE (zb rfl)) yN ?_
 refine zO hF (fun v1 hv1 hF=>?_)
 refine zL rfl (zC rfl rfl rfl (zo rfl (zo yA zw)) (.cons (xk xn) (.cons (zb rfl) .nil))) ((ok6 hv1).le (.cons (leV.osl _ _ _) (.cons (leV.osl _ _ _) leL.nil))) yS ?_
 refine zc rfl (zf rfl yP (zb rfl)) yI ?_
 refine zc rfl (yG rfl yB rfl (zb rfl)) yV ?_
 refine zc rfl (yG rfl yB rfl (zb rfl)) y4 ?_
 refine zc rfl (zi rfl yD (zb rfl)) xe ?_
 refine zc rfl (zi rfl yX (zb rfl)) wd ?_
 refine ze (zj (zk (zd ?_)))
 refine zc rfl (zf rfl yE (zb rfl)) xg ?_
 refine zc rfl (zf rfl yE (zb rfl)) xr ?_
 refine zO hF (fun v2 hv2 hF=>?_)
 refine zL rfl (zC rfl rfl rfl (zo xf (zo xp zw)) (.cons (zb rfl) (.cons (zb rfl) .nil))) ((ok6 hv2).le (.cons (leV.osl _ _ _) (.cons (leV.osl _ _ _) leL.nil))) xD ?_
 refine zc rfl (zf rfl xB (zb rfl)) y8 ?_
 refine zc rfl (yG rfl yT rfl (zb rfl)) xK ?_
 refine zc rfl (yG rfl yT rfl (zb rfl)) x4 ?_
 refine zc rfl (zi rfl xI (zb rfl)) yz ?_
 refine zc rfl (zi rfl x5 (zb rfl)) xy ?_
 refine ze (zj (zk (zd ?_)))
 refine zc rfl (zf rfl xw (zb rfl)) x9 ?_
 refine zc rfl (zy rfl x6 rfl rfl) wl ?_
 refine zc rfl (zf rfl wi (zb rfl)) x8 ?_
 refine zp rfl (fun hb=>zf rfl yM (zb rfl)) we ?_
 refine zp rfl (fun hb=>zy rfl (zn wa hb) rfl rfl) wo ?_
 refine zc rfl (zM rfl xX wm rfl (zX (fun ht=>gT ht))) wK ?_
 refine zc rfl (zf rfl wI (zb rfl)) wR ?_
 refine zp rfl (fun hb=>zf rfl yW (zb rfl)) wQ ?_
 refine xA rfl (fun hb=>zR rfl rfl rfl rfl el26 (zn wN hb) yb) w9 fun hn3=>?_
 refine zp rfl (fun hb=>zy rfl (zn vb hb) rfl rfl) w8 ?_
 refine zc rfl (zM rfl wV vm rfl (zX (fun ht=>gT ht))) vh ?_
 refine zc rfl (zf rfl vl (zb rfl)) vz ?_
 refine zp rfl (fun hb=>zf rfl yW (zb rfl)) vw ?_
 refine wC hF (fun hg4 hF=>?_)
 refine zp rfl (fun hb=>xM default rfl el26 (zn vC hb) rfl wZ (hg4 hb)) vu ?_
 refine zp rfl (fun hb=>zg rfl fo51x2 (zn vj hb) rfl) vt ?_
 refine zp rfl (fun hb=>yf rfl ty4 (zn vB hb) (zr rfl) (zb rfl)) vg ?_
 refine zp rfl (fun hb=>xT rfl (zn va hb) rfl) vr ?_
 refine zc rfl (zM rfl vk vA rfl (zX (fun ht=>gT ht))) vK ?_
 refine zc rfl (zf rfl vO (zb rfl)) vJ ?_
 refine zp rfl (fun hb=>zf rfl yW (zb rfl)) (sk st0) ?_
 refine wC hF (fun hg5 hF=>?_)
 refine zp rfl (fun hb=>xM default rfl el26 (zn (gk yr) hb) rfl wZ (hg5 hb)) (sk st1) ?_
 refine zp rfl (fun hb=>zg rfl fo51x3 (zn (gk yE) hb) rfl) (sk xe) ?_
 refine zp rfl (fun hb=>yf rfl ty4 (zn (gk yW) hb) (zr rfl) (zb rfl)) (sk wd) ?_
 refine zc rfl (zM rfl vG (gk xw) rfl (zX (fun ht=>gT ht))) (sk yz) ?_
 refine zc rfl (zf rfl (gk ym) (zb rfl)) (sk xy) ?_
 refine zp rfl (fun hb=>zf rfl yW (zb rfl)) (sk xF) ?_
 refine wC hF (fun hg6 hF=>?_)
 refine zp rfl (fun hb=>xM default rfl el26 (zn (gk yU) hb) rfl wZ (hg6 hb)) (sk xJ) ?_
 refine zp rfl (fun hb=>zg rfl fo51x5 (zn (gk xC) hb) rfl) (sk xP) ?_
 refine zp rfl (fun hb=>zg rfl fo45x1 (zn (gk xl) hb) rfl) (sk ww) ?_
 refine zp rfl (fun hb=>yf rfl ty2 (zn (gk xQ) hb) (zr rfl) (zb rfl)) (sk yI) ?_
 refine zp rfl (fun hb=>zy rfl (zn (gk yB) hb) rfl rfl) (sk yN) ?_
 refine zc rfl (zM rfl (gk yM) (gk yA) rfl (zX (fun ht=>gT ht))) (sk yS) ?_
 refine zc rfl (zf rfl (gk yP) (zb rfl)) (sk yV) ?_
 refine zp rfl (fun hb=>zf rfl ym (zb rfl)) (sk y4) ?_
 refine xA rfl (fun hb=>zR rfl rfl rfl rfl el26 (zn (gk yX) hb) yb) (sk y8) fun hn7=>?_
 refine zp rfl (fun hb=>zy rfl (zn (gk yT) hb) rfl rfl) (sk xg) ?_
 refine zc rfl (zM rfl (gk yD) (gk xf) rfl (zX (fun ht=>gT ht))) (sk xr) ?_
 refine zc rfl (zi rfl (gk xp) (zb rfl)) st0 ?_
 refine ze (zj (zJ ?_))
 obtain rfl:=Option.some.inj hF
 refine zz rfl (zD yr zF) (zA (leV.refl _) rfl ?_)
 exact ⟨rfl,rfl⟩
/-! varve/varveref03.MayActor -/
theorem ok107 {a0:GActor} {res:Bool} {h:AH}  (hF:qv a0=some res):Spec Tryz.prog 107 [.agg [.int .u8 a0.rep,.int .u32 a0.inc]] h (fun rr hh=>rr=.bool res∧hh=h):=by
 unfold qv at hF
 refine zt Tryz.func107 rfl (by kernel_rfl) (env:=[.agg [.int .u8 a0.rep,.int .u32 a0.inc],za,za,za,za,za,za,za,za,za,za,za,za,za,za,za]) (by rfl) ?_
 refine zk (zd ?_)
 refine zc rfl (xq (n:=0) rfl yr (zb rfl) rfl rfl) st1 ?_
 refine zc rfl (zi rfl rfl (zb rfl)) xe ?_
 refine ze (zj (zk (zd ?_)))
 refine zc rfl (zg rfl fo39x0 yE rfl) wd ?_
 refine zc rfl (zu rfl ty5 xw rfl (zr rfl) (zb rfl)) yz ?_
 refine zc rfl (zy rfl ym rfl rfl) xy ?_
 refine zc rfl (zf rfl yM (zb rfl)) xF ?_
 refine zp rfl (fun hb=>zg rfl fo39x1 yE rfl) xJ ?_
 refine zp rfl (fun hb=>zu rfl ty37 (zn xC hb) rfl (zr rfl) (zb rfl)) xP ?_
 refine zp rfl (fun hb=>zy rfl (zn xl hb) rfl rfl) ww ?_
 refine zc rfl (zM rfl yU xQ rfl (zX (fun ht=>gT ht))) yI ?_
 refine zc rfl (zf rfl yB (zb rfl)) yN ?_
 refine zp rfl (fun hb=>zg rfl fo39x1 yE rfl) yS ?_
 refine zp rfl (fun hb=>zu rfl ty37 (zn yP hb) rfl (zr rfl) (zb rfl)) yV ?_
 refine zp rfl (fun hb=>zy rfl (zn yD hb) rfl rfl) y4 ?_
 refine zc rfl (zM rfl yA yX rfl (zX (fun ht=>gT ht))) y8 ?_
 refine zc rfl (zi rfl yT (zb rfl)) xe ?_
 refine ze (zj (zJ ?_))
 obtain rfl:=Option.some.inj hF
 refine zz rfl (zD yW zF) (zA (leV.refl _) rfl ?_)
 exact ⟨rfl,rfl⟩
/-! varve/varveref03.May -/
theorem ok74 {d0:GDot} {res:Bool} {h:AH}  (hF:ref03May d0=some res):Spec Tryz.prog 74 [.agg [.int .u8 d0.actor.rep,.int .u32 d0.actor.inc,.int .u64 d0.seq]] h (fun rr hh=>rr=.bool res∧hh=h):=by
 unfold ref03May at hF
 refine zt Tryz.func74 rfl (by kernel_rfl) (env:=[.agg [.int .u8 d0.actor.rep,.int .u32 d0.actor.inc,.int .u64 d0.seq],za,za,za,za,za,za,za,za,za,za,za,za,za,za,za]) (by rfl) ?_
 refine zk (zd ?_)
 refine zc rfl (xq (n:=0) rfl yr (zb rfl) rfl rfl) st1 ?_
 refine zc rfl (zi rfl rfl (zb rfl)) xe ?_
 refine ze (zj (zk (zd ?_)))
 refine zc rfl (zg rfl fo41x0 yE rfl) wd ?_
 refine zc rfl (zu rfl ty39.choose_spec.1 xw rfl (zI (cs':=[.int .u8 d0.actor.rep,.int .u32 d0.actor.inc]) ty39.choose_spec.2 rfl rfl) (zb rfl)) yz ?_
 refine zO hF (fun v1 hv1 hF=>?_)
 refine zL rfl (zC rfl rfl rfl (zo ym zw) (.cons (zb rfl) .nil)) (ok107 hv1) xy ?_
 refine zc rfl (zf rfl yM (zb rfl)) xF ?_
 refine zp rfl (fun hb=>zg rfl fo41x1 yE rfl) xJ ?_
 refine zp rfl (fun hb=>zu rfl qW (zn xC hb) rfl (zr rfl) (zb rfl)) xP ?_
 refine zp rfl (fun hb=>zy rfl (zn xl hb) rfl rfl) ww ?_
 refine zc rfl (zM rfl yU xQ rfl (zX (fun ht=>gT ht))) yI ?_
 refine zc rfl (zf rfl yB (zb rfl)) yN ?_
 refine zp rfl (fun hb=>zg rfl fo41x1 yE rfl) yS ?_
 refine zp rfl (fun hb=>zu rfl qW (zn yP hb) rfl (zr rfl) (zb rfl)) yV ?_
 refine zp rfl (fun hb=>zy rfl (zn yD hb) rfl rfl) y4 ?_
 refine zc rfl (zM rfl yA yX rfl (zX (fun ht=>gT ht))) y8 ?_
 refine zc rfl (zi rfl yT (zb rfl)) xe ?_
 refine ze (zj (zJ ?_))
 obtain rfl:=Option.some.inj hF
 refine zz rfl (zD yW zF) (zA (leV.refl _) rfl ?_)
 exact ⟨rfl,rfl⟩
/-! varve/varveref05.Item -/
theorem ok75 {l0:(List GItem)} {d1:GDot} {res:Int} {h:AH}  (hF:ref05Item l0 d1=some res):Spec Tryz.prog 75 [.sl 5 (l0.map GItem.row),.agg [.int .u8 d1.actor.rep,.int .u32 d1.actor.inc,.int .u64 d1.seq]] h (fun rr hh=>rr=.int .i64 res∧hh=h):=by
 unfold ref05Item at hF
 refine zt Tryz.func75 rfl (by kernel_rfl) (env:=[.sl 5 (l0.map GItem.row),.agg [.int .u8 d1.actor.rep,.int .u32 d1.actor.inc,.int .u64 d1.seq],za,za,za,za,za,za,za,za,za,za,za,za,za,za,za,za,za,za]) (by rfl) ?_
 refine zk (zd ?_)
 refine zc rfl (xq (n:=0) rfl yE (zb rfl) rfl rfl) wd ?_
 refine zc rfl (zi rfl rfl (zb rfl)) yz ?_
 refine ze (zj (zk (zk (zd ?_))))
 refine zc rfl (zi rfl rfl (zb rfl)) xy ?_
 refine ze (zj (zQ ?_))
 refine yv (fun (n1:Nat) (s1:Unit)=>yO [1,2,4,6,7,8,9,10,11,12,13,14,15,16,17,18,19] [(5,.int .i64 (n1:Int))]) (fun s1=>h.ext [.cells [.int .u8 d1.actor.rep,.int .u32 d1.actor.inc,.int .u64 d1.seq]] []) hF (fun _ _=>by simp only [yO,upd,List.set_cons_succ,List.set_cons_zero];try rfl) (wk.le (by exact (.eq (.drop (.drop (.eq (.drop (.cons (leV.of_eq rfl) (.d4 (.d4 (.d4 (.drop (.drop leL.nil))))))))))))) ?_
 intro n1 s1 hi1 hF
 refine zk (zk (zd ?_))
 refine zc rfl (zf rfl yM (zb rfl)) xF ?_
 refine zc rfl (zf rfl yr (zb rfl)) xJ ?_
 refine ya rfl (zR rfl rfl rfl rfl vW xC yb) xP fun hn10=>?_
 replace hn10:=xu hn10
 refine zc rfl (zy rfl yU xl rfl) ww ?_
 refine ze (zj ?_)
 refine yK xQ hF (fun x1 o1 hl1 hx1 hF hK1=>?_) (fun hF=>?_)
 ·refine zK (zj (zk (zQ (zk ?_))))
  refine yJ [] [] trivial mixed (by kernel_rfl) ?_
  refine zq rfl rfl (zf rfl yr (zb rfl)) yS ?_
  refine zq rfl rfl (zf rfl yM (zb rfl)) yV ?_
  refine zq rfl rfl (yk rfl vW yP yD wZ (yL hx1)) y4 ?_
  refine zq rfl rfl (zg rfl fo87x1 yX rfl) y8 ?_
  refine zq rfl rfl (yf rfl ty41.choose_spec.1 yT (zI (cs':=[.int .u8 x1.dot.actor.rep,.int .u32 x1.dot.actor.inc,.int .u64 x1.dot.seq]) ty41.choose_spec.2 rfl rfl) (zb rfl)) xg ?_
  refine zq rfl rfl (zu rfl ty41.choose_spec.1 xw rfl (zI (cs':=[.int .u8 d1.actor.rep,.int .u32 d1.actor.inc,.int .u64 d1.seq]) ty41.choose_spec.2 rfl rfl) (zb rfl)) xr ?_
  refine zq rfl rfl (zy rfl xf xp (bin_eq pk41 rfl)) xD ?_
  refine yo ?_
  refine zj ?_
  refine zN xB hF (fun hc11 hF=>?_) (fun hc11 hF=>?_)
  ·refine zk (zd ?_)
   refine zc rfl (zf rfl yM (zb rfl)) xK ?_
   refine zc rfl (zi rfl xI (zb rfl)) yz ?_
   refine ze (zj (zJ ?_))
   refine zG ?_
   refine zx ?_
   refine yd ?_
   obtain rfl:=Option.some.inj hF
   replace hF:=hK1
   refine zG ?_
   refine zx ?_
   obtain rfl:=Option.some.inj hF
   refine zz rfl (zD ym zF) (zA (leV.refl _) rfl ?_)
   exact ⟨rfl,rfl⟩
  ·refine zK (yh (zj (zd ?_)))
   refine zc rfl (zf rfl yM (zb rfl)) yI ?_
   refine zc rfl (zy rfl yB rfl rfl) yN ?_
   refine zc rfl (zi rfl yA (zb rfl)) xy ?_
   refine ze (yH ?_)
   obtain rfl:=Option.some.inj hF
   exact ⟨(),hl1,hK1,wk.le (by exact (.eq (.drop (.drop (.eq (.drop (.cons (leV.of_eq (vf (by omega) (by omega))) (.d4 (.d4 (.d4 (.drop (.drop leL.nil))))))))))))⟩
 ·refine yR ?_
  refine zZ ?_
  refine zU ?_
  refine zV ?_
  refine zj (zk (zd ?_))
  refine zc rfl (zi rfl rfl (zb rfl)) yz ?_
  refine ze (zj (zJ ?_))
  obtain rfl:=Option.some.inj hF
  refine zz rfl (zD ym zF) (zA (leV.refl _) rfl ?_)
  exact ⟨rfl,rfl⟩
/-! varve/varveref05.Tomb -/
theorem ok76 {l0:(List GDot)} {d1:GDot} {res:Bool} {h:AH}  (hF:ref05Tomb l0 d1=some res):Spec Tryz.prog 76 [.sl 3 (l0.map GDot.row),.agg [.int .u8 d1.actor.rep,.int .u32 d1.actor.inc,.int .u64 d1.seq]] h (fun rr hh=>rr=.bool res∧hh=h):=by
 unfold ref05Tomb at hF
 refine zt Tryz.func76 rfl (by kernel_rfl) (env:=[.sl 3 (l0.map GDot.row),.agg [.int .u8 d1.actor.rep,.int .u32 d1.actor.inc,.int .u64 d1.seq],za,za,za,za,za,za,za,za,za,za,za,za,za,za,za,za]) (by rfl) ?_
 refine zk (zd ?_)
 refine zc rfl (xq (n:=0) rfl yE (zb rfl) rfl rfl) wd ?_
 refine zc rfl (zi rfl rfl (zb rfl)) yz ?_
 refine ze (zj (zk (zk (zd ?_))))
 refine zc rfl (zi rfl rfl (zb rfl)) xy ?_
 refine ze (zj (zQ ?_))
 refine yv (fun (n1:Nat) (s1:Unit)=>yO [1,2,4,6,7,8,9,10,11,12,13,14,15,16,17] [(5,.int .i64 (n1:Int))]) (fun s1=>h.ext [.cells [.int .u8 d1.actor.rep,.int .u32 d1.actor.inc,.int .u64 d1.seq]] []) hF (fun _ _=>by simp only [yO,upd,List.set_cons_succ,List.set_cons_zero];try rfl) (wk.le (by exact (.eq (.drop (.drop (.eq (.drop (.cons (leV.of_eq rfl) (.d4 (.d4 (.d4 leL.nil))))))))))) ?_
 intro n1 s1 hi1 hF
 refine zk (zk (zd ?_))
 refine zc rfl (zf rfl yM (zb rfl)) xF ?_
 refine zc rfl (zf rfl yr (zb rfl)) xJ ?_
 refine ya rfl (zR rfl rfl rfl rfl el43 xC yb) xP fun hn10=>?_
 replace hn10:=xu hn10
 refine zc rfl (zy rfl yU xl rfl) ww ?_
 refine ze (zj ?_)
 refine yK xQ hF (fun x1 o1 hl1 hx1 hF hK1=>?_) (fun hF=>?_)
 ·refine zK (zj (zk (zQ (zk ?_))))
  refine yJ [] [] trivial mixed (by kernel_rfl) ?_
  refine zq rfl rfl (zf rfl yr (zb rfl)) yS ?_
  refine zq rfl rfl (zf rfl yM (zb rfl)) yV ?_
  refine zq rfl rfl (yk rfl el43 yP yD wZ (yL hx1)) y4 ?_
  refine zq rfl rfl (yf rfl ty41.choose_spec.1 yX (zI (cs':=[.int .u8 x1.actor.rep,.int .u32 x1.actor.inc,.int .u64 x1.seq]) ty41.choose_spec.2 rfl rfl) (zb rfl)) y8 ?_
  refine zq rfl rfl (zu rfl ty41.choose_spec.1 xw rfl (zI (cs':=[.int .u8 d1.actor.rep,.int .u32 d1.actor.inc,.int .u64 d1.seq]) ty41.choose_spec.2 rfl rfl) (zb rfl)) xg ?_
  refine zq rfl rfl (zy rfl yT xf (bin_eq pk41 rfl)) xr ?_
  refine yo ?_
  refine zj ?_
  refine zN xp hF (fun hc11 hF=>?_) (fun hc11 hF=>?_)
  ·refine zk (zd ?_)
   refine zc rfl (zi rfl rfl (zb rfl)) yz ?_
   refine ze (zj (zJ ?_))
   refine zG ?_
   refine zx ?_
   refine yd ?_
   obtain rfl:=Option.some.inj hF
   replace hF:=hK1
   refine zG ?_
   refine zx ?_
   obtain rfl:=Option.some.inj hF
   refine zz rfl (zD ym zF) (zA (leV.refl _) rfl ?_)
   exact ⟨rfl,rfl⟩
  ·refine zK (yh (zj (zd ?_)))
   refine zc rfl (zf rfl yM (zb rfl)) yI ?_
   refine zc rfl (zy rfl yB rfl rfl) yN ?_
   refine zc rfl (zi rfl yA (zb rfl)) xy ?_
   refine ze (yH ?_)
   obtain rfl:=Option.some.inj hF
   exact ⟨(),hl1,hK1,wk.le (by exact (.eq (.drop (.drop (.eq (.drop (.cons (leV.of_eq (vf (by omega) (by omega))) (.d4 (.d4 (.d4 leL.nil))))))))))⟩
 ·refine yR ?_
  refine zZ ?_
  refine zU ?_
  refine zV ?_
  refine zj (zk (zd ?_))
  refine zc rfl (zi rfl rfl (zb rfl)) yz ?_
  refine ze (zj (zJ ?_))
  obtain rfl:=Option.some.inj hF
  refine zz rfl (zD ym zF) (zA (leV.refl _) rfl ?_)
  exact ⟨rfl,rfl⟩
/-! varve/varveref03.Less -/
theorem ok78 {a0:GDot} {b1:GDot} {res:Bool} {h:AH}  (hF:ref03Less a0 b1=some res):Spec Tryz.prog 78 [.agg [.int .u8 a0.actor.rep,.int .u32 a0.actor.inc,.int .u64 a0.seq],.agg [.int .u8 b1.actor.rep,.int .u32 b1.actor.inc,.int .u64 b1.seq]] h (fun rr hh=>rr=.bool res∧hh=h):=by
 unfold ref03Less at hF
 refine zt Tryz.func78 rfl (by kernel_rfl) (env:=[.agg [.int .u8 a0.actor.rep,.int .u32 a0.actor.inc,.int .u64 a0.seq],.agg [.int .u8 b1.actor.rep,.int .u32 b1.actor.inc,.int .u64 b1.seq],za,za,za,za,za,za,za,za,za,za,za,za,za,za,za,za,za,za,za,za,za,za,za,za,za,za,za,za,za,za,za,za,za,za,za,za]) (by rfl) ?_
 refine zk (zd ?_)
 refine zc rfl (xq (n:=0) rfl yr (zb rfl) rfl rfl) xe ?_
 refine zc rfl (xq (n:=1) rfl yE (zb rfl) rfl rfl) wd ?_
 refine zc rfl (zi rfl rfl (zb rfl)) yz ?_
 refine ze (zj (zk (zk (zd ?_))))
 refine zc rfl (zg rfl fo41x0 yW rfl) xy ?_
 refine zc rfl (zg rfl fo39x0 yM rfl) xF ?_
 refine zc rfl (zu rfl ty5 yU rfl (zr rfl) (zb rfl)) xJ ?_
 refine zc rfl (zg rfl fo41x0 xw rfl) xP ?_
 refine zc rfl (zg rfl fo39x0 xl rfl) ww ?_
 refine zc rfl (zu rfl ty5 xQ rfl (zr rfl) (zb rfl)) yI ?_
 refine zc rfl (zy rfl xC yB rfl) yN ?_
 refine ze (zj ?_)
 refine zN yA hF (fun hc1 hF=>?_) (fun hc1 hF=>?_)
 ·refine zk (zd ?_)
  refine zc rfl (zg rfl fo41x0 yW rfl) yS ?_
  refine zc rfl (zg rfl fo39x0 yP rfl) yV ?_
  refine zc rfl (zu rfl ty5 yD rfl (zr rfl) (zb rfl)) y4 ?_
  refine zc rfl (zg rfl fo41x0 xw rfl) y8 ?_
  refine zc rfl (zg rfl fo39x0 yT rfl) xg ?_
  refine zc rfl (zu rfl ty5 xf rfl (zr rfl) (zb rfl)) xr ?_
  refine zc rfl (zy rfl yX xp rfl) xD ?_
  refine zc rfl (zi rfl xB (zb rfl)) yz ?_
  refine ze (zj (zJ (zx ?_)))
  obtain rfl:=Option.some.inj hF
  refine zz rfl (zD ym zF) (zA (leV.refl _) rfl ?_)
  exact ⟨rfl,rfl⟩
 ·refine zK (zj (zk (zk (zd ?_))))
  refine zc rfl (zg rfl fo41x0 yW rfl) xK ?_
  refine zc rfl (zg rfl fo39x1 xI rfl) x4 ?_
  refine zc rfl (zu rfl ty37 x5 rfl (zr rfl) (zb rfl)) x9 ?_
  refine zc rfl (zg rfl fo41x0 xw rfl) wl ?_
  refine zc rfl (zg rfl fo39x1 wi rfl) x8 ?_
  refine zc rfl (zu rfl ty37 xX rfl (zr rfl) (zb rfl)) we ?_
  refine zc rfl (zy rfl x6 wa rfl) wo ?_
  refine ze (zj ?_)
  refine zN wm hF (fun hc2 hF=>?_) (fun hc2 hF=>?_)
  ·refine zk (zd ?_)
   refine zc rfl (zg rfl fo41x0 yW rfl) wK ?_
   refine zc rfl (zg rfl fo39x1 wI rfl) wR ?_
   refine zc rfl (zu rfl ty37 wV rfl (zr rfl) (zb rfl)) wQ ?_
   refine zc rfl (zg rfl fo41x0 xw rfl) w9 ?_
   refine zc rfl (zg rfl fo39x1 vb rfl) w8 ?_
   refine zc rfl (zu rfl ty37 vm rfl (zr rfl) (zb rfl)) vh ?_
   refine zc rfl (zy rfl wN vl rfl) vz ?_
   refine zc rfl (zi rfl vk (zb rfl)) yz ?_
   refine ze (zj (zJ (zx ?_)))
   obtain rfl:=Option.some.inj hF
   refine zz rfl (zD ym zF) (zA (leV.refl _) rfl ?_)
   exact ⟨rfl,rfl⟩
  ·refine zK (zj (zk (zd ?_)))
   refine zc rfl (zg rfl fo41x1 yW rfl) vw ?_
   refine zc rfl (zu rfl qW vC rfl (zr rfl) (zb rfl)) vu ?_
   refine zc rfl (zg rfl fo41x1 xw rfl) vt ?_
   refine zc rfl (zu rfl qW vB rfl (zr rfl) (zb rfl)) vg ?_
   refine zc rfl (zy rfl vj va rfl) vr ?_
   refine zc rfl (zi rfl vA (zb rfl)) yz ?_
   refine ze (zj (zJ ?_))
   obtain rfl:=Option.some.inj hF
   refine zz rfl (zD ym zF) (zA (leV.refl _) rfl ?_)
   exact ⟨rfl,rfl⟩
/-! varve/varveref05.Ahead -/
theorem ok77 {time0:Int} {d1:GDot} {other2:Int} {o3:GDot} {res:Bool} {h:AH}  (hF:ref05Ahead time0 d1 other2 o3=some res):Spec Tryz.prog 77 [.int .u64 time0,.agg [.int .u8 d1.actor.rep,.int .u32 d1.actor.inc,.int .u64 d1.seq],.int .u64 other2,.agg [.int .u8 o3.actor.rep,.int .u32 o3.actor.inc,.int .u64 o3.seq]] h (fun rr hh=>rr=.bool res∧hh=h):=by
 unfold ref05Ahead at hF
 refine zt Tryz.func77 rfl (by kernel_rfl) (env:=[.int .u64 time0,.agg [.int .u8 d1.actor.rep,.int .u32 d1.actor.inc,.int .u64 d1.seq],.int .u64 other2,.agg [.int .u8 o3.actor.rep,.int .u32 o3.actor.inc,.int .u64 o3.seq],za,za,za,za,za,za,za,za,za,za,za,za,za,za]) (by rfl) ?_
 refine zk (zd ?_)
 refine zc rfl (xq (n:=0) rfl yE (zb rfl) rfl rfl) xy ?_
 refine zc rfl (xq (n:=1) rfl xw (zb rfl) rfl rfl) xJ ?_
 refine zc rfl (zi rfl rfl (zb rfl)) xP ?_
 refine ze (zj (zk (zk (zd ?_))))
 refine zc rfl (zf rfl yr (zb rfl)) ww ?_
 refine zc rfl (zf rfl yW (zb rfl)) yI ?_
 refine zc rfl (zy rfl xQ yB rfl) yN ?_
 refine ze (zj ?_)
 refine zN yA hF (fun hc1 hF=>?_) (fun hc1 hF=>?_)
 ·refine zk (zd ?_)
  refine zc rfl (zf rfl yr (zb rfl)) yS ?_
  refine zc rfl (zf rfl yW (zb rfl)) yV ?_
  refine zc rfl (zy rfl yP yD rfl) y4 ?_
  refine zc rfl (zi rfl yX (zb rfl)) xP ?_
  refine ze (zj (zJ (zx ?_)))
  obtain rfl:=Option.some.inj hF
  refine zz rfl (zD xl zF) (zA (leV.refl _) rfl ?_)
  exact ⟨rfl,rfl⟩
 ·refine zK (zj (zk (zd ?_)))
  refine zc rfl (zu rfl ty41.choose_spec.1 yM rfl (zI (cs':=[.int .u8 d1.actor.rep,.int .u32 d1.actor.inc,.int .u64 d1.seq]) ty41.choose_spec.2 rfl rfl) (zb rfl)) y8 ?_
  refine zc rfl (zu rfl ty41.choose_spec.1 xC rfl (zI (cs':=[.int .u8 o3.actor.rep,.int .u32 o3.actor.inc,.int .u64 o3.seq]) ty41.choose_spec.2 rfl rfl) (zb rfl)) xg ?_
  refine zO hF (fun v2 hv2 hF=>?_)
  refine zL rfl (zC rfl rfl rfl (zo yT (zo xf zw)) (.cons (zb rfl) (.cons (zb rfl) .nil))) (ok78 hv2) xr ?_
  refine zc rfl (zi rfl xp (zb rfl)) xP ?_
  refine ze (zj (zJ ?_))
  obtain rfl:=Option.some.inj hF
  refine zz rfl (zD xl zF) (zA (leV.refl _) rfl ?_)
  exact ⟨rfl,rfl⟩
/-! varve/varveref05.May -/
theorem ok35 {l0:GLeaf} {res:Bool} {h:AH}  (hF:ref05May l0=some res):Spec Tryz.prog 35 [.agg [.int .u8 l0.typ,.int .i64 l0.n,.int .u64 l0.time,.int .u8 l0.dot.actor.rep,.int .u32 l0.dot.actor.inc,.int .u64 l0.dot.seq,.str l0.text,.sl 5 (l0.items.map GItem.row),.sl 3 (l0.tombs.map GDot.row)]] h (fun rr hh=>rr=.bool res∧hh=h):=by
 unfold ref05May at hF
 refine zt Tryz.func35 rfl (by kernel_rfl) (env:=[.agg [.int .u8 l0.typ,.int .i64 l0.n,.int .u64 l0.time,.int .u8 l0.dot.actor.rep,.int .u32 l0.dot.actor.inc,.int .u64 l0.dot.seq,.str l0.text,.sl 5 (l0.items.map GItem.row),.sl 3 (l0.tombs.map GDot.row)],za,za,za,za,za,za,za,za,za,za,za,za,za,za,za,za,za,za,za,za,za,za,za,za,za,za,za,za,za,za,za,za,za,za,za,za,za,za,za,za,za,za,za,za,za,za,za,za,za,za,za,za,za,za,za,za,za,za,za,za,za,za,za,za,za,za,za,za,za,za,za,za,za,za,za,za,za,za,za,za,za,za,za,za,za,za,za,za,za,za,za,za,za,za,za,za,za,za,za,za,za,za,za,za,za,za,za,za,za,za,za,za,za,za,za,za,za,za,za,za,za,za,za,za,za,za,za,za,za,za,za,za,za,za,za,za,za,za,za,za,za,za,za,za,za,za,za,za,za,za,za,za,za,za,za,za,za,za,za,za,za,za,za,za,za,za,za,za,za,za,za,za,za,za,za,za,za,za,za,za,za,za,za,za,za,za,za,za,za,za,za,za,za,za,za,za,za,za,za,za,za,za,za,za]) (by rfl) ?_
 refine zk (zd ?_)
 refine zc rfl (xq (n:=0) rfl yr (zb rfl) rfl rfl) st1 ?_
 refine zc rfl (zi rfl rfl (zb rfl)) xe ?_
 refine ze (zj (zk (zk (zd ?_))))
 refine zc rfl (zg rfl xV yE rfl) xJ ?_
 refine zc rfl (zu rfl ty5 xC rfl (zr rfl) (zb rfl)) xP ?_
 refine zc rfl (zy rfl xl rfl rfl) ww ?_
 refine zc rfl (zf rfl xQ (zb rfl)) yI ?_
 refine zp rfl (fun hb=>zg rfl xV yE rfl) yN ?_
 refine zp rfl (fun hb=>zu rfl ty5 (zn yA hb) rfl (zr rfl) (zb rfl)) yS ?_
 refine zp rfl (fun hb=>zy rfl (zn yP hb) rfl rfl) yV ?_
 refine zc rfl (zM rfl yB rfl yD (z8 (fun ht=>gF ht))) y4 ?_
 refine zc rfl (zf rfl yX (zb rfl)) y8 ?_
 refine zp rfl (fun hb=>zg rfl xV yE rfl) xg ?_
 refine zp rfl (fun hb=>zu rfl ty5 (zn xf hb) rfl (zr rfl) (zb rfl)) xr ?_
 refine zp rfl (fun hb=>zy rfl (zn xp hb) rfl rfl) xD ?_
 refine zp rfl (fun hb=>zf rfl (zn xB hb) (zb rfl)) xK ?_
 refine zp (z7 rfl rfl rfl) (fun hb=>zg rfl fo45x1 yE rfl) x4 ?_
 refine zp (z7 rfl rfl rfl) (fun hb=>zu rfl ty2 (zn x5 hb) rfl (zr rfl) (zb rfl)) x9 ?_
 refine zp (z7 rfl rfl rfl) (fun hb=>zy rfl (zn x6 hb) rfl rfl) wl ?_
 refine zp rfl (fun hb=>zM rfl (zn xI hb) wi rfl (zX (fun ht=>gT2 hb ht))) x8 ?_
 refine zc rfl (zM rfl yT rfl xX (z8 (fun ht=>gF ht))) we ?_
 refine zc rfl (zf rfl wa (zb rfl)) wo ?_
 refine zp rfl (fun hb=>zg rfl xV yE rfl) wK ?_
 refine zp rfl (fun hb=>zu rfl ty5 (zn wI hb) rfl (zr rfl) (zb rfl)) wR ?_
 refine zp rfl (fun hb=>zy rfl (zn wV hb) rfl rfl) wQ ?_
 refine zp rfl (fun hb=>zf rfl (zn wN hb) (zb rfl)) w9 ?_
 refine zp (z7 rfl rfl rfl) (fun hb=>zg rfl xO yE rfl) w8 ?_
 refine zp (z7 rfl rfl rfl) (fun hb=>zu rfl qU (zn vm hb) rfl (zr rfl) (zb rfl)) vh ?_
 refine xA (z7 rfl rfl rfl) (fun hb=>zR rfl rfl rfl rfl vW (zn vl hb) yb) vz fun hn1=>?_
 refine zp (z7 rfl rfl rfl) (fun hb=>zy rfl (zn vk hb) rfl rfl) vw ?_
 refine zp rfl (fun hb=>zM rfl (zn vb hb) vC rfl (zX (fun ht=>gT2 hb ht))) vu ?_
 refine zc rfl (zM rfl wm rfl vj (z8 (fun ht=>gF ht))) vt ?_
 refine zc rfl (zf rfl vB (zb rfl)) vg ?_
 refine zp rfl (fun hb=>zg rfl xV yE rfl) vr ?_
 refine zp rfl (fun hb=>zu rfl ty5 (zn vA hb) rfl (zr rfl) (zb rfl)) vK ?_
 refine zp rfl (fun hb=>zy rfl (zn vO hb) rfl rfl) vJ ?_
 refine zp rfl (fun hb=>zf rfl (zn vG hb) (zb rfl)) (sk st0) ?_
 refine zp (z7 rfl rfl rfl) (fun hb=>zg rfl wj yE rfl) (sk st1) ?_
 refine zp (z7 rfl rfl rfl) (fun hb=>zu rfl ty43 (zn (gk yE) hb) rfl (zr rfl) (zb rfl)) (sk xe) ?_
 refine xA (z7 rfl rfl rfl) (fun hb=>zR rfl rfl rfl rfl el43 (zn (gk yW) hb) yb) (sk wd) fun hn2=>?_
 refine zp (z7 rfl rfl rfl) (fun hb=>zy rfl (zn (gk xw) hb) rfl rfl) (sk yz) ?_
 refine zp rfl (fun hb=>zM rfl (zn (gk yr) hb) (gk ym) rfl (zX (fun ht=>gT2 hb ht))) (sk xy) ?_
 refine zc rfl (zM rfl va rfl (gk yM) (z8 (fun ht=>gF ht))) (sk xF) ?_
 refine ze (zj ?_)
 refine zN (gk yU) hF (fun hc3 hF=>?_) (fun hc3 hF=>?_)
 ·refine zk (zd ?_)
  refine zc rfl (zi rfl rfl (zb rfl)) xe ?_
  refine ze (zj (zJ (zx ?_)))
  obtain rfl:=Option.some.inj hF
  refine zz rfl (zD yW zF) (zA (leV.refl _) rfl ?_)
  exact ⟨rfl,rfl⟩
 ·refine zK (zj (zk (zd ?_)))
  refine zc rfl (ql (cs':=[.int .u8 (0:Int),.int .u32 (0:Int),.int .u64 (0:Int)]) rfl su41 ze41 pl41 yl .nil rfl rfl) (sk xJ) ?_
  refine zc rfl (xc (n:=1) rfl ze41 rfl) wd ?_
  refine zc rfl (ye (cs':=[.int .u8 (0:Int),.int .u32 (0:Int),.int .u64 (0:Int)]) rfl ty41.choose_spec.1 xw (gk xC) (zb rfl) rfl rfl rfl rfl rfl) rfl ?_
  refine ze (zj ?_)
  refine r_join (fun (s1:Unit)=>yO [0,2,3,4,5,6,7,8,9,10,11,12,13,14,15,16,17,18,19,20,21,22,23,24,25,26,27,28,29,30,31,32,33,34,35,36,37,38,39,40,41,42,43,44,45,46,47,48,49,50,51,52,53,54,55,56,57,58,59,60,61,62,63,64,65,66,67,68,69,70,71,72,73,74,75,76,77,78,79,80,81,82,83,84,85,86,87,88,89,90,91,92,93,94,95,96,97,98,99,100,101,102,103,104,105,106,107,108,109,110,111,112,113,114,115,116,117,118,119,120,121,122,123,124,125,126,127,128,129,130,131,132,133,134,135,136,137,138,139,140,141,142,143,144,145,146,147,148,149,150,151,152,153,154,155,156,157,158,159,160,161,162,163,164,165,166,167,168,169,170,171,172,173,174,175,176,177,178,179,180,181,182,183,184,185,186,187,188,189,190,191,192,193,194,195,196,197,198,199,200,201,202,203,204] []) (fun s1=>h.ext [.cells [.int .u8 l0.typ,.int .i64 l0.n,.int .u64 l0.time,.int .u8 l0.dot.actor.rep,.int .u32 l0.dot.actor.inc,.int .u64 l0.dot.seq,.str l0.text,.sl 5 (l0.items.map GItem.row),.sl 3 (l0.tombs.map GDot.row)],.cells [.int .u8 (0:Int),.int .u32 (0:Int),.int .u64 (0:Int)]] []) hF (fun _=>by simp only [yO,upd,List.set_cons_succ,List.set_cons_zero];try rfl) (fun o1 hF hK1=>?_) (fun s1 hF=>?_)
  ·refine zk (zd ?_)
   refine zc rfl (zg rfl xV yE rfl) (sk xP) ?_
   refine zc rfl (zu rfl ty5 (gk xl) rfl (zr rfl) (zb rfl)) (sk ww) ?_
   refine zc rfl (zy rfl (gk xQ) rfl rfl) (sk yI) ?_
   refine zc rfl (zf rfl (gk yB) (zb rfl)) (sk yN) ?_
   refine zp rfl (fun hb=>zg rfl fo45x2 yE rfl) (sk yS) ?_
   refine zp rfl (fun hb=>zu rfl qW (zn (gk yP) hb) rfl (zr rfl) (zb rfl)) (sk yV) ?_
   refine zp rfl (fun hb=>zy rfl (zn (gk yD) hb) rfl rfl) (sk y4) ?_
   refine zc rfl (zM rfl (gk yA) rfl (gk yX) (z8 (fun ht=>gF ht))) (sk y8) ?_
   refine ze (zj ?_)
   refine zN (gk yT) hF (fun hc9 hF=>?_) (fun hc9 hF=>?_)
   ·refine zk (zd ?_)
    refine zc rfl (zg rfl fo45x2 yE rfl) (sk xg) ?_
    refine zc rfl (zu rfl qW (gk xf) rfl (zr rfl) (zb rfl)) (sk xr) ?_
    refine zc rfl (zy rfl (gk xp) rfl rfl) (sk xD) ?_
    refine zc rfl (zf rfl (gk xB) (zb rfl)) (sk xK) ?_
    refine zp rfl (fun hb=>zg rfl fo45x3 yE rfl) (sk x4) ?_
    refine zp rfl (fun hb=>zu rfl ty41.choose_spec.1 (zn (gk x5) hb) rfl (zI (cs':=[.int .u8 l0.dot.actor.rep,.int .u32 l0.dot.actor.inc,.int .u64 l0.dot.seq]) ty41.choose_spec.2 rfl rfl) (zb rfl)) (sk x9) ?_
    refine zp rfl (fun hb=>zu rfl ty41.choose_spec.1 xw rfl (zI (cs':=[.int .u8 (0:Int),.int .u32 (0:Int),.int .u64 (0:Int)]) ty41.choose_spec.2 rfl rfl) (zb rfl)) (sk wl) ?_
    refine zp rfl (fun hb=>zy rfl (zn (gk x6) hb) (zn (gk wi) hb) (bin_ne pk41 rfl)) (sk x8) ?_
    refine zc rfl (zM rfl (gk xI) rfl (gk xX) (z8 (fun ht=>gF ht))) (sk we) ?_
    refine zc rfl (zf rfl (gk wa) (zb rfl)) (sk wo) ?_
    refine zp rfl (fun hb=>zg rfl fo45x4 yE rfl) (sk wK) ?_
    refine zp rfl (fun hb=>zu rfl ty9 (zn (gk wI) hb) rfl (zr rfl) (zb rfl)) (sk wR) ?_
    refine zp rfl (fun hb=>zy rfl (zn (gk wV) hb) rfl rfl) (sk wQ) ?_
    refine zc rfl (zM rfl (gk wm) rfl (gk wN) (z8 (fun ht=>gF ht))) (sk w9) ?_
    refine ze (zj ?_)
    refine zN (gk vb) hF (fun hc10 hF=>?_) (fun hc10 hF=>?_)
    ·refine zk (zd ?_)
     refine zc rfl (zi rfl rfl (zb rfl)) xe ?_
     refine ze (zj (zJ ?_))
     refine q_join_ret ?_
     obtain rfl:=Option.some.inj hF
     replace hF:=hK1
     obtain rfl:=Option.some.inj hF
     refine zz rfl (zD yW zF) (zA (leV.refl _) rfl ?_)
     exact ⟨rfl,rfl⟩
    ·refine zK (q_join ?_)
     obtain rfl:=Option.some.inj hF
     exact ⟨(),hK1,wk.le (by exact (.drop (.eq (.d16 (.d16 (.d16 (.d16 (.d16 (.d16 (.d16 (.d16 (.d16 (.d16 (.d16 (.d16 (.d4 (.d4 (.drop (.drop (.drop leL.nil))))))))))))))))))))⟩
   ·refine zk (zd ?_)
    refine zc rfl (zg rfl fo45x2 yE rfl) (sk w8) ?_
    refine zc rfl (zu rfl qW (gk vm) rfl (zr rfl) (zb rfl)) (sk vh) ?_
    refine zc rfl (zy rfl (gk vl) rfl rfl) (sk vz) ?_
    refine zc rfl (zf rfl (gk vk) (zb rfl)) (sk vw) ?_
    refine zp rfl (fun hb=>zg rfl fo45x3 yE rfl) (sk vu) ?_
    refine zp rfl (fun hb=>zu rfl ty41.choose_spec.1 (zn (gk vj) hb) rfl (zI (cs':=[.int .u8 l0.dot.actor.rep,.int .u32 l0.dot.actor.inc,.int .u64 l0.dot.seq]) ty41.choose_spec.2 rfl rfl) (zb rfl)) (sk vt) ?_
    refine yQ hF (fun v11 hv11 hF=>?_)
    refine yj rfl (fun hb=>zC rfl rfl rfl (zo (zn (gk vB) hb) zw) (.cons (zb rfl) .nil)) (fun hb=>ok74 (hv11 hb)) (sk vg) ?_
    refine zp rfl (fun hb=>xT rfl (zn (gk va) hb) rfl) (sk vr) ?_
    refine zc rfl (zM rfl (gk vC) rfl (gk vA) (z8 (fun ht=>gF ht))) (sk vK) ?_
    refine zc rfl (zf rfl (gk vO) (zb rfl)) (sk vJ) ?_
    refine zp rfl (fun hb=>zg rfl fo45x4 yE rfl) (sk (sk st0)) ?_
    refine zp rfl (fun hb=>zu rfl ty9 (zn (gk (gk yr)) hb) rfl (zr rfl) (zb rfl)) (sk (sk st1)) ?_
    refine xA rfl (fun hb=>vM rfl rfl rfl rfl ty9 (zn (gk (gk yE)) hb)) (sk (sk xe)) fun hn12=>?_
    refine zp rfl (fun hb=>zy rfl (zn (gk (gk yW)) hb) rfl rfl) (sk (sk wd)) ?_
    refine zc rfl (zM rfl (gk vG) rfl (gk (gk xw)) (z8 (fun ht=>gF ht))) (sk (sk yz)) ?_
    refine ze (zj ?_)
    refine zN (gk (gk ym)) hF (fun hc13 hF=>?_) (fun hc13 hF=>?_)
    ·refine zk (zd ?_)
     refine zc rfl (zi rfl rfl (zb rfl)) xe ?_
     refine ze (zj (zJ ?_))
     refine q_join_ret ?_
     obtain rfl:=Option.some.inj hF
     replace hF:=hK1
     obtain rfl:=Option.some.inj hF
     refine zz rfl (zD yW zF) (zA (leV.refl _) rfl ?_)
     exact ⟨rfl,rfl⟩
    ·refine zK (q_join ?_)
     obtain rfl:=Option.some.inj hF
     exact ⟨(),hK1,wk.le (by exact (.drop (.eq (.d16 (.d16 (.d16 (.d16 (.d16 (.d16 (.d16 (.d16 (.d16 (.d16 (.d16 (.d16 (.d4 (.d4 (.drop (.drop (.drop leL.nil))))))))))))))))))))⟩
  ·refine zk (zk (zd ?_))
   refine zc rfl (zi rfl rfl (zb rfl)) yz ?_
   refine ze (zj (zQ ?_))
   refine yv (fun (n2:Nat) (s2:Unit)=>yO [0,2,3,5,6,7,8,9,10,11,12,13,14,15,16,17,18,19,20,21,22,23,24,25,26,27,28,29,30,31,32,33,34,35,36,37,38,39,40,41,42,43,44,45,46,47,48,49,50,51,52,53,54,55,56,57,58,59,60,61,62,63,64,65,66,67,68,69,70,71,72,73,74,75,76,77,78,79,80,81,82,83,84,85,86,87,88,89,90,91,92,93,94,95,96,97,98,99,100,101,102,103,104,105,106,107,108,109,110,111,112,113,114,115,116,117,118,119,120,121,122,123,124,125,126,127,128,129,130,131,132,133,134,135,136,137,138,139,140,141,142,143,144,145,146,147,148,149,150,151,152,153,154,155,156,157,158,159,160,161,162,163,164,165,166,167,168,169,170,171,172,173,174,175,176,177,178,179,180,181,182,183,184,185,186,187,188,189,190,191,192,193,194,195,196,197,198,199,200,201,202,203,204] [(4,.int .i64 (n2:Int))]) (fun s2=>h.ext [.cells [.int .u8 l0.typ,.int .i64 l0.n,.int .u64 l0.time,.int .u8 l0.dot.actor.rep,.int .u32 l0.dot.actor.inc,.int .u64 l0.dot.seq,.str l0.text,.sl 5 (l0.items.map GItem.row),.sl 3 (l0.tombs.map GDot.row)],.cells [.int .u8 (0:Int),.int .u32 (0:Int),.int .u64 (0:Int)]] []) hF (fun _ _=>by simp only [yO,upd,List.set_cons_succ,List.set_cons_zero];try rfl) (wk.le (by exact (.drop (.eq (.drop (.drop (.cons (leV.of_eq rfl) (.d16 (.d16 (.d16 (.d16 (.d16 (.d16 (.d16 (.d16 (.d16 (.d16 (.d16 (.d16 (.d4 (.d4 leL.nil))))))))))))))))))))) ?_
   intro n2 s2 hi2 hF
   refine zk (zk (zd ?_))
   refine zc rfl (zf rfl ym (zb rfl)) (sk (sk xy)) ?_
   refine zc rfl (zg rfl xO yE rfl) (sk (sk xF)) ?_
   refine zc rfl (zu rfl qU (gk (gk yU)) rfl (zr rfl) (zb rfl)) (sk (sk xJ)) ?_
   refine ya rfl (zR rfl rfl rfl rfl vW (gk (gk xC)) yb) (sk (sk xP)) fun hn40=>?_
   replace hn40:=xu hn40
   refine zc rfl (zy rfl (gk (gk yM)) (gk (gk xl)) rfl) (sk (sk ww)) ?_
   refine ze (zj ?_)
   refine yK (gk (gk xQ)) hF (fun x2 o2 hl2 hx2 hF hK2=>?_) (fun hF=>?_)
   ·refine zK (zj (zk (zQ (zk (zd ?_)))))
    refine zc rfl (zg rfl xO yE rfl) (sk (sk yS)) ?_
    refine zc rfl (zu rfl qU (gk (gk yP)) rfl (zr rfl) (zb rfl)) (sk (sk yV)) ?_
    refine zc rfl (zf rfl ym (zb rfl)) (sk (sk y4)) ?_
    refine zc rfl (yk rfl vW (gk (gk yD)) (gk (gk yX)) wZ (yL hx2)) (sk (sk y8)) ?_
    refine zc rfl (yf rfl ty87.choose_spec.1 (gk (gk yT)) (zI (cs':=[.int .u64 x2.time,.int .u8 x2.dot.actor.rep,.int .u32 x2.dot.actor.inc,.int .u64 x2.dot.seq,.str x2.text]) ty87.choose_spec.2 rfl rfl) (zb rfl)) (sk (sk xg)) ?_
    refine zc rfl (xc (n:=2) rfl ze87 rfl) xy ?_
    refine zc rfl (ye (cs':=[.int .u64 x2.time,.int .u8 x2.dot.actor.rep,.int .u32 x2.dot.actor.inc,.int .u64 x2.dot.seq,.str x2.text]) rfl ty87.choose_spec.1 yM (gk (gk xf)) (zb rfl) rfl rfl rfl rfl rfl) rfl ?_
    refine ze (zj (zk (zk (zd ?_))))
    refine zc rfl (zg rfl fo87x1 yM rfl) (sk (sk xr)) ?_
    refine zc rfl (zu rfl ty41.choose_spec.1 (gk (gk xp)) rfl (zI (cs':=[.int .u8 x2.dot.actor.rep,.int .u32 x2.dot.actor.inc,.int .u64 x2.dot.seq]) ty41.choose_spec.2 rfl rfl) (zb rfl)) (sk (sk xD)) ?_
    refine zO hF (fun v41 hv41 hF=>?_)
    refine zL rfl (zC rfl rfl rfl (zo (gk (gk xB)) zw) (.cons (zb rfl) .nil)) (ok74 hv41) (sk (sk xK)) ?_
    refine zc rfl (xT rfl (gk (gk xI)) rfl) (sk (sk x4)) ?_
    refine zc rfl (zf rfl (gk (gk x5)) (zb rfl)) (sk (sk x9)) ?_
    refine zp rfl (fun hb=>zg rfl fo87x2 yM rfl) (sk (sk wl)) ?_
    refine zp rfl (fun hb=>zu rfl ty9 (zn (gk (gk wi)) hb) rfl (zr rfl) (zb rfl)) (sk (sk x8)) ?_
    refine xA rfl (fun hb=>vM rfl rfl rfl rfl ty9 (zn (gk (gk xX)) hb)) (sk (sk we)) fun hn42=>?_
    refine zp rfl (fun hb=>zy rfl (zn (gk (gk wa)) hb) rfl rfl) (sk (sk wo)) ?_
    refine zc rfl (zM rfl (gk (gk x6)) rfl (gk (gk wm)) (z8 (fun ht=>gF ht))) (sk (sk wK)) ?_
    refine zc rfl (zf rfl (gk (gk wI)) (zb rfl)) (sk (sk wR)) ?_
    refine zp rfl (fun hb=>zg rfl xV yE rfl) (sk (sk wQ)) ?_
    refine zp rfl (fun hb=>zu rfl ty5 (zn (gk (gk wN)) hb) rfl (zr rfl) (zb rfl)) (sk (sk w9)) ?_
    refine zp rfl (fun hb=>zy rfl (zn (gk (gk vb)) hb) rfl rfl) (sk (sk w8)) ?_
    refine zp rfl (fun hb=>zf rfl (zn (gk (gk vm)) hb) (zb rfl)) (sk (sk vh)) ?_
    refine zp (z7 rfl rfl rfl) (fun hb=>zg rfl fo87x0 yM rfl) (sk (sk vz)) ?_
    refine zp (z7 rfl rfl rfl) (fun hb=>zu rfl qW (zn (gk (gk vk)) hb) rfl (zr rfl) (zb rfl)) (sk (sk vw)) ?_
    refine zp (z7 rfl rfl rfl) (fun hb=>zy rfl (zn (gk (gk vC)) hb) rfl rfl) (sk (sk vu)) ?_
    refine zp rfl (fun hb=>zM rfl (zn (gk (gk vl)) hb) (gk (gk vj)) rfl (zX (fun ht=>gT2 hb ht))) (sk (sk vt)) ?_
    refine zc rfl (zM rfl (gk (gk wV)) rfl (gk (gk vB)) (z8 (fun ht=>gF ht))) (sk (sk vg)) ?_
    refine zc rfl (zf rfl (gk (gk va)) (zb rfl)) (sk (sk vr)) ?_
    refine zp rfl (fun hb=>zg rfl xV yE rfl) (sk (sk vK)) ?_
    refine zp rfl (fun hb=>zu rfl ty5 (zn (gk (gk vO)) hb) rfl (zr rfl) (zb rfl)) (sk (sk vJ)) ?_
    refine zp rfl (fun hb=>zy rfl (zn (gk (gk vG)) hb) rfl rfl) (sk (sk (sk st0))) ?_
    refine zp rfl (fun hb=>zf rfl (zn (gk (gk (gk yr))) hb) (zb rfl)) (sk (sk (sk st1))) ?_
    refine zp (z7 rfl rfl rfl) (fun hb=>zg rfl fo87x0 yM rfl) (sk (sk (sk xe))) ?_
    refine zp (z7 rfl rfl rfl) (fun hb=>zu rfl qW (zn (gk (gk (gk yW))) hb) rfl (zr rfl) (zb rfl)) (sk (sk (sk wd))) ?_
    refine zp (z7 rfl rfl rfl) (fun hb=>zy rfl (zn (gk (gk (gk xw))) hb) rfl rfl) (sk (sk (sk yz))) ?_
    refine zp (z7 rfl rfl rfl) (fun hb=>zf rfl (zn (gk (gk (gk ym))) hb) (zb rfl)) (sk (sk (sk xy))) ?_
    refine zp (z7 rfl rfl rfl) (fun hb=>zg rfl fo87x0 yM rfl) (sk (sk (sk xF))) ?_
    refine zp (z7 rfl rfl rfl) (fun hb=>zu rfl qW (zn (gk (gk (gk yU))) hb) rfl (zr rfl) (zb rfl)) (sk (sk (sk xJ))) ?_
    refine zp (z7 rfl rfl rfl) (fun hb=>zy rfl (zn (gk (gk (gk xC))) hb) rfl rfl) (sk (sk (sk xP))) ?_
    refine zp (z7 rfl rfl rfl) (fun hb=>zM rfl (zn (gk (gk (gk yM))) hb) rfl (gk (gk (gk xl))) (z8 (fun ht=>gF2 hb ht))) (sk (sk (sk ww))) ?_
    refine zp rfl (fun hb=>zM rfl (zn (gk (gk (gk yE))) hb) (gk (gk (gk xQ))) rfl (zX (fun ht=>gT2 hb ht))) (sk (sk (sk yI))) ?_
    refine zc rfl (zM rfl (gk (gk vA)) rfl (gk (gk (gk yB))) (z8 (fun ht=>gF ht))) (sk (sk (sk yN))) ?_
    refine zc rfl (zf rfl (gk (gk (gk yA))) (zb rfl)) (sk (sk (sk yS))) ?_
    refine zp rfl (fun hb=>zg rfl xO yE rfl) (sk (sk (sk yV))) ?_
    refine zp rfl (fun hb=>zu rfl qU (zn (gk (gk (gk yD))) hb) rfl (zr rfl) (zb rfl)) (sk (sk (sk y4))) ?_
    refine zp rfl (fun hb=>zg rfl fo87x1 yM rfl) (sk (sk (sk y8))) ?_
    refine zp rfl (fun hb=>zu rfl ty41.choose_spec.1 (zn (gk (gk (gk yT))) hb) rfl (zI (cs':=[.int .u8 x2.dot.actor.rep,.int .u32 x2.dot.actor.inc,.int .u64 x2.dot.seq]) ty41.choose_spec.2 rfl rfl) (zb rfl)) (sk (sk (sk xg))) ?_
    refine yQ hF (fun v43 hv43 hF=>?_)
    refine yj rfl (fun hb=>zC rfl rfl rfl (zo (zn (gk (gk (gk yX))) hb) (zo (zn (gk (gk (gk xf))) hb) zw)) (.cons (zb rfl) (.cons (zb rfl) .nil))) (fun hb=>ok75 (hv43 hb)) (sk (sk (sk xr))) ?_
    refine zp rfl (fun hb=>zf rfl ym (zb rfl)) (sk (sk (sk xD))) ?_
    refine zp rfl (fun hb=>zy rfl (zn (gk (gk (gk xp))) hb) (zn (gk (gk (gk xB))) hb) rfl) (sk (sk (sk xK))) ?_
    refine zc rfl (zM rfl (gk (gk (gk yP))) rfl (gk (gk (gk xI))) (z8 (fun ht=>gF ht))) (sk (sk (sk x4))) ?_
    refine zc rfl (zf rfl (gk (gk (gk x5))) (zb rfl)) (sk (sk (sk x9))) ?_
    refine zp rfl (fun hb=>zg rfl wj yE rfl) (sk (sk (sk wl))) ?_
    refine zp rfl (fun hb=>zu rfl ty43 (zn (gk (gk (gk wi))) hb) rfl (zr rfl) (zb rfl)) (sk (sk (sk x8))) ?_
    refine zp rfl (fun hb=>zg rfl fo87x1 yM rfl) (sk (sk (sk we))) ?_
    refine zp rfl (fun hb=>zu rfl ty41.choose_spec.1 (zn (gk (gk (gk wa))) hb) rfl (zI (cs':=[.int .u8 x2.dot.actor.rep,.int .u32 x2.dot.actor.inc,.int .u64 x2.dot.seq]) ty41.choose_spec.2 rfl rfl) (zb rfl)) (sk (sk (sk wo))) ?_
    refine yQ hF (fun v44 hv44 hF=>?_)
    refine yj rfl (fun hb=>zC rfl rfl rfl (zo (zn (gk (gk (gk xX))) hb) (zo (zn (gk (gk (gk wm))) hb) zw)) (.cons (zb rfl) (.cons (zb rfl) .nil))) (fun hb=>ok76 (hv44 hb)) (sk (sk (sk wK))) ?_
    refine zc rfl (zM rfl (gk (gk (gk x6))) rfl (gk (gk (gk wI))) (z8 (fun ht=>gF ht))) (sk (sk (sk wR))) ?_
    refine ze (zj ?_)
    refine zN (gk (gk (gk wV))) hF (fun hc45 hF=>?_) (fun hc45 hF=>?_)
    ·refine zk (zd ?_)
     refine zc rfl (zi rfl rfl (zb rfl)) xe ?_
     refine ze (zj (zJ (zx ?_)))
     refine zG ?_
     refine zx ?_
     refine yd ?_
     obtain rfl:=Option.some.inj hF
     replace hF:=hK2
     refine zG ?_
     refine zx ?_
     obtain rfl:=Option.some.inj hF
     refine zz rfl (zD yW zF) (zA (leV.refl _) rfl ?_)
     exact ⟨rfl,rfl⟩
    ·refine zK (zj (zk ?_))
     refine yJ [] [] trivial mixed (by kernel_rfl) ?_
     refine zq rfl rfl (zf rfl ym (zb rfl)) (sk (sk (sk wQ))) ?_
     refine zq rfl rfl (zy rfl (gk (gk (gk wN))) rfl rfl) (sk (sk (sk w9))) ?_
     refine zq rfl rfl (zf rfl (gk (gk (gk vb))) (zb rfl)) (sk (sk (sk w8))) ?_
     refine zB rfl rfl (fun hb=>zg rfl xO yE rfl) (sk (sk (sk vh))) ?_
     refine zB rfl rfl (fun hb=>zu rfl qU (zn (gk (gk (gk vl))) hb) rfl (zr rfl) (zb rfl)) (sk (sk (sk vz))) ?_
     refine zB rfl rfl (fun hb=>zf rfl ym (zb rfl)) (sk (sk (sk vw))) ?_
     refine zB rfl rfl (fun hb=>zy rfl (zn (gk (gk (gk vC))) hb) rfl rfl) (sk (sk (sk vu))) ?_
     refine wC hF (fun hg46 hF=>?_)
     refine zB rfl rfl (fun hb=>xM default rfl vW (zn (gk (gk (gk vk))) hb) (zn (gk (gk (gk vj))) hb) wZ (hg46 hb)) (sk (sk (sk vt))) ?_
     refine zB rfl rfl (fun hb=>zg rfl fo87x0 (zn (gk (gk (gk vB))) hb) rfl) (sk (sk (sk vg))) ?_
     refine zB rfl rfl (fun hb=>yf rfl qW (zn (gk (gk (gk va))) hb) (zr rfl) (zb rfl)) (sk (sk (sk vr))) ?_
     refine zB rfl rfl (fun hb=>zg rfl xO yE rfl) (sk (sk (sk vK))) ?_
     refine zB rfl rfl (fun hb=>zu rfl qU (zn (gk (gk (gk vO))) hb) rfl (zr rfl) (zb rfl)) (sk (sk (sk vJ))) ?_
     refine zB rfl rfl (fun hb=>zf rfl ym (zb rfl)) (sk (sk (sk (sk st0)))) ?_
     refine zB rfl rfl (fun hb=>zy rfl (zn (gk (gk (gk (gk yr)))) hb) rfl rfl) (sk (sk (sk (sk st1)))) ?_
     refine wC hF (fun hg47 hF=>?_)
     refine zB rfl rfl (fun hb=>xM default rfl vW (zn (gk (gk (gk vG))) hb) (zn (gk (gk (gk (gk yE)))) hb) wZ (hg47 hb)) (sk (sk (sk (sk xe)))) ?_
     refine zB rfl rfl (fun hb=>zg rfl fo87x1 (zn (gk (gk (gk (gk yW)))) hb) rfl) (sk (sk (sk (sk wd)))) ?_
     refine zB rfl rfl (fun hb=>yf rfl ty41.choose_spec.1 (zn (gk (gk (gk (gk xw)))) hb) (zI (cs':=[.int .u8 (((l0.items).getD (IntKind.wrap .i64 ((n2:Int) - (1:Int))).toNat default).dot.actor.rep),.int .u32 (((l0.items).getD (IntKind.wrap .i64 ((n2:Int) - (1:Int))).toNat default).dot.actor.inc),.int .u64 (((l0.items).getD (IntKind.wrap .i64 ((n2:Int) - (1:Int))).toNat default).dot.seq)]) ty41.choose_spec.2 rfl rfl) (zb rfl)) (sk (sk (sk (sk yz)))) ?_
     refine zB rfl rfl (fun hb=>zg rfl fo87x0 yM rfl) (sk (sk (sk (sk xy)))) ?_
     refine zB rfl rfl (fun hb=>zu rfl qW (zn (gk (gk (gk (gk yM)))) hb) rfl (zr rfl) (zb rfl)) (sk (sk (sk (sk xF)))) ?_
     refine zB rfl rfl (fun hb=>zg rfl fo87x1 yM rfl) (sk (sk (sk (sk xJ)))) ?_
     refine zB rfl rfl (fun hb=>zu rfl ty41.choose_spec.1 (zn (gk (gk (gk (gk xC)))) hb) rfl (zI (cs':=[.int .u8 x2.dot.actor.rep,.int .u32 x2.dot.actor.inc,.int .u64 x2.dot.seq]) ty41.choose_spec.2 rfl rfl) (zb rfl)) (sk (sk (sk (sk xP)))) ?_
     refine yQ hF (fun v48 hv48 hF=>?_)
     refine w5 rfl rfl (fun hb=>zC rfl rfl rfl (zo (zn (gk (gk (gk vA))) hb) (zo (zn (gk (gk (gk (gk ym)))) hb) (zo (zn (gk (gk (gk (gk yU)))) hb) (zo (zn (gk (gk (gk (gk xl)))) hb) zw)))) (.cons (zb rfl) (.cons (zb rfl) (.cons (zb rfl) (.cons (zb rfl) .nil))))) (fun hb=>ok77 (hv48 hb)) (sk (sk (sk (sk ww)))) ?_
     refine zB rfl rfl (fun hb=>xT rfl (zn (gk (gk (gk (gk xQ)))) hb) rfl) (sk (sk (sk (sk yI)))) ?_
     refine zq rfl rfl (zM rfl (gk (gk (gk vm))) (gk (gk (gk (gk yB)))) rfl (zX (fun ht=>gT ht))) (sk (sk (sk (sk yN)))) ?_
     refine yo ?_
     refine zj ?_
     refine zN (gk (gk (gk (gk yA)))) hF (fun hc49 hF=>?_) (fun hc49 hF=>?_)
     ·refine zk (zd ?_)
      refine zc rfl (zi rfl rfl (zb rfl)) xe ?_
      refine ze (zj (zJ ?_))
      refine zG ?_
      refine zx ?_
      refine yd ?_
      obtain rfl:=Option.some.inj hF
      replace hF:=hK2
      refine zG ?_
      refine zx ?_
      obtain rfl:=Option.some.inj hF
      refine zz rfl (zD yW zF) (zA (leV.refl _) rfl ?_)
      exact ⟨rfl,rfl⟩
     ·refine zK (yh (zj (zd ?_)))
      refine zc rfl (zf rfl ym (zb rfl)) (sk (sk yI)) ?_
      refine zc rfl (zy rfl (gk (gk yB)) rfl rfl) (sk (sk yN)) ?_
      refine zc rfl (zi rfl (gk (gk yA)) (zb rfl)) yz ?_
      refine ze (yH ?_)
      obtain rfl:=Option.some.inj hF
      exact ⟨(),hl2,hK2,wk.trans (wk.le (by exact (.drop (.eq (.drop (.drop (.cons (leV.of_eq (vf (by omega) (by omega))) (.d16 (.d16 (.d16 (.d16 (.d16 (.d16 (.d16 (.d16 (.d16 (.d16 (.d16 (.d16 (.d4 (.d4 leL.nil))))))))))))))))))))) (xN (by simp [yi,AV.low]) rfl rfl (by simp [Blk.low,yi,AV.low]))⟩
   ·refine yR ?_
    refine zZ ?_
    refine zU ?_
    refine zV ?_
    refine zj (zk (zk (zd ?_)))
    refine zc rfl (zi rfl rfl (zb rfl)) xF ?_
    refine ze (zj (zQ ?_))
    refine yv (fun (n3:Nat) (s3:Unit)=>yO [0,2,3,4,5,7,8,9,10,11,12,13,14,15,16,17,18,19,20,21,22,23,24,25,26,27,28,29,30,31,32,33,34,35,36,37,38,39,40,41,42,43,44,45,46,47,48,49,50,51,52,53,54,55,56,57,58,59,60,61,62,63,64,65,66,67,68,69,70,71,72,73,74,75,76,77,78,79,80,81,82,83,84,85,86,87,88,89,90,91,92,93,94,95,96,97,98,99,100,101,102,103,104,105,106,107,108,109,110,111,112,113,114,115,116,117,118,119,120,121,122,123,124,125,126,127,128,129,130,131,132,133,134,135,136,137,138,139,140,141,142,143,144,145,146,147,148,149,150,151,152,153,154,155,156,157,158,159,160,161,162,163,164,165,166,167,168,169,170,171,172,173,174,175,176,177,178,179,180,181,182,183,184,185,186,187,188,189,190,191,192,193,194,195,196,197,198,199,200,201,202,203,204] [(6,.int .i64 (n3:Int))]) (fun s3=>h.ext [.cells [.int .u8 l0.typ,.int .i64 l0.n,.int .u64 l0.time,.int .u8 l0.dot.actor.rep,.int .u32 l0.dot.actor.inc,.int .u64 l0.dot.seq,.str l0.text,.sl 5 (l0.items.map GItem.row),.sl 3 (l0.tombs.map GDot.row)],.cells [.int .u8 (0:Int),.int .u32 (0:Int),.int .u64 (0:Int)]] []) hF (fun _ _=>by simp only [yO,upd,List.set_cons_succ,List.set_cons_zero];try rfl) (wk.le (by exact (.drop (.eq (.d4 (.cons (leV.of_eq rfl) (.d16 (.d16 (.d16 (.d16 (.d16 (.d16 (.d16 (.d16 (.d16 (.d16 (.d16 (.d16 (.d4 (.drop (.drop leL.nil))))))))))))))))))))) ?_
    intro n3 s3 hi3 hF
    refine zk (zk (zd ?_))
    refine zc rfl (zf rfl yU (zb rfl)) (sk (sk (sk (sk yS)))) ?_
    refine zc rfl (zg rfl wj yE rfl) (sk (sk (sk (sk yV)))) ?_
    refine zc rfl (zu rfl ty43 (gk (gk (gk (gk yD)))) rfl (zr rfl) (zb rfl)) (sk (sk (sk (sk y4)))) ?_
    refine ya rfl (zR rfl rfl rfl rfl el43 (gk (gk (gk (gk yX)))) yb) (sk (sk (sk (sk y8)))) fun hn72=>?_
    replace hn72:=xu hn72
    refine zc rfl (zy rfl (gk (gk (gk (gk yP)))) (gk (gk (gk (gk yT)))) rfl) (sk (sk (sk (sk xg)))) ?_
    refine ze (zj ?_)
    refine yK (gk (gk (gk (gk xf)))) hF (fun x3 o3 hl3 hx3 hF hK3=>?_) (fun hF=>?_)
    ·refine zK (zj (zk (zQ (zk ?_))))
     refine yJ [5] [] trivial mixed (by kernel_rfl) ?_
     refine zq rfl rfl (zg rfl wj yE rfl) (sk (sk (sk (sk xK)))) ?_
     refine zq rfl rfl (zu rfl ty43 (gk (gk (gk (gk xI)))) rfl (zr rfl) (zb rfl)) (sk (sk (sk (sk x4)))) ?_
     refine zq rfl rfl (zf rfl yU (zb rfl)) (sk (sk (sk (sk x9)))) ?_
     refine zq rfl rfl (yk rfl el43 (gk (gk (gk (gk x5)))) (gk (gk (gk (gk x6)))) wZ (yL hx3)) (sk (sk (sk (sk wl)))) ?_
     refine zq rfl rfl (yf rfl ty41.choose_spec.1 (gk (gk (gk (gk wi)))) (zI (cs':=[.int .u8 x3.actor.rep,.int .u32 x3.actor.inc,.int .u64 x3.seq]) ty41.choose_spec.2 rfl rfl) (zb rfl)) (sk (sk (sk (sk x8)))) ?_
     refine zO hF (fun v73 hv73 hF=>?_)
     refine yw rfl rfl (fun _=>zC rfl rfl rfl (zo (gk (gk (gk (gk xX)))) zw) (.cons (zb rfl) .nil)) (by rintro _ ⟨B2,T2,rfl,hk2⟩;exact ok74 hv73) (sk (sk (sk (sk we)))) ?_
     refine zq rfl rfl (xT rfl (gk (gk (gk (gk wa)))) rfl) (sk (sk (sk (sk wo)))) ?_
     refine zq rfl rfl (zf rfl (gk (gk (gk (gk wm)))) (zb rfl)) (sk (sk (sk (sk wK)))) ?_
     refine zB rfl rfl (fun hb=>zf rfl yU (zb rfl)) (sk (sk (sk (sk wR)))) ?_
     refine zB rfl rfl (fun hb=>zy rfl (zn (gk (gk (gk (gk wV)))) hb) rfl rfl) (sk (sk (sk (sk wQ)))) ?_
     refine zB rfl rfl (fun hb=>zf rfl (zn (gk (gk (gk (gk wN)))) hb) (zb rfl)) (sk (sk (sk (sk w9)))) ?_
     refine zB rfl (z7 rfl rfl rfl) (fun hb=>zg rfl wj yE rfl) (sk (sk (sk (sk w8)))) ?_
     refine zB rfl (z7 rfl rfl rfl) (fun hb=>zu rfl ty43 (zn (gk (gk (gk (gk vm)))) hb) rfl (zr rfl) (zb rfl)) (sk (sk (sk (sk vh)))) ?_
     refine zB rfl (z7 rfl rfl rfl) (fun hb=>zf rfl yU (zb rfl)) (sk (sk (sk (sk vz)))) ?_
     refine zB rfl (z7 rfl rfl rfl) (fun hb=>zy rfl (zn (gk (gk (gk (gk vk)))) hb) rfl rfl) (sk (sk (sk (sk vw)))) ?_
     refine wC hF (fun hg74 hF=>?_)
     refine zB rfl (z7 rfl rfl rfl) (fun hb=>xM default rfl el43 (zn (gk (gk (gk (gk vl)))) hb) (zn (gk (gk (gk (gk vC)))) hb) wZ (hg74 hb)) (sk (sk (sk (sk vu)))) ?_
     refine zB rfl (z7 rfl rfl rfl) (fun hb=>yf rfl ty41.choose_spec.1 (zn (gk (gk (gk (gk vj)))) hb) (zI (cs':=[.int .u8 (((l0.tombs).getD (IntKind.wrap .i64 ((n3:Int) - (1:Int))).toNat default).actor.rep),.int .u32 (((l0.tombs).getD (IntKind.wrap .i64 ((n3:Int) - (1:Int))).toNat default).actor.inc),.int .u64 (((l0.tombs).getD (IntKind.wrap .i64 ((n3:Int) - (1:Int))).toNat default).seq)]) ty41.choose_spec.2 rfl rfl) (zb rfl)) (sk (sk (sk (sk vt)))) ?_
     refine zB rfl (z7 rfl rfl rfl) (fun hb=>zg rfl wj yE rfl) (sk (sk (sk (sk vg)))) ?_
     refine zB rfl (z7 rfl rfl rfl) (fun hb=>zu rfl ty43 (zn (gk (gk (gk (gk va)))) hb) rfl (zr rfl) (zb rfl)) (sk (sk (sk (sk vr)))) ?_
     refine zB rfl (z7 rfl rfl rfl) (fun hb=>zf rfl yU (zb rfl)) (sk (sk (sk (sk vK)))) ?_
     refine wC hF (fun hg75 hF=>?_)
     refine zB rfl (z7 rfl rfl rfl) (fun hb=>xM default rfl el43 (zn (gk (gk (gk (gk vA)))) hb) (zn (gk (gk (gk (gk vO)))) hb) wZ (hg75 hb)) (sk (sk (sk (sk vJ)))) ?_
     refine zB rfl (z7 rfl rfl rfl) (fun hb=>yf rfl ty41.choose_spec.1 (zn (gk (gk (gk (gk vG)))) hb) (zI (cs':=[.int .u8 (((l0.tombs).getD (n3:Int).toNat default).actor.rep),.int .u32 (((l0.tombs).getD (n3:Int).toNat default).actor.inc),.int .u64 (((l0.tombs).getD (n3:Int).toNat default).seq)]) ty41.choose_spec.2 rfl rfl) (zb rfl)) (sk (sk (sk (sk (sk st0))))) ?_
     refine yQ hF (fun v76 hv76 hF=>?_)
     refine w5 rfl (z7 rfl rfl rfl) (fun hb=>zC rfl rfl rfl (zo (zn (gk (gk (gk (gk vB)))) hb) (zo (zn (gk (gk (gk (gk (gk yr))))) hb) zw)) (.cons (zb rfl) (.cons (zb rfl) .nil))) (fun hb=>ok78 (hv76 hb)) (sk (sk (sk (sk (sk st1))))) ?_
     refine zB rfl (z7 rfl rfl rfl) (fun hb=>xT rfl (zn (gk (gk (gk (gk (gk yE))))) hb) rfl) (sk (sk (sk (sk (sk xe))))) ?_
     refine zB rfl rfl (fun hb=>zM rfl (zn (gk (gk (gk (gk vb)))) hb) (gk (gk (gk (gk (gk yW))))) rfl (zX (fun ht=>gT2 hb ht))) (sk (sk (sk (sk (sk wd))))) ?_
     refine zq rfl rfl (zM rfl (gk (gk (gk (gk wI)))) rfl (gk (gk (gk (gk (gk xw))))) (z8 (fun ht=>gF ht))) (sk (sk (sk (sk (sk yz))))) ?_
     refine yo ?_
     refine zj ?_
     refine zN (gk (gk (gk (gk (gk ym))))) hF (fun hc77 hF=>?_) (fun hc77 hF=>?_)
     ·refine zk (zd ?_)
      refine zc rfl (zi rfl rfl (zb rfl)) xe ?_
      refine ze (zj (zJ ?_))
      refine zG ?_
      refine zx ?_
      refine yd ?_
      obtain rfl:=Option.some.inj hF
      replace hF:=hK3
      refine zG ?_
      refine zx ?_
      obtain rfl:=Option.some.inj hF
      refine zz rfl (zD yW zF) (zA (leV.refl _) rfl ?_)
      exact ⟨rfl,rfl⟩
     ·refine zK (yh (zj (zd ?_)))
      refine zc rfl (zf rfl yU (zb rfl)) (sk (sk (sk (sk xr)))) ?_
      refine zc rfl (zy rfl (gk (gk (gk (gk xp)))) rfl rfl) (sk (sk (sk (sk xD)))) ?_
      refine zc rfl (zi rfl (gk (gk (gk (gk xB)))) (zb rfl)) xF ?_
      refine ze (yH ?_)
      obtain rfl:=Option.some.inj hF
      exact ⟨(),hl3,hK3,wk.le (by exact (.drop (.eq (.d4 (.cons (leV.of_eq (vf (by omega) (by omega))) (.d16 (.d16 (.d16 (.d16 (.d16 (.d16 (.d16 (.d16 (.d16 (.d16 (.d16 (.d16 (.d4 (.drop (.drop leL.nil))))))))))))))))))))⟩
    ·refine yR ?_
     refine zZ ?_
     refine zU ?_
     refine zV ?_
     refine zj (zk (zd ?_))
     refine zc rfl (zi rfl rfl (zb rfl)) xe ?_
     refine ze (zj (zJ ?_))
     obtain rfl:=Option.some.inj hF
     refine zz rfl (zD yW zF) (zA (leV.refl _) rfl ?_)
     exact ⟨rfl,rfl⟩
end Go.Vv
