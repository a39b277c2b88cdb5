/- Each function that the law reaches computes what its reading says; printed by a program. -/
import Derived.Test.YtpdpghedkdpiiaaGreatW1
namespace Go.Vv
open Go Go.Proofs
set_option maxRecDepth 100000
set_option maxHeartbeats 1000000
set_option linter.unusedSimpArgs false
set_option linter.unusedVariables false
/-! varve/leaf.May -/
theorem ok7 {l0:GLeaf} {res:Bool} {h:AH}  (hF:leafMay l0=some res):Spec Tryz.prog 7 [.agg [.int .u8 l0.typ,.int .i64 l0.n,.int .u64 l0.time,.int .u8 l0.dot.actor.rep,.int .u32 l0.dot.actor.inc,.int .u64 l0.dot.seq,.str l0.text,.sl 5 (l0.items.map GItem.row),.sl 3 (l0.tombs.map GDot.row)]] h (fun rr hh=>rr=.bool res∧hh=h):=by
 unfold leafMay at hF
 refine zx Tryz.func7 rfl (by kernel_rfl) (env:=[.agg [.int .u8 l0.typ,.int .i64 l0.n,.int .u64 l0.time,.int .u8 l0.dot.actor.rep,.int .u32 l0.dot.actor.inc,.int .u64 l0.dot.seq,.str l0.text,.sl 5 (l0.items.map GItem.row),.sl 3 (l0.tombs.map GDot.row)],za,za,za,za,za,za,za,za,za,za,za,za,za,za,za,za,za,za,za,za,za,za,za,za,za,za,za,za,za,za,za,za,za,za,za,za,za,za,za,za,za,za,za,za,za,za,za,za,za,za,za,za,za,za,za,za,za,za,za,za,za,za,za,za,za,za,za,za,za,za,za,za,za,za,za,za,za,za,za,za,za,za,za,za,za,za,za,za]) (by rfl) ?_
 refine zn (ze ?_)
 refine zc rfl (yF (n:=0) rfl yh (zb rfl) rfl rfl) st1 ?_
 refine zc rfl (zj rfl rfl (zb rfl)) xf ?_
 refine zf (zk (zn (ze ?_)))
 refine zc rfl (zd rfl vu yB rfl) yV ?_
 refine zc rfl (zq rfl ty5 yp rfl (zt rfl) (zb rfl)) xp ?_
 refine zc rfl (xc (cs':=[.int .u8 l0.typ,.int .i64 (0:Int),.int .u64 (0:Int),.int .u8 (0:Int),.int .u32 (0:Int),.int .u64 (0:Int),.str ([]:yn),.osl none 5 (([]:List GItem).map GItem.row),.osl none 3 (([]:List GDot).map GDot.row)]) rfl su31 ze31 pl31 (zK yR zT) (.cons (zb rfl) .nil) rfl rfl) xI ?_
 refine zc rfl (xG (n:=1) rfl ze31 rfl) x5 ?_
 refine zc rfl (zP (cs':=[.int .u8 l0.typ,.int .i64 (0:Int),.int .u64 (0:Int),.int .u8 (0:Int),.int .u32 (0:Int),.int .u64 (0:Int),.str ([]:yn),.osl none 5 (([]:List GItem).map GItem.row),.osl none 3 (([]:List GDot).map GDot.row)]) rfl ty31.choose_spec.1 yf xh (zb rfl) rfl rfl rfl rfl rfl) rfl ?_
 refine zf (zk (zn (zn (ze ?_))))
 refine zc rfl (zd rfl vu yB rfl) xN ?_
 refine zc rfl (zq rfl ty5 xu rfl (zt rfl) (zb rfl)) xC ?_
 refine zf (zk (zW (zn (ze ?_))))
 refine zc rfl (zz rfl xr rfl rfl) yy ?_
 refine zc rfl (zj rfl yw (zb rfl)) xR ?_
 refine zf (zk ?_)
 refine zI xK hF (fun hc1 hF=>?_) (fun hc1 hF=>?_)
 ·refine ze ?_
  refine zc rfl (zd rfl qZ yB rfl) yx ?_
  refine zc rfl (zq rfl ty2 yr rfl (zt rfl) (zb rfl)) yE ?_
  refine zc rfl (zd rfl qZ yf rfl) yK ?_
  refine zc rfl (zP (cs':=[.int .u8 l0.typ,.int .i64 l0.n,.int .u64 (0:Int),.int .u8 (0:Int),.int .u32 (0:Int),.int .u64 (0:Int),.str ([]:yn),.osl none 5 (([]:List GItem).map GItem.row),.osl none 3 (([]:List GDot).map GDot.row)]) rfl ty2 yI yD (zb rfl) rfl rfl rfl rfl rfl) rfl ?_
  refine zf (ye (zk (zn (ze ?_))))
  refine zc rfl (zq rfl ty31.choose_spec.1 yB rfl (zu (cs':=[.int .u8 l0.typ,.int .i64 l0.n,.int .u64 l0.time,.int .u8 l0.dot.actor.rep,.int .u32 l0.dot.actor.inc,.int .u64 l0.dot.seq,.str l0.text,.sl 5 (l0.items.map GItem.row),.sl 3 (l0.tombs.map GDot.row)]) ty31.choose_spec.2 rfl rfl) (zb rfl)) (sk (sk xI)) ?_
  refine zc rfl (zq rfl ty31.choose_spec.1 yf rfl (zu (cs':=[.int .u8 l0.typ,.int .i64 l0.n,.int .u64 (0:Int),.int .u8 (0:Int),.int .u32 (0:Int),.int .u64 (0:Int),.str ([]:yn),.osl none 5 (([]:List GItem).map GItem.row),.osl none 3 (([]:List GDot).map GDot.row)]) ty31.choose_spec.2 rfl rfl) (zb rfl)) (sk (sk xN)) ?_
  refine zQ hF (fun v2 hv2 hF=>?_)
  refine zU rfl (zC rfl rfl rfl (zo (gk (gk xh)) (zo (gk (gk xu)) zw)) (.cons (zb rfl) (.cons (zb rfl) .nil))) ((ok9 hv2).le (.eq (.cons (leV.agg (.eq (.eq (.eq (.eq (.eq (.eq (.eq (.cons (leV.osl _ _ _) (.cons (leV.osl _ _ _) leL.nil))))))))) rfl) leL.nil))) (sk (sk xC)) ?_
  refine zc rfl (zj rfl (gk (gk xr)) (zb rfl)) xf ?_
  refine zf (zk (zJ ?_))
  obtain rfl:=Option.some.inj hF
  refine zF rfl (zH yv zA) (zB (leV.refl _) rfl ?_)
  exact ⟨rfl,rfl⟩
 ·refine zn (ze ?_)
  refine zc rfl (zz rfl xr rfl rfl) yS ?_
  refine zc rfl (zj rfl yO (zb rfl)) yT ?_
  refine zf (zk ?_)
  refine zI yY hF (fun hc3 hF=>?_) (fun hc3 hF=>?_)
  ·refine zn ?_
   refine yb [3,5] [(3,[(0,.cells [.int .u8 l0.typ,.int .i64 l0.n,.int .u64 l0.time,.int .u8 l0.dot.actor.rep,.int .u32 l0.dot.actor.inc,.int .u64 l0.dot.seq,.str l0.text,.sl 5 (l0.items.map GItem.row),.sl 3 (l0.tombs.map GDot.row)])]),(5,[(0,.cells [.int .u8 l0.typ,.int .i64 l0.n,.int .u64 l0.time,.int .u8 l0.dot.actor.rep,.int .u32 l0.dot.actor.inc,.int .u64 l0.dot.seq,.str l0.text,.sl 5 (l0.items.map GItem.row),.sl 3 (l0.tombs.map GDot.row)])])] ⟨⟨rfl,trivial⟩,⟨rfl,trivial⟩,trivial⟩ mixed (by kernel_rfl) ?_
   refine zi rfl rfl (zd rfl wm yB rfl) yZ ?_
   refine zi rfl rfl (zq rfl xM y4 rfl (zt rfl) (zb rfl)) y8 ?_
   refine zi rfl rfl (zd rfl vp yB rfl) xk ?_
   refine vD rfl rfl (by rintro _ ⟨B2,T2,rfl,hk2⟩;exact zq rfl ty27.choose_spec.1 xl (keeps1 hk2) (zu (cs':=[.int .u8 l0.dot.actor.rep,.int .u32 l0.dot.actor.inc,.int .u64 l0.dot.seq]) ty27.choose_spec.2 rfl rfl) (zb rfl)) xJ ?_
   refine zi rfl rfl (zd rfl qN yB rfl) xQ ?_
   refine vD rfl rfl (by rintro _ ⟨B2,T2,rfl,hk2⟩;exact zq rfl ty9 xX (keeps1 hk2) (zt rfl) (zb rfl)) wb ?_
   refine zi rfl rfl (zd rfl wm yf rfl) wl ?_
   refine yG rfl (FOk.cons (.inr (xY ⟨rfl,trivial⟩)) (FOk.cons (.inr (xY ⟨rfl,trivial⟩)) FOk.nil)) (by kernel_rfl) rfl (zP (cs':=[.int .u8 l0.typ,.int .i64 (0:Int),.int .u64 l0.time,.int .u8 (0:Int),.int .u32 (0:Int),.int .u64 (0:Int),.str ([]:yn),.osl none 5 (([]:List GItem).map GItem.row),.osl none 3 (([]:List GDot).map GDot.row)]) rfl xM wq xd (zb rfl) rfl rfl rfl rfl rfl) rfl ?_
   refine zi rfl rfl (zd rfl vp yf rfl) wp ?_
   refine yG rfl (FOk.cons (.inr (xY ⟨rfl,trivial⟩)) (FOk.cons (.inr (xY ⟨rfl,trivial⟩)) FOk.nil)) (by kernel_rfl) rfl (zP (cs':=[.int .u8 l0.typ,.int .i64 (0:Int),.int .u64 l0.time,.int .u8 l0.dot.actor.rep,.int .u32 l0.dot.actor.inc,.int .u64 l0.dot.seq,.str ([]:yn),.osl none 5 (([]:List GItem).map GItem.row),.osl none 3 (([]:List GDot).map GDot.row)]) rfl ty27.choose_spec.1 wg xL (zb rfl) rfl rfl rfl rfl rfl) rfl ?_
   refine zi rfl rfl (zd rfl qN yf rfl) wu ?_
   refine yG rfl (FOk.cons (.inr (xY ⟨rfl,trivial⟩)) (FOk.cons (.inr (xY ⟨rfl,trivial⟩)) FOk.nil)) (by kernel_rfl) rfl (zP (cs':=[.int .u8 l0.typ,.int .i64 (0:Int),.int .u64 l0.time,.int .u8 l0.dot.actor.rep,.int .u32 l0.dot.actor.inc,.int .u64 l0.dot.seq,.str l0.text,.osl none 5 (([]:List GItem).map GItem.row),.osl none 3 (([]:List GDot).map GDot.row)]) rfl ty9 ww wa (zb rfl) rfl rfl rfl rfl rfl) rfl ?_
   refine zX ?_
   refine zk (zn (ze ?_))
   refine zc rfl (zd rfl wm yB rfl) wz ?_
   refine zc rfl (zq rfl xM wv rfl (zt rfl) (zb rfl)) wV ?_
   refine zc rfl (zz rfl wD rfl rfl) wU ?_
   refine zc rfl (zg rfl w4 (zb rfl)) wG ?_
   refine zr rfl (fun hb=>zd rfl wm yB rfl) w9 ?_
   refine zr rfl (fun hb=>zq rfl xM (zp we hb) rfl (zt rfl) (zb rfl)) w8 ?_
   refine yP hF (fun v4 hv4 hF=>?_)
   refine yJ rfl (fun hb=>zC rfl rfl rfl (zo (zp va hb) zw) (.cons (zb rfl) .nil)) (fun hb=>ok17 (hv4 hb)) w7 ?_
   refine zr rfl (fun hb=>zg rfl (zp wZ hb) (zb rfl)) wT ?_
   refine zr (yc rfl rfl rfl) (fun hb=>zd rfl vp yB rfl) wS ?_
   refine zr (yc rfl rfl rfl) (fun hb=>zq rfl ty27.choose_spec.1 (zp wY hb) rfl (zu (cs':=[.int .u8 l0.dot.actor.rep,.int .u32 l0.dot.actor.inc,.int .u64 l0.dot.seq]) ty27.choose_spec.2 rfl rfl) (zb rfl)) wR ?_
   refine yP hF (fun v5 hv5 hF=>?_)
   refine yJ (yc rfl rfl rfl) (fun hb=>zC rfl rfl rfl (zo (zp wX hb) zw) (.cons (zb rfl) .nil)) (fun hb=>ok18 (hv5 hb)) vg ?_
   refine zr rfl (fun hb=>zM rfl (zp wQ hb) vn rfl (zS (fun ht=>gT2 hb ht))) vf ?_
   refine zr rfl (fun hb=>zg rfl (zp vm hb) (zb rfl)) vI ?_
   refine zr (yc rfl rfl rfl) (fun hb=>zd rfl qN yB rfl) vN ?_
   refine zr (yc rfl rfl rfl) (fun hb=>zq rfl ty9 (zp vO hb) rfl (zt rfl) (zb rfl)) vZ ?_
   refine yP hF (fun v6 hv6 hF=>?_)
   refine yJ (yc rfl rfl rfl) (fun hb=>zC rfl rfl rfl (zo (zp qe hb) zw) (.cons (zb rfl) .nil)) (fun hb=>ok19 (hv6 hb)) (sk st0) ?_
   refine zr rfl (fun hb=>zM rfl (zp vC hb) (gk yh) rfl (zS (fun ht=>gT2 hb ht))) (sk st1) ?_
   refine zr rfl (fun hb=>vB rfl (zp (gk yB) hb) rfl) (sk xf) ?_
   refine zc rfl (zM rfl wH (gk yv) rfl (zS (fun ht=>gT ht))) (sk x5) ?_
   refine zc rfl (zg rfl (gk yf) (zb rfl)) (sk yV) ?_
   refine zr rfl (fun hb=>zd rfl wm yB rfl) (sk xp) ?_
   refine zr rfl (fun hb=>zq rfl xM (zp (gk yR) hb) rfl (zt rfl) (zb rfl)) (sk xI) ?_
   refine zr rfl (fun hb=>zz rfl (zp (gk xh) hb) rfl rfl) (sk xN) ?_
   refine zr rfl (fun hb=>zg rfl (zp (gk xu) hb) (zb rfl)) (sk xC) ?_
   refine zr (yc rfl rfl rfl) (fun hb=>zd rfl vp yB rfl) (sk xR) ?_
   refine zr (yc rfl rfl rfl) (fun hb=>zq rfl ty27.choose_spec.1 (zp (gk xK) hb) rfl (zu (cs':=[.int .u8 l0.dot.actor.rep,.int .u32 l0.dot.actor.inc,.int .u64 l0.dot.seq]) ty27.choose_spec.2 rfl rfl) (zb rfl)) (sk yy) ?_
   refine zr (yc rfl rfl rfl) (fun hb=>xc (cs':=[.int .u8 (0:Int),.int .u32 (0:Int),.int .u64 (0:Int)]) rfl su27 ze27 pl27 zT .nil rfl rfl) (sk yx) ?_
   refine zr (yc rfl rfl rfl) (fun hb=>zz rfl (zp (gk yw) hb) (zp (gk yr) hb) (bin_ne pk27 rfl)) (sk yE) ?_
   refine zr (yc rfl rfl rfl) (fun hb=>zg rfl (zp (gk yD) hb) (zb rfl)) (sk yK) ?_
   refine zr (yc rfl rfl rfl) (fun hb=>zd rfl qN yB rfl) (sk yT) ?_
   refine zr (yc rfl rfl rfl) (fun hb=>zq rfl ty9 (zp (gk yY) hb) rfl (zt rfl) (zb rfl)) (sk yS) ?_
   refine zr (yc rfl rfl rfl) (fun hb=>zz rfl (zp (gk yO) hb) rfl rfl) (sk yZ) ?_
   refine zr (yc rfl rfl rfl) (fun hb=>zM rfl (zp (gk yI) hb) rfl (gk y4) (zZ (fun ht=>gF2 hb ht))) (sk y8) ?_
   refine zr rfl (fun hb=>zM rfl (zp (gk xr) hb) (gk xd) rfl (zS (fun ht=>gT2 hb ht))) (sk xk) ?_
   refine zc rfl (zM rfl (gk yp) rfl (gk xl) (zZ (fun ht=>gF ht))) (sk xJ) ?_
   refine zf (zk ?_)
   refine zI (gk xL) hF (fun hc7 hF=>?_) (fun hc7 hF=>?_)
   ·refine zn (ze ?_)
    refine zc rfl (zj rfl rfl (zb rfl)) xf ?_
    refine zf (zk (zJ ?_))
    refine zL ?_
    refine zD ?_
    obtain rfl:=Option.some.inj hF
    refine zF rfl (zH yv zA) (zB (leV.refl _) rfl ?_)
    exact ⟨rfl,rfl⟩
   ·refine zN (ye (zk (zn (ze ?_))))
    refine zc rfl (zq rfl ty31.choose_spec.1 yB rfl (zu (cs':=[.int .u8 l0.typ,.int .i64 l0.n,.int .u64 l0.time,.int .u8 l0.dot.actor.rep,.int .u32 l0.dot.actor.inc,.int .u64 l0.dot.seq,.str l0.text,.sl 5 (l0.items.map GItem.row),.sl 3 (l0.tombs.map GDot.row)]) ty31.choose_spec.2 rfl rfl) (zb rfl)) (sk (sk xI)) ?_
    refine zc rfl (zq rfl ty31.choose_spec.1 yf rfl (zu (cs':=[.int .u8 l0.typ,.int .i64 (0:Int),.int .u64 l0.time,.int .u8 l0.dot.actor.rep,.int .u32 l0.dot.actor.inc,.int .u64 l0.dot.seq,.str l0.text,.osl none 5 (([]:List GItem).map GItem.row),.osl none 3 (([]:List GDot).map GDot.row)]) ty31.choose_spec.2 rfl rfl) (zb rfl)) (sk (sk xN)) ?_
    refine zQ hF (fun v8 hv8 hF=>?_)
    refine zU rfl (zC rfl rfl rfl (zo (gk (gk xh)) (zo (gk (gk xu)) zw)) (.cons (zb rfl) (.cons (zb rfl) .nil))) ((ok9 hv8).le (.eq (.cons (leV.agg (.eq (.eq (.eq (.eq (.eq (.eq (.eq (.cons (leV.osl _ _ _) (.cons (leV.osl _ _ _) leL.nil))))))))) rfl) leL.nil))) (sk (sk xC)) ?_
    refine zc rfl (zj rfl (gk (gk xr)) (zb rfl)) xf ?_
    refine zf (zk (zJ ?_))
    obtain rfl:=Option.some.inj hF
    refine zF rfl (zH yv zA) (zB (leV.refl _) rfl ?_)
    exact ⟨rfl,rfl⟩
  ·refine zn (ze ?_)
   refine zc rfl (zz rfl xr rfl rfl) (sk wb) ?_
   refine zc rfl (zj rfl (gk wa) (zb rfl)) (sk xQ) ?_
   refine zf (zk ?_)
   refine zI (gk xX) hF (fun hc9 hF=>?_) (fun hc9 hF=>?_)
   ·refine zn ?_
    refine yb [3] [(3,[(0,.cells [.int .u8 l0.typ,.int .i64 l0.n,.int .u64 l0.time,.int .u8 l0.dot.actor.rep,.int .u32 l0.dot.actor.inc,.int .u64 l0.dot.seq,.str l0.text,.sl 5 (l0.items.map GItem.row),.sl 3 (l0.tombs.map GDot.row)])])] ⟨⟨rfl,trivial⟩,trivial⟩ mixed (by kernel_rfl) ?_
    refine zi rfl rfl (zd rfl ym yB rfl) (sk wl) ?_
    refine zi rfl rfl (zq rfl xW (gk wq) rfl (zt rfl) (zb rfl)) (sk wp) ?_
    refine zi rfl rfl (zd rfl y5 yB rfl) (sk wu) ?_
    refine vD rfl rfl (by rintro _ ⟨B2,T2,rfl,hk2⟩;exact zq rfl xP (gk ww) (keeps1 hk2) (zt rfl) (zb rfl)) (sk wz) ?_
    refine zi rfl rfl (zd rfl ym yf rfl) (sk wV) ?_
    refine yG rfl (FOk.cons (.inr (xY ⟨rfl,trivial⟩)) FOk.nil) (by kernel_rfl) rfl (zP (cs':=[.int .u8 l0.typ,.int .i64 (0:Int),.int .u64 (0:Int),.int .u8 (0:Int),.int .u32 (0:Int),.int .u64 (0:Int),.str ([]:yn),.sl 5 (l0.items.map GItem.row),.osl none 3 (([]:List GDot).map GDot.row)]) rfl xW (gk wD) (gk wg) (zb rfl) rfl rfl rfl rfl rfl) rfl ?_
    refine zi rfl rfl (zd rfl y5 yf rfl) (sk wU) ?_
    refine yG rfl (FOk.cons (.inr (xY ⟨rfl,trivial⟩)) FOk.nil) (by kernel_rfl) rfl (zP (cs':=[.int .u8 l0.typ,.int .i64 (0:Int),.int .u64 (0:Int),.int .u8 (0:Int),.int .u32 (0:Int),.int .u64 (0:Int),.str ([]:yn),.sl 5 (l0.items.map GItem.row),.sl 3 (l0.tombs.map GDot.row)]) rfl xP (gk w4) (gk wv) (zb rfl) rfl rfl rfl rfl rfl) rfl ?_
    refine zX ?_
    refine zk (zn (ze ?_))
    refine zc rfl (zd rfl ym yB rfl) (sk wG) ?_
    refine zc rfl (zq rfl xW (gk wH) rfl (zt rfl) (zb rfl)) (sk w9) ?_
    refine zQ hF (fun v10 hv10 hF=>?_)
    refine zU rfl (zC rfl rfl rfl (zo (gk we) (zo rfl zw)) (.cons (zb rfl) (.cons (zb rfl) .nil))) (ok20 hv10) (sk w8) ?_
    refine zc rfl (vB rfl (gk va) rfl) (sk w7) ?_
    refine zc rfl (zg rfl (gk wZ) (zb rfl)) (sk wT) ?_
    refine zr rfl (fun hb=>zq rfl ty31.choose_spec.1 yB rfl (zu (cs':=[.int .u8 l0.typ,.int .i64 l0.n,.int .u64 l0.time,.int .u8 l0.dot.actor.rep,.int .u32 l0.dot.actor.inc,.int .u64 l0.dot.seq,.str l0.text,.sl 5 (l0.items.map GItem.row),.sl 3 (l0.tombs.map GDot.row)]) ty31.choose_spec.2 rfl rfl) (zb rfl)) (sk wS) ?_
    refine yP hF (fun v11 hv11 hF=>?_)
    refine yJ rfl (fun hb=>zC rfl rfl rfl (zo (zp (gk wY) hb) zw) (.cons (zb rfl) .nil)) (fun hb=>ok21 (hv11 hb)) (sk wR) ?_
    refine zr rfl (fun hb=>vB rfl (zp (gk wX) hb) rfl) (sk vg) ?_
    refine zc rfl (zM rfl (gk wQ) rfl (gk vn) (zZ (fun ht=>gF ht))) (sk vf) ?_
    refine zf (zk ?_)
    refine zI (gk vm) hF (fun hc12 hF=>?_) (fun hc12 hF=>?_)
    ·refine zn (ze ?_)
     refine zc rfl (zj rfl rfl (zb rfl)) xf ?_
     refine zf (zk (zJ ?_))
     refine zL ?_
     refine zD ?_
     obtain rfl:=Option.some.inj hF
     refine zF rfl (zH yv zA) (zB (leV.refl _) rfl ?_)
     exact ⟨rfl,rfl⟩
    ·refine zN (ye (zk (zn (ze ?_))))
     refine zc rfl (zq rfl ty31.choose_spec.1 yB rfl (zu (cs':=[.int .u8 l0.typ,.int .i64 l0.n,.int .u64 l0.time,.int .u8 l0.dot.actor.rep,.int .u32 l0.dot.actor.inc,.int .u64 l0.dot.seq,.str l0.text,.sl 5 (l0.items.map GItem.row),.sl 3 (l0.tombs.map GDot.row)]) ty31.choose_spec.2 rfl rfl) (zb rfl)) (sk (sk xI)) ?_
     refine zc rfl (zq rfl ty31.choose_spec.1 yf rfl (zu (cs':=[.int .u8 l0.typ,.int .i64 (0:Int),.int .u64 (0:Int),.int .u8 (0:Int),.int .u32 (0:Int),.int .u64 (0:Int),.str ([]:yn),.sl 5 (l0.items.map GItem.row),.sl 3 (l0.tombs.map GDot.row)]) ty31.choose_spec.2 rfl rfl) (zb rfl)) (sk (sk xN)) ?_
     refine zQ hF (fun v13 hv13 hF=>?_)
     refine zU rfl (zC rfl rfl rfl (zo (gk (gk xh)) (zo (gk (gk xu)) zw)) (.cons (zb rfl) (.cons (zb rfl) .nil))) (ok9 hv13) (sk (sk xC)) ?_
     refine zc rfl (zj rfl (gk (gk xr)) (zb rfl)) xf ?_
     refine zf (zk (zJ ?_))
     obtain rfl:=Option.some.inj hF
     refine zF rfl (zH yv zA) (zB (leV.refl _) rfl ?_)
     exact ⟨rfl,rfl⟩
   ·refine zn (ze ?_)
    refine zc rfl (zz rfl xr rfl rfl) (sk vN) ?_
    refine zc rfl (zj rfl (gk vO) (zb rfl)) (sk vI) ?_
    refine zf (zk ?_)
    refine zI (gk vC) hF (fun hc14 hF=>?_) (fun hc14 hF=>?_)
    ·refine zn (ze ?_)
     refine zc rfl (zd rfl ym yB rfl) (sk vZ) ?_
     refine zc rfl (zq rfl xW (gk qe) rfl (zt rfl) (zb rfl)) (sk (sk st0)) ?_
     refine zc rfl (zd rfl ym yf rfl) (sk (sk st1)) ?_
     refine zc rfl (zP (cs':=[.int .u8 l0.typ,.int .i64 (0:Int),.int .u64 (0:Int),.int .u8 (0:Int),.int .u32 (0:Int),.int .u64 (0:Int),.str ([]:yn),.sl 5 (l0.items.map GItem.row),.osl none 3 (([]:List GDot).map GDot.row)]) rfl xW (gk (gk yB)) (gk (gk yh)) (zb rfl) rfl rfl rfl rfl rfl) rfl ?_
     refine zf (zk (zn (ze ?_)))
     refine zc rfl (zd rfl ym yB rfl) (sk (sk xf)) ?_
     refine zc rfl (zq rfl xW (gk (gk yv)) rfl (zt rfl) (zb rfl)) (sk (sk x5)) ?_
     refine zQ hF (fun v15 hv15 hF=>?_)
     refine zU rfl (zC rfl rfl rfl (zo (gk (gk yf)) (zo rfl zw)) (.cons (zb rfl) (.cons (zb rfl) .nil))) (ok20 hv15) (sk (sk yV)) ?_
     refine zc rfl (vB rfl (gk (gk yp)) rfl) (sk (sk xp)) ?_
     refine zf (zk ?_)
     refine zI (gk (gk yR)) hF (fun hc16 hF=>?_) (fun hc16 hF=>?_)
     ·refine zn (ze ?_)
      refine zc rfl (zj rfl rfl (zb rfl)) xf ?_
      refine zf (zk (zJ ?_))
      refine zL ?_
      refine zD ?_
      obtain rfl:=Option.some.inj hF
      refine zF rfl (zH yv zA) (zB (leV.refl _) rfl ?_)
      exact ⟨rfl,rfl⟩
     ·refine zN (ye (zk (zn (ze ?_))))
      refine zc rfl (zq rfl ty31.choose_spec.1 yB rfl (zu (cs':=[.int .u8 l0.typ,.int .i64 l0.n,.int .u64 l0.time,.int .u8 l0.dot.actor.rep,.int .u32 l0.dot.actor.inc,.int .u64 l0.dot.seq,.str l0.text,.sl 5 (l0.items.map GItem.row),.sl 3 (l0.tombs.map GDot.row)]) ty31.choose_spec.2 rfl rfl) (zb rfl)) (sk (sk xI)) ?_
      refine zc rfl (zq rfl ty31.choose_spec.1 yf rfl (zu (cs':=[.int .u8 l0.typ,.int .i64 (0:Int),.int .u64 (0:Int),.int .u8 (0:Int),.int .u32 (0:Int),.int .u64 (0:Int),.str ([]:yn),.sl 5 (l0.items.map GItem.row),.osl none 3 (([]:List GDot).map GDot.row)]) ty31.choose_spec.2 rfl rfl) (zb rfl)) (sk (sk xN)) ?_
      refine zQ hF (fun v17 hv17 hF=>?_)
      refine zU rfl (zC rfl rfl rfl (zo (gk (gk xh)) (zo (gk (gk xu)) zw)) (.cons (zb rfl) (.cons (zb rfl) .nil))) ((ok9 hv17).le (.eq (.cons (leV.agg (.eq (.eq (.eq (.eq (.eq (.eq (.eq (.eq (.cons (leV.osl _ _ _) leL.nil))))))))) rfl) leL.nil))) (sk (sk xC)) ?_
      refine zc rfl (zj rfl (gk (gk xr)) (zb rfl)) xf ?_
      refine zf (zk (zJ ?_))
      obtain rfl:=Option.some.inj hF
      refine zF rfl (zH yv zA) (zB (leV.refl _) rfl ?_)
      exact ⟨rfl,rfl⟩
    ·refine zn (ze ?_)
     refine zc rfl (zj rfl rfl (zb rfl)) xf ?_
     refine zf (zk (zJ ?_))
     refine zL ?_
     refine zD ?_
     obtain rfl:=Option.some.inj hF
     refine zF rfl (zH yv zA) (zB (leV.refl _) rfl ?_)
     exact ⟨rfl,rfl⟩
/-! varve/op.adds -/
theorem ok64 {o0:GOp} {res:Bool} {h:AH}  (hF:opXadds o0=some res):Spec Tryz.prog 64 [.agg [.int .u8 o0.kind,.sl 1 (o0.path.map zG),.int .i64 o0.n,.str o0.text,.sl 3 (o0.dots.map GDot.row)]] h (fun rr hh=>rr=.bool res∧hh=h):=by
 unfold opXadds at hF
 refine zx Tryz.func64 rfl (by kernel_rfl) (env:=[.agg [.int .u8 o0.kind,.sl 1 (o0.path.map zG),.int .i64 o0.n,.str o0.text,.sl 3 (o0.dots.map GDot.row)],za,za,za,za,za,za,za,za,za,za,za,za,za,za,za,za,za,za,za,za,za]) (by rfl) ?_
 refine zn (ze ?_)
 refine zc rfl (yF (n:=0) rfl yh (zb rfl) rfl rfl) st1 ?_
 refine zc rfl (zj rfl rfl (zb rfl)) xf ?_
 refine zf (zk (zn (ze ?_)))
 refine zc rfl (zd rfl fo34x2 yB rfl) x5 ?_
 refine zc rfl (zq rfl ty2 yf rfl (zt rfl) (zb rfl)) yV ?_
 refine zc rfl (zz rfl yp rfl rfl) xp ?_
 refine zc rfl (zg rfl yR (zb rfl)) xI ?_
 refine zr rfl (fun hb=>zd rfl fo34x2 yB rfl) xN ?_
 refine zr rfl (fun hb=>zq rfl ty2 (zp xu hb) rfl (zt rfl) (zb rfl)) xC ?_
 refine zr rfl (fun hb=>zz rfl (zp xr hb) rfl rfl) xR ?_
 refine zc rfl (zM rfl xh xK rfl (zS (fun ht=>gT ht))) yy ?_
 refine zc rfl (zg rfl yw (zb rfl)) yx ?_
 refine zr rfl (fun hb=>zd rfl qt yB rfl) yE ?_
 refine zr rfl (fun hb=>zq rfl ty9 (zp yD hb) rfl (zt rfl) (zb rfl)) yK ?_
 refine zr rfl (fun hb=>zz rfl (zp yI hb) rfl rfl) yT ?_
 refine zc rfl (zM rfl yr yY rfl (zS (fun ht=>gT ht))) yS ?_
 refine zc rfl (zg rfl yO (zb rfl)) yZ ?_
 refine zr rfl (fun hb=>zd rfl vJ yB rfl) y8 ?_
 refine zr rfl (fun hb=>zq rfl xP (zp xd hb) rfl (zt rfl) (zb rfl)) xk ?_
 refine xq rfl (fun hb=>ya rfl rfl rfl rfl yU (zp xl hb) yC) xJ fun hn1=>?_
 refine zr rfl (fun hb=>zz rfl (zp xL hb) rfl rfl) xQ ?_
 refine zc rfl (zM rfl y4 xX rfl (zS (fun ht=>gT ht))) wb ?_
 refine zc rfl (zj rfl wa (zb rfl)) xf ?_
 refine zf (zk (zJ ?_))
 obtain rfl:=Option.some.inj hF
 refine zF rfl (zH yv zA) (zB (leV.refl _) rfl ?_)
 exact ⟨rfl,rfl⟩
/-! varve/op.plain -/
theorem ok65 {o0:GOp} {res:Bool} {h:AH}  (hF:opXplain o0=some res):Spec Tryz.prog 65 [.agg [.int .u8 o0.kind,.sl 1 (o0.path.map zG),.int .i64 o0.n,.str o0.text,.sl 3 (o0.dots.map GDot.row)]] h (fun rr hh=>rr=.bool res∧hh=h):=by
 unfold opXplain at hF
 refine zx Tryz.func65 rfl (by kernel_rfl) (env:=[.agg [.int .u8 o0.kind,.sl 1 (o0.path.map zG),.int .i64 o0.n,.str o0.text,.sl 3 (o0.dots.map GDot.row)],za,za,za,za,za,za,za,za,za,za,za,za,za,za,za,za,za]) (by rfl) ?_
 refine zn (ze ?_)
 refine zc rfl (yF (n:=0) rfl yh (zb rfl) rfl rfl) st1 ?_
 refine zc rfl (zj rfl rfl (zb rfl)) xf ?_
 refine zf (zk (zn (ze ?_)))
 refine zc rfl (zd rfl fo34x2 yB rfl) x5 ?_
 refine zc rfl (zq rfl ty2 yf rfl (zt rfl) (zb rfl)) yV ?_
 refine zc rfl (zz rfl yp rfl rfl) xp ?_
 refine zc rfl (zg rfl yR (zb rfl)) xI ?_
 refine zr rfl (fun hb=>zd rfl qt yB rfl) xN ?_
 refine zr rfl (fun hb=>zq rfl ty9 (zp xu hb) rfl (zt rfl) (zb rfl)) xC ?_
 refine xq rfl (fun hb=>wA rfl rfl rfl rfl ty9 (zp xr hb)) xR fun hn1=>?_
 refine zr rfl (fun hb=>zz rfl (zp xK hb) rfl rfl) yy ?_
 refine zc rfl (zM rfl xh yw rfl (zS (fun ht=>gT ht))) yx ?_
 refine zc rfl (zg rfl yr (zb rfl)) yE ?_
 refine zr rfl (fun hb=>zd rfl vJ yB rfl) yK ?_
 refine zr rfl (fun hb=>zq rfl xP (zp yI hb) rfl (zt rfl) (zb rfl)) yT ?_
 refine xq rfl (fun hb=>ya rfl rfl rfl rfl yU (zp yY hb) yC) yS fun hn2=>?_
 refine zr rfl (fun hb=>zz rfl (zp yO hb) rfl rfl) yZ ?_
 refine zc rfl (zM rfl yD y4 rfl (zS (fun ht=>gT ht))) y8 ?_
 refine zc rfl (zj rfl xd (zb rfl)) xf ?_
 refine zf (zk (zJ ?_))
 obtain rfl:=Option.some.inj hF
 refine zF rfl (zH yv zA) (zB (leV.refl _) rfl ?_)
 exact ⟨rfl,rfl⟩
/-! varve/op.drops -/
theorem ok66 {o0:GOp} {res:Bool} {h:AH}  (hF:opXdrops o0=some res):Spec Tryz.prog 66 [.agg [.int .u8 o0.kind,.sl 1 (o0.path.map zG),.int .i64 o0.n,.str o0.text,.sl 3 (o0.dots.map GDot.row)]] h (fun rr hh=>rr=.bool res∧hh=h):=by
 unfold opXdrops at hF
 refine zx Tryz.func66 rfl (by kernel_rfl) (env:=[.agg [.int .u8 o0.kind,.sl 1 (o0.path.map zG),.int .i64 o0.n,.str o0.text,.sl 3 (o0.dots.map GDot.row)],za,za,za,za,za,za,za,za,za,za,za,za,za,za,za,za,za,za,za,za,za,za,za,za,za,za,za,za,za,za,za,za,za,za,za,za,za,za,za,za,za,za,za,za,za,za]) (by rfl) ?_
 refine zn (ze ?_)
 refine zc rfl (yF (n:=0) rfl yh (zb rfl) rfl rfl) st1 ?_
 refine zc rfl (zj rfl rfl (zb rfl)) xf ?_
 refine zf (zk (zn (zn (ze ?_))))
 refine zc rfl (zd rfl fo34x2 yB rfl) xp ?_
 refine zc rfl (zq rfl ty2 yR rfl (zt rfl) (zb rfl)) xI ?_
 refine zc rfl (zz rfl xh rfl rfl) xN ?_
 refine zc rfl (zg rfl xu (zb rfl)) xC ?_
 refine zr rfl (fun hb=>zd rfl qt yB rfl) xR ?_
 refine zr rfl (fun hb=>zq rfl ty9 (zp xK hb) rfl (zt rfl) (zb rfl)) yy ?_
 refine xq rfl (fun hb=>wA rfl rfl rfl rfl ty9 (zp yw hb)) yx fun hn1=>?_
 refine zr rfl (fun hb=>zz rfl (zp yr hb) rfl rfl) yE ?_
 refine zc rfl (zM rfl xr rfl yD (zZ (fun ht=>gF ht))) yK ?_
 refine zc rfl (zg rfl yI (zb rfl)) yT ?_
 refine zr rfl (fun hb=>zd rfl vJ yB rfl) yS ?_
 refine zr rfl (fun hb=>zq rfl xP (zp yO hb) rfl (zt rfl) (zb rfl)) yZ ?_
 refine xq rfl (fun hb=>ya rfl rfl rfl rfl yU (zp y4 hb) yC) y8 fun hn2=>?_
 refine zr rfl (fun hb=>zz rfl (zp xd hb) rfl rfl) xk ?_
 refine zc rfl (zM rfl yY rfl xl (zZ (fun ht=>gF ht))) xJ ?_
 refine zf (zk ?_)
 refine zI xL hF (fun hc3 hF=>?_) (fun hc3 hF=>?_)
 ·refine zn (ze ?_)
  refine zc rfl (zj rfl rfl (zb rfl)) xf ?_
  refine zf (zk (zJ (zD ?_)))
  obtain rfl:=Option.some.inj hF
  refine zF rfl (zH yv zA) (zB (leV.refl _) rfl ?_)
  exact ⟨rfl,rfl⟩
 ·refine zN (zk (zn (zn (ze ?_))))
  refine zc rfl (zd rfl vJ yB rfl) xQ ?_
  refine zc rfl (zq rfl xP xX rfl (zt rfl) (zb rfl)) wb ?_
  refine yj rfl (ya rfl rfl rfl rfl yU wa yC) wl fun hn4=>?_
  replace hn4:=wW hn4
  refine zc rfl (zg rfl rfl (zb rfl)) wp ?_
  refine zf (zk (zW ?_))
  refine xi (fun (n1:Nat) (s1:Unit)=>xB [0,2,3,4,5,6,7,8,9,10,11,12,13,14,15,16,17,18,19,20,24,25,26,27,28,29,30,31,32,33,34,35,36,37,38,39,40,41,42,43,44,45,46] [(23,.int .i64 (n1:Int))]) (fun s1=>h.ext [.cells [.int .u8 o0.kind,.sl 1 (o0.path.map zG),.int .i64 o0.n,.str o0.text,.sl 3 (o0.dots.map GDot.row)]] []) hF (fun _ _=>by simp only [xB,upd,List.set_cons_succ,List.set_cons_zero];try rfl) (wk.le (by exact (.drop (.eq (.d16 (.drop (.drop (.drop (.eq (.eq (.cons (leV.of_eq rfl) (.d16 (.d4 (.drop (.drop (.drop leL.nil)))))))))))))))) ?_
  intro n1 s1 hi1 hF
  refine zn (ze ?_)
  refine zc rfl (zz rfl wg wq rfl) wu ?_
  refine zf (zk (zn ?_))
  refine xO ww hF (fun x1 o1 hl1 hx1 hF hK1=>?_) (fun hF=>?_)
  ·refine zN (zk (zn (zW (zn (ze ?_)))))
   refine zc rfl (zg rfl wg (zb rfl)) wz ?_
   refine zc rfl (yM rfl yU wa wg isl (wc hx1)) wV ?_
   refine zc rfl (yW rfl ty27.choose_spec.1 wD (zu (cs':=[.int .u8 x1.actor.rep,.int .u32 x1.actor.inc,.int .u64 x1.seq]) ty27.choose_spec.2 rfl rfl) (zb rfl)) wU ?_
   refine zc rfl (xG (n:=1) rfl ze27 rfl) yV ?_
   refine zc rfl (zj rfl wv (zb rfl)) x5 ?_
   refine zc rfl (zP (cs':=[.int .u8 x1.actor.rep,.int .u32 x1.actor.inc,.int .u64 x1.seq]) rfl ty27.choose_spec.1 yp w4 (zb rfl) rfl rfl rfl rfl rfl) rfl ?_
   refine zf (zk (zn ?_))
   refine yb [1] [] trivial mixed (by kernel_rfl) ?_
   refine zi rfl rfl (zq rfl ty27.choose_spec.1 yp rfl (zu (cs':=[.int .u8 x1.actor.rep,.int .u32 x1.actor.inc,.int .u64 x1.seq]) ty27.choose_spec.2 rfl rfl) (zb rfl)) wG ?_
   refine zQ hF (fun v17 hv17 hF=>?_)
   refine yQ rfl rfl (fun _=>zC rfl rfl rfl (zo wH zw) (.cons (zb rfl) .nil)) (by rintro _ ⟨B2,T2,rfl,hk2⟩;exact ok18 hv17) w9 ?_
   refine zi rfl rfl (vB rfl we rfl) w8 ?_
   refine zi rfl rfl (zg rfl va (zb rfl)) w7 ?_
   refine zy rfl rfl (fun hb=>zg rfl yf (zb rfl)) wT ?_
   refine zy rfl rfl (fun hb=>zz rfl (zp wQ hb) rfl rfl) wS ?_
   refine zy rfl rfl (fun hb=>zg rfl (zp wY hb) (zb rfl)) wR ?_
   refine zy rfl (yc rfl rfl rfl) (fun hb=>zd rfl vJ yB rfl) vg ?_
   refine zy rfl (yc rfl rfl rfl) (fun hb=>zq rfl xP (zp vn hb) rfl (zt rfl) (zb rfl)) vf ?_
   refine zy rfl (yc rfl rfl rfl) (fun hb=>zg rfl yf (zb rfl)) vI ?_
   refine zy rfl (yc rfl rfl rfl) (fun hb=>zz rfl (zp vC hb) rfl rfl) vN ?_
   refine vz hF (fun hg18 hF=>?_)
   refine zy rfl (yc rfl rfl rfl) (fun hb=>wi default rfl yU (zp vm hb) (zp vO hb) isl (hg18 hb)) vZ ?_
   refine zy rfl (yc rfl rfl rfl) (fun hb=>yW rfl ty27.choose_spec.1 (zp qe hb) (zu (cs':=[.int .u8 (((o0.dots).getD (IntKind.wrap .i64 ((n1:Int) - (1:Int))).toNat default).actor.rep),.int .u32 (((o0.dots).getD (IntKind.wrap .i64 ((n1:Int) - (1:Int))).toNat default).actor.inc),.int .u64 (((o0.dots).getD (IntKind.wrap .i64 ((n1:Int) - (1:Int))).toNat default).seq)]) ty27.choose_spec.2 rfl rfl) (zb rfl)) (sk st0) ?_
   refine zy rfl (yc rfl rfl rfl) (fun hb=>zq rfl ty27.choose_spec.1 yp rfl (zu (cs':=[.int .u8 x1.actor.rep,.int .u32 x1.actor.inc,.int .u64 x1.seq]) ty27.choose_spec.2 rfl rfl) (zb rfl)) (sk st1) ?_
   refine yP hF (fun v19 hv19 hF=>?_)
   refine xn rfl (yc rfl rfl rfl) (fun hb=>zC rfl rfl rfl (zo (zp (gk yh) hb) (zo (zp (gk yB) hb) zw)) (.cons (zb rfl) (.cons (zb rfl) .nil))) (fun hb=>ok45 (hv19 hb)) (sk xf) ?_
   refine zy rfl (yc rfl rfl rfl) (fun hb=>zz rfl (zp (gk yv) hb) rfl rfl) (sk x5) ?_
   refine zy rfl rfl (fun hb=>zM rfl (zp wX hb) (gk yf) rfl (zS (fun ht=>gT2 hb ht))) (sk yV) ?_
   refine zi rfl rfl (zM rfl wZ rfl (gk yp) (zZ (fun ht=>gF ht))) (sk xp) ?_
   refine zX ?_
   refine zk ?_
   refine zI (gk yR) hF (fun hc20 hF=>?_) (fun hc20 hF=>?_)
   ·refine zn (ze ?_)
    refine zc rfl (zj rfl rfl (zb rfl)) xf ?_
    refine zf (zk (zJ ?_))
    refine zL ?_
    refine zD ?_
    refine yN ?_
    obtain rfl:=Option.some.inj hF
    replace hF:=hK1
    refine zL ?_
    refine zD ?_
    obtain rfl:=Option.some.inj hF
    refine zF rfl (zH yv zA) (zB (leV.refl _) rfl ?_)
    exact ⟨rfl,rfl⟩
   ·refine zN (ye (zk (ze ?_)))
    refine zc rfl (zz rfl wg rfl rfl) (sk xI) ?_
    refine zc rfl (zg rfl (gk xh) (zb rfl)) wp ?_
    refine zf (xw ?_)
    obtain rfl:=Option.some.inj hF
    exact ⟨(),hl1,hK1,wk.trans (wk.le (by exact (.drop (.eq (.d16 (.drop (.drop (.drop (.eq (.eq (.cons (leV.of_eq (qT (by omega) (by omega))) (.d16 (.d4 (.drop (.drop (.drop leL.nil)))))))))))))))) (vX (by simp [y3,AV.low]) rfl rfl (by simp [Blk.low,y3,AV.low]))⟩
  ·refine xD ?_
   refine yd ?_
   refine z7 ?_
   refine z8 ?_
   refine zk (zn (ze ?_))
   refine zc rfl (zj rfl rfl (zb rfl)) xf ?_
   refine zf (zk (zJ ?_))
   obtain rfl:=Option.some.inj hF
   refine zF rfl (zH yv zA) (zB (leV.refl _) rfl ?_)
   exact ⟨rfl,rfl⟩
/-! varve/op.of -/
theorem ok51 {k0:Int} {res:(GOpKind×Bool)} {h:AH}  (hF:opXof k0=some res):Spec Tryz.prog 51 [.int .u8 k0] h (fun rr hh=>rr=.tup [.agg [.int .u8 res.1.leaf,fvOp res.1.may],.bool res.2]∧hh=h):=by
 unfold opXof at hF
 refine zx Tryz.func51 rfl (by kernel_rfl) (env:=[.int .u8 k0,za,za,za,za,za,za,za,za,za,za,za,za,za,za,za,za,za,za,za,za]) (by rfl) ?_
 refine zn (ze ?_)
 refine zc rfl (xG (n:=0) rfl ze80 rfl) xf ?_
 refine zc rfl (zj rfl rfl (zb rfl)) x5 ?_
 refine zf (zk (zn (ze ?_)))
 refine zc rfl (xc (cs':=[.int .u8 (1:Int),.fn (.func 64) [] []]) rfl su80 ze80 pl80 (zK rfl (zK rfl zT)) (.cons (zb rfl) (.cons (zb rfl) .nil)) rfl rfl) xp ?_
 refine zc rfl (xc (cs':=[.int .u8 (2:Int),.fn (.func 65) [] []]) rfl su80 ze80 pl80 (zK rfl (zK rfl zT)) (.cons (zb rfl) (.cons (zb rfl) .nil)) rfl rfl) xI ?_
 refine zc rfl (xc (cs':=[.int .u8 (3:Int),.fn (.func 65) [] []]) rfl su80 ze80 pl80 (zK rfl (zK rfl zT)) (.cons (zb rfl) (.cons (zb rfl) .nil)) rfl rfl) xN ?_
 refine zc rfl (xc (cs':=[.int .u8 (3:Int),.fn (.func 66) [] []]) rfl su80 ze80 pl80 (zK rfl (zK rfl zT)) (.cons (zb rfl) (.cons (zb rfl) .nil)) rfl rfl) xC ?_
 refine zc rfl (xc (cs':=[.int .u8 (4:Int),.fn (.func 65) [] []]) rfl su80 ze80 pl80 (zK rfl (zK rfl zT)) (.cons (zb rfl) (.cons (zb rfl) .nil)) rfl rfl) xR ?_
 refine zc rfl (s_buildArr (cs':=[.int .u8 (0:Int),.nilf,.int .u8 (1:Int),.fn (.func 64) [] [],.int .u8 (2:Int),.fn (.func 65) [] [],.int .u8 (3:Int),.fn (.func 65) [] [],.int .u8 (3:Int),.fn (.func 66) [] [],.int .u8 (4:Int),.fn (.func 65) [] []]) rfl ty92.u ze92 ty80.choose_spec.1 (zK yR (zK xh (zK xu (zK xr (zK xK zT))))) (.cons (zb rfl) (.cons (zb rfl) (.cons (zb rfl) (.cons (zb rfl) (.cons (zb rfl) .nil))))) rfl rfl) yy ?_
 refine zc rfl (xG (n:=1) rfl ze92 rfl) yV ?_
 refine zc rfl (zP (cs':=[.int .u8 (0:Int),.nilf,.int .u8 (1:Int),.fn (.func 64) [] [],.int .u8 (2:Int),.fn (.func 65) [] [],.int .u8 (3:Int),.fn (.func 65) [] [],.int .u8 (3:Int),.fn (.func 66) [] [],.int .u8 (4:Int),.fn (.func 65) [] []]) rfl ty92 yp yw (zb rfl) rfl rfl rfl rfl rfl) rfl ?_
 refine zf (zk (zn (zn (ze ?_))))
 refine zc rfl (zg rfl yh (zb rfl)) yx ?_
 refine zc rfl (zz rfl yr rfl rfl) yE ?_
 refine zc rfl (zg rfl yD (zb rfl)) yK ?_
 refine zr rfl (fun hb=>zg rfl yh (zb rfl)) yT ?_
 refine zr rfl (fun hb=>zz rfl (zp yY hb) rfl rfl) yS ?_
 refine zc rfl (zM rfl yI rfl yO (zZ (fun ht=>gF ht))) yZ ?_
 refine zf (zk ?_)
 refine zI y4 hF (fun hc1 hF=>?_) (fun hc1 hF=>?_)
 ·refine zn (ze ?_)
  refine zc rfl (xc (cs':=[.int .u8 (0:Int),.nilf]) rfl su80 ze80 pl80 zT .nil rfl rfl) y8 ?_
  refine zc rfl (zP (cs':=[.int .u8 (0:Int),.nilf]) rfl ty80.choose_spec.1 yv xd (zb rfl) rfl rfl rfl rfl rfl) rfl ?_
  refine zc rfl (zj rfl rfl (zb rfl)) x5 ?_
  refine zf (zk (zJ (zD ?_)))
  obtain rfl:=Option.some.inj hF
  refine xU rfl (xg ty80.choose_spec.1 yv rfl (zu (cs':=[.int .u8 (0:Int),.nilf]) ty80.choose_spec.2 rfl rfl) (zb rfl) (zH yf zA)) (zB (leV.refl _) rfl ?_)
  exact ⟨rfl,rfl⟩
 ·refine zN (zk (zn (ze ?_)))
  refine zc rfl (zg rfl yh (zb rfl)) xk ?_
  refine zQ hF (fun y2 hy2 hF=>?_)
  refine zc rfl (s_idxArr rfl ty92 ty80.choose_spec.1 yp xl rfl hy2) xJ ?_
  refine zc rfl (zq rfl ty80.choose_spec.1 xL rfl ((congrArg (fun b=>ldC b _ _ _) ty80.choose_spec.2).trans (ldC_arr (row:=GOpKind.row) (L:=([(GOpKind.mk (0:Int) 0),(GOpKind.mk (1:Int) 1),(GOpKind.mk (2:Int) 2),(GOpKind.mk (3:Int) 2),(GOpKind.mk (3:Int) 3),(GOpKind.mk (4:Int) 2)]:List GOpKind)) (fun _=>rfl) hy2 rfl)) (zb rfl)) xQ ?_
  refine zc rfl (zP (cs':=[.int .u8 y2.leaf,fvOp y2.may]) rfl ty80.choose_spec.1 yv xX (zb rfl) rfl rfl rfl rfl rfl) rfl ?_
  refine zc rfl (zj rfl rfl (zb rfl)) x5 ?_
  refine zf (zk (zJ ?_))
  obtain rfl:=Option.some.inj hF
  refine xU rfl (xg ty80.choose_spec.1 yv rfl (zu (cs':=[.int .u8 y2.leaf,fvOp y2.may]) ty80.choose_spec.2 rfl rfl) (zb rfl) (zH yf zA)) (zB (leV.refl _) (by simp [AV.low,y3,fvlOp]) ?_)
  exact ⟨rfl,rfl⟩
/-! slices.IndexFunc[[]string,string] -/
theorem ok95 {s0:(List yn)} {f1:(yn→Option Bool)} {ff1:FuncId} {af1 kf1:List AV} {res:Int} {h:AH} (hf1:∀ x0 v (L:List Blk) (M:List Nat),f1 x0=some v→Spec Tryz.prog ff1 (af1++[.str x0]++kf1) (h.ext L M) (fun rr hh=>rr=.bool v∧hh=h.ext L M)) (hF:wF s0 f1=some res):Spec Tryz.prog 95 [.sl 1 (s0.map zG),.fn (.func ff1) af1 kf1] h (fun rr hh=>rr=.int .i64 res∧hh=h):=by
 unfold wF at hF
 refine xF Tryz.func95 rfl (by kernel_rfl) (env:=[.sl 1 (s0.map zG),.fn (.func ff1) af1 kf1,za,za,za,za,za,za,za,za,za,za,za,za,za,za,za,za,za]) (by rfl) (fun hlow hC=>?_)
 simp only [y3,AV.low,Bool.and_eq_true,Bool.true_and,and_true] at hlow
 have hlaf1:∀ n m,h.blks.length≤n→h.toks.length≤m→y3 n m af1=true:=fun n m h1 h2=>xV h1 h2 _ (by simp [hlow])
 have hlkf1:∀ n m,h.blks.length≤n→h.toks.length≤m→y3 n m kf1=true:=fun n m h1 h2=>xV h1 h2 _ (by simp [hlow])
 refine zn (ze ?_)
 refine zc rfl (zj rfl rfl (zb rfl)) yV ?_
 refine zf (zk (zn (zn (ze ?_))))
 refine zc rfl (zg rfl yh (zb rfl)) xI ?_
 refine yj rfl (ya rfl rfl rfl rfl el32 xh yC) xN fun hn1=>?_
 replace hn1:=wW hn1
 refine zc rfl (zg rfl rfl (zb rfl)) xC ?_
 refine zf (zk (zW ?_))
 refine xi (fun (n1:Nat) (s1:Unit)=>xB [2,3,4,5,6,9,10,11,12,13,14,15,16,17,18] [(8,.int .i64 (n1:Int))]) (fun s1=>h.ext [] []) hF (fun _ _=>by simp only [xB,upd,List.set_cons_succ,List.set_cons_zero];try rfl) (wk.le (by exact (.eq (.eq (.d4 (.drop (.eq (.cons (leV.of_eq rfl) (.d4 (.d4 (.drop (.drop leL.nil)))))))))))) ?_
 intro n1 s1 hi1 hF
 refine zn (ze ?_)
 refine zc rfl (zz rfl xr xu rfl) xR ?_
 refine zf (zk (zn ?_))
 refine xO xK hF (fun x1 o1 hl1 hx1 hF hK1=>?_) (fun hF=>?_)
 ·refine zN (zk (zn (zW (zn (ze ?_)))))
  refine zc rfl (zg rfl xr (zb rfl)) yy ?_
  refine zc rfl (zj rfl yw (zb rfl)) xp ?_
  refine zf (zk (zn (ze ?_)))
  refine zc rfl (zg rfl yB (zb rfl)) yx ?_
  refine zc rfl (zg rfl yh (zb rfl)) yE ?_
  refine zc rfl (zg rfl yR (zb rfl)) yK ?_
  refine zc rfl (yM rfl el32 yD yI isl (wc hx1)) yT ?_
  refine zc rfl (yW rfl ty9 yY (zt rfl) (zb rfl)) yS ?_
  refine zQ hF (fun v7 hv7 hF=>?_)
  refine zU rfl (s_callC rfl rfl yr (zo yO zw) (.cons (zb rfl) .nil) rfl) (hf1 _ _ _ _ hv7) yZ ?_
  refine zf (zk ?_)
  refine zI y4 hF (fun hc8 hF=>?_) (fun hc8 hF=>?_)
  ·refine zn (ze ?_)
   refine zc rfl (zg rfl yR (zb rfl)) y8 ?_
   refine zc rfl (zj rfl xd (zb rfl)) yV ?_
   refine zf (zk (zJ ?_))
   refine zL ?_
   refine zD ?_
   refine yN ?_
   obtain rfl:=Option.some.inj hF
   replace hF:=hK1
   refine zL ?_
   refine zD ?_
   obtain rfl:=Option.some.inj hF
   refine zF rfl (zH yp zA) (zB (leV.refl _) rfl ?_)
   exact ⟨rfl,rfl⟩
  ·refine zN (ye (zk (ze ?_)))
   refine zc rfl (zz rfl xr rfl rfl) xk ?_
   refine zc rfl (zg rfl xl (zb rfl)) xC ?_
   refine zf (xw ?_)
   obtain rfl:=Option.some.inj hF
   exact ⟨(),hl1,hK1,wk.le (by exact (.eq (.eq (.d4 (.drop (.eq (.cons (leV.of_eq (qT (by omega) (by omega))) (.d4 (.d4 (.drop (.drop leL.nil)))))))))))⟩
 ·refine xD ?_
  refine yd ?_
  refine z7 ?_
  refine z8 ?_
  refine zk (zn (ze ?_))
  refine zc rfl (zj rfl rfl (zb rfl)) yV ?_
  refine zf (zk (zJ ?_))
  obtain rfl:=Option.some.inj hF
  refine zF rfl (zH yp zA) (zB (leV.refl _) rfl ?_)
  exact ⟨rfl,rfl⟩
/-! slices.ContainsFunc[[]string,string] -/
theorem ok77 {s0:(List yn)} {f1:(yn→Option Bool)} {ff1:FuncId} {af1 kf1:List AV} {res:Bool} {h:AH} (hf1:∀ x0 v (L:List Blk) (M:List Nat),f1 x0=some v→Spec Tryz.prog ff1 (af1++[.str x0]++kf1) (h.ext L M) (fun rr hh=>rr=.bool v∧hh=h.ext L M)) (hF:xH s0 f1=some res):Spec Tryz.prog 77 [.sl 1 (s0.map zG),.fn (.func ff1) af1 kf1] h (fun rr hh=>rr=.bool res∧hh=h):=by
 unfold xH at hF
 refine xF Tryz.func77 rfl (by kernel_rfl) (env:=[.sl 1 (s0.map zG),.fn (.func ff1) af1 kf1,za,za,za,za,za,za,za]) (by rfl) (fun hlow hC=>?_)
 simp only [y3,AV.low,Bool.and_eq_true,Bool.true_and,and_true] at hlow
 have hlaf1:∀ n m,h.blks.length≤n→h.toks.length≤m→y3 n m af1=true:=fun n m h1 h2=>xV h1 h2 _ (by simp [hlow])
 have hlkf1:∀ n m,h.blks.length≤n→h.toks.length≤m→y3 n m kf1=true:=fun n m h1 h2=>xV h1 h2 _ (by simp [hlow])
 refine zn (ze ?_)
 refine zc rfl (zj rfl rfl (zb rfl)) yV ?_
 refine zf (zk (zn (ze ?_)))
 refine zc rfl (zg rfl yh (zb rfl)) xp ?_
 refine zc rfl (zg rfl yB (zb rfl)) xI ?_
 refine zQ hF (fun v1 hv1 hF=>?_)
 refine zU rfl (zC rfl rfl rfl (zo yR (zo xh zw)) (.cons (zb rfl) (.cons (zb rfl) .nil))) (ok95 (fun x0 v L M hv=>by rw [qr];exact hf1 x0 v _ _ hv) hv1) xN ?_
 refine zc rfl (zz rfl xu rfl rfl) xC ?_
 refine zc rfl (zj rfl xr (zb rfl)) yV ?_
 refine zf (zk (zJ ?_))
 obtain rfl:=Option.some.inj hF
 refine zF rfl (zH yp zA) (zB (leV.refl _) rfl ?_)
 exact ⟨rfl,rfl⟩
/-! varve/op.IsName 1 -/
theorem ok96 {r0:Int} {res:Bool} {h:AH}  (hF:qU r0=some res):Spec Tryz.prog 96 [.int .i32 r0] h (fun rr hh=>rr=.bool res∧hh=h):=by
 unfold qU at hF
 refine zx Tryz.func96 rfl (by kernel_rfl) (env:=[.int .i32 r0,za,za,za,za,za,za,za,za,za,za,za,za,za,za,za,za,za,za,za,za,za,za,za,za]) (by rfl) ?_
 refine zn (ze ?_)
 refine zc rfl (zj rfl rfl (zb rfl)) xf ?_
 refine zf (zk (zn (ze ?_)))
 refine zc rfl (zg rfl yh (zb rfl)) x5 ?_
 refine zc rfl (zz rfl yf rfl rfl) yV ?_
 refine zc rfl (zg rfl yp (zb rfl)) xp ?_
 refine zr rfl (fun hb=>zg rfl yh (zb rfl)) xI ?_
 refine zr rfl (fun hb=>zz rfl (zp xh hb) rfl rfl) xN ?_
 refine zc rfl (zM rfl yR rfl xu (zZ (fun ht=>gF ht))) xC ?_
 refine zc rfl (zg rfl xr (zb rfl)) xR ?_
 refine zr rfl (fun hb=>zg rfl yh (zb rfl)) yy ?_
 refine zr rfl (fun hb=>zz rfl (zp yw hb) rfl rfl) yx ?_
 refine zr rfl (fun hb=>zg rfl (zp yr hb) (zb rfl)) yE ?_
 refine zr (yc rfl rfl rfl) (fun hb=>zg rfl yh (zb rfl)) yK ?_
 refine zr (yc rfl rfl rfl) (fun hb=>zz rfl (zp yI hb) rfl rfl) yT ?_
 refine zr rfl (fun hb=>zM rfl (zp yD hb) rfl yY (zZ (fun ht=>gF2 hb ht))) yS ?_
 refine zc rfl (zM rfl xK yO rfl (zS (fun ht=>gT ht))) yZ ?_
 refine zc rfl (zg rfl y4 (zb rfl)) y8 ?_
 refine zr rfl (fun hb=>zg rfl yh (zb rfl)) xk ?_
 refine zr rfl (fun hb=>zz rfl (zp xl hb) rfl rfl) xJ ?_
 refine zr rfl (fun hb=>zg rfl (zp xL hb) (zb rfl)) xQ ?_
 refine zr (yc rfl rfl rfl) (fun hb=>zg rfl yh (zb rfl)) wb ?_
 refine zr (yc rfl rfl rfl) (fun hb=>zz rfl (zp wa hb) rfl rfl) wl ?_
 refine zr rfl (fun hb=>zM rfl (zp xX hb) rfl wq (zZ (fun ht=>gF2 hb ht))) wp ?_
 refine zc rfl (zM rfl xd wg rfl (zS (fun ht=>gT ht))) wu ?_
 refine zc rfl (zj rfl ww (zb rfl)) xf ?_
 refine zf (zk (zJ ?_))
 obtain rfl:=Option.some.inj hF
 refine zF rfl (zH yv zA) (zB (leV.refl _) rfl ?_)
 exact ⟨rfl,rfl⟩
/-! strings.indexFunc -/
theorem ok107 {s0:yn} {f1:(Int→Option Bool)} {ff1:FuncId} {af1 kf1:List AV} {truth2:Bool} {res:Int} {h:AH} (hf1:∀ x0 v (L:List Blk) (M:List Nat),f1 x0=some v→Spec Tryz.prog ff1 (af1++[.int .i32 x0]++kf1) (h.ext L M) (fun rr hh=>rr=.bool v∧hh=h.ext L M)) (hF:vK s0 f1 truth2=some res):Spec Tryz.prog 107 [.str s0,.fn (.func ff1) af1 kf1,.bool truth2] h (fun rr hh=>rr=.int .i64 res∧hh=h):=by
 unfold vK at hF
 refine xF Tryz.func107 rfl (by kernel_rfl) (env:=[.str s0,.fn (.func ff1) af1 kf1,.bool truth2,za,za,za,za,za,za,za,za,za,za,za,za,za,za,za,za,za,za]) (by rfl) (fun hlow hC=>?_)
 simp only [y3,AV.low,Bool.and_eq_true,Bool.true_and,and_true] at hlow
 have hlaf1:∀ n m,h.blks.length≤n→h.toks.length≤m→y3 n m af1=true:=fun n m h1 h2=>xV h1 h2 _ (by simp [hlow])
 have hlkf1:∀ n m,h.blks.length≤n→h.toks.length≤m→y3 n m kf1=true:=fun n m h1 h2=>xV h1 h2 _ (by simp [hlow])
 refine zn (ze ?_)
 refine zc rfl (zj rfl rfl (zb rfl)) xI ?_
 refine zf (zk (zn (zn (ze ?_))))
 refine zc rfl (zg rfl yh (zb rfl)) xR ?_
 refine zc rfl (e_range (n:=0) rfl ty9 xK rfl) yy ?_
 refine zf (zk (zW ?_))
 refine r_loopWF (fun (s1:Nat)=>xB [0,3,4,5,6,7,8,9,11,12,13,14,15,16,17,18,19,20] []) (fun s1=>h.ext [.siter s0 s1] []) hF (fun _=>by simp only [xB,upd,List.set_cons_succ,List.set_cons_zero];try rfl) (wk.le (by exact (.drop (.eq (.eq (.d4 (.drop (.drop (.drop (.eq (.d4 (.d4 (.drop (.drop leL.nil)))))))))))))) ?_
 intro n1 s1 o1 hF hK1
 refine zn (ze ?_)
 refine ops_nextF rfl rfl yw rfl yx yx hF (fun hp5 hF=>?_) (fun hF=>?_)
 ·refine zc rfl (zV rfl yr rfl (zb rfl)) yE ?_
  refine zf (zk (zn ?_))
  refine vQ yD (fun _=>?_) (fun hh=>by cases hh)
  refine zN (zk (zW (zn (ze ?_))))
  refine zc rfl (zV rfl yr rfl (zb rfl)) yK ?_
  refine zc rfl (zV rfl yr rfl (zb rfl)) yT ?_
  refine zc rfl (zj rfl yI (zb rfl)) xN ?_
  refine zc rfl (zj rfl yY (zb rfl)) xC ?_
  refine zf (zk (zn (ze ?_)))
  refine zc rfl (zg rfl yB (zb rfl)) yS ?_
  refine zc rfl (zg rfl xr (zb rfl)) yZ ?_
  refine zQ hF (fun v6 hv6 hF=>?_)
  refine zU rfl (s_callC rfl rfl yO (zo y4 zw) (.cons (zb rfl) .nil) rfl) (hf1 _ _ _ _ hv6) y8 ?_
  refine zc rfl (zg rfl yv (zb rfl)) xk ?_
  refine zc rfl (zz rfl xd xl (bin_boolE ty4)) xJ ?_
  refine zf (zk ?_)
  refine zI xL hF (fun hc7 hF=>?_) (fun hc7 hF=>?_)
  ·refine zn (ze ?_)
   refine zc rfl (zg rfl xu (zb rfl)) xQ ?_
   refine zc rfl (zj rfl xX (zb rfl)) xI ?_
   refine zf (zk (zJ ?_))
   refine zL ?_
   refine yN ?_
   obtain rfl:=Option.some.inj hF
   replace hF:=hK1
   refine zL ?_
   refine zD ?_
   obtain rfl:=Option.some.inj hF
   refine zF rfl (zH xh zA) (zB (leV.refl _) rfl ?_)
   exact ⟨rfl,rfl⟩
  ·refine zN (ye (xw ?_))
   obtain rfl:=Option.some.inj hF
   exact ⟨(s1+(dec s0 s1).2),hK1,wk.le (by exact (.drop (.eq (.eq (.d4 (.drop (.drop (.drop (.eq (.d4 (.d4 (.drop (.drop leL.nil)))))))))))))⟩
 ·refine zc rfl (zV rfl yr rfl (zb rfl)) yE ?_
  refine zf (zk (zn ?_))
  refine vQ yD (fun hh=>by cases hh) (fun _=>?_)
  refine xD ?_
  refine yd ?_
  refine z7 ?_
  obtain rfl:=Option.some.inj hF
  replace hF:=hK1
  refine z8 ?_
  refine zk (zn (ze ?_))
  refine zc rfl (zj rfl rfl (zb rfl)) xI ?_
  refine zf (zk (zJ ?_))
  obtain rfl:=Option.some.inj hF
  refine zF rfl (zH xh zA) (zB (leV.refl _) rfl ?_)
  exact ⟨rfl,rfl⟩
/-! strings.IndexFunc -/
theorem ok104 {s0:yn} {f1:(Int→Option Bool)} {ff1:FuncId} {af1 kf1:List AV} {res:Int} {h:AH} (hf1:∀ x0 v (L:List Blk) (M:List Nat),f1 x0=some v→Spec Tryz.prog ff1 (af1++[.int .i32 x0]++kf1) (h.ext L M) (fun rr hh=>rr=.bool v∧hh=h.ext L M)) (hF:vY s0 f1=some res):Spec Tryz.prog 104 [.str s0,.fn (.func ff1) af1 kf1] h (fun rr hh=>rr=.int .i64 res∧hh=h):=by
 unfold vY at hF
 refine xF Tryz.func104 rfl (by kernel_rfl) (env:=[.str s0,.fn (.func ff1) af1 kf1,za,za,za,za,za,za]) (by rfl) (fun hlow hC=>?_)
 simp only [y3,AV.low,Bool.and_eq_true,Bool.true_and,and_true] at hlow
 have hlaf1:∀ n m,h.blks.length≤n→h.toks.length≤m→y3 n m af1=true:=fun n m h1 h2=>xV h1 h2 _ (by simp [hlow])
 have hlkf1:∀ n m,h.blks.length≤n→h.toks.length≤m→y3 n m kf1=true:=fun n m h1 h2=>xV h1 h2 _ (by simp [hlow])
 refine zn (ze ?_)
 refine zc rfl (zj rfl rfl (zb rfl)) yV ?_
 refine zf (zk (zn (ze ?_)))
 refine zc rfl (zg rfl yh (zb rfl)) xp ?_
 refine zc rfl (zg rfl yB (zb rfl)) xI ?_
 refine zQ hF (fun v1 hv1 hF=>?_)
 refine zU rfl (zC rfl rfl rfl (zo yR (zo xh (zo rfl zw))) (.cons (zb rfl) (.cons (zb rfl) (.cons (zb rfl) .nil)))) (ok107 (fun x0 v L M hv=>by rw [qr];exact hf1 x0 v _ _ hv) hv1) xN ?_
 refine zc rfl (zj rfl xu (zb rfl)) yV ?_
 refine zf (zk (zJ ?_))
 obtain rfl:=Option.some.inj hF
 refine zF rfl (zH yp zA) (zB (leV.refl _) rfl ?_)
 exact ⟨rfl,rfl⟩
/-! strings.ContainsFunc -/
theorem ok97 {s0:yn} {f1:(Int→Option Bool)} {ff1:FuncId} {af1 kf1:List AV} {res:Bool} {h:AH} (hf1:∀ x0 v (L:List Blk) (M:List Nat),f1 x0=some v→Spec Tryz.prog ff1 (af1++[.int .i32 x0]++kf1) (h.ext L M) (fun rr hh=>rr=.bool v∧hh=h.ext L M)) (hF:wo s0 f1=some res):Spec Tryz.prog 97 [.str s0,.fn (.func ff1) af1 kf1] h (fun rr hh=>rr=.bool res∧hh=h):=by
 unfold wo at hF
 refine xF Tryz.func97 rfl (by kernel_rfl) (env:=[.str s0,.fn (.func ff1) af1 kf1,za,za,za,za,za,za,za]) (by rfl) (fun hlow hC=>?_)
 simp only [y3,AV.low,Bool.and_eq_true,Bool.true_and,and_true] at hlow
 have hlaf1:∀ n m,h.blks.length≤n→h.toks.length≤m→y3 n m af1=true:=fun n m h1 h2=>xV h1 h2 _ (by simp [hlow])
 have hlkf1:∀ n m,h.blks.length≤n→h.toks.length≤m→y3 n m kf1=true:=fun n m h1 h2=>xV h1 h2 _ (by simp [hlow])
 refine zn (ze ?_)
 refine zc rfl (zj rfl rfl (zb rfl)) yV ?_
 refine zf (zk (zn (ze ?_)))
 refine zc rfl (zg rfl yh (zb rfl)) xp ?_
 refine zc rfl (zg rfl yB (zb rfl)) xI ?_
 refine zQ hF (fun v1 hv1 hF=>?_)
 refine zU rfl (zC rfl rfl rfl (zo yR (zo xh zw)) (.cons (zb rfl) (.cons (zb rfl) .nil))) (ok104 (fun x0 v L M hv=>by rw [qr];exact hf1 x0 v _ _ hv) hv1) xN ?_
 refine zc rfl (zz rfl xu rfl rfl) xC ?_
 refine zc rfl (zj rfl xr (zb rfl)) yV ?_
 refine zf (zk (zJ ?_))
 obtain rfl:=Option.some.inj hF
 refine zF rfl (zH yp zA) (zB (leV.refl _) rfl ?_)
 exact ⟨rfl,rfl⟩
/-! varve/op.IsName -/
theorem ok79 {s0:yn} {res:Bool} {h:AH}  (hF:opIsName s0=some res):Spec Tryz.prog 79 [.str s0] h (fun rr hh=>rr=.bool res∧hh=h):=by
 unfold opIsName at hF
 refine zx Tryz.func79 rfl (by kernel_rfl) (env:=[.str s0,za,za,za,za,za,za,za,za,za,za,za,za,za,za,za,za,za]) (by rfl) ?_
 refine zn (ze ?_)
 refine zc rfl (zj rfl rfl (zb rfl)) xf ?_
 refine zf (zk (zn (ze ?_)))
 refine zc rfl (zj rfl rfl (zb rfl)) x5 ?_
 refine zf (zk (zn (ze ?_)))
 refine zc rfl (zg rfl yh (zb rfl)) yV ?_
 refine yj rfl (wA rfl rfl rfl rfl ty9 yp) xp fun hn1=>?_
 replace hn1:=wW hn1
 refine zc rfl (zz rfl yR rfl rfl) xI ?_
 refine zc rfl (zg rfl xh (zb rfl)) xN ?_
 refine zr rfl (fun hb=>zg rfl yh (zb rfl)) xC ?_
 refine xq rfl (fun hb=>wA rfl rfl rfl rfl ty9 (zp xr hb)) xR fun hn2=>?_
 refine zr rfl (fun hb=>zz rfl (zp xK hb) rfl rfl) yy ?_
 refine zc rfl (zM rfl xu yw rfl (zS (fun ht=>gT ht))) yx ?_
 refine zc rfl (zg rfl yr (zb rfl)) yE ?_
 refine zr rfl (fun hb=>zg rfl yh (zb rfl)) yK ?_
 refine zr rfl (fun hb=>zg rfl yf (zb rfl)) yT ?_
 refine yP hF (fun v3 hv3 hF=>?_)
 refine yJ rfl (fun hb=>zC rfl rfl rfl (zo (zp yI hb) (zo (zp yY hb) zw)) (.cons (zb rfl) (.cons (zb rfl) .nil))) (fun hb=>ok97 (fun _ v L M hv=>ok96  hv) (hv3 hb)) yS ?_
 refine zr rfl (fun hb=>vB rfl (zp yO hb) rfl) yZ ?_
 refine zc rfl (zM rfl yD y4 rfl (zS (fun ht=>gT ht))) y8 ?_
 refine zc rfl (zj rfl xd (zb rfl)) xf ?_
 refine zf (zk (zJ ?_))
 obtain rfl:=Option.some.inj hF
 refine zF rfl (zH yv zA) (zB (leV.refl _) rfl ?_)
 exact ⟨rfl,rfl⟩
/-! varve/op.MayPath 1 -/
theorem ok78 {s0:yn} {res:Bool} {h:AH}  (hF:opMayPathC1 s0=some res):Spec Tryz.prog 78 [.str s0] h (fun rr hh=>rr=.bool res∧hh=h):=by
 unfold opMayPathC1 at hF
 refine zx Tryz.func78 rfl (by kernel_rfl) (env:=[.str s0,za,za,za,za,za]) (by rfl) ?_
 refine zn (ze ?_)
 refine zc rfl (zj rfl rfl (zb rfl)) xf ?_
 refine zf (zk (zn (ze ?_)))
 refine zc rfl (zg rfl yh (zb rfl)) x5 ?_
 refine zQ hF (fun v1 hv1 hF=>?_)
 refine zU rfl (zC rfl rfl rfl (zo yf zw) (.cons (zb rfl) .nil)) (ok79 hv1) yV ?_
 refine zc rfl (vB rfl yp rfl) xp ?_
 refine zc rfl (zj rfl yR (zb rfl)) xf ?_
 refine zf (zk (zJ ?_))
 obtain rfl:=Option.some.inj hF
 refine zF rfl (zH yv zA) (zB (leV.refl _) rfl ?_)
 exact ⟨rfl,rfl⟩
/-! varve/op.MayPath -/
theorem ok63 {p0:(List yn)} {res:Bool} {h:AH}  (hF:opMayPath p0=some res):Spec Tryz.prog 63 [.sl 1 (p0.map zG)] h (fun rr hh=>rr=.bool res∧hh=h):=by
 unfold opMayPath at hF
 refine zx Tryz.func63 rfl (by kernel_rfl) (env:=[.sl 1 (p0.map zG),za,za,za,za,za,za,za,za,za,za,za,za,za,za,za]) (by rfl) ?_
 refine zn (ze ?_)
 refine zc rfl (zj rfl rfl (zb rfl)) xf ?_
 refine zf (zk (zn (ze ?_)))
 refine zc rfl (zg rfl yh (zb rfl)) x5 ?_
 refine yj rfl (ya rfl rfl rfl rfl el32 yf yC) yV fun hn1=>?_
 replace hn1:=wW hn1
 refine zc rfl (zz rfl yp rfl rfl) xp ?_
 refine zc rfl (zg rfl yR (zb rfl)) xI ?_
 refine zr rfl (fun hb=>zg rfl yh (zb rfl)) xN ?_
 refine xq rfl (fun hb=>ya rfl rfl rfl rfl el32 (zp xu hb) yC) xC fun hn2=>?_
 refine zr rfl (fun hb=>zz rfl (zp xr hb) rfl rfl) xR ?_
 refine zc rfl (zM rfl xh xK rfl (zS (fun ht=>gT ht))) yy ?_
 refine zc rfl (zg rfl yw (zb rfl)) yx ?_
 refine zr rfl (fun hb=>zg rfl yh (zb rfl)) yE ?_
 refine yP hF (fun v3 hv3 hF=>?_)
 refine yJ rfl (fun hb=>zC rfl rfl rfl (zo (zp yD hb) (zo rfl zw)) (.cons (zb rfl) (.cons (zb rfl) .nil))) (fun hb=>ok77 (fun _ v L M hv=>ok78  hv) (hv3 hb)) yK ?_
 refine zr rfl (fun hb=>vB rfl (zp yI hb) rfl) yT ?_
 refine zc rfl (zM rfl yr yY rfl (zS (fun ht=>gT ht))) yS ?_
 refine zc rfl (zj rfl yO (zb rfl)) xf ?_
 refine zf (zk (zJ ?_))
 obtain rfl:=Option.some.inj hF
 refine zF rfl (zH yv zA) (zB (leV.refl _) rfl ?_)
 exact ⟨rfl,rfl⟩
theorem fnOpok {c:Nat} {x0:GOp} {v:Bool} (h:callOp c x0=some v):fvOp c=.fn (.func (fnOp c)) [] []:=by
  unfold callOp at h
  split at h <;> first | rfl | cases h
theorem okfvOp {c:Nat} {x0:GOp} {res:Bool} {h:AH} (hF:callOp c x0=some res):Spec Tryz.prog (fnOp c) [.agg [.int .u8 x0.kind,.sl 1 (x0.path.map zG),.int .i64 x0.n,.str x0.text,.sl 3 (x0.dots.map GDot.row)]] h (fun rr hh=>rr=.bool res∧hh=h):=by
 unfold callOp at hF
 split at hF
 ·exact ok64 hF
 ·exact ok65 hF
 ·exact ok66 hF
 ·cases hF
/-! varve/op.May -/
theorem ok50 {o0:GOp} {res:Bool} {h:AH}  (hF:opMay o0=some res):Spec Tryz.prog 50 [.agg [.int .u8 o0.kind,.sl 1 (o0.path.map zG),.int .i64 o0.n,.str o0.text,.sl 3 (o0.dots.map GDot.row)]] h (fun rr hh=>rr=.bool res∧hh=h):=by
 unfold opMay at hF
 refine zx Tryz.func50 rfl (by kernel_rfl) (env:=[.agg [.int .u8 o0.kind,.sl 1 (o0.path.map zG),.int .i64 o0.n,.str o0.text,.sl 3 (o0.dots.map GDot.row)],za,za,za,za,za,za,za,za,za,za,za,za,za,za,za,za,za,za,za,za,za,za]) (by rfl) ?_
 refine zn (ze ?_)
 refine zc rfl (yF (n:=0) rfl yh (zb rfl) rfl rfl) st1 ?_
 refine zc rfl (zj rfl rfl (zb rfl)) xf ?_
 refine zf (zk (zn (ze ?_)))
 refine zc rfl (zd rfl fo34x0 yB rfl) xI ?_
 refine zc rfl (zq rfl ty5 xh rfl (zt rfl) (zb rfl)) xN ?_
 refine zQ hF (fun v1 hv1 hF=>?_)
 refine zU rfl (zC rfl rfl rfl (zo xu zw) (.cons (zb rfl) .nil)) (ok51 hv1) xC ?_
 refine zc rfl (zg rfl xr (zb rfl)) xp ?_
 refine zc rfl (zV rfl yR rfl (zb rfl)) xR ?_
 refine zc rfl (zV rfl yR rfl (zb rfl)) yy ?_
 refine zc rfl (xG (n:=1) rfl ze80 rfl) x5 ?_
 refine zc rfl (zP (cs':=[.int .u8 v1.1.leaf,fvOp v1.1.may]) rfl ty80.choose_spec.1 yf xK (zb rfl) rfl rfl rfl rfl rfl) rfl ?_
 refine zc rfl (zj rfl yw (zb rfl)) yV ?_
 refine zf (zk (zn (ze ?_)))
 refine zc rfl (zg rfl yp (zb rfl)) yx ?_
 refine zc rfl (zg rfl yr (zb rfl)) yE ?_
 refine zr rfl (fun hb=>zd rfl fo34x1 yB rfl) yK ?_
 refine zr rfl (fun hb=>zq rfl ty32 (zp yI hb) rfl (zt rfl) (zb rfl)) yT ?_
 refine yP hF (fun v2 hv2 hF=>?_)
 refine yJ rfl (fun hb=>zC rfl rfl rfl (zo (zp yY hb) zw) (.cons (zb rfl) .nil)) (fun hb=>ok63 (hv2 hb)) yS ?_
 refine zc rfl (zM rfl yD yO rfl (zS (fun ht=>gT ht))) yZ ?_
 refine zc rfl (zg rfl y4 (zb rfl)) y8 ?_
 refine zr rfl (fun hb=>zd rfl fo80x1 yf rfl) xk ?_
 refine zr rfl (fun hb=>zq rfl ty38 (zp xl hb) rfl (zt rfl) (fvtOp _ _ _)) xJ ?_
 refine zr rfl (fun hb=>zq rfl ty34.choose_spec.1 yB rfl (zu (cs':=[.int .u8 o0.kind,.sl 1 (o0.path.map zG),.int .i64 o0.n,.str o0.text,.sl 3 (o0.dots.map GDot.row)]) ty34.choose_spec.2 rfl rfl) (zb rfl)) xQ ?_
 refine yP hF (fun v3 hv3 hF=>?_)
 refine yJ rfl (fun hb=>zC rfl rfl (evo_eq (zp xL hb) (fnOpok (hv3 hb))) (zo (zp xX hb) zw) (.cons (zb rfl) .nil)) (fun hb=>okfvOp (hv3 hb)) wb ?_
 refine zc rfl (zM rfl xd wa rfl (zS (fun ht=>gT ht))) wl ?_
 refine zc rfl (zj rfl wq (zb rfl)) xf ?_
 refine zf (zk (zJ ?_))
 obtain rfl:=Option.some.inj hF
 refine zF rfl (zH yv zA) (zB (leV.refl _) rfl ?_)
 exact ⟨rfl,rfl⟩
/-! varve/op.MayEvent -/
theorem ok29 {e0:GEvent} {res:Bool} {h:AH}  (hF:opMayEvent e0=some res):Spec Tryz.prog 29 [.agg [.int .u8 e0.dot.actor.rep,.int .u32 e0.dot.actor.inc,.int .u64 e0.dot.seq,.int .u64 e0.time,.int .u8 e0.op.kind,.sl 1 (e0.op.path.map zG),.int .i64 e0.op.n,.str e0.op.text,.sl 3 (e0.op.dots.map GDot.row)]] h (fun rr hh=>rr=.bool res∧hh=h):=by
 unfold opMayEvent at hF
 refine zx Tryz.func29 rfl (by kernel_rfl) (env:=[.agg [.int .u8 e0.dot.actor.rep,.int .u32 e0.dot.actor.inc,.int .u64 e0.dot.seq,.int .u64 e0.time,.int .u8 e0.op.kind,.sl 1 (e0.op.path.map zG),.int .i64 e0.op.n,.str e0.op.text,.sl 3 (e0.op.dots.map GDot.row)],za,za,za,za,za,za,za,za,za,za,za,za,za,za,za,za,za,za,za,za]) (by rfl) ?_
 refine zn (ze ?_)
 refine zc rfl (yF (n:=0) rfl yh (zb rfl) rfl rfl) st1 ?_
 refine zc rfl (zj rfl rfl (zb rfl)) xf ?_
 refine zf (zk (zn (ze ?_)))
 refine zc rfl (zd rfl vU yB rfl) x5 ?_
 refine zc rfl (zq rfl ty27.choose_spec.1 yf rfl (zu (cs':=[.int .u8 e0.dot.actor.rep,.int .u32 e0.dot.actor.inc,.int .u64 e0.dot.seq]) ty27.choose_spec.2 rfl rfl) (zb rfl)) yV ?_
 refine zQ hF (fun v1 hv1 hF=>?_)
 refine zU rfl (zC rfl rfl rfl (zo yp zw) (.cons (zb rfl) .nil)) (ok18 hv1) xp ?_
 refine zc rfl (zg rfl yR (zb rfl)) xI ?_
 refine zr rfl (fun hb=>zd rfl qY yB rfl) xN ?_
 refine zr rfl (fun hb=>zq rfl xM (zp xu hb) rfl (zt rfl) (zb rfl)) xC ?_
 refine zr rfl (fun hb=>zz rfl (zp xr hb) rfl rfl) xR ?_
 refine zc rfl (zM rfl xh xK rfl (zS (fun ht=>gT ht))) yy ?_
 refine zc rfl (zg rfl yw (zb rfl)) yx ?_
 refine zr rfl (fun hb=>zd rfl qY yB rfl) yE ?_
 refine zr rfl (fun hb=>zq rfl xM (zp yD hb) rfl (zt rfl) (zb rfl)) yK ?_
 refine zr rfl (fun hb=>zz rfl (zp yI hb) rfl rfl) yT ?_
 refine zc rfl (zM rfl yr yY rfl (zS (fun ht=>gT ht))) yS ?_
 refine zc rfl (zg rfl yO (zb rfl)) yZ ?_
 refine zr rfl (fun hb=>zd rfl wd yB rfl) y8 ?_
 refine zr rfl (fun hb=>zq rfl ty34.choose_spec.1 (zp xd hb) rfl (zu (cs':=[.int .u8 e0.op.kind,.sl 1 (e0.op.path.map zG),.int .i64 e0.op.n,.str e0.op.text,.sl 3 (e0.op.dots.map GDot.row)]) ty34.choose_spec.2 rfl rfl) (zb rfl)) xk ?_
 refine yP hF (fun v2 hv2 hF=>?_)
 refine yJ rfl (fun hb=>zC rfl rfl rfl (zo (zp xl hb) zw) (.cons (zb rfl) .nil)) (fun hb=>ok50 (hv2 hb)) xJ ?_
 refine zc rfl (zM rfl y4 xL rfl (zS (fun ht=>gT ht))) xQ ?_
 refine zc rfl (zj rfl xX (zb rfl)) xf ?_
 refine zf (zk (zJ ?_))
 obtain rfl:=Option.some.inj hF
 refine zF rfl (zH yv zA) (zB (leV.refl _) rfl ?_)
 exact ⟨rfl,rfl⟩
/-! varve/op.Type -/
theorem ok30 {k0:Int} {res:Int} {h:AH}  (hF:opType k0=some res):Spec Tryz.prog 30 [.int .u8 k0] h (fun rr hh=>rr=.int .u8 res∧hh=h):=by
 unfold opType at hF
 refine zx Tryz.func30 rfl (by kernel_rfl) (env:=[.int .u8 k0,za,za,za,za,za,za,za,za,za,za,za]) (by rfl) ?_
 refine zn (ze ?_)
 refine zc rfl (zj rfl rfl (zb rfl)) xf ?_
 refine zf (zk (zn (ze ?_)))
 refine zc rfl (zg rfl yh (zb rfl)) xI ?_
 refine zQ hF (fun v1 hv1 hF=>?_)
 refine zU rfl (zC rfl rfl rfl (zo xh zw) (.cons (zb rfl) .nil)) (ok51 hv1) xN ?_
 refine zc rfl (zg rfl xu (zb rfl)) xp ?_
 refine zc rfl (zV rfl yR rfl (zb rfl)) xC ?_
 refine zc rfl (zV rfl yR rfl (zb rfl)) xR ?_
 refine zc rfl (xG (n:=0) rfl ze80 rfl) x5 ?_
 refine zc rfl (zP (cs':=[.int .u8 v1.1.leaf,fvOp v1.1.may]) rfl ty80.choose_spec.1 yf xr (zb rfl) rfl rfl rfl rfl rfl) rfl ?_
 refine zc rfl (zj rfl xK (zb rfl)) yV ?_
 refine zf (zk (zn (ze ?_)))
 refine zc rfl (zd rfl fo80x0 yf rfl) yy ?_
 refine zc rfl (zq rfl ty5 yw rfl (zt rfl) (zb rfl)) yx ?_
 refine zc rfl (zj rfl yr (zb rfl)) xf ?_
 refine zf (zk (zJ ?_))
 obtain rfl:=Option.some.inj hF
 refine zF rfl (zH yv zA) (zB (leV.refl _) rfl ?_)
 exact ⟨rfl,rfl⟩
end Go.Vv
