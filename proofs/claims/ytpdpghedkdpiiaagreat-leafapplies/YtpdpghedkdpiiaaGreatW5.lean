/- Each function that the law reaches computes what its reading says; printed by a program. -/
import Derived.Test.YtpdpghedkdpiiaaGreatW4
namespace Go.Vv
open Go Go.Proofs
set_option maxRecDepth 100000
set_option maxHeartbeats 1000000
set_option linter.unusedSimpArgs false
set_option linter.unusedVariables false
/-! varve/varvelaw05.LeafApplies -/
theorem ok3 {l0:GLeaf} {m1:GLeaf} {e2:GEvent} {res:Bool} {h:AH}  (hF:vl l0 m1 e2=some res):Spec Tryz.prog 3 [.agg [.int .u8 l0.typ,.int .i64 l0.n,.int .u64 l0.time,.int .u8 l0.dot.actor.rep,.int .u32 l0.dot.actor.inc,.int .u64 l0.dot.seq,.str l0.text,.sl 5 (l0.items.map GItem.row),.sl 3 (l0.tombs.map GDot.row)],.agg [.int .u8 m1.typ,.int .i64 m1.n,.int .u64 m1.time,.int .u8 m1.dot.actor.rep,.int .u32 m1.dot.actor.inc,.int .u64 m1.dot.seq,.str m1.text,.sl 5 (m1.items.map GItem.row),.sl 3 (m1.tombs.map GDot.row)],.agg [.int .u8 e2.dot.actor.rep,.int .u32 e2.dot.actor.inc,.int .u64 e2.dot.seq,.int .u64 e2.time,.int .u8 e2.op.kind,.sl 1 (e2.op.path.map zG),.int .i64 e2.op.n,.str e2.op.text,.sl 3 (e2.op.dots.map GDot.row)]] h (fun rr hh=>rr=.bool res∧hh=h):=by
 unfold vl at hF
 refine zx Tryz.func3 rfl (by kernel_rfl) (env:=[.agg [.int .u8 l0.typ,.int .i64 l0.n,.int .u64 l0.time,.int .u8 l0.dot.actor.rep,.int .u32 l0.dot.actor.inc,.int .u64 l0.dot.seq,.str l0.text,.sl 5 (l0.items.map GItem.row),.sl 3 (l0.tombs.map GDot.row)],.agg [.int .u8 m1.typ,.int .i64 m1.n,.int .u64 m1.time,.int .u8 m1.dot.actor.rep,.int .u32 m1.dot.actor.inc,.int .u64 m1.dot.seq,.str m1.text,.sl 5 (m1.items.map GItem.row),.sl 3 (m1.tombs.map GDot.row)],.agg [.int .u8 e2.dot.actor.rep,.int .u32 e2.dot.actor.inc,.int .u64 e2.dot.seq,.int .u64 e2.time,.int .u8 e2.op.kind,.sl 1 (e2.op.path.map zG),.int .i64 e2.op.n,.str e2.op.text,.sl 3 (e2.op.dots.map GDot.row)],za,za,za,za,za,za,za,za,za,za,za,za,za,za,za,za,za,za,za,za,za,za,za,za,za,za,za,za,za,za,za,za,za,za,za,za,za,za,za,za,za,za,za,za,za,za,za,za,za,za,za,za,za,za,za,za,za,za,za,za,za,za,za,za,za,za,za,za,za,za,za,za,za,za,za,za,za,za,za,za,za,za,za,za,za,za,za,za,za,za,za,za,za,za,za,za,za,za,za,za,za,za,za,za,za,za,za,za,za,za,za,za,za,za,za,za,za,za,za,za,za,za,za,za,za,za,za,za,za,za,za,za,za,za,za,za,za,za,za,za]) (by rfl) ?_
 refine zn (ze ?_)
 refine zc rfl (yF (n:=0) rfl yh (zb rfl) rfl rfl) x5 ?_
 refine zc rfl (yF (n:=1) rfl yB (zb rfl) rfl rfl) yV ?_
 refine zc rfl (yF (n:=2) rfl yv (zb rfl) rfl rfl) xp ?_
 refine zc rfl (zj rfl rfl (zb rfl)) xI ?_
 refine zf (zk (zn (zn (ze ?_))))
 refine zc rfl (zq rfl ty31.choose_spec.1 yf rfl (zu (cs':=[.int .u8 l0.typ,.int .i64 l0.n,.int .u64 l0.time,.int .u8 l0.dot.actor.rep,.int .u32 l0.dot.actor.inc,.int .u64 l0.dot.seq,.str l0.text,.sl 5 (l0.items.map GItem.row),.sl 3 (l0.tombs.map GDot.row)]) ty31.choose_spec.2 rfl rfl) (zb rfl)) yT ?_
 refine zQ hF (fun v1 hv1 hF=>?_)
 refine zU rfl (zC rfl rfl rfl (zo yY zw) (.cons (zb rfl) .nil)) (ok4 hv1) yS ?_
 refine zc rfl (zg rfl yO (zb rfl)) yZ ?_
 refine zr rfl (fun hb=>zq rfl ty31.choose_spec.1 yp rfl (zu (cs':=[.int .u8 m1.typ,.int .i64 m1.n,.int .u64 m1.time,.int .u8 m1.dot.actor.rep,.int .u32 m1.dot.actor.inc,.int .u64 m1.dot.seq,.str m1.text,.sl 5 (m1.items.map GItem.row),.sl 3 (m1.tombs.map GDot.row)]) ty31.choose_spec.2 rfl rfl) (zb rfl)) y8 ?_
 refine yP hF (fun v2 hv2 hF=>?_)
 refine yJ rfl (fun hb=>zC rfl rfl rfl (zo (zp xd hb) zw) (.cons (zb rfl) .nil)) (fun hb=>ok4 (hv2 hb)) xk ?_
 refine zc rfl (zM rfl y4 rfl xl (zZ (fun ht=>gF ht))) xJ ?_
 refine zc rfl (zg rfl xL (zb rfl)) xQ ?_
 refine zr rfl (fun hb=>zd rfl wd yR rfl) wb ?_
 refine zr rfl (fun hb=>zq rfl ty34.choose_spec.1 (zp wa hb) rfl (zu (cs':=[.int .u8 e2.op.kind,.sl 1 (e2.op.path.map zG),.int .i64 e2.op.n,.str e2.op.text,.sl 3 (e2.op.dots.map GDot.row)]) ty34.choose_spec.2 rfl rfl) (zb rfl)) wl ?_
 refine yP hF (fun v3 hv3 hF=>?_)
 refine yJ rfl (fun hb=>zC rfl rfl rfl (zo (zp wq hb) zw) (.cons (zb rfl) .nil)) (fun hb=>ok5 (hv3 hb)) wp ?_
 refine zc rfl (zM rfl xX rfl wg (zZ (fun ht=>gF ht))) wu ?_
 refine zf (zk ?_)
 refine zI ww hF (fun hc4 hF=>?_) (fun hc4 hF=>?_)
 ·refine zn (ze ?_)
  refine zQ hF (fun v5 hv5 hF=>?_)
  refine zU rfl (zC rfl rfl rfl zw .nil) (ok6 hv5) wz ?_
  refine zc rfl (zj rfl wv (zb rfl)) xI ?_
  refine zf (zk (zJ (zD ?_)))
  obtain rfl:=Option.some.inj hF
  refine zF rfl (zH xh zA) (zB (leV.refl _) rfl ?_)
  exact ⟨rfl,rfl⟩
 ·refine zN (zk (zn (ze ?_)))
  refine zc rfl (zq rfl ty31.choose_spec.1 yf rfl (zu (cs':=[.int .u8 l0.typ,.int .i64 l0.n,.int .u64 l0.time,.int .u8 l0.dot.actor.rep,.int .u32 l0.dot.actor.inc,.int .u64 l0.dot.seq,.str l0.text,.sl 5 (l0.items.map GItem.row),.sl 3 (l0.tombs.map GDot.row)]) ty31.choose_spec.2 rfl rfl) (zb rfl)) wV ?_
  refine zc rfl (xG (n:=3) rfl ze31 rfl) xN ?_
  refine zc rfl (zP (cs':=[.int .u8 l0.typ,.int .i64 l0.n,.int .u64 l0.time,.int .u8 l0.dot.actor.rep,.int .u32 l0.dot.actor.inc,.int .u64 l0.dot.seq,.str l0.text,.sl 5 (l0.items.map GItem.row),.sl 3 (l0.tombs.map GDot.row)]) rfl ty31.choose_spec.1 xu wD (zb rfl) rfl rfl rfl rfl rfl) rfl ?_
  refine zf (zk (zn ?_))
  refine yb [] [] trivial mixed (by kernel_rfl) ?_
  refine zi rfl rfl (yq (es:=([]:List GItem).map GItem.row) rfl yX ze47 rfl rfl zT .nil rfl rfl rfl) wU ?_
  refine zi rfl rfl (zd rfl ym yf rfl) wG ?_
  refine zi rfl rfl (zq rfl xW wH rfl (zt rfl) (zb rfl)) w9 ?_
  refine vz hF (fun hm6 hF=>?_)
  refine draw_okH rfl FOk.nil (by rfl) rfl (e_appN (m:=0) (T':=[((([]:List GItem)++l0.items)).length]) rfl rfl rfl rfl yX yX w4 we (zb rfl) (zb rfl) qI hm6 rfl rfl) w8 ?_
  refine zi rfl rfl (yq (es:=([]:List GDot).map GDot.row) rfl yU ze27 rfl rfl zT .nil rfl rfl rfl) w7 ?_
  refine zi rfl rfl (zd rfl y5 yf rfl) wT ?_
  refine zi rfl rfl (zq rfl xP wQ rfl (zt rfl) (zb rfl)) wS ?_
  refine vz hF (fun hm7 hF=>?_)
  refine draw_okH rfl FOk.nil (by rfl) rfl (e_appN (m:=1) (T':=[((([]:List GItem)++l0.items)).length,((([]:List GDot)++l0.tombs)).length]) rfl rfl rfl rfl yU yU wZ wY (zb rfl) (zb rfl) qI hm7 rfl rfl) wR ?_
  refine zi rfl rfl (zd rfl ym xu rfl) vg ?_
  refine yG rfl FOk.nil (by kernel_rfl) rfl (zP (cs':=[.int .u8 l0.typ,.int .i64 l0.n,.int .u64 l0.time,.int .u8 l0.dot.actor.rep,.int .u32 l0.dot.actor.inc,.int .u64 l0.dot.seq,.str l0.text,.osl (some (h.toks.length+0)) 5 ((([]:List GItem)++l0.items).map GItem.row),.sl 3 (l0.tombs.map GDot.row)]) rfl xW vn va (zb rfl) rfl rfl rfl rfl rfl) rfl ?_
  refine zi rfl rfl (zd rfl y5 xu rfl) vf ?_
  refine yG rfl FOk.nil (by kernel_rfl) rfl (zP (cs':=[.int .u8 l0.typ,.int .i64 l0.n,.int .u64 l0.time,.int .u8 l0.dot.actor.rep,.int .u32 l0.dot.actor.inc,.int .u64 l0.dot.seq,.str l0.text,.osl (some (h.toks.length+0)) 5 ((([]:List GItem)++l0.items).map GItem.row),.osl (some (h.toks.length+1)) 3 ((([]:List GDot)++l0.tombs).map GDot.row)]) rfl xP vm wX (zb rfl) rfl rfl rfl rfl rfl) rfl ?_
  refine zX ?_
  refine zk (zn (zn ?_))
  refine yb [1,3] [] trivial mixed (by kernel_rfl) ?_
  refine zi rfl rfl (zq rfl ty31.choose_spec.1 xu rfl (zu (cs':=[.int .u8 l0.typ,.int .i64 l0.n,.int .u64 l0.time,.int .u8 l0.dot.actor.rep,.int .u32 l0.dot.actor.inc,.int .u64 l0.dot.seq,.str l0.text,.osl (some (h.toks.length+0)) 5 ((([]:List GItem)++l0.items).map GItem.row),.osl (some (h.toks.length+1)) 3 ((([]:List GDot)++l0.tombs).map GDot.row)]) ty31.choose_spec.2 rfl rfl) (zb rfl)) vI ?_
  refine zQ hF (fun v8 hv8 hF=>?_)
  refine yQ rfl rfl (fun _=>zC rfl rfl rfl (zo vC zw) (.cons (zb rfl) .nil)) (by rintro _ ⟨B2,T2,rfl,hk2⟩;exact (ok7 hv8).le (.cons (leV.agg (.eq (.eq (.eq (.eq (.eq (.eq (.eq (.cons (leV.osl _ _ _) (.cons (leV.osl _ _ _) leL.nil))))))))) rfl) leL.nil)) vN ?_
  refine zi rfl rfl (zq rfl ty31.choose_spec.1 yf rfl (zu (cs':=[.int .u8 l0.typ,.int .i64 l0.n,.int .u64 l0.time,.int .u8 l0.dot.actor.rep,.int .u32 l0.dot.actor.inc,.int .u64 l0.dot.seq,.str l0.text,.sl 5 (l0.items.map GItem.row),.sl 3 (l0.tombs.map GDot.row)]) ty31.choose_spec.2 rfl rfl) (zb rfl)) vZ ?_
  refine zQ hF (fun v9 hv9 hF=>?_)
  refine yQ rfl rfl (fun _=>zC rfl rfl rfl (zo qe zw) (.cons (zb rfl) .nil)) (by rintro _ ⟨B2,T2,rfl,hk2⟩;exact ok8 hv9) (sk st0) ?_
  refine zi rfl rfl (zz rfl vO (gk yh) (bin_boolN ty4)) (sk st1) ?_
  refine zi rfl rfl (zg rfl (gk yB) (zb rfl)) (sk xf) ?_
  refine zy rfl rfl (fun hb=>zq rfl ty31.choose_spec.1 yf rfl (zu (cs':=[.int .u8 l0.typ,.int .i64 l0.n,.int .u64 l0.time,.int .u8 l0.dot.actor.rep,.int .u32 l0.dot.actor.inc,.int .u64 l0.dot.seq,.str l0.text,.sl 5 (l0.items.map GItem.row),.sl 3 (l0.tombs.map GDot.row)]) ty31.choose_spec.2 rfl rfl) (zb rfl)) (sk x5) ?_
  refine zy rfl rfl (fun hb=>zq rfl ty31.choose_spec.1 yp rfl (zu (cs':=[.int .u8 m1.typ,.int .i64 m1.n,.int .u64 m1.time,.int .u8 m1.dot.actor.rep,.int .u32 m1.dot.actor.inc,.int .u64 m1.dot.seq,.str m1.text,.sl 5 (m1.items.map GItem.row),.sl 3 (m1.tombs.map GDot.row)]) ty31.choose_spec.2 rfl rfl) (zb rfl)) (sk yV) ?_
  refine yP hF (fun v10 hv10 hF=>?_)
  refine xn rfl rfl (fun hb=>zC rfl rfl rfl (zo (zp (gk yf) hb) (zo (zp (gk yp) hb) zw)) (.cons (zb rfl) (.cons (zb rfl) .nil))) (fun hb=>ok9 (hv10 hb)) (sk xp) ?_
  refine zy rfl rfl (fun hb=>zq rfl ty31.choose_spec.1 yf rfl (zu (cs':=[.int .u8 l0.typ,.int .i64 l0.n,.int .u64 l0.time,.int .u8 l0.dot.actor.rep,.int .u32 l0.dot.actor.inc,.int .u64 l0.dot.seq,.str l0.text,.sl 5 (l0.items.map GItem.row),.sl 3 (l0.tombs.map GDot.row)]) ty31.choose_spec.2 rfl rfl) (zb rfl)) (sk xI) ?_
  refine zy rfl rfl (fun hb=>zq rfl ty31.choose_spec.1 yp rfl (zu (cs':=[.int .u8 m1.typ,.int .i64 m1.n,.int .u64 m1.time,.int .u8 m1.dot.actor.rep,.int .u32 m1.dot.actor.inc,.int .u64 m1.dot.seq,.str m1.text,.sl 5 (m1.items.map GItem.row),.sl 3 (m1.tombs.map GDot.row)]) ty31.choose_spec.2 rfl rfl) (zb rfl)) (sk xN) ?_
  refine yP hF (fun v11 hv11 hF=>?_)
  refine xn rfl rfl (fun hb=>zC rfl rfl rfl (zo (zp (gk xh) hb) (zo (zp (gk xu) hb) zw)) (.cons (zb rfl) (.cons (zb rfl) .nil))) (fun hb=>ok10 (hv11 hb)) (sk xC) ?_
  refine zy rfl rfl (fun hb=>zz rfl (zp (gk yR) hb) (zp (gk xr) hb) (bin_boolN ty4)) (sk xR) ?_
  refine zi rfl rfl (zM rfl (gk yv) rfl (gk xK) (zZ (fun ht=>gF ht))) (sk yy) ?_
  refine zi rfl rfl (zg rfl (gk yw) (zb rfl)) (sk yx) ?_
  refine zy rfl rfl (fun hb=>zd rfl vu yf rfl) (sk yE) ?_
  refine zy rfl rfl (fun hb=>zq rfl ty5 (zp (gk yD) hb) rfl (zt rfl) (zb rfl)) (sk yK) ?_
  refine yP hF (fun v12 hv12 hF=>?_)
  refine xn rfl rfl (fun hb=>zC rfl rfl rfl (zo (zp (gk yI) hb) zw) (.cons (zb rfl) .nil)) (fun hb=>ok11 (hv12 hb)) (sk yT) ?_
  refine zy rfl rfl (fun hb=>zd rfl vu yf rfl) (sk yS) ?_
  refine zy rfl rfl (fun hb=>zq rfl ty5 (zp (gk yO) hb) rfl (zt rfl) (zb rfl)) (sk yZ) ?_
  refine yP hF (fun v13 hv13 hF=>?_)
  refine xn rfl rfl (fun hb=>zC rfl rfl rfl (zo (zp (gk y4) hb) zw) (.cons (zb rfl) .nil)) (fun hb=>ok12 (hv13 hb)) (sk y8) ?_
  refine yP hF (fun v14 hv14 hF=>?_)
  refine xn rfl rfl (fun hb=>zC rfl rfl rfl (zo (zp (gk yY) hb) (zo (zp (gk xd) hb) zw)) (.cons (zb rfl) (.cons (zb rfl) .nil))) (fun hb=>ok10 (hv14 hb)) (sk xk) ?_
  refine zy rfl rfl (fun hb=>vB rfl (zp (gk xl) hb) rfl) (sk xJ) ?_
  refine zi rfl rfl (zM rfl (gk yr) rfl (gk xL) (zZ (fun ht=>gF ht))) (sk xQ) ?_
  refine zi rfl rfl (zg rfl (gk xX) (zb rfl)) (sk wb) ?_
  refine zy rfl rfl (fun hb=>zd rfl wm yf rfl) (sk wl) ?_
  refine zy rfl rfl (fun hb=>zq rfl xM (zp (gk wq) hb) rfl (zt rfl) (zb rfl)) (sk wp) ?_
  refine zy rfl rfl (fun hb=>zd rfl vp yf rfl) (sk wu) ?_
  refine zy rfl rfl (fun hb=>zq rfl ty27.choose_spec.1 (zp (gk ww) hb) rfl (zu (cs':=[.int .u8 l0.dot.actor.rep,.int .u32 l0.dot.actor.inc,.int .u64 l0.dot.seq]) ty27.choose_spec.2 rfl rfl) (zb rfl)) (sk wz) ?_
  refine zy rfl rfl (fun hb=>zd rfl wm yp rfl) (sk wV) ?_
  refine zy rfl rfl (fun hb=>zq rfl xM (zp (gk wD) hb) rfl (zt rfl) (zb rfl)) (sk wU) ?_
  refine zy rfl rfl (fun hb=>zd rfl vp yp rfl) (sk wG) ?_
  refine zy rfl rfl (fun hb=>zq rfl ty27.choose_spec.1 (zp (gk wH) hb) rfl (zu (cs':=[.int .u8 m1.dot.actor.rep,.int .u32 m1.dot.actor.inc,.int .u64 m1.dot.seq]) ty27.choose_spec.2 rfl rfl) (zb rfl)) (sk w9) ?_
  refine yP hF (fun v15 hv15 hF=>?_)
  refine xn rfl rfl (fun hb=>zC rfl rfl rfl (zo (zp (gk wg) hb) (zo (zp (gk wv) hb) (zo (zp (gk w4) hb) (zo (zp (gk we) hb) zw)))) (.cons (zb rfl) (.cons (zb rfl) (.cons (zb rfl) (.cons (zb rfl) .nil))))) (fun hb=>ok13 (hv15 hb)) (sk w8) ?_
  refine zy rfl rfl (fun hb=>zd rfl wm yf rfl) (sk w7) ?_
  refine zy rfl rfl (fun hb=>zq rfl xM (zp (gk wZ) hb) rfl (zt rfl) (zb rfl)) (sk wT) ?_
  refine zy rfl rfl (fun hb=>zd rfl vp yf rfl) (sk wS) ?_
  refine zy rfl rfl (fun hb=>zq rfl ty27.choose_spec.1 (zp (gk wY) hb) rfl (zu (cs':=[.int .u8 l0.dot.actor.rep,.int .u32 l0.dot.actor.inc,.int .u64 l0.dot.seq]) ty27.choose_spec.2 rfl rfl) (zb rfl)) (sk wR) ?_
  refine zy rfl rfl (fun hb=>zd rfl wm yp rfl) (sk vg) ?_
  refine zy rfl rfl (fun hb=>zq rfl xM (zp (gk vn) hb) rfl (zt rfl) (zb rfl)) (sk vf) ?_
  refine zy rfl rfl (fun hb=>zd rfl vp yp rfl) (sk vI) ?_
  refine zy rfl rfl (fun hb=>zq rfl ty27.choose_spec.1 (zp (gk vC) hb) rfl (zu (cs':=[.int .u8 m1.dot.actor.rep,.int .u32 m1.dot.actor.inc,.int .u64 m1.dot.seq]) ty27.choose_spec.2 rfl rfl) (zb rfl)) (sk vN) ?_
  refine yP hF (fun v16 hv16 hF=>?_)
  refine xn rfl rfl (fun hb=>zC rfl rfl rfl (zo (zp (gk wQ) hb) (zo (zp (gk wX) hb) (zo (zp (gk vm) hb) (zo (zp (gk vO) hb) zw)))) (.cons (zb rfl) (.cons (zb rfl) (.cons (zb rfl) (.cons (zb rfl) .nil))))) (fun hb=>ok14 (hv16 hb)) (sk vZ) ?_
  refine zy rfl rfl (fun hb=>zz rfl (zp (gk va) hb) (zp (gk qe) hb) (bin_boolN ty4)) (sk (sk st0)) ?_
  refine zi rfl rfl (zM rfl (gk wa) rfl (gk (gk yh)) (zZ (fun ht=>gF ht))) (sk (sk st1)) ?_
  refine zX ?_
  refine zk ?_
  refine zI (gk (gk yB)) hF (fun hc17 hF=>?_) (fun hc17 hF=>?_)
  ·refine zn (ze ?_)
   refine zc rfl (zj rfl rfl (zb rfl)) xI ?_
   refine zf (zk (zJ (zD ?_)))
   obtain rfl:=Option.some.inj hF
   refine zF rfl (zH xh zA) (zB (leV.refl _) rfl ?_)
   exact ⟨rfl,rfl⟩
  ·refine zN (zk (zn (ze ?_)))
   refine zc rfl (zq rfl ty31.choose_spec.1 xu rfl (zu (cs':=[.int .u8 l0.typ,.int .i64 l0.n,.int .u64 l0.time,.int .u8 l0.dot.actor.rep,.int .u32 l0.dot.actor.inc,.int .u64 l0.dot.seq,.str l0.text,.osl (some (h.toks.length+0)) 5 ((([]:List GItem)++l0.items).map GItem.row),.osl (some (h.toks.length+1)) 3 ((([]:List GDot)++l0.tombs).map GDot.row)]) ty31.choose_spec.2 rfl rfl) (zb rfl)) (sk (sk x5)) ?_
   refine zc rfl (zq rfl ty36.choose_spec.1 yR rfl (zu (cs':=[.int .u8 e2.dot.actor.rep,.int .u32 e2.dot.actor.inc,.int .u64 e2.dot.seq,.int .u64 e2.time,.int .u8 e2.op.kind,.sl 1 (e2.op.path.map zG),.int .i64 e2.op.n,.str e2.op.text,.sl 3 (e2.op.dots.map GDot.row)]) ty36.choose_spec.2 rfl rfl) (zb rfl)) (sk (sk yV)) ?_
   refine zQ hF (fun v18 hv18 hF=>?_)
   refine ops_callH rfl (zC rfl rfl rfl (zo (gk (gk yf)) (zo (gk (gk yp)) zw)) (.cons (zb rfl) (.cons (zb rfl) .nil))) (row_newv (v':=.tup [.agg [.int .u8 v18.1.typ,.int .i64 v18.1.n,.int .u64 v18.1.time,.int .u8 v18.1.dot.actor.rep,.int .u32 v18.1.dot.actor.inc,.int .u64 v18.1.dot.seq,.str v18.1.text,.rsl (h.blks.length+4) (h.toks.length+2) 5 ((v18.1.items).length),.rsl (h.blks.length+5) (h.toks.length+3) 3 ((v18.1.tombs).length)],.int .i64 v18.2]) (B':=[.cells [.int .u8 l0.typ,.int .i64 l0.n,.int .u64 l0.time,.int .u8 l0.dot.actor.rep,.int .u32 l0.dot.actor.inc,.int .u64 l0.dot.seq,.str l0.text,.sl 5 (l0.items.map GItem.row),.sl 3 (l0.tombs.map GDot.row)],.cells [.int .u8 m1.typ,.int .i64 m1.n,.int .u64 m1.time,.int .u8 m1.dot.actor.rep,.int .u32 m1.dot.actor.inc,.int .u64 m1.dot.seq,.str m1.text,.sl 5 (m1.items.map GItem.row),.sl 3 (m1.tombs.map GDot.row)],.cells [.int .u8 e2.dot.actor.rep,.int .u32 e2.dot.actor.inc,.int .u64 e2.dot.seq,.int .u64 e2.time,.int .u8 e2.op.kind,.sl 1 (e2.op.path.map zG),.int .i64 e2.op.n,.str e2.op.text,.sl 3 (e2.op.dots.map GDot.row)],.cells [.int .u8 l0.typ,.int .i64 l0.n,.int .u64 l0.time,.int .u8 l0.dot.actor.rep,.int .u32 l0.dot.actor.inc,.int .u64 l0.dot.seq,.str l0.text,.osl (some (h.toks.length+0)) 5 ((([]:List GItem)++l0.items).map GItem.row),.osl (some (h.toks.length+1)) 3 ((([]:List GDot)++l0.tombs).map GDot.row)],.row (h.toks.length+2) 5 (v18.1.items.map GItem.row),.row (h.toks.length+3) 3 (v18.1.tombs.map GDot.row)]) (T':=[((([]:List GItem)++l0.items)).length,((([]:List GDot)++l0.tombs)).length,(v18.1.items).length,(v18.1.tombs).length]) (Spec.le (okR15 (by rw [ext_bl];rfl) (by rw [ext_tl];rfl) hv18) (.cons (leV.agg (.eq (.eq (.eq (.eq (.eq (.eq (.eq (.cons (leV.osl _ _ _) (.cons (leV.osl _ _ _) leL.nil))))))))) rfl) (.eq leL.nil))) rfl rfl rfl) (sk (sk xp)) ?_
   refine zc rfl (zg rfl (gk (gk yR)) (zb rfl)) (sk (sk xf)) ?_
   refine zc rfl (zV rfl (gk (gk yv)) rfl (zb rfl)) (sk (sk xI)) ?_
   refine zc rfl (zV rfl (gk (gk yv)) rfl (zb rfl)) (sk (sk xN)) ?_
   refine zc rfl (xG (n:=6) rfl ze31 rfl) xC ?_
   refine zc rfl (zP (cs':=[.int .u8 v18.1.typ,.int .i64 v18.1.n,.int .u64 v18.1.time,.int .u8 v18.1.dot.actor.rep,.int .u32 v18.1.dot.actor.inc,.int .u64 v18.1.dot.seq,.str v18.1.text,.rsl (h.blks.length+4) (h.toks.length+2) 5 ((v18.1.items).length),.rsl (h.blks.length+5) (h.toks.length+3) 3 ((v18.1.tombs).length)]) rfl ty31.choose_spec.1 xr (gk (gk xh)) (zb rfl) rfl rfl rfl rfl rfl) rfl ?_
   refine zc rfl (zj rfl (gk (gk xu)) (zb rfl)) xR ?_
   refine zf (zk (zn (ze ?_)))
   refine zc rfl (zq rfl ty31.choose_spec.1 yf rfl (zu (cs':=[.int .u8 l0.typ,.int .i64 l0.n,.int .u64 l0.time,.int .u8 l0.dot.actor.rep,.int .u32 l0.dot.actor.inc,.int .u64 l0.dot.seq,.str l0.text,.sl 5 (l0.items.map GItem.row),.sl 3 (l0.tombs.map GDot.row)]) ty31.choose_spec.2 rfl rfl) (zb rfl)) (sk (sk xR)) ?_
   refine zc rfl (zq rfl ty36.choose_spec.1 yR rfl (zu (cs':=[.int .u8 e2.dot.actor.rep,.int .u32 e2.dot.actor.inc,.int .u64 e2.dot.seq,.int .u64 e2.time,.int .u8 e2.op.kind,.sl 1 (e2.op.path.map zG),.int .i64 e2.op.n,.str e2.op.text,.sl 3 (e2.op.dots.map GDot.row)]) ty36.choose_spec.2 rfl rfl) (zb rfl)) (sk (sk yy)) ?_
   refine zQ hF (fun v19 hv19 hF=>?_)
   refine zU rfl (zC rfl rfl rfl (zo (gk (gk xK)) (zo (gk (gk yw)) zw)) (.cons (zb rfl) (.cons (zb rfl) .nil))) (ok16 hv19) (sk (sk yx)) ?_
   refine zc rfl (zg rfl (gk (gk yr)) (zb rfl)) (sk (sk xC)) ?_
   refine zc rfl (zV rfl (gk (gk xr)) rfl (zb rfl)) (sk (sk yE)) ?_
   refine zc rfl (zV rfl (gk (gk xr)) rfl (zb rfl)) (sk (sk yK)) ?_
   refine zc rfl (xG (n:=7) rfl ze31 rfl) yy ?_
   refine zc rfl (zP (cs':=[.int .u8 v19.1.typ,.int .i64 v19.1.n,.int .u64 v19.1.time,.int .u8 v19.1.dot.actor.rep,.int .u32 v19.1.dot.actor.inc,.int .u64 v19.1.dot.seq,.str v19.1.text,.sl 5 (v19.1.items.map GItem.row),.sl 3 (v19.1.tombs.map GDot.row)]) rfl ty31.choose_spec.1 yw (gk (gk yD)) (zb rfl) rfl rfl rfl rfl rfl) rfl ?_
   refine zc rfl (zj rfl (gk (gk yI)) (zb rfl)) yx ?_
   refine zf (zk (zn (zn (ze ?_))))
   refine zc rfl (zg rfl xK (zb rfl)) (sk (sk yT)) ?_
   refine zc rfl (zg rfl yr (zb rfl)) (sk (sk yS)) ?_
   refine zc rfl (zz rfl (gk (gk yY)) (gk (gk yO)) rfl) (sk (sk yZ)) ?_
   refine zc rfl (zg rfl (gk (gk y4)) (zb rfl)) (sk (sk y8)) ?_
   refine zr rfl (fun hb=>zq rfl ty31.choose_spec.1 xr rfl (zu (cs':=[.int .u8 v18.1.typ,.int .i64 v18.1.n,.int .u64 v18.1.time,.int .u8 v18.1.dot.actor.rep,.int .u32 v18.1.dot.actor.inc,.int .u64 v18.1.dot.seq,.str v18.1.text,.rsl (h.blks.length+4) (h.toks.length+2) 5 ((v18.1.items).length),.rsl (h.blks.length+5) (h.toks.length+3) 3 ((v18.1.tombs).length)]) ty31.choose_spec.2 rfl rfl) (zb rfl)) (sk (sk xk)) ?_
   refine zr rfl (fun hb=>zq rfl ty31.choose_spec.1 yw rfl (zu (cs':=[.int .u8 v19.1.typ,.int .i64 v19.1.n,.int .u64 v19.1.time,.int .u8 v19.1.dot.actor.rep,.int .u32 v19.1.dot.actor.inc,.int .u64 v19.1.dot.seq,.str v19.1.text,.sl 5 (v19.1.items.map GItem.row),.sl 3 (v19.1.tombs.map GDot.row)]) ty31.choose_spec.2 rfl rfl) (zb rfl)) (sk (sk xJ)) ?_
   refine yP hF (fun v20 hv20 hF=>?_)
   refine yJ rfl (fun hb=>zC rfl rfl rfl (zo (zp (gk (gk xl)) hb) (zo (zp (gk (gk xL)) hb) zw)) (.cons (zb rfl) (.cons (zb rfl) .nil))) (fun hb=>vh (by exact (.cons (.agg (.cons (.low _ rfl) (.cons (.low _ rfl) (.cons (.low _ rfl) (.cons (.low _ rfl) (.cons (.low _ rfl) (.cons (.low _ rfl) (.cons (.low _ rfl) (.cons (.row _ _ _ _ _ (by rw [yL];rfl) (by simp)) (.cons (.row _ _ _ _ _ (by rw [yL];rfl) (by simp)) .nil))))))))) rfl) (.cons (.low _ rfl) .nil))) rfl (ok10 (hv20 hb)) (fun _ _ h=>h.1)) (sk (sk xQ)) ?_
   refine zr rfl (fun hb=>vB rfl (zp (gk (gk xX)) hb) rfl) (sk (sk wb)) ?_
   refine zc rfl (zM rfl (gk (gk xd)) rfl (gk (gk wa)) (zZ (fun ht=>gF ht))) (sk (sk wl)) ?_
   refine zc rfl (zg rfl (gk (gk wq)) (zb rfl)) (sk (sk wp)) ?_
   refine zr rfl (fun hb=>zq rfl ty31.choose_spec.1 xu rfl (zu (cs':=[.int .u8 l0.typ,.int .i64 l0.n,.int .u64 l0.time,.int .u8 l0.dot.actor.rep,.int .u32 l0.dot.actor.inc,.int .u64 l0.dot.seq,.str l0.text,.osl (some (h.toks.length+0)) 5 ((([]:List GItem)++l0.items).map GItem.row),.osl (some (h.toks.length+1)) 3 ((([]:List GDot)++l0.tombs).map GDot.row)]) ty31.choose_spec.2 rfl rfl) (zb rfl)) (sk (sk wu)) ?_
   refine zr rfl (fun hb=>zq rfl ty31.choose_spec.1 yf rfl (zu (cs':=[.int .u8 l0.typ,.int .i64 l0.n,.int .u64 l0.time,.int .u8 l0.dot.actor.rep,.int .u32 l0.dot.actor.inc,.int .u64 l0.dot.seq,.str l0.text,.sl 5 (l0.items.map GItem.row),.sl 3 (l0.tombs.map GDot.row)]) ty31.choose_spec.2 rfl rfl) (zb rfl)) (sk (sk wz)) ?_
   refine yP hF (fun v21 hv21 hF=>?_)
   refine yJ rfl (fun hb=>zC rfl rfl rfl (zo (zp (gk (gk ww)) hb) (zo (zp (gk (gk wv)) hb) zw)) (.cons (zb rfl) (.cons (zb rfl) .nil))) (fun hb=>(ok10 (hv21 hb)).le (.cons (leV.agg (.eq (.eq (.eq (.eq (.eq (.eq (.eq (.cons (leV.osl _ _ _) (.cons (leV.osl _ _ _) leL.nil))))))))) rfl) (.eq leL.nil))) (sk (sk wV)) ?_
   refine zr rfl (fun hb=>vB rfl (zp (gk (gk wD)) hb) rfl) (sk (sk wU)) ?_
   refine zc rfl (zM rfl (gk (gk wg)) rfl (gk (gk w4)) (zZ (fun ht=>gF ht))) (sk (sk wG)) ?_
   refine zf (zk ?_)
   refine zI (gk (gk wH)) hF (fun hc22 hF=>?_) (fun hc22 hF=>?_)
   ·refine zn (ze ?_)
    refine zc rfl (zj rfl rfl (zb rfl)) xI ?_
    refine zf (zk (zJ (zD ?_)))
    obtain rfl:=Option.some.inj hF
    refine zF rfl (zH xh zA) (zB (leV.refl _) rfl ?_)
    exact ⟨rfl,rfl⟩
   ·refine zN (zk (zn (zn (ze ?_))))
    refine zc rfl (zd rfl ym xr rfl) (sk (sk w9)) ?_
    refine zc rfl (zq rfl xW (gk (gk we)) rfl (zt rfl) (zb rfl)) (sk (sk w8)) ?_
    refine yj rfl (ya rfl rfl rfl rfl yX (gk (gk va)) rfl) (sk (sk w7)) fun hn23=>?_
    refine zc rfl (zg rfl rfl (zb rfl)) (sk (sk wT)) ?_
    refine zf (zk (zW ?_))
    refine vz hF (fun hR1 hF=>?_)
    refine xi (fun (n1:Nat) (s1:(List GItem))=>xB [0,1,2,4,5,6,9,10,11,12,13,14,15,16,17,18,19,20,21,22,23,24,25,26,27,28,29,30,31,32,33,34,35,36,37,38,39,40,41,42,43,44,45,46,47,48,49,50,51,52,53,54,55,56,57,58,59,60,61,62,63,64,65,66,67,68,69,70,71,72,73,74,75,76,77,78,79,80,81,82,83,84,85,86,87,88,89,90,91,92,93,94,95,96,97,98,99,100,101,102,103,104,105,106,107,108,109,110,113,114,115,116,117,118,119,120,121,122,123,124,125,126,127,128,129,130,131,132,133,134,135,136,137,138,139,140,141,142] [(112,.int .i64 (n1:Int))]) (fun s1=>h.ext [.cells [.int .u8 l0.typ,.int .i64 l0.n,.int .u64 l0.time,.int .u8 l0.dot.actor.rep,.int .u32 l0.dot.actor.inc,.int .u64 l0.dot.seq,.str l0.text,.sl 5 (l0.items.map GItem.row),.sl 3 (l0.tombs.map GDot.row)],.cells [.int .u8 m1.typ,.int .i64 m1.n,.int .u64 m1.time,.int .u8 m1.dot.actor.rep,.int .u32 m1.dot.actor.inc,.int .u64 m1.dot.seq,.str m1.text,.sl 5 (m1.items.map GItem.row),.sl 3 (m1.tombs.map GDot.row)],.cells [.int .u8 e2.dot.actor.rep,.int .u32 e2.dot.actor.inc,.int .u64 e2.dot.seq,.int .u64 e2.time,.int .u8 e2.op.kind,.sl 1 (e2.op.path.map zG),.int .i64 e2.op.n,.str e2.op.text,.sl 3 (e2.op.dots.map GDot.row)],.cells [.int .u8 l0.typ,.int .i64 l0.n,.int .u64 l0.time,.int .u8 l0.dot.actor.rep,.int .u32 l0.dot.actor.inc,.int .u64 l0.dot.seq,.str l0.text,.osl (some (h.toks.length+0)) 5 ((([]:List GItem)++l0.items).map GItem.row),.osl (some (h.toks.length+1)) 3 ((([]:List GDot)++l0.tombs).map GDot.row)],.row (h.toks.length+2) 5 (s1.map GItem.row),.row (h.toks.length+3) 3 (v18.1.tombs.map GDot.row),.cells [.int .u8 v18.1.typ,.int .i64 v18.1.n,.int .u64 v18.1.time,.int .u8 v18.1.dot.actor.rep,.int .u32 v18.1.dot.actor.inc,.int .u64 v18.1.dot.seq,.str v18.1.text,.rsl (h.blks.length+4) (h.toks.length+2) 5 ((v18.1.items).length),.rsl (h.blks.length+5) (h.toks.length+3) 3 ((v18.1.tombs).length)],.cells [.int .u8 v19.1.typ,.int .i64 v19.1.n,.int .u64 v19.1.time,.int .u8 v19.1.dot.actor.rep,.int .u32 v19.1.dot.actor.inc,.int .u64 v19.1.dot.seq,.str v19.1.text,.sl 5 (v19.1.items.map GItem.row),.sl 3 (v19.1.tombs.map GDot.row)]] [((([]:List GItem)++l0.items)).length,((([]:List GDot)++l0.tombs)).length,(v18.1.items).length,(v18.1.tombs).length]) hF (fun _ _=>by simp only [xB,upd,List.set_cons_succ,List.set_cons_zero];try rfl) (wk.le (by exact (.drop (.drop (.drop (.eq (.drop (.drop (.drop (.eq (.eq (.d16 (.d16 (.d16 (.d16 (.d16 (.d16 (.d4 (.drop (.drop (.eq (.cons (leV.of_eq rfl) (.d16 (.d4 (.d4 (.d4 (.drop (.drop leL.nil)))))))))))))))))))))))))))) ?_
    intro n1 s1 hi1 hF
    refine zn (ze ?_)
    refine zc rfl (zz rfl (gk (gk wQ)) (gk (gk wZ)) rfl) (sk (sk wS)) ?_
    refine zf (zk (zn ?_))
    refine r_condR (gk (gk wY)) hF (fun x1 o1 hl1 hm1 hx1 hF hK1=>?_) (fun hF=>?_)
    ·refine vz hF (fun hr1 hF=>?_)
     refine zN (zk (zn (zW (zn (ze ?_)))))
     refine zc rfl (zg rfl (gk (gk wQ)) (zb rfl)) (sk (sk wR)) ?_
     refine zc rfl (zj rfl (gk (gk wX)) (zb rfl)) yE ?_
     refine zf (zk (ze ?_))
     refine zc rfl (zd rfl ym xr rfl) (sk (sk vg)) ?_
     refine zc rfl (zq rfl xW (gk (gk vn)) rfl (zt rfl) (zb rfl)) (sk (sk vf)) ?_
     refine zc rfl (zg rfl yD (zb rfl)) (sk (sk vI)) ?_
     refine zQ hF (fun y81 hy81 hF=>?_)
     refine zc rfl (e_idxR rfl yX (gk (gk vm)) (gk (gk vC)) (idxRn hy81 hr1)) (sk (sk vN)) ?_
     refine zc rfl (zd rfl fo47x2 (gk (gk vO)) rfl) (sk (sk vZ)) ?_
     refine zc rfl (e_stR (off:=4) (i:=4) (q:=h.toks.length+2) (z:=(n1:Int).toNat) (row:=GItem.row) (y':=(GItem.mk y81.time y81.dot ([33]:yn))) (us:=[.str ([33]:yn)]) (B':=[.cells [.int .u8 l0.typ,.int .i64 l0.n,.int .u64 l0.time,.int .u8 l0.dot.actor.rep,.int .u32 l0.dot.actor.inc,.int .u64 l0.dot.seq,.str l0.text,.sl 5 (l0.items.map GItem.row),.sl 3 (l0.tombs.map GDot.row)],.cells [.int .u8 m1.typ,.int .i64 m1.n,.int .u64 m1.time,.int .u8 m1.dot.actor.rep,.int .u32 m1.dot.actor.inc,.int .u64 m1.dot.seq,.str m1.text,.sl 5 (m1.items.map GItem.row),.sl 3 (m1.tombs.map GDot.row)],.cells [.int .u8 e2.dot.actor.rep,.int .u32 e2.dot.actor.inc,.int .u64 e2.dot.seq,.int .u64 e2.time,.int .u8 e2.op.kind,.sl 1 (e2.op.path.map zG),.int .i64 e2.op.n,.str e2.op.text,.sl 3 (e2.op.dots.map GDot.row)],.cells [.int .u8 l0.typ,.int .i64 l0.n,.int .u64 l0.time,.int .u8 l0.dot.actor.rep,.int .u32 l0.dot.actor.inc,.int .u64 l0.dot.seq,.str l0.text,.osl (some (h.toks.length+0)) 5 ((([]:List GItem)++l0.items).map GItem.row),.osl (some (h.toks.length+1)) 3 ((([]:List GDot)++l0.tombs).map GDot.row)],.row (h.toks.length+2) 5 ((s1.set (n1:Int).toNat (GItem.mk y81.time y81.dot ([33]:yn))).map GItem.row),.row (h.toks.length+3) 3 (v18.1.tombs.map GDot.row),.cells [.int .u8 v18.1.typ,.int .i64 v18.1.n,.int .u64 v18.1.time,.int .u8 v18.1.dot.actor.rep,.int .u32 v18.1.dot.actor.inc,.int .u64 v18.1.dot.seq,.str v18.1.text,.rsl (h.blks.length+4) (h.toks.length+2) 5 ((v18.1.items).length),.rsl (h.blks.length+5) (h.toks.length+3) 3 ((v18.1.tombs).length)],.cells [.int .u8 v19.1.typ,.int .i64 v19.1.n,.int .u64 v19.1.time,.int .u8 v19.1.dot.actor.rep,.int .u32 v19.1.dot.actor.inc,.int .u64 v19.1.dot.seq,.str v19.1.text,.sl 5 (v19.1.items.map GItem.row),.sl 3 (v19.1.tombs.map GDot.row)]]) (fun _=>rfl) rfl ty9 (gk (gk qe)) rfl (zb rfl) rfl rfl rfl rfl hr1 (idxR hy81).2.2 (by decide) rfl rfl) rfl ?_
     refine zf (ye (zk (ze ?_)))
     refine zc rfl (zz rfl (gk (gk wQ)) rfl rfl) (sk (sk (sk st0))) ?_
     refine zc rfl (zg rfl (gk (gk (gk yh))) (zb rfl)) (sk (sk wT)) ?_
     refine zf (xw ?_)
     obtain rfl:=Option.some.inj hF
     exact ⟨(s1.set (n1:Int).toNat (GItem.mk y81.time y81.dot ([33]:yn))),hl1,hK1,wk.le (by exact (.drop (.drop (.drop (.eq (.drop (.drop (.drop (.eq (.eq (.d16 (.d16 (.d16 (.d16 (.d16 (.d16 (.d4 (.drop (.drop (.eq (.cons (leV.of_eq (qT (by omega) (by omega))) (.d16 (.d4 (.d4 (.d4 (.drop (.drop leL.nil)))))))))))))))))))))))))))⟩
    ·refine xD ?_
     refine yd ?_
     refine z7 ?_
     refine z8 ?_
     refine zk (zn (zn (ze ?_)))
     refine zc rfl (zd rfl y5 xr rfl) (sk (sk (sk st1))) ?_
     refine zc rfl (zq rfl xP (gk (gk (gk yB))) rfl (zt rfl) (zb rfl)) (sk (sk (sk xf))) ?_
     refine yj rfl (ya rfl rfl rfl rfl yU (gk (gk (gk yv))) rfl) (sk (sk (sk x5))) fun hn82=>?_
     refine zc rfl (zg rfl rfl (zb rfl)) (sk (sk (sk yV))) ?_
     refine zf (zk (zW ?_))
     refine vz hF (fun hR2 hF=>?_)
     refine xi (fun (n2:Nat) (s2:(List GDot))=>xB [0,1,2,4,5,6,9,10,11,12,13,14,15,16,17,18,19,20,21,22,23,24,25,26,27,28,29,30,31,32,33,34,35,36,37,38,39,40,41,42,43,44,45,46,47,48,49,50,51,52,53,54,55,56,57,58,59,60,61,62,63,64,65,66,67,68,69,70,71,72,73,74,75,76,77,78,79,80,81,82,83,84,85,86,87,88,89,90,91,92,93,94,95,96,97,98,99,100,101,102,103,104,105,106,107,108,109,110,111,112,113,114,115,116,117,118,119,120,121,122,125,126,127,128,129,130,131,132,133,134,135,136,137,138,139,140,141,142] [(124,.int .i64 (n2:Int))]) (fun s2=>h.ext [.cells [.int .u8 l0.typ,.int .i64 l0.n,.int .u64 l0.time,.int .u8 l0.dot.actor.rep,.int .u32 l0.dot.actor.inc,.int .u64 l0.dot.seq,.str l0.text,.sl 5 (l0.items.map GItem.row),.sl 3 (l0.tombs.map GDot.row)],.cells [.int .u8 m1.typ,.int .i64 m1.n,.int .u64 m1.time,.int .u8 m1.dot.actor.rep,.int .u32 m1.dot.actor.inc,.int .u64 m1.dot.seq,.str m1.text,.sl 5 (m1.items.map GItem.row),.sl 3 (m1.tombs.map GDot.row)],.cells [.int .u8 e2.dot.actor.rep,.int .u32 e2.dot.actor.inc,.int .u64 e2.dot.seq,.int .u64 e2.time,.int .u8 e2.op.kind,.sl 1 (e2.op.path.map zG),.int .i64 e2.op.n,.str e2.op.text,.sl 3 (e2.op.dots.map GDot.row)],.cells [.int .u8 l0.typ,.int .i64 l0.n,.int .u64 l0.time,.int .u8 l0.dot.actor.rep,.int .u32 l0.dot.actor.inc,.int .u64 l0.dot.seq,.str l0.text,.osl (some (h.toks.length+0)) 5 ((([]:List GItem)++l0.items).map GItem.row),.osl (some (h.toks.length+1)) 3 ((([]:List GDot)++l0.tombs).map GDot.row)],.row (h.toks.length+2) 5 (s1.map GItem.row),.row (h.toks.length+3) 3 (s2.map GDot.row),.cells [.int .u8 v18.1.typ,.int .i64 v18.1.n,.int .u64 v18.1.time,.int .u8 v18.1.dot.actor.rep,.int .u32 v18.1.dot.actor.inc,.int .u64 v18.1.dot.seq,.str v18.1.text,.rsl (h.blks.length+4) (h.toks.length+2) 5 ((v18.1.items).length),.rsl (h.blks.length+5) (h.toks.length+3) 3 ((v18.1.tombs).length)],.cells [.int .u8 v19.1.typ,.int .i64 v19.1.n,.int .u64 v19.1.time,.int .u8 v19.1.dot.actor.rep,.int .u32 v19.1.dot.actor.inc,.int .u64 v19.1.dot.seq,.str v19.1.text,.sl 5 (v19.1.items.map GItem.row),.sl 3 (v19.1.tombs.map GDot.row)]] [((([]:List GItem)++l0.items)).length,((([]:List GDot)++l0.tombs)).length,(v18.1.items).length,(v18.1.tombs).length]) hF (fun _ _=>by simp only [xB,upd,List.set_cons_succ,List.set_cons_zero];try rfl) (wk.le (by exact (.drop (.drop (.drop (.eq (.drop (.drop (.drop (.eq (.eq (.d16 (.d16 (.d16 (.d16 (.d16 (.d16 (.d16 (.drop (.drop (.eq (.cons (leV.of_eq rfl) (.d16 (.drop (.drop leL.nil))))))))))))))))))))))))) ?_
     intro n2 s2 hi2 hF
     refine zn (ze ?_)
     refine zc rfl (zz rfl (gk (gk (gk yp))) (gk (gk (gk yf))) rfl) (sk (sk (sk xp))) ?_
     refine zf (zk (zn ?_))
     refine r_condR (gk (gk (gk yR))) hF (fun x2 o2 hl2 hm2 hx2 hF hK2=>?_) (fun hF=>?_)
     ·refine vz hF (fun hr2 hF=>?_)
      refine zN (zk (zn (zW (zn (ze ?_)))))
      refine zc rfl (zg rfl (gk (gk (gk yp))) (zb rfl)) (sk (sk (sk xI))) ?_
      refine zc rfl (zj rfl (gk (gk (gk xh))) (zb rfl)) yK ?_
      refine zf (zk (ze ?_))
      refine zc rfl (zd rfl y5 xr rfl) (sk (sk (sk xN))) ?_
      refine zc rfl (zq rfl xP (gk (gk (gk xu))) rfl (zt rfl) (zb rfl)) (sk (sk (sk xC))) ?_
      refine zc rfl (zg rfl yI (zb rfl)) (sk (sk (sk xR))) ?_
      refine zQ hF (fun y141 hy141 hF=>?_)
      refine zc rfl (e_idxR rfl yU (gk (gk (gk xr))) (gk (gk (gk xK))) (idxRn hy141 hr2)) (sk (sk (sk yy))) ?_
      refine zc rfl (zd rfl fo27x1 (gk (gk (gk yw))) rfl) (sk (sk (sk yx))) ?_
      refine zc rfl (e_ldR (off:=2) (i:=5) (q:=h.toks.length+3) (z:=(n2:Int).toNat) (row:=GDot.row) (fun _=>rfl) rfl xM (by decide) (gk (gk (gk yr))) rfl hr2 (idxR hy141).2.2 (zt rfl) (zb rfl)) (sk (sk (sk yE))) ?_
      refine zc rfl (zz rfl (gk (gk (gk yD))) rfl rfl) (sk (sk (sk yK))) ?_
      refine zQ hF (fun y142 hy142 hF=>?_)
      refine zc rfl (e_idxR rfl yU (gk (gk (gk xr))) (gk (gk (gk xK))) (idxRn hy142 hr2)) (sk (sk (sk yT))) ?_
      refine zc rfl (zd rfl fo27x1 (gk (gk (gk yY))) rfl) (sk (sk (sk yS))) ?_
      refine zc rfl (e_stR (off:=2) (i:=5) (q:=h.toks.length+3) (z:=(n2:Int).toNat) (row:=GDot.row) (y':=(GDot.mk y142.actor (IntKind.wrap .u64 (y141.seq+(1:Int))))) (us:=[.int .u64 (IntKind.wrap .u64 (y141.seq+(1:Int)))]) (B':=[.cells [.int .u8 l0.typ,.int .i64 l0.n,.int .u64 l0.time,.int .u8 l0.dot.actor.rep,.int .u32 l0.dot.actor.inc,.int .u64 l0.dot.seq,.str l0.text,.sl 5 (l0.items.map GItem.row),.sl 3 (l0.tombs.map GDot.row)],.cells [.int .u8 m1.typ,.int .i64 m1.n,.int .u64 m1.time,.int .u8 m1.dot.actor.rep,.int .u32 m1.dot.actor.inc,.int .u64 m1.dot.seq,.str m1.text,.sl 5 (m1.items.map GItem.row),.sl 3 (m1.tombs.map GDot.row)],.cells [.int .u8 e2.dot.actor.rep,.int .u32 e2.dot.actor.inc,.int .u64 e2.dot.seq,.int .u64 e2.time,.int .u8 e2.op.kind,.sl 1 (e2.op.path.map zG),.int .i64 e2.op.n,.str e2.op.text,.sl 3 (e2.op.dots.map GDot.row)],.cells [.int .u8 l0.typ,.int .i64 l0.n,.int .u64 l0.time,.int .u8 l0.dot.actor.rep,.int .u32 l0.dot.actor.inc,.int .u64 l0.dot.seq,.str l0.text,.osl (some (h.toks.length+0)) 5 ((([]:List GItem)++l0.items).map GItem.row),.osl (some (h.toks.length+1)) 3 ((([]:List GDot)++l0.tombs).map GDot.row)],.row (h.toks.length+2) 5 (s1.map GItem.row),.row (h.toks.length+3) 3 ((s2.set (n2:Int).toNat (GDot.mk y142.actor (IntKind.wrap .u64 (y141.seq+(1:Int))))).map GDot.row),.cells [.int .u8 v18.1.typ,.int .i64 v18.1.n,.int .u64 v18.1.time,.int .u8 v18.1.dot.actor.rep,.int .u32 v18.1.dot.actor.inc,.int .u64 v18.1.dot.seq,.str v18.1.text,.rsl (h.blks.length+4) (h.toks.length+2) 5 ((v18.1.items).length),.rsl (h.blks.length+5) (h.toks.length+3) 3 ((v18.1.tombs).length)],.cells [.int .u8 v19.1.typ,.int .i64 v19.1.n,.int .u64 v19.1.time,.int .u8 v19.1.dot.actor.rep,.int .u32 v19.1.dot.actor.inc,.int .u64 v19.1.dot.seq,.str v19.1.text,.sl 5 (v19.1.items.map GItem.row),.sl 3 (v19.1.tombs.map GDot.row)]]) (fun _=>rfl) rfl xM (gk (gk (gk yO))) (gk (gk (gk yI))) (zb rfl) rfl rfl rfl rfl hr2 (idxR hy142).2.2 (by decide) rfl rfl) rfl ?_
      refine zf (ye (zk (ze ?_)))
      refine zc rfl (zz rfl (gk (gk (gk yp))) rfl rfl) (sk (sk (sk yZ))) ?_
      refine zc rfl (zg rfl (gk (gk (gk y4))) (zb rfl)) (sk (sk (sk yV))) ?_
      refine zf (xw ?_)
      obtain rfl:=Option.some.inj hF
      exact ⟨(s2.set (n2:Int).toNat (GDot.mk y142.actor (IntKind.wrap .u64 (y141.seq+(1:Int))))),hl2,hK2,wk.le (by exact (.drop (.drop (.drop (.eq (.drop (.drop (.drop (.eq (.eq (.d16 (.d16 (.d16 (.d16 (.d16 (.d16 (.d16 (.drop (.drop (.eq (.cons (leV.of_eq (qT (by omega) (by omega))) (.d16 (.drop (.drop leL.nil))))))))))))))))))))))))⟩
     ·refine xD ?_
      refine yd ?_
      refine z7 ?_
      refine z8 ?_
      refine zk (zn (ze ?_))
      refine zc rfl (zq rfl ty31.choose_spec.1 xu rfl (zu (cs':=[.int .u8 l0.typ,.int .i64 l0.n,.int .u64 l0.time,.int .u8 l0.dot.actor.rep,.int .u32 l0.dot.actor.inc,.int .u64 l0.dot.seq,.str l0.text,.osl (some (h.toks.length+0)) 5 ((([]:List GItem)++l0.items).map GItem.row),.osl (some (h.toks.length+1)) 3 ((([]:List GDot)++l0.tombs).map GDot.row)]) ty31.choose_spec.2 rfl rfl) (zb rfl)) (sk (sk (sk y8))) ?_
      refine zc rfl (zq rfl ty31.choose_spec.1 yf rfl (zu (cs':=[.int .u8 l0.typ,.int .i64 l0.n,.int .u64 l0.time,.int .u8 l0.dot.actor.rep,.int .u32 l0.dot.actor.inc,.int .u64 l0.dot.seq,.str l0.text,.sl 5 (l0.items.map GItem.row),.sl 3 (l0.tombs.map GDot.row)]) ty31.choose_spec.2 rfl rfl) (zb rfl)) (sk (sk (sk xk))) ?_
      refine zQ hF (fun v143 hv143 hF=>?_)
      refine zU rfl (zC rfl rfl rfl (zo (gk (gk (gk xd))) (zo (gk (gk (gk xl))) zw)) (.cons (zb rfl) (.cons (zb rfl) .nil))) ((ok10 hv143).le (.cons (leV.agg (.eq (.eq (.eq (.eq (.eq (.eq (.eq (.cons (leV.osl _ _ _) (.cons (leV.osl _ _ _) leL.nil))))))))) rfl) (.eq leL.nil))) (sk (sk (sk xJ))) ?_
      refine zc rfl (zg rfl (gk (gk (gk xL))) (zb rfl)) (sk (sk (sk xQ))) ?_
      refine yP hF (fun v144 hv144 hF=>?_)
      refine yJ rfl (fun hb=>zC rfl rfl rfl zw .nil) (fun hb=>ok6 (hv144 hb)) (sk (sk (sk wb))) ?_
      refine zc rfl (zM rfl (gk (gk (gk xX))) (gk (gk (gk wa))) rfl (zS (fun ht=>gT ht))) (sk (sk (sk wl))) ?_
      refine zc rfl (zj rfl (gk (gk (gk wq))) (zb rfl)) xI ?_
      refine zf (zk (zJ ?_))
      obtain rfl:=Option.some.inj hF
      refine zF rfl (zH xh zA) (zB (leV.refl _) rfl ?_)
      exact ⟨rfl,rfl⟩
end Go.Vv
