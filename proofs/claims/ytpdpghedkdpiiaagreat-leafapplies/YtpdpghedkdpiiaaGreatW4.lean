/- Each function that the law reaches computes what its reading says; printed by a program. -/
import Derived.Test.YtpdpghedkdpiiaaGreatW3
namespace Go.Vv
open Go Go.Proofs
set_option maxRecDepth 100000
set_option maxHeartbeats 1000000
set_option linter.unusedSimpArgs false
set_option linter.unusedVariables false
/-! varve/varvelaw05.known -/
theorem ok6  {res:Bool} {h:AH}  (hF:qz  = some res):Spec Tryz.prog 6 [] h (fun rr hh=>rr=.bool res∧hh=h):=by
 unfold qz at hF
 refine zx Tryz.func6 rfl (by kernel_rfl) (env:=[za,za,za,za,za,za,za,za,za,za,za,za,za,za,za,za,za,za,za,za,za,za,za,za,za,za,za,za,za,za,za,za,za,za,za,za,za,za,za,za,za,za,za,za,za,za,za,za,za,za,za,za,za,za,za,za,za,za,za,za,za,za,za,za,za,za,za,za,za,za,za,za,za,za,za,za,za,za,za,za]) (by rfl) ?_
 refine zn (ze ?_)
 refine zc rfl (zj rfl rfl (zb rfl)) st0 ?_
 refine zf (zk (zn (ze ?_)))
 refine zc rfl (xc (cs':=[.int .u8 (0:Int),.int .u32 (1:Int)]) rfl su25 ze25 pl25 (zK rfl zT) (.cons (zb rfl) .nil) rfl rfl) yx ?_
 refine zc rfl (xc (cs':=[.int .u8 (0:Int),.int .u32 (1:Int),.int .u64 (1:Int)]) rfl su27 ze27 pl27 (zK yr (zK rfl zT)) (.cons (zb rfl) (.cons (zb rfl) .nil)) rfl rfl) yE ?_
 refine zc rfl (xG (n:=0) rfl ze27 rfl) st1 ?_
 refine zc rfl (zP (cs':=[.int .u8 (0:Int),.int .u32 (1:Int),.int .u64 (1:Int)]) rfl ty27.choose_spec.1 yB yD (zb rfl) rfl rfl rfl rfl rfl) rfl ?_
 refine zf (zk (zn (ze ?_)))
 refine zc rfl (zq rfl ty27.choose_spec.1 yB rfl (zu (cs':=[.int .u8 (0:Int),.int .u32 (1:Int),.int .u64 (1:Int)]) ty27.choose_spec.2 rfl rfl) (zb rfl)) yK ?_
 refine zc rfl (xG (n:=1) rfl ze27 rfl) xf ?_
 refine zc rfl (zP (cs':=[.int .u8 (0:Int),.int .u32 (1:Int),.int .u64 (1:Int)]) rfl ty27.choose_spec.1 yv yI (zb rfl) rfl rfl rfl rfl rfl) rfl ?_
 refine zf (zk (zn (ze ?_)))
 refine zc rfl (zd rfl fo27x1 yv rfl) yT ?_
 refine zc rfl (zP (cs':=[.int .u8 (0:Int),.int .u32 (1:Int),.int .u64 (2:Int)]) rfl xM yY rfl (zb rfl) rfl rfl rfl rfl rfl) rfl ?_
 refine zf (zk (zn (ze ?_)))
 refine zc rfl (zq rfl ty27.choose_spec.1 yB rfl (zu (cs':=[.int .u8 (0:Int),.int .u32 (1:Int),.int .u64 (1:Int)]) ty27.choose_spec.2 rfl rfl) (zb rfl)) yS ?_
 refine zc rfl (yq (es:=([([97]:yn)]:List yn).map zG) rfl el32 ze9 rfl rfl (zK rfl zT) (.cons (zb rfl) .nil) rfl rfl rfl) yZ ?_
 refine zc rfl (xc (cs':=[.int .u8 (3:Int),.osl none 1 (([([97]:yn)]:List yn).map zG),.int .i64 (0:Int),.str ([117]:yn),.osl none 3 (([]:List GDot).map GDot.row)]) rfl su34 ze34 pl34 (zK rfl (zK y4 (zK rfl zT))) (.cons (zb rfl) (.cons (zb rfl) (.cons (zb rfl) .nil))) rfl rfl) y8 ?_
 refine zc rfl (xc (cs':=[.int .u8 (0:Int),.int .u32 (1:Int),.int .u64 (1:Int),.int .u64 (1:Int),.int .u8 (3:Int),.osl none 1 (([([97]:yn)]:List yn).map zG),.int .i64 (0:Int),.str ([117]:yn),.osl none 3 (([]:List GDot).map GDot.row)]) rfl su36 ze36 pl36 (zK yO (zK rfl (zK xd zT))) (.cons (zb rfl) (.cons (zb rfl) (.cons (zb rfl) .nil))) rfl rfl) xk ?_
 refine zc rfl (xG (n:=2) rfl ze36 rfl) x5 ?_
 refine zc rfl (zP (cs':=[.int .u8 (0:Int),.int .u32 (1:Int),.int .u64 (1:Int),.int .u64 (1:Int),.int .u8 (3:Int),.osl none 1 (([([97]:yn)]:List yn).map zG),.int .i64 (0:Int),.str ([117]:yn),.osl none 3 (([]:List GDot).map GDot.row)]) rfl ty36.choose_spec.1 yf xl (zb rfl) rfl rfl rfl rfl rfl) rfl ?_
 refine zf (zk (zn (ze ?_)))
 refine zc rfl (zq rfl ty27.choose_spec.1 yv rfl (zu (cs':=[.int .u8 (0:Int),.int .u32 (1:Int),.int .u64 (2:Int)]) ty27.choose_spec.2 rfl rfl) (zb rfl)) xJ ?_
 refine zc rfl (yq (es:=([([97]:yn)]:List yn).map zG) rfl el32 ze9 rfl rfl (zK rfl zT) (.cons (zb rfl) .nil) rfl rfl rfl) xQ ?_
 refine zc rfl (zq rfl ty27.choose_spec.1 yB rfl (zu (cs':=[.int .u8 (0:Int),.int .u32 (1:Int),.int .u64 (1:Int)]) ty27.choose_spec.2 rfl rfl) (zb rfl)) wb ?_
 refine zc rfl (yq (es:=([(GDot.mk (GActor.mk (0:Int) (1:Int)) (1:Int))]:List GDot).map GDot.row) rfl yU ze27 rfl rfl (zK wa zT) (.cons (zb rfl) .nil) rfl rfl rfl) wl ?_
 refine zc rfl (xc (cs':=[.int .u8 (4:Int),.osl none 1 (([([97]:yn)]:List yn).map zG),.int .i64 (0:Int),.str ([117]:yn),.osl none 3 (([(GDot.mk (GActor.mk (0:Int) (1:Int)) (1:Int))]:List GDot).map GDot.row)]) rfl su34 ze34 pl34 (zK rfl (zK xX (zK rfl (zK wq zT)))) (.cons (zb rfl) (.cons (zb rfl) (.cons (zb rfl) (.cons (zb rfl) .nil)))) rfl rfl) wp ?_
 refine zc rfl (xc (cs':=[.int .u8 (0:Int),.int .u32 (1:Int),.int .u64 (2:Int),.int .u64 (2:Int),.int .u8 (4:Int),.osl none 1 (([([97]:yn)]:List yn).map zG),.int .i64 (0:Int),.str ([117]:yn),.osl none 3 (([(GDot.mk (GActor.mk (0:Int) (1:Int)) (1:Int))]:List GDot).map GDot.row)]) rfl su36 ze36 pl36 (zK xL (zK rfl (zK wg zT))) (.cons (zb rfl) (.cons (zb rfl) (.cons (zb rfl) .nil))) rfl rfl) wu ?_
 refine zc rfl (xG (n:=3) rfl ze36 rfl) yV ?_
 refine zc rfl (zP (cs':=[.int .u8 (0:Int),.int .u32 (1:Int),.int .u64 (2:Int),.int .u64 (2:Int),.int .u8 (4:Int),.osl none 1 (([([97]:yn)]:List yn).map zG),.int .i64 (0:Int),.str ([117]:yn),.osl none 3 (([(GDot.mk (GActor.mk (0:Int) (1:Int)) (1:Int))]:List GDot).map GDot.row)]) rfl ty36.choose_spec.1 yp ww (zb rfl) rfl rfl rfl rfl rfl) rfl ?_
 refine zf (zk (zn ?_))
 refine yb [0,1,2] [(1,[(2,.cells [.int .u8 (0:Int),.int .u32 (1:Int),.int .u64 (1:Int),.int .u64 (1:Int),.int .u8 (3:Int),.osl none 1 (([([97]:yn)]:List yn).map zG),.int .i64 (0:Int),.str ([117]:yn),.osl none 3 (([]:List GDot).map GDot.row)])])] ⟨⟨rfl,trivial⟩,trivial⟩ mixed (by kernel_rfl) ?_
 refine zQ hF (fun v1 hv1 hF=>?_)
 refine yQ rfl rfl (fun _=>zC rfl rfl rfl (zo rfl zw) (.cons (zb rfl) .nil)) (by rintro _ ⟨B2,T2,rfl,hk2⟩;exact ok11 hv1) wV ?_
 refine vD rfl rfl (by rintro _ ⟨B2,T2,rfl,hk2⟩;exact zq rfl ty36.choose_spec.1 yf (keeps1 hk2) (zu (cs':=[.int .u8 (0:Int),.int .u32 (1:Int),.int .u64 (1:Int),.int .u64 (1:Int),.int .u8 (3:Int),.osl none 1 (([([97]:yn)]:List yn).map zG),.int .i64 (0:Int),.str ([117]:yn),.osl none 3 (([]:List GDot).map GDot.row)]) ty36.choose_spec.2 rfl rfl) (zb rfl)) wU ?_
 refine zQ hF (fun v2 hv2 hF=>?_)
 refine yQ rfl rfl (fun _=>zC rfl rfl rfl (zo wD (zo w4 zw)) (.cons (zb rfl) (.cons (zb rfl) .nil))) (by rintro _ ⟨B2,T2,rfl,hk2⟩;exact (ok15 hv2).le (.eq (.cons (leV.agg (.eq (.eq (.eq (.eq (.eq (.cons (leV.osl _ _ _) (.eq (.eq (.cons (leV.osl _ _ _) leL.nil))))))))) rfl) leL.nil))) wG ?_
 refine zi rfl rfl (zg rfl wH (zb rfl)) wz ?_
 refine zi rfl rfl (zV rfl wv rfl (zb rfl)) w9 ?_
 refine zi rfl rfl (zV rfl wv rfl (zb rfl)) w8 ?_
 refine yG rfl (FOk.cons (.inr (xY trivial)) (FOk.cons (.inr (xY ⟨rfl,trivial⟩)) (FOk.cons (.inr (xY trivial)) FOk.nil))) (by kernel_rfl) rfl (xG (n:=4) rfl ze31 rfl) xp ?_
 refine yG rfl (FOk.cons (.inr (xY trivial)) (FOk.cons (.inr (xY ⟨rfl,trivial⟩)) (FOk.cons (.inr (xY trivial)) FOk.nil))) (by kernel_rfl) rfl (zP (cs':=[.int .u8 v2.1.typ,.int .i64 v2.1.n,.int .u64 v2.1.time,.int .u8 v2.1.dot.actor.rep,.int .u32 v2.1.dot.actor.inc,.int .u64 v2.1.dot.seq,.str v2.1.text,.sl 5 (v2.1.items.map GItem.row),.sl 3 (v2.1.tombs.map GDot.row)]) rfl ty31.choose_spec.1 yR we (zb rfl) rfl rfl rfl rfl rfl) rfl ?_
 refine zi rfl rfl (zj rfl va (zb rfl)) xI ?_
 refine zX ?_
 refine zk (zn (ze ?_))
 refine zc rfl (zq rfl ty31.choose_spec.1 yR rfl (zu (cs':=[.int .u8 v2.1.typ,.int .i64 v2.1.n,.int .u64 v2.1.time,.int .u8 v2.1.dot.actor.rep,.int .u32 v2.1.dot.actor.inc,.int .u64 v2.1.dot.seq,.str v2.1.text,.sl 5 (v2.1.items.map GItem.row),.sl 3 (v2.1.tombs.map GDot.row)]) ty31.choose_spec.2 rfl rfl) (zb rfl)) wT ?_
 refine zc rfl (zq rfl ty36.choose_spec.1 yp rfl (zu (cs':=[.int .u8 (0:Int),.int .u32 (1:Int),.int .u64 (2:Int),.int .u64 (2:Int),.int .u8 (4:Int),.osl none 1 (([([97]:yn)]:List yn).map zG),.int .i64 (0:Int),.str ([117]:yn),.osl none 3 (([(GDot.mk (GActor.mk (0:Int) (1:Int)) (1:Int))]:List GDot).map GDot.row)]) ty36.choose_spec.2 rfl rfl) (zb rfl)) wS ?_
 refine zQ hF (fun v3 hv3 hF=>?_)
 refine zU rfl (zC rfl rfl rfl (zo wQ (zo wY zw)) (.cons (zb rfl) (.cons (zb rfl) .nil))) ((ok15 hv3).le (.eq (.cons (leV.agg (.eq (.eq (.eq (.eq (.eq (.cons (leV.osl _ _ _) (.eq (.eq (.cons (leV.osl _ _ _) leL.nil))))))))) rfl) leL.nil))) wR ?_
 refine zc rfl (zg rfl wX (zb rfl)) w7 ?_
 refine zc rfl (zV rfl wZ rfl (zb rfl)) vg ?_
 refine zc rfl (zV rfl wZ rfl (zb rfl)) vf ?_
 refine zc rfl (zP (cs':=[.int .u8 v3.1.typ,.int .i64 v3.1.n,.int .u64 v3.1.time,.int .u8 v3.1.dot.actor.rep,.int .u32 v3.1.dot.actor.inc,.int .u64 v3.1.dot.seq,.str v3.1.text,.sl 5 (v3.1.items.map GItem.row),.sl 3 (v3.1.tombs.map GDot.row)]) rfl ty31.choose_spec.1 yR vn (zb rfl) rfl rfl rfl rfl rfl) rfl ?_
 refine zc rfl (zj rfl vm (zb rfl)) xN ?_
 refine zf (zk (zn ?_))
 refine yb [0,1,2] [(1,[(3,.cells [.int .u8 (0:Int),.int .u32 (1:Int),.int .u64 (2:Int),.int .u64 (2:Int),.int .u8 (4:Int),.osl none 1 (([([97]:yn)]:List yn).map zG),.int .i64 (0:Int),.str ([117]:yn),.osl none 3 (([(GDot.mk (GActor.mk (0:Int) (1:Int)) (1:Int))]:List GDot).map GDot.row)])])] ⟨⟨rfl,trivial⟩,trivial⟩ mixed (by kernel_rfl) ?_
 refine zQ hF (fun v4 hv4 hF=>?_)
 refine yQ rfl rfl (fun _=>zC rfl rfl rfl (zo rfl zw) (.cons (zb rfl) .nil)) (by rintro _ ⟨B2,T2,rfl,hk2⟩;exact ok11 hv4) vN ?_
 refine vD rfl rfl (by rintro _ ⟨B2,T2,rfl,hk2⟩;exact zq rfl ty36.choose_spec.1 yp (keeps1 hk2) (zu (cs':=[.int .u8 (0:Int),.int .u32 (1:Int),.int .u64 (2:Int),.int .u64 (2:Int),.int .u8 (4:Int),.osl none 1 (([([97]:yn)]:List yn).map zG),.int .i64 (0:Int),.str ([117]:yn),.osl none 3 (([(GDot.mk (GActor.mk (0:Int) (1:Int)) (1:Int))]:List GDot).map GDot.row)]) ty36.choose_spec.2 rfl rfl) (zb rfl)) vZ ?_
 refine zQ hF (fun v5 hv5 hF=>?_)
 refine yQ rfl rfl (fun _=>zC rfl rfl rfl (zo vO (zo qe zw)) (.cons (zb rfl) (.cons (zb rfl) .nil))) (by rintro _ ⟨B2,T2,rfl,hk2⟩;exact (ok15 hv5).le (.eq (.cons (leV.agg (.eq (.eq (.eq (.eq (.eq (.cons (leV.osl _ _ _) (.eq (.eq (.cons (leV.osl _ _ _) leL.nil))))))))) rfl) leL.nil))) (sk st0) ?_
 refine zi rfl rfl (zg rfl (gk yh) (zb rfl)) vI ?_
 refine zi rfl rfl (zV rfl vC rfl (zb rfl)) (sk st1) ?_
 refine zi rfl rfl (zV rfl vC rfl (zb rfl)) (sk xf) ?_
 refine yG rfl (FOk.cons (.inr (xY trivial)) (FOk.cons (.inr (xY ⟨rfl,trivial⟩)) (FOk.cons (.inr (xY trivial)) FOk.nil))) (by kernel_rfl) rfl (xG (n:=5) rfl ze31 rfl) xC ?_
 refine yG rfl (FOk.cons (.inr (xY trivial)) (FOk.cons (.inr (xY ⟨rfl,trivial⟩)) (FOk.cons (.inr (xY trivial)) FOk.nil))) (by kernel_rfl) rfl (zP (cs':=[.int .u8 v5.1.typ,.int .i64 v5.1.n,.int .u64 v5.1.time,.int .u8 v5.1.dot.actor.rep,.int .u32 v5.1.dot.actor.inc,.int .u64 v5.1.dot.seq,.str v5.1.text,.sl 5 (v5.1.items.map GItem.row),.sl 3 (v5.1.tombs.map GDot.row)]) rfl ty31.choose_spec.1 xr (gk yB) (zb rfl) rfl rfl rfl rfl rfl) rfl ?_
 refine zi rfl rfl (zj rfl (gk yv) (zb rfl)) xR ?_
 refine zX ?_
 refine zk (zn (ze ?_))
 refine zc rfl (zq rfl ty31.choose_spec.1 xr rfl (zu (cs':=[.int .u8 v5.1.typ,.int .i64 v5.1.n,.int .u64 v5.1.time,.int .u8 v5.1.dot.actor.rep,.int .u32 v5.1.dot.actor.inc,.int .u64 v5.1.dot.seq,.str v5.1.text,.sl 5 (v5.1.items.map GItem.row),.sl 3 (v5.1.tombs.map GDot.row)]) ty31.choose_spec.2 rfl rfl) (zb rfl)) (sk yV) ?_
 refine zc rfl (zq rfl ty36.choose_spec.1 yf rfl (zu (cs':=[.int .u8 (0:Int),.int .u32 (1:Int),.int .u64 (1:Int),.int .u64 (1:Int),.int .u8 (3:Int),.osl none 1 (([([97]:yn)]:List yn).map zG),.int .i64 (0:Int),.str ([117]:yn),.osl none 3 (([]:List GDot).map GDot.row)]) ty36.choose_spec.2 rfl rfl) (zb rfl)) (sk xp) ?_
 refine zQ hF (fun v6 hv6 hF=>?_)
 refine zU rfl (zC rfl rfl rfl (zo (gk yp) (zo (gk yR) zw)) (.cons (zb rfl) (.cons (zb rfl) .nil))) ((ok15 hv6).le (.eq (.cons (leV.agg (.eq (.eq (.eq (.eq (.eq (.cons (leV.osl _ _ _) (.eq (.eq (.cons (leV.osl _ _ _) leL.nil))))))))) rfl) leL.nil))) (sk xI) ?_
 refine zc rfl (zg rfl (gk xh) (zb rfl)) (sk x5) ?_
 refine zc rfl (zV rfl (gk yf) rfl (zb rfl)) (sk xN) ?_
 refine zc rfl (zV rfl (gk yf) rfl (zb rfl)) (sk xC) ?_
 refine zc rfl (zP (cs':=[.int .u8 v6.1.typ,.int .i64 v6.1.n,.int .u64 v6.1.time,.int .u8 v6.1.dot.actor.rep,.int .u32 v6.1.dot.actor.inc,.int .u64 v6.1.dot.seq,.str v6.1.text,.sl 5 (v6.1.items.map GItem.row),.sl 3 (v6.1.tombs.map GDot.row)]) rfl ty31.choose_spec.1 xr (gk xu) (zb rfl) rfl rfl rfl rfl rfl) rfl ?_
 refine zc rfl (zj rfl (gk xr) (zb rfl)) yy ?_
 refine zf (zk (zn (ze ?_)))
 refine zc rfl (zg rfl xh (zb rfl)) (sk xR) ?_
 refine zc rfl (zz rfl (gk xK) rfl rfl) (sk yy) ?_
 refine zc rfl (zg rfl (gk yw) (zb rfl)) (sk yx) ?_
 refine zr rfl (fun hb=>zg rfl xu (zb rfl)) (sk yE) ?_
 refine zr rfl (fun hb=>zz rfl (zp (gk yD) hb) rfl rfl) (sk yK) ?_
 refine zc rfl (zM rfl (gk yr) (gk yI) rfl (zS (fun ht=>gT ht))) (sk yT) ?_
 refine zc rfl (zg rfl (gk yY) (zb rfl)) (sk yS) ?_
 refine zr rfl (fun hb=>zg rfl xK (zb rfl)) (sk yZ) ?_
 refine zr rfl (fun hb=>zz rfl (zp (gk y4) hb) rfl rfl) (sk y8) ?_
 refine zc rfl (zM rfl (gk yO) (gk xd) rfl (zS (fun ht=>gT ht))) (sk xk) ?_
 refine zc rfl (zg rfl (gk xl) (zb rfl)) (sk xJ) ?_
 refine zr rfl (fun hb=>zg rfl yw (zb rfl)) (sk xQ) ?_
 refine zr rfl (fun hb=>zz rfl (zp (gk xX) hb) rfl rfl) (sk wb) ?_
 refine zc rfl (zM rfl (gk xL) (gk wa) rfl (zS (fun ht=>gT ht))) (sk wl) ?_
 refine zc rfl (zg rfl (gk wq) (zb rfl)) (sk wp) ?_
 refine zr rfl (fun hb=>zd rfl ym yR rfl) (sk wu) ?_
 refine zr rfl (fun hb=>zq rfl xW (zp (gk ww) hb) rfl (zt rfl) (zb rfl)) (sk wz) ?_
 refine xq rfl (fun hb=>ya rfl rfl rfl rfl yX (zp (gk wv) hb) yC) (sk wV) fun hn7=>?_
 refine zr rfl (fun hb=>zz rfl (zp (gk wD) hb) rfl rfl) (sk wU) ?_
 refine zc rfl (zM rfl (gk wg) (gk w4) rfl (zS (fun ht=>gT ht))) (sk wG) ?_
 refine zc rfl (zg rfl (gk wH) (zb rfl)) (sk w9) ?_
 refine zr rfl (fun hb=>zd rfl y5 yR rfl) (sk w8) ?_
 refine zr rfl (fun hb=>zq rfl xP (zp (gk va) hb) rfl (zt rfl) (zb rfl)) (sk w7) ?_
 refine xq rfl (fun hb=>ya rfl rfl rfl rfl yU (zp (gk wZ) hb) yC) (sk wT) fun hn8=>?_
 refine zr rfl (fun hb=>zz rfl (zp (gk wQ) hb) rfl rfl) (sk wS) ?_
 refine zc rfl (zM rfl (gk we) (gk wY) rfl (zS (fun ht=>gT ht))) (sk wR) ?_
 refine zc rfl (zg rfl (gk wX) (zb rfl)) (sk vg) ?_
 refine zr rfl (fun hb=>zq rfl ty31.choose_spec.1 yR rfl (zu (cs':=[.int .u8 v3.1.typ,.int .i64 v3.1.n,.int .u64 v3.1.time,.int .u8 v3.1.dot.actor.rep,.int .u32 v3.1.dot.actor.inc,.int .u64 v3.1.dot.seq,.str v3.1.text,.sl 5 (v3.1.items.map GItem.row),.sl 3 (v3.1.tombs.map GDot.row)]) ty31.choose_spec.2 rfl rfl) (zb rfl)) (sk vf) ?_
 refine zr rfl (fun hb=>zq rfl ty31.choose_spec.1 xr rfl (zu (cs':=[.int .u8 v6.1.typ,.int .i64 v6.1.n,.int .u64 v6.1.time,.int .u8 v6.1.dot.actor.rep,.int .u32 v6.1.dot.actor.inc,.int .u64 v6.1.dot.seq,.str v6.1.text,.sl 5 (v6.1.items.map GItem.row),.sl 3 (v6.1.tombs.map GDot.row)]) ty31.choose_spec.2 rfl rfl) (zb rfl)) (sk vI) ?_
 refine yP hF (fun v9 hv9 hF=>?_)
 refine yJ rfl (fun hb=>zC rfl rfl rfl (zo (zp (gk vm) hb) (zo (zp (gk vC) hb) zw)) (.cons (zb rfl) (.cons (zb rfl) .nil))) (fun hb=>ok10 (hv9 hb)) (sk vN) ?_
 refine zc rfl (zM rfl (gk vn) (gk vO) rfl (zS (fun ht=>gT ht))) (sk vZ) ?_
 refine zc rfl (zj rfl (gk qe) (zb rfl)) st0 ?_
 refine zf (zk (zJ ?_))
 obtain rfl:=Option.some.inj hF
 refine zF rfl (zH yh zA) (zB (leV.refl _) rfl ?_)
 exact ⟨rfl,rfl⟩
/-! varve/varveref03.Less -/
theorem ok25 {a0:GDot} {b1:GDot} {res:Bool} {h:AH}  (hF:qc a0 b1=some res):Spec Tryz.prog 25 [.agg [.int .u8 a0.actor.rep,.int .u32 a0.actor.inc,.int .u64 a0.seq],.agg [.int .u8 b1.actor.rep,.int .u32 b1.actor.inc,.int .u64 b1.seq]] h (fun rr hh=>rr=.bool res∧hh=h):=by
 unfold qc at hF
 refine zx Tryz.func25 rfl (by kernel_rfl) (env:=[.agg [.int .u8 a0.actor.rep,.int .u32 a0.actor.inc,.int .u64 a0.seq],.agg [.int .u8 b1.actor.rep,.int .u32 b1.actor.inc,.int .u64 b1.seq],za,za,za,za,za,za,za,za,za,za,za,za,za,za,za,za,za,za,za,za,za,za,za,za,za,za,za,za,za,za,za,za,za,za,za,za]) (by rfl) ?_
 refine zn (ze ?_)
 refine zc rfl (yF (n:=0) rfl yh (zb rfl) rfl rfl) xf ?_
 refine zc rfl (yF (n:=1) rfl yB (zb rfl) rfl rfl) x5 ?_
 refine zc rfl (zj rfl rfl (zb rfl)) yV ?_
 refine zf (zk (zn (zn (ze ?_))))
 refine zc rfl (zd rfl fo27x0 yv rfl) xp ?_
 refine zc rfl (zd rfl fo25x0 yR rfl) xI ?_
 refine zc rfl (zq rfl ty5 xh rfl (zt rfl) (zb rfl)) xN ?_
 refine zc rfl (zd rfl fo27x0 yf rfl) xC ?_
 refine zc rfl (zd rfl fo25x0 xr rfl) xR ?_
 refine zc rfl (zq rfl ty5 xK rfl (zt rfl) (zb rfl)) yy ?_
 refine zc rfl (zz rfl xu yw rfl) yx ?_
 refine zf (zk ?_)
 refine zI yr hF (fun hc1 hF=>?_) (fun hc1 hF=>?_)
 ·refine zn (ze ?_)
  refine zc rfl (zd rfl fo27x0 yv rfl) yE ?_
  refine zc rfl (zd rfl fo25x0 yD rfl) yK ?_
  refine zc rfl (zq rfl ty5 yI rfl (zt rfl) (zb rfl)) yT ?_
  refine zc rfl (zd rfl fo27x0 yf rfl) yS ?_
  refine zc rfl (zd rfl fo25x0 yO rfl) yZ ?_
  refine zc rfl (zq rfl ty5 y4 rfl (zt rfl) (zb rfl)) y8 ?_
  refine zc rfl (zz rfl yY xd rfl) xk ?_
  refine zc rfl (zj rfl xl (zb rfl)) yV ?_
  refine zf (zk (zJ (zD ?_)))
  obtain rfl:=Option.some.inj hF
  refine zF rfl (zH yp zA) (zB (leV.refl _) rfl ?_)
  exact ⟨rfl,rfl⟩
 ·refine zN (zk (zn (zn (ze ?_))))
  refine zc rfl (zd rfl fo27x0 yv rfl) xJ ?_
  refine zc rfl (zd rfl fo25x1 xL rfl) xQ ?_
  refine zc rfl (zq rfl ty23 xX rfl (zt rfl) (zb rfl)) wb ?_
  refine zc rfl (zd rfl fo27x0 yf rfl) wl ?_
  refine zc rfl (zd rfl fo25x1 wq rfl) wp ?_
  refine zc rfl (zq rfl ty23 wg rfl (zt rfl) (zb rfl)) wu ?_
  refine zc rfl (zz rfl wa ww rfl) wz ?_
  refine zf (zk ?_)
  refine zI wv hF (fun hc2 hF=>?_) (fun hc2 hF=>?_)
  ·refine zn (ze ?_)
   refine zc rfl (zd rfl fo27x0 yv rfl) wV ?_
   refine zc rfl (zd rfl fo25x1 wD rfl) wU ?_
   refine zc rfl (zq rfl ty23 w4 rfl (zt rfl) (zb rfl)) wG ?_
   refine zc rfl (zd rfl fo27x0 yf rfl) w9 ?_
   refine zc rfl (zd rfl fo25x1 we rfl) w8 ?_
   refine zc rfl (zq rfl ty23 va rfl (zt rfl) (zb rfl)) w7 ?_
   refine zc rfl (zz rfl wH wZ rfl) wT ?_
   refine zc rfl (zj rfl wQ (zb rfl)) yV ?_
   refine zf (zk (zJ (zD ?_)))
   obtain rfl:=Option.some.inj hF
   refine zF rfl (zH yp zA) (zB (leV.refl _) rfl ?_)
   exact ⟨rfl,rfl⟩
  ·refine zN (zk (zn (ze ?_)))
   refine zc rfl (zd rfl fo27x1 yv rfl) wS ?_
   refine zc rfl (zq rfl xM wY rfl (zt rfl) (zb rfl)) wR ?_
   refine zc rfl (zd rfl fo27x1 yf rfl) vg ?_
   refine zc rfl (zq rfl xM vn rfl (zt rfl) (zb rfl)) vf ?_
   refine zc rfl (zz rfl wX vm rfl) vI ?_
   refine zc rfl (zj rfl vC (zb rfl)) yV ?_
   refine zf (zk (zJ ?_))
   obtain rfl:=Option.some.inj hF
   refine zF rfl (zH yp zA) (zB (leV.refl _) rfl ?_)
   exact ⟨rfl,rfl⟩
/-! varve/varveref05.Ahead -/
theorem ok14 {time0:Int} {d1:GDot} {other2:Int} {o3:GDot} {res:Bool} {h:AH}  (hF:vt time0 d1 other2 o3=some res):Spec Tryz.prog 14 [.int .u64 time0,.agg [.int .u8 d1.actor.rep,.int .u32 d1.actor.inc,.int .u64 d1.seq],.int .u64 other2,.agg [.int .u8 o3.actor.rep,.int .u32 o3.actor.inc,.int .u64 o3.seq]] h (fun rr hh=>rr=.bool res∧hh=h):=by
 unfold vt at hF
 refine zx Tryz.func14 rfl (by kernel_rfl) (env:=[.int .u64 time0,.agg [.int .u8 d1.actor.rep,.int .u32 d1.actor.inc,.int .u64 d1.seq],.int .u64 other2,.agg [.int .u8 o3.actor.rep,.int .u32 o3.actor.inc,.int .u64 o3.seq],za,za,za,za,za,za,za,za,za,za,za,za,za,za]) (by rfl) ?_
 refine zn (ze ?_)
 refine zc rfl (yF (n:=0) rfl yB (zb rfl) rfl rfl) xp ?_
 refine zc rfl (yF (n:=1) rfl yf (zb rfl) rfl rfl) xN ?_
 refine zc rfl (zj rfl rfl (zb rfl)) xC ?_
 refine zf (zk (zn (zn (ze ?_))))
 refine zc rfl (zg rfl yh (zb rfl)) xR ?_
 refine zc rfl (zg rfl yv (zb rfl)) yy ?_
 refine zc rfl (zz rfl xK yw rfl) yx ?_
 refine zf (zk ?_)
 refine zI yr hF (fun hc1 hF=>?_) (fun hc1 hF=>?_)
 ·refine zn (ze ?_)
  refine zc rfl (zg rfl yh (zb rfl)) yE ?_
  refine zc rfl (zg rfl yv (zb rfl)) yK ?_
  refine zc rfl (zz rfl yD yI rfl) yT ?_
  refine zc rfl (zj rfl yY (zb rfl)) xC ?_
  refine zf (zk (zJ (zD ?_)))
  obtain rfl:=Option.some.inj hF
  refine zF rfl (zH xr zA) (zB (leV.refl _) rfl ?_)
  exact ⟨rfl,rfl⟩
 ·refine zN (zk (zn (ze ?_)))
  refine zc rfl (zq rfl ty27.choose_spec.1 yR rfl (zu (cs':=[.int .u8 d1.actor.rep,.int .u32 d1.actor.inc,.int .u64 d1.seq]) ty27.choose_spec.2 rfl rfl) (zb rfl)) yS ?_
  refine zc rfl (zq rfl ty27.choose_spec.1 xu rfl (zu (cs':=[.int .u8 o3.actor.rep,.int .u32 o3.actor.inc,.int .u64 o3.seq]) ty27.choose_spec.2 rfl rfl) (zb rfl)) yZ ?_
  refine zQ hF (fun v2 hv2 hF=>?_)
  refine zU rfl (zC rfl rfl rfl (zo yO (zo y4 zw)) (.cons (zb rfl) (.cons (zb rfl) .nil))) (ok25 hv2) y8 ?_
  refine zc rfl (zj rfl xd (zb rfl)) xC ?_
  refine zf (zk (zJ ?_))
  obtain rfl:=Option.some.inj hF
  refine zF rfl (zH xr zA) (zB (leV.refl _) rfl ?_)
  exact ⟨rfl,rfl⟩
/-! varve/varveref03.MayActor -/
theorem ok47 {a0:GActor} {res:Bool} {h:AH}  (hF:qi a0=some res):Spec Tryz.prog 47 [.agg [.int .u8 a0.rep,.int .u32 a0.inc]] h (fun rr hh=>rr=.bool res∧hh=h):=by
 unfold qi at hF
 refine zx Tryz.func47 rfl (by kernel_rfl) (env:=[.agg [.int .u8 a0.rep,.int .u32 a0.inc],za,za,za,za,za,za,za,za,za,za,za,za,za,za,za]) (by rfl) ?_
 refine zn (ze ?_)
 refine zc rfl (yF (n:=0) rfl yh (zb rfl) rfl rfl) st1 ?_
 refine zc rfl (zj rfl rfl (zb rfl)) xf ?_
 refine zf (zk (zn (ze ?_)))
 refine zc rfl (zd rfl fo25x0 yB rfl) x5 ?_
 refine zc rfl (zq rfl ty5 yf rfl (zt rfl) (zb rfl)) yV ?_
 refine zc rfl (zz rfl yp rfl rfl) xp ?_
 refine zc rfl (zg rfl yR (zb rfl)) xI ?_
 refine zr rfl (fun hb=>zd rfl fo25x1 yB rfl) xN ?_
 refine zr rfl (fun hb=>zq rfl ty23 (zp xu hb) rfl (zt rfl) (zb rfl)) xC ?_
 refine zr rfl (fun hb=>zz rfl (zp xr hb) rfl rfl) xR ?_
 refine zc rfl (zM rfl xh xK rfl (zS (fun ht=>gT ht))) yy ?_
 refine zc rfl (zg rfl yw (zb rfl)) yx ?_
 refine zr rfl (fun hb=>zd rfl fo25x1 yB rfl) yE ?_
 refine zr rfl (fun hb=>zq rfl ty23 (zp yD hb) rfl (zt rfl) (zb rfl)) yK ?_
 refine zr rfl (fun hb=>zz rfl (zp yI hb) rfl rfl) yT ?_
 refine zc rfl (zM rfl yr yY rfl (zS (fun ht=>gT ht))) yS ?_
 refine zc rfl (zj rfl yO (zb rfl)) xf ?_
 refine zf (zk (zJ ?_))
 obtain rfl:=Option.some.inj hF
 refine zF rfl (zH yv zA) (zB (leV.refl _) rfl ?_)
 exact ⟨rfl,rfl⟩
/-! varve/varveref03.May -/
theorem ok22 {d0:GDot} {res:Bool} {h:AH}  (hF:qH d0=some res):Spec Tryz.prog 22 [.agg [.int .u8 d0.actor.rep,.int .u32 d0.actor.inc,.int .u64 d0.seq]] h (fun rr hh=>rr=.bool res∧hh=h):=by
 unfold qH at hF
 refine zx Tryz.func22 rfl (by kernel_rfl) (env:=[.agg [.int .u8 d0.actor.rep,.int .u32 d0.actor.inc,.int .u64 d0.seq],za,za,za,za,za,za,za,za,za,za,za,za,za,za,za]) (by rfl) ?_
 refine zn (ze ?_)
 refine zc rfl (yF (n:=0) rfl yh (zb rfl) rfl rfl) st1 ?_
 refine zc rfl (zj rfl rfl (zb rfl)) xf ?_
 refine zf (zk (zn (ze ?_)))
 refine zc rfl (zd rfl fo27x0 yB rfl) x5 ?_
 refine zc rfl (zq rfl ty25.choose_spec.1 yf rfl (zu (cs':=[.int .u8 d0.actor.rep,.int .u32 d0.actor.inc]) ty25.choose_spec.2 rfl rfl) (zb rfl)) yV ?_
 refine zQ hF (fun v1 hv1 hF=>?_)
 refine zU rfl (zC rfl rfl rfl (zo yp zw) (.cons (zb rfl) .nil)) (ok47 hv1) xp ?_
 refine zc rfl (zg rfl yR (zb rfl)) xI ?_
 refine zr rfl (fun hb=>zd rfl fo27x1 yB rfl) xN ?_
 refine zr rfl (fun hb=>zq rfl xM (zp xu hb) rfl (zt rfl) (zb rfl)) xC ?_
 refine zr rfl (fun hb=>zz rfl (zp xr hb) rfl rfl) xR ?_
 refine zc rfl (zM rfl xh xK rfl (zS (fun ht=>gT ht))) yy ?_
 refine zc rfl (zg rfl yw (zb rfl)) yx ?_
 refine zr rfl (fun hb=>zd rfl fo27x1 yB rfl) yE ?_
 refine zr rfl (fun hb=>zq rfl xM (zp yD hb) rfl (zt rfl) (zb rfl)) yK ?_
 refine zr rfl (fun hb=>zz rfl (zp yI hb) rfl rfl) yT ?_
 refine zc rfl (zM rfl yr yY rfl (zS (fun ht=>gT ht))) yS ?_
 refine zc rfl (zj rfl yO (zb rfl)) xf ?_
 refine zf (zk (zJ ?_))
 obtain rfl:=Option.some.inj hF
 refine zF rfl (zH yv zA) (zB (leV.refl _) rfl ?_)
 exact ⟨rfl,rfl⟩
/-! varve/varveref05.Item -/
theorem ok23 {l0:(List GItem)} {d1:GDot} {res:Int} {h:AH}  (hF:ref05Item l0 d1=some res):Spec Tryz.prog 23 [.sl 5 (l0.map GItem.row),.agg [.int .u8 d1.actor.rep,.int .u32 d1.actor.inc,.int .u64 d1.seq]] h (fun rr hh=>rr=.int .i64 res∧hh=h):=by
 unfold ref05Item at hF
 refine zx Tryz.func23 rfl (by kernel_rfl) (env:=[.sl 5 (l0.map GItem.row),.agg [.int .u8 d1.actor.rep,.int .u32 d1.actor.inc,.int .u64 d1.seq],za,za,za,za,za,za,za,za,za,za,za,za,za,za,za,za,za,za]) (by rfl) ?_
 refine zn (ze ?_)
 refine zc rfl (yF (n:=0) rfl yB (zb rfl) rfl rfl) x5 ?_
 refine zc rfl (zj rfl rfl (zb rfl)) yV ?_
 refine zf (zk (zn (zn (ze ?_))))
 refine zc rfl (zj rfl rfl (zb rfl)) xp ?_
 refine zf (zk (zW ?_))
 refine xi (fun (n1:Nat) (s1:Unit)=>xB [1,2,4,6,7,8,9,10,11,12,13,14,15,16,17,18,19] [(5,.int .i64 (n1:Int))]) (fun s1=>h.ext [.cells [.int .u8 d1.actor.rep,.int .u32 d1.actor.inc,.int .u64 d1.seq]] []) hF (fun _ _=>by simp only [xB,upd,List.set_cons_succ,List.set_cons_zero];try rfl) (wk.le (by exact (.eq (.drop (.drop (.eq (.drop (.cons (leV.of_eq rfl) (.d4 (.d4 (.d4 (.drop (.drop leL.nil))))))))))))) ?_
 intro n1 s1 hi1 hF
 refine zn (zn (ze ?_))
 refine zc rfl (zg rfl yR (zb rfl)) xI ?_
 refine zc rfl (zg rfl yh (zb rfl)) xN ?_
 refine yj rfl (ya rfl rfl rfl rfl yX xu yC) xC fun hn10=>?_
 replace hn10:=wW hn10
 refine zc rfl (zz rfl xh xr rfl) xR ?_
 refine zf (zk ?_)
 refine xO xK hF (fun x1 o1 hl1 hx1 hF hK1=>?_) (fun hF=>?_)
 ·refine zN (zk (zn (zW (zn ?_))))
  refine yb [] [] trivial mixed (by kernel_rfl) ?_
  refine zi rfl rfl (zg rfl yh (zb rfl)) yE ?_
  refine zi rfl rfl (zg rfl yR (zb rfl)) yK ?_
  refine zi rfl rfl (yM rfl yX yD yI isl (wc hx1)) yT ?_
  refine zi rfl rfl (zd rfl wI yY rfl) yS ?_
  refine zi rfl rfl (yW rfl ty27.choose_spec.1 yO (zu (cs':=[.int .u8 x1.dot.actor.rep,.int .u32 x1.dot.actor.inc,.int .u64 x1.dot.seq]) ty27.choose_spec.2 rfl rfl) (zb rfl)) yZ ?_
  refine zi rfl rfl (zq rfl ty27.choose_spec.1 yf rfl (zu (cs':=[.int .u8 d1.actor.rep,.int .u32 d1.actor.inc,.int .u64 d1.seq]) ty27.choose_spec.2 rfl rfl) (zb rfl)) y8 ?_
  refine zi rfl rfl (zz rfl y4 xd (bin_eq pk27 rfl)) xk ?_
  refine zX ?_
  refine zk ?_
  refine zI xl hF (fun hc11 hF=>?_) (fun hc11 hF=>?_)
  ·refine zn (ze ?_)
   refine zc rfl (zg rfl yR (zb rfl)) xJ ?_
   refine zc rfl (zj rfl xL (zb rfl)) yV ?_
   refine zf (zk (zJ ?_))
   refine zL ?_
   refine zD ?_
   refine yN ?_
   obtain rfl:=Option.some.inj hF
   replace hF:=hK1
   refine zL ?_
   refine zD ?_
   obtain rfl:=Option.some.inj hF
   refine zF rfl (zH yp zA) (zB (leV.refl _) rfl ?_)
   exact ⟨rfl,rfl⟩
  ·refine zN (ye (zk (ze ?_)))
   refine zc rfl (zg rfl yR (zb rfl)) yy ?_
   refine zc rfl (zz rfl yw rfl rfl) yx ?_
   refine zc rfl (zj rfl yr (zb rfl)) xp ?_
   refine zf (xw ?_)
   obtain rfl:=Option.some.inj hF
   exact ⟨(),hl1,hK1,wk.le (by exact (.eq (.drop (.drop (.eq (.drop (.cons (leV.of_eq (qT (by omega) (by omega))) (.d4 (.d4 (.d4 (.drop (.drop leL.nil))))))))))))⟩
 ·refine xD ?_
  refine yd ?_
  refine z7 ?_
  refine z8 ?_
  refine zk (zn (ze ?_))
  refine zc rfl (zj rfl rfl (zb rfl)) yV ?_
  refine zf (zk (zJ ?_))
  obtain rfl:=Option.some.inj hF
  refine zF rfl (zH yp zA) (zB (leV.refl _) rfl ?_)
  exact ⟨rfl,rfl⟩
/-! varve/varveref05.Tomb -/
theorem ok24 {l0:(List GDot)} {d1:GDot} {res:Bool} {h:AH}  (hF:qb l0 d1=some res):Spec Tryz.prog 24 [.sl 3 (l0.map GDot.row),.agg [.int .u8 d1.actor.rep,.int .u32 d1.actor.inc,.int .u64 d1.seq]] h (fun rr hh=>rr=.bool res∧hh=h):=by
 unfold qb at hF
 refine zx Tryz.func24 rfl (by kernel_rfl) (env:=[.sl 3 (l0.map GDot.row),.agg [.int .u8 d1.actor.rep,.int .u32 d1.actor.inc,.int .u64 d1.seq],za,za,za,za,za,za,za,za,za,za,za,za,za,za,za,za]) (by rfl) ?_
 refine zn (ze ?_)
 refine zc rfl (yF (n:=0) rfl yB (zb rfl) rfl rfl) x5 ?_
 refine zc rfl (zj rfl rfl (zb rfl)) yV ?_
 refine zf (zk (zn (zn (ze ?_))))
 refine zc rfl (zj rfl rfl (zb rfl)) xp ?_
 refine zf (zk (zW ?_))
 refine xi (fun (n1:Nat) (s1:Unit)=>xB [1,2,4,6,7,8,9,10,11,12,13,14,15,16,17] [(5,.int .i64 (n1:Int))]) (fun s1=>h.ext [.cells [.int .u8 d1.actor.rep,.int .u32 d1.actor.inc,.int .u64 d1.seq]] []) hF (fun _ _=>by simp only [xB,upd,List.set_cons_succ,List.set_cons_zero];try rfl) (wk.le (by exact (.eq (.drop (.drop (.eq (.drop (.cons (leV.of_eq rfl) (.d4 (.d4 (.d4 leL.nil))))))))))) ?_
 intro n1 s1 hi1 hF
 refine zn (zn (ze ?_))
 refine zc rfl (zg rfl yR (zb rfl)) xI ?_
 refine zc rfl (zg rfl yh (zb rfl)) xN ?_
 refine yj rfl (ya rfl rfl rfl rfl yU xu yC) xC fun hn10=>?_
 replace hn10:=wW hn10
 refine zc rfl (zz rfl xh xr rfl) xR ?_
 refine zf (zk ?_)
 refine xO xK hF (fun x1 o1 hl1 hx1 hF hK1=>?_) (fun hF=>?_)
 ·refine zN (zk (zn (zW (zn ?_))))
  refine yb [] [] trivial mixed (by kernel_rfl) ?_
  refine zi rfl rfl (zg rfl yh (zb rfl)) yE ?_
  refine zi rfl rfl (zg rfl yR (zb rfl)) yK ?_
  refine zi rfl rfl (yM rfl yU yD yI isl (wc hx1)) yT ?_
  refine zi rfl rfl (yW rfl ty27.choose_spec.1 yY (zu (cs':=[.int .u8 x1.actor.rep,.int .u32 x1.actor.inc,.int .u64 x1.seq]) ty27.choose_spec.2 rfl rfl) (zb rfl)) yS ?_
  refine zi rfl rfl (zq rfl ty27.choose_spec.1 yf rfl (zu (cs':=[.int .u8 d1.actor.rep,.int .u32 d1.actor.inc,.int .u64 d1.seq]) ty27.choose_spec.2 rfl rfl) (zb rfl)) yZ ?_
  refine zi rfl rfl (zz rfl yO y4 (bin_eq pk27 rfl)) y8 ?_
  refine zX ?_
  refine zk ?_
  refine zI xd hF (fun hc11 hF=>?_) (fun hc11 hF=>?_)
  ·refine zn (ze ?_)
   refine zc rfl (zj rfl rfl (zb rfl)) yV ?_
   refine zf (zk (zJ ?_))
   refine zL ?_
   refine zD ?_
   refine yN ?_
   obtain rfl:=Option.some.inj hF
   replace hF:=hK1
   refine zL ?_
   refine zD ?_
   obtain rfl:=Option.some.inj hF
   refine zF rfl (zH yp zA) (zB (leV.refl _) rfl ?_)
   exact ⟨rfl,rfl⟩
  ·refine zN (ye (zk (ze ?_)))
   refine zc rfl (zg rfl yR (zb rfl)) yy ?_
   refine zc rfl (zz rfl yw rfl rfl) yx ?_
   refine zc rfl (zj rfl yr (zb rfl)) xp ?_
   refine zf (xw ?_)
   obtain rfl:=Option.some.inj hF
   exact ⟨(),hl1,hK1,wk.le (by exact (.eq (.drop (.drop (.eq (.drop (.cons (leV.of_eq (qT (by omega) (by omega))) (.d4 (.d4 (.d4 leL.nil))))))))))⟩
 ·refine xD ?_
  refine yd ?_
  refine z7 ?_
  refine z8 ?_
  refine zk (zn (ze ?_))
  refine zc rfl (zj rfl rfl (zb rfl)) yV ?_
  refine zf (zk (zJ ?_))
  obtain rfl:=Option.some.inj hF
  refine zF rfl (zH yp zA) (zB (leV.refl _) rfl ?_)
  exact ⟨rfl,rfl⟩
/-! varve/varveref05.May -/
theorem ok8 {l0:GLeaf} {res:Bool} {h:AH}  (hF:ref05May l0=some res):Spec Tryz.prog 8 [.agg [.int .u8 l0.typ,.int .i64 l0.n,.int .u64 l0.time,.int .u8 l0.dot.actor.rep,.int .u32 l0.dot.actor.inc,.int .u64 l0.dot.seq,.str l0.text,.sl 5 (l0.items.map GItem.row),.sl 3 (l0.tombs.map GDot.row)]] h (fun rr hh=>rr=.bool res∧hh=h):=by
 unfold ref05May at hF
 refine zx Tryz.func8 rfl (by kernel_rfl) (env:=[.agg [.int .u8 l0.typ,.int .i64 l0.n,.int .u64 l0.time,.int .u8 l0.dot.actor.rep,.int .u32 l0.dot.actor.inc,.int .u64 l0.dot.seq,.str l0.text,.sl 5 (l0.items.map GItem.row),.sl 3 (l0.tombs.map GDot.row)],za,za,za,za,za,za,za,za,za,za,za,za,za,za,za,za,za,za,za,za,za,za,za,za,za,za,za,za,za,za,za,za,za,za,za,za,za,za,za,za,za,za,za,za,za,za,za,za,za,za,za,za,za,za,za,za,za,za,za,za,za,za,za,za,za,za,za,za,za,za,za,za,za,za,za,za,za,za,za,za,za,za,za,za,za,za,za,za,za,za,za,za,za,za,za,za,za,za,za,za,za,za,za,za,za,za,za,za,za,za,za,za,za,za,za,za,za,za,za,za,za,za,za,za,za,za,za,za,za,za,za,za,za,za,za,za,za,za,za,za,za,za,za,za,za,za,za,za,za,za,za,za,za,za,za,za,za,za,za,za,za,za,za,za,za,za,za,za,za,za,za,za,za,za,za,za,za,za,za,za,za,za,za,za,za,za,za,za,za,za,za,za,za,za,za,za,za,za,za,za,za,za,za,za]) (by rfl) ?_
 refine zn (ze ?_)
 refine zc rfl (yF (n:=0) rfl yh (zb rfl) rfl rfl) st1 ?_
 refine zc rfl (zj rfl rfl (zb rfl)) xf ?_
 refine zf (zk (zn (zn (ze ?_))))
 refine zc rfl (zd rfl vu yB rfl) xN ?_
 refine zc rfl (zq rfl ty5 xu rfl (zt rfl) (zb rfl)) xC ?_
 refine zc rfl (zz rfl xr rfl rfl) xR ?_
 refine zc rfl (zg rfl xK (zb rfl)) yy ?_
 refine zr rfl (fun hb=>zd rfl vu yB rfl) yx ?_
 refine zr rfl (fun hb=>zq rfl ty5 (zp yr hb) rfl (zt rfl) (zb rfl)) yE ?_
 refine zr rfl (fun hb=>zz rfl (zp yD hb) rfl rfl) yK ?_
 refine zc rfl (zM rfl yw rfl yI (zZ (fun ht=>gF ht))) yT ?_
 refine zc rfl (zg rfl yY (zb rfl)) yS ?_
 refine zr rfl (fun hb=>zd rfl vu yB rfl) yZ ?_
 refine zr rfl (fun hb=>zq rfl ty5 (zp y4 hb) rfl (zt rfl) (zb rfl)) y8 ?_
 refine zr rfl (fun hb=>zz rfl (zp xd hb) rfl rfl) xk ?_
 refine zr rfl (fun hb=>zg rfl (zp xl hb) (zb rfl)) xJ ?_
 refine zr (yc rfl rfl rfl) (fun hb=>zd rfl qZ yB rfl) xQ ?_
 refine zr (yc rfl rfl rfl) (fun hb=>zq rfl ty2 (zp xX hb) rfl (zt rfl) (zb rfl)) wb ?_
 refine zr (yc rfl rfl rfl) (fun hb=>zz rfl (zp wa hb) rfl rfl) wl ?_
 refine zr rfl (fun hb=>zM rfl (zp xL hb) wq rfl (zS (fun ht=>gT2 hb ht))) wp ?_
 refine zc rfl (zM rfl yO rfl wg (zZ (fun ht=>gF ht))) wu ?_
 refine zc rfl (zg rfl ww (zb rfl)) wz ?_
 refine zr rfl (fun hb=>zd rfl vu yB rfl) wV ?_
 refine zr rfl (fun hb=>zq rfl ty5 (zp wD hb) rfl (zt rfl) (zb rfl)) wU ?_
 refine zr rfl (fun hb=>zz rfl (zp w4 hb) rfl rfl) wG ?_
 refine zr rfl (fun hb=>zg rfl (zp wH hb) (zb rfl)) w9 ?_
 refine zr (yc rfl rfl rfl) (fun hb=>zd rfl ym yB rfl) w8 ?_
 refine zr (yc rfl rfl rfl) (fun hb=>zq rfl xW (zp va hb) rfl (zt rfl) (zb rfl)) w7 ?_
 refine xq (yc rfl rfl rfl) (fun hb=>ya rfl rfl rfl rfl yX (zp wZ hb) yC) wT fun hn1=>?_
 refine zr (yc rfl rfl rfl) (fun hb=>zz rfl (zp wQ hb) rfl rfl) wS ?_
 refine zr rfl (fun hb=>zM rfl (zp we hb) wY rfl (zS (fun ht=>gT2 hb ht))) wR ?_
 refine zc rfl (zM rfl wv rfl wX (zZ (fun ht=>gF ht))) vg ?_
 refine zc rfl (zg rfl vn (zb rfl)) vf ?_
 refine zr rfl (fun hb=>zd rfl vu yB rfl) vI ?_
 refine zr rfl (fun hb=>zq rfl ty5 (zp vC hb) rfl (zt rfl) (zb rfl)) vN ?_
 refine zr rfl (fun hb=>zz rfl (zp vO hb) rfl rfl) vZ ?_
 refine zr rfl (fun hb=>zg rfl (zp qe hb) (zb rfl)) (sk st0) ?_
 refine zr (yc rfl rfl rfl) (fun hb=>zd rfl y5 yB rfl) (sk st1) ?_
 refine zr (yc rfl rfl rfl) (fun hb=>zq rfl xP (zp (gk yB) hb) rfl (zt rfl) (zb rfl)) (sk xf) ?_
 refine xq (yc rfl rfl rfl) (fun hb=>ya rfl rfl rfl rfl yU (zp (gk yv) hb) yC) (sk x5) fun hn2=>?_
 refine zr (yc rfl rfl rfl) (fun hb=>zz rfl (zp (gk yf) hb) rfl rfl) (sk yV) ?_
 refine zr rfl (fun hb=>zM rfl (zp (gk yh) hb) (gk yp) rfl (zS (fun ht=>gT2 hb ht))) (sk xp) ?_
 refine zc rfl (zM rfl vm rfl (gk yR) (zZ (fun ht=>gF ht))) (sk xI) ?_
 refine zf (zk ?_)
 refine zI (gk xh) hF (fun hc3 hF=>?_) (fun hc3 hF=>?_)
 ·refine zn (ze ?_)
  refine zc rfl (zj rfl rfl (zb rfl)) xf ?_
  refine zf (zk (zJ (zD ?_)))
  obtain rfl:=Option.some.inj hF
  refine zF rfl (zH yv zA) (zB (leV.refl _) rfl ?_)
  exact ⟨rfl,rfl⟩
 ·refine zN (zk (zn (ze ?_)))
  refine zc rfl (xc (cs':=[.int .u8 (0:Int),.int .u32 (0:Int),.int .u64 (0:Int)]) rfl su27 ze27 pl27 zT .nil rfl rfl) (sk xN) ?_
  refine zc rfl (xG (n:=1) rfl ze27 rfl) x5 ?_
  refine zc rfl (zP (cs':=[.int .u8 (0:Int),.int .u32 (0:Int),.int .u64 (0:Int)]) rfl ty27.choose_spec.1 yf (gk xu) (zb rfl) rfl rfl rfl rfl rfl) rfl ?_
  refine zf (zk ?_)
  refine r_join (fun (s1:Unit)=>xB [0,2,3,4,5,6,7,8,9,10,11,12,13,14,15,16,17,18,19,20,21,22,23,24,25,26,27,28,29,30,31,32,33,34,35,36,37,38,39,40,41,42,43,44,45,46,47,48,49,50,51,52,53,54,55,56,57,58,59,60,61,62,63,64,65,66,67,68,69,70,71,72,73,74,75,76,77,78,79,80,81,82,83,84,85,86,87,88,89,90,91,92,93,94,95,96,97,98,99,100,101,102,103,104,105,106,107,108,109,110,111,112,113,114,115,116,117,118,119,120,121,122,123,124,125,126,127,128,129,130,131,132,133,134,135,136,137,138,139,140,141,142,143,144,145,146,147,148,149,150,151,152,153,154,155,156,157,158,159,160,161,162,163,164,165,166,167,168,169,170,171,172,173,174,175,176,177,178,179,180,181,182,183,184,185,186,187,188,189,190,191,192,193,194,195,196,197,198,199,200,201,202,203,204] []) (fun s1=>h.ext [.cells [.int .u8 l0.typ,.int .i64 l0.n,.int .u64 l0.time,.int .u8 l0.dot.actor.rep,.int .u32 l0.dot.actor.inc,.int .u64 l0.dot.seq,.str l0.text,.sl 5 (l0.items.map GItem.row),.sl 3 (l0.tombs.map GDot.row)],.cells [.int .u8 (0:Int),.int .u32 (0:Int),.int .u64 (0:Int)]] []) hF (fun _=>by simp only [xB,upd,List.set_cons_succ,List.set_cons_zero];try rfl) (fun o1 hF hK1=>?_) (fun s1 hF=>?_)
  ·refine zn (ze ?_)
   refine zc rfl (zd rfl vu yB rfl) (sk xC) ?_
   refine zc rfl (zq rfl ty5 (gk xr) rfl (zt rfl) (zb rfl)) (sk xR) ?_
   refine zc rfl (zz rfl (gk xK) rfl rfl) (sk yy) ?_
   refine zc rfl (zg rfl (gk yw) (zb rfl)) (sk yx) ?_
   refine zr rfl (fun hb=>zd rfl wm yB rfl) (sk yE) ?_
   refine zr rfl (fun hb=>zq rfl xM (zp (gk yD) hb) rfl (zt rfl) (zb rfl)) (sk yK) ?_
   refine zr rfl (fun hb=>zz rfl (zp (gk yI) hb) rfl rfl) (sk yT) ?_
   refine zc rfl (zM rfl (gk yr) rfl (gk yY) (zZ (fun ht=>gF ht))) (sk yS) ?_
   refine zf (zk ?_)
   refine zI (gk yO) hF (fun hc9 hF=>?_) (fun hc9 hF=>?_)
   ·refine zn (ze ?_)
    refine zc rfl (zd rfl wm yB rfl) (sk yZ) ?_
    refine zc rfl (zq rfl xM (gk y4) rfl (zt rfl) (zb rfl)) (sk y8) ?_
    refine zc rfl (zz rfl (gk xd) rfl rfl) (sk xk) ?_
    refine zc rfl (zg rfl (gk xl) (zb rfl)) (sk xJ) ?_
    refine zr rfl (fun hb=>zd rfl vp yB rfl) (sk xQ) ?_
    refine zr rfl (fun hb=>zq rfl ty27.choose_spec.1 (zp (gk xX) hb) rfl (zu (cs':=[.int .u8 l0.dot.actor.rep,.int .u32 l0.dot.actor.inc,.int .u64 l0.dot.seq]) ty27.choose_spec.2 rfl rfl) (zb rfl)) (sk wb) ?_
    refine zr rfl (fun hb=>zq rfl ty27.choose_spec.1 yf rfl (zu (cs':=[.int .u8 (0:Int),.int .u32 (0:Int),.int .u64 (0:Int)]) ty27.choose_spec.2 rfl rfl) (zb rfl)) (sk wl) ?_
    refine zr rfl (fun hb=>zz rfl (zp (gk wa) hb) (zp (gk wq) hb) (bin_ne pk27 rfl)) (sk wp) ?_
    refine zc rfl (zM rfl (gk xL) rfl (gk wg) (zZ (fun ht=>gF ht))) (sk wu) ?_
    refine zc rfl (zg rfl (gk ww) (zb rfl)) (sk wz) ?_
    refine zr rfl (fun hb=>zd rfl qN yB rfl) (sk wV) ?_
    refine zr rfl (fun hb=>zq rfl ty9 (zp (gk wD) hb) rfl (zt rfl) (zb rfl)) (sk wU) ?_
    refine zr rfl (fun hb=>zz rfl (zp (gk w4) hb) rfl rfl) (sk wG) ?_
    refine zc rfl (zM rfl (gk wv) rfl (gk wH) (zZ (fun ht=>gF ht))) (sk w9) ?_
    refine zf (zk ?_)
    refine zI (gk we) hF (fun hc10 hF=>?_) (fun hc10 hF=>?_)
    ·refine zn (ze ?_)
     refine zc rfl (zj rfl rfl (zb rfl)) xf ?_
     refine zf (zk (zJ ?_))
     refine q_join_ret ?_
     obtain rfl:=Option.some.inj hF
     replace hF:=hK1
     obtain rfl:=Option.some.inj hF
     refine zF rfl (zH yv zA) (zB (leV.refl _) rfl ?_)
     exact ⟨rfl,rfl⟩
    ·refine zN (q_join ?_)
     obtain rfl:=Option.some.inj hF
     exact ⟨(),hK1,wk.le (by exact (.drop (.eq (.d16 (.d16 (.d16 (.d16 (.d16 (.d16 (.d16 (.d16 (.d16 (.d16 (.d16 (.d16 (.d4 (.d4 (.drop (.drop (.drop leL.nil))))))))))))))))))))⟩
   ·refine zn (ze ?_)
    refine zc rfl (zd rfl wm yB rfl) (sk w8) ?_
    refine zc rfl (zq rfl xM (gk va) rfl (zt rfl) (zb rfl)) (sk w7) ?_
    refine zc rfl (zz rfl (gk wZ) rfl rfl) (sk wT) ?_
    refine zc rfl (zg rfl (gk wQ) (zb rfl)) (sk wS) ?_
    refine zr rfl (fun hb=>zd rfl vp yB rfl) (sk wR) ?_
    refine zr rfl (fun hb=>zq rfl ty27.choose_spec.1 (zp (gk wX) hb) rfl (zu (cs':=[.int .u8 l0.dot.actor.rep,.int .u32 l0.dot.actor.inc,.int .u64 l0.dot.seq]) ty27.choose_spec.2 rfl rfl) (zb rfl)) (sk vg) ?_
    refine yP hF (fun v11 hv11 hF=>?_)
    refine yJ rfl (fun hb=>zC rfl rfl rfl (zo (zp (gk vn) hb) zw) (.cons (zb rfl) .nil)) (fun hb=>ok22 (hv11 hb)) (sk vf) ?_
    refine zr rfl (fun hb=>vB rfl (zp (gk vm) hb) rfl) (sk vI) ?_
    refine zc rfl (zM rfl (gk wY) rfl (gk vC) (zZ (fun ht=>gF ht))) (sk vN) ?_
    refine zc rfl (zg rfl (gk vO) (zb rfl)) (sk vZ) ?_
    refine zr rfl (fun hb=>zd rfl qN yB rfl) (sk (sk st0)) ?_
    refine zr rfl (fun hb=>zq rfl ty9 (zp (gk (gk yh)) hb) rfl (zt rfl) (zb rfl)) (sk (sk st1)) ?_
    refine xq rfl (fun hb=>wA rfl rfl rfl rfl ty9 (zp (gk (gk yB)) hb)) (sk (sk xf)) fun hn12=>?_
    refine zr rfl (fun hb=>zz rfl (zp (gk (gk yv)) hb) rfl rfl) (sk (sk x5)) ?_
    refine zc rfl (zM rfl (gk qe) rfl (gk (gk yf)) (zZ (fun ht=>gF ht))) (sk (sk yV)) ?_
    refine zf (zk ?_)
    refine zI (gk (gk yp)) hF (fun hc13 hF=>?_) (fun hc13 hF=>?_)
    ·refine zn (ze ?_)
     refine zc rfl (zj rfl rfl (zb rfl)) xf ?_
     refine zf (zk (zJ ?_))
     refine q_join_ret ?_
     obtain rfl:=Option.some.inj hF
     replace hF:=hK1
     obtain rfl:=Option.some.inj hF
     refine zF rfl (zH yv zA) (zB (leV.refl _) rfl ?_)
     exact ⟨rfl,rfl⟩
    ·refine zN (q_join ?_)
     obtain rfl:=Option.some.inj hF
     exact ⟨(),hK1,wk.le (by exact (.drop (.eq (.d16 (.d16 (.d16 (.d16 (.d16 (.d16 (.d16 (.d16 (.d16 (.d16 (.d16 (.d16 (.d4 (.d4 (.drop (.drop (.drop leL.nil))))))))))))))))))))⟩
  ·refine zn (zn (ze ?_))
   refine zc rfl (zj rfl rfl (zb rfl)) yV ?_
   refine zf (zk (zW ?_))
   refine xi (fun (n2:Nat) (s2:Unit)=>xB [0,2,3,5,6,7,8,9,10,11,12,13,14,15,16,17,18,19,20,21,22,23,24,25,26,27,28,29,30,31,32,33,34,35,36,37,38,39,40,41,42,43,44,45,46,47,48,49,50,51,52,53,54,55,56,57,58,59,60,61,62,63,64,65,66,67,68,69,70,71,72,73,74,75,76,77,78,79,80,81,82,83,84,85,86,87,88,89,90,91,92,93,94,95,96,97,98,99,100,101,102,103,104,105,106,107,108,109,110,111,112,113,114,115,116,117,118,119,120,121,122,123,124,125,126,127,128,129,130,131,132,133,134,135,136,137,138,139,140,141,142,143,144,145,146,147,148,149,150,151,152,153,154,155,156,157,158,159,160,161,162,163,164,165,166,167,168,169,170,171,172,173,174,175,176,177,178,179,180,181,182,183,184,185,186,187,188,189,190,191,192,193,194,195,196,197,198,199,200,201,202,203,204] [(4,.int .i64 (n2:Int))]) (fun s2=>h.ext [.cells [.int .u8 l0.typ,.int .i64 l0.n,.int .u64 l0.time,.int .u8 l0.dot.actor.rep,.int .u32 l0.dot.actor.inc,.int .u64 l0.dot.seq,.str l0.text,.sl 5 (l0.items.map GItem.row),.sl 3 (l0.tombs.map GDot.row)],.cells [.int .u8 (0:Int),.int .u32 (0:Int),.int .u64 (0:Int)]] []) hF (fun _ _=>by simp only [xB,upd,List.set_cons_succ,List.set_cons_zero];try rfl) (wk.le (by exact (.drop (.eq (.drop (.drop (.cons (leV.of_eq rfl) (.d16 (.d16 (.d16 (.d16 (.d16 (.d16 (.d16 (.d16 (.d16 (.d16 (.d16 (.d16 (.d4 (.d4 leL.nil))))))))))))))))))))) ?_
   intro n2 s2 hi2 hF
   refine zn (zn (ze ?_))
   refine zc rfl (zg rfl yp (zb rfl)) (sk (sk xp)) ?_
   refine zc rfl (zd rfl ym yB rfl) (sk (sk xI)) ?_
   refine zc rfl (zq rfl xW (gk (gk xh)) rfl (zt rfl) (zb rfl)) (sk (sk xN)) ?_
   refine yj rfl (ya rfl rfl rfl rfl yX (gk (gk xu)) yC) (sk (sk xC)) fun hn40=>?_
   replace hn40:=wW hn40
   refine zc rfl (zz rfl (gk (gk yR)) (gk (gk xr)) rfl) (sk (sk xR)) ?_
   refine zf (zk ?_)
   refine xO (gk (gk xK)) hF (fun x2 o2 hl2 hx2 hF hK2=>?_) (fun hF=>?_)
   ·refine zN (zk (zn (zW (zn (ze ?_)))))
    refine zc rfl (zd rfl ym yB rfl) (sk (sk yE)) ?_
    refine zc rfl (zq rfl xW (gk (gk yD)) rfl (zt rfl) (zb rfl)) (sk (sk yK)) ?_
    refine zc rfl (zg rfl yp (zb rfl)) (sk (sk yT)) ?_
    refine zc rfl (yM rfl yX (gk (gk yI)) (gk (gk yY)) isl (wc hx2)) (sk (sk yS)) ?_
    refine zc rfl (yW rfl ty47.choose_spec.1 (gk (gk yO)) (zu (cs':=[.int .u64 x2.time,.int .u8 x2.dot.actor.rep,.int .u32 x2.dot.actor.inc,.int .u64 x2.dot.seq,.str x2.text]) ty47.choose_spec.2 rfl rfl) (zb rfl)) (sk (sk yZ)) ?_
    refine zc rfl (xG (n:=2) rfl ze47 rfl) xp ?_
    refine zc rfl (zP (cs':=[.int .u64 x2.time,.int .u8 x2.dot.actor.rep,.int .u32 x2.dot.actor.inc,.int .u64 x2.dot.seq,.str x2.text]) rfl ty47.choose_spec.1 yR (gk (gk y4)) (zb rfl) rfl rfl rfl rfl rfl) rfl ?_
    refine zf (zk (zn (zn (ze ?_))))
    refine zc rfl (zd rfl wI yR rfl) (sk (sk y8)) ?_
    refine zc rfl (zq rfl ty27.choose_spec.1 (gk (gk xd)) rfl (zu (cs':=[.int .u8 x2.dot.actor.rep,.int .u32 x2.dot.actor.inc,.int .u64 x2.dot.seq]) ty27.choose_spec.2 rfl rfl) (zb rfl)) (sk (sk xk)) ?_
    refine zQ hF (fun v41 hv41 hF=>?_)
    refine zU rfl (zC rfl rfl rfl (zo (gk (gk xl)) zw) (.cons (zb rfl) .nil)) (ok22 hv41) (sk (sk xJ)) ?_
    refine zc rfl (vB rfl (gk (gk xL)) rfl) (sk (sk xQ)) ?_
    refine zc rfl (zg rfl (gk (gk xX)) (zb rfl)) (sk (sk wb)) ?_
    refine zr rfl (fun hb=>zd rfl fo47x2 yR rfl) (sk (sk wl)) ?_
    refine zr rfl (fun hb=>zq rfl ty9 (zp (gk (gk wq)) hb) rfl (zt rfl) (zb rfl)) (sk (sk wp)) ?_
    refine xq rfl (fun hb=>wA rfl rfl rfl rfl ty9 (zp (gk (gk wg)) hb)) (sk (sk wu)) fun hn42=>?_
    refine zr rfl (fun hb=>zz rfl (zp (gk (gk ww)) hb) rfl rfl) (sk (sk wz)) ?_
    refine zc rfl (zM rfl (gk (gk wa)) rfl (gk (gk wv)) (zZ (fun ht=>gF ht))) (sk (sk wV)) ?_
    refine zc rfl (zg rfl (gk (gk wD)) (zb rfl)) (sk (sk wU)) ?_
    refine zr rfl (fun hb=>zd rfl vu yB rfl) (sk (sk wG)) ?_
    refine zr rfl (fun hb=>zq rfl ty5 (zp (gk (gk wH)) hb) rfl (zt rfl) (zb rfl)) (sk (sk w9)) ?_
    refine zr rfl (fun hb=>zz rfl (zp (gk (gk we)) hb) rfl rfl) (sk (sk w8)) ?_
    refine zr rfl (fun hb=>zg rfl (zp (gk (gk va)) hb) (zb rfl)) (sk (sk w7)) ?_
    refine zr (yc rfl rfl rfl) (fun hb=>zd rfl qX yR rfl) (sk (sk wT)) ?_
    refine zr (yc rfl rfl rfl) (fun hb=>zq rfl xM (zp (gk (gk wQ)) hb) rfl (zt rfl) (zb rfl)) (sk (sk wS)) ?_
    refine zr (yc rfl rfl rfl) (fun hb=>zz rfl (zp (gk (gk wY)) hb) rfl rfl) (sk (sk wR)) ?_
    refine zr rfl (fun hb=>zM rfl (zp (gk (gk wZ)) hb) (gk (gk wX)) rfl (zS (fun ht=>gT2 hb ht))) (sk (sk vg)) ?_
    refine zc rfl (zM rfl (gk (gk w4)) rfl (gk (gk vn)) (zZ (fun ht=>gF ht))) (sk (sk vf)) ?_
    refine zc rfl (zg rfl (gk (gk vm)) (zb rfl)) (sk (sk vI)) ?_
    refine zr rfl (fun hb=>zd rfl vu yB rfl) (sk (sk vN)) ?_
    refine zr rfl (fun hb=>zq rfl ty5 (zp (gk (gk vO)) hb) rfl (zt rfl) (zb rfl)) (sk (sk vZ)) ?_
    refine zr rfl (fun hb=>zz rfl (zp (gk (gk qe)) hb) rfl rfl) (sk (sk (sk st0))) ?_
    refine zr rfl (fun hb=>zg rfl (zp (gk (gk (gk yh))) hb) (zb rfl)) (sk (sk (sk st1))) ?_
    refine zr (yc rfl rfl rfl) (fun hb=>zd rfl qX yR rfl) (sk (sk (sk xf))) ?_
    refine zr (yc rfl rfl rfl) (fun hb=>zq rfl xM (zp (gk (gk (gk yv))) hb) rfl (zt rfl) (zb rfl)) (sk (sk (sk x5))) ?_
    refine zr (yc rfl rfl rfl) (fun hb=>zz rfl (zp (gk (gk (gk yf))) hb) rfl rfl) (sk (sk (sk yV))) ?_
    refine zr (yc rfl rfl rfl) (fun hb=>zg rfl (zp (gk (gk (gk yp))) hb) (zb rfl)) (sk (sk (sk xp))) ?_
    refine zr (yc rfl rfl rfl) (fun hb=>zd rfl qX yR rfl) (sk (sk (sk xI))) ?_
    refine zr (yc rfl rfl rfl) (fun hb=>zq rfl xM (zp (gk (gk (gk xh))) hb) rfl (zt rfl) (zb rfl)) (sk (sk (sk xN))) ?_
    refine zr (yc rfl rfl rfl) (fun hb=>zz rfl (zp (gk (gk (gk xu))) hb) rfl rfl) (sk (sk (sk xC))) ?_
    refine zr (yc rfl rfl rfl) (fun hb=>zM rfl (zp (gk (gk (gk yR))) hb) rfl (gk (gk (gk xr))) (zZ (fun ht=>gF2 hb ht))) (sk (sk (sk xR))) ?_
    refine zr rfl (fun hb=>zM rfl (zp (gk (gk (gk yB))) hb) (gk (gk (gk xK))) rfl (zS (fun ht=>gT2 hb ht))) (sk (sk (sk yy))) ?_
    refine zc rfl (zM rfl (gk (gk vC)) rfl (gk (gk (gk yw))) (zZ (fun ht=>gF ht))) (sk (sk (sk yx))) ?_
    refine zc rfl (zg rfl (gk (gk (gk yr))) (zb rfl)) (sk (sk (sk yE))) ?_
    refine zr rfl (fun hb=>zd rfl ym yB rfl) (sk (sk (sk yK))) ?_
    refine zr rfl (fun hb=>zq rfl xW (zp (gk (gk (gk yI))) hb) rfl (zt rfl) (zb rfl)) (sk (sk (sk yT))) ?_
    refine zr rfl (fun hb=>zd rfl wI yR rfl) (sk (sk (sk yS))) ?_
    refine zr rfl (fun hb=>zq rfl ty27.choose_spec.1 (zp (gk (gk (gk yO))) hb) rfl (zu (cs':=[.int .u8 x2.dot.actor.rep,.int .u32 x2.dot.actor.inc,.int .u64 x2.dot.seq]) ty27.choose_spec.2 rfl rfl) (zb rfl)) (sk (sk (sk yZ))) ?_
    refine yP hF (fun v43 hv43 hF=>?_)
    refine yJ rfl (fun hb=>zC rfl rfl rfl (zo (zp (gk (gk (gk yY))) hb) (zo (zp (gk (gk (gk y4))) hb) zw)) (.cons (zb rfl) (.cons (zb rfl) .nil))) (fun hb=>ok23 (hv43 hb)) (sk (sk (sk y8))) ?_
    refine zr rfl (fun hb=>zg rfl yp (zb rfl)) (sk (sk (sk xk))) ?_
    refine zr rfl (fun hb=>zz rfl (zp (gk (gk (gk xd))) hb) (zp (gk (gk (gk xl))) hb) rfl) (sk (sk (sk xJ))) ?_
    refine zc rfl (zM rfl (gk (gk (gk yD))) rfl (gk (gk (gk xL))) (zZ (fun ht=>gF ht))) (sk (sk (sk xQ))) ?_
    refine zc rfl (zg rfl (gk (gk (gk xX))) (zb rfl)) (sk (sk (sk wb))) ?_
    refine zr rfl (fun hb=>zd rfl y5 yB rfl) (sk (sk (sk wl))) ?_
    refine zr rfl (fun hb=>zq rfl xP (zp (gk (gk (gk wq))) hb) rfl (zt rfl) (zb rfl)) (sk (sk (sk wp))) ?_
    refine zr rfl (fun hb=>zd rfl wI yR rfl) (sk (sk (sk wu))) ?_
    refine zr rfl (fun hb=>zq rfl ty27.choose_spec.1 (zp (gk (gk (gk ww))) hb) rfl (zu (cs':=[.int .u8 x2.dot.actor.rep,.int .u32 x2.dot.actor.inc,.int .u64 x2.dot.seq]) ty27.choose_spec.2 rfl rfl) (zb rfl)) (sk (sk (sk wz))) ?_
    refine yP hF (fun v44 hv44 hF=>?_)
    refine yJ rfl (fun hb=>zC rfl rfl rfl (zo (zp (gk (gk (gk wg))) hb) (zo (zp (gk (gk (gk wv))) hb) zw)) (.cons (zb rfl) (.cons (zb rfl) .nil))) (fun hb=>ok24 (hv44 hb)) (sk (sk (sk wV))) ?_
    refine zc rfl (zM rfl (gk (gk (gk wa))) rfl (gk (gk (gk wD))) (zZ (fun ht=>gF ht))) (sk (sk (sk wU))) ?_
    refine zf (zk ?_)
    refine zI (gk (gk (gk w4))) hF (fun hc45 hF=>?_) (fun hc45 hF=>?_)
    ·refine zn (ze ?_)
     refine zc rfl (zj rfl rfl (zb rfl)) xf ?_
     refine zf (zk (zJ (zD ?_)))
     refine zL ?_
     refine zD ?_
     refine yN ?_
     obtain rfl:=Option.some.inj hF
     replace hF:=hK2
     refine zL ?_
     refine zD ?_
     obtain rfl:=Option.some.inj hF
     refine zF rfl (zH yv zA) (zB (leV.refl _) rfl ?_)
     exact ⟨rfl,rfl⟩
    ·refine zN (zk (zn ?_))
     refine yb [] [] trivial mixed (by kernel_rfl) ?_
     refine zi rfl rfl (zg rfl yp (zb rfl)) (sk (sk (sk wG))) ?_
     refine zi rfl rfl (zz rfl (gk (gk (gk wH))) rfl rfl) (sk (sk (sk w9))) ?_
     refine zi rfl rfl (zg rfl (gk (gk (gk we))) (zb rfl)) (sk (sk (sk w8))) ?_
     refine zy rfl rfl (fun hb=>zd rfl ym yB rfl) (sk (sk (sk w7))) ?_
     refine zy rfl rfl (fun hb=>zq rfl xW (zp (gk (gk (gk wZ))) hb) rfl (zt rfl) (zb rfl)) (sk (sk (sk wT))) ?_
     refine zy rfl rfl (fun hb=>zg rfl yp (zb rfl)) (sk (sk (sk wS))) ?_
     refine zy rfl rfl (fun hb=>zz rfl (zp (gk (gk (gk wY))) hb) rfl rfl) (sk (sk (sk wR))) ?_
     refine vz hF (fun hg46 hF=>?_)
     refine zy rfl rfl (fun hb=>wi default rfl yX (zp (gk (gk (gk wQ))) hb) (zp (gk (gk (gk wX))) hb) isl (hg46 hb)) (sk (sk (sk vg))) ?_
     refine zy rfl rfl (fun hb=>zd rfl qX (zp (gk (gk (gk vn))) hb) rfl) (sk (sk (sk vf))) ?_
     refine zy rfl rfl (fun hb=>yW rfl xM (zp (gk (gk (gk vm))) hb) (zt rfl) (zb rfl)) (sk (sk (sk vI))) ?_
     refine zy rfl rfl (fun hb=>zd rfl ym yB rfl) (sk (sk (sk vN))) ?_
     refine zy rfl rfl (fun hb=>zq rfl xW (zp (gk (gk (gk vO))) hb) rfl (zt rfl) (zb rfl)) (sk (sk (sk vZ))) ?_
     refine zy rfl rfl (fun hb=>zg rfl yp (zb rfl)) (sk (sk (sk (sk st0)))) ?_
     refine zy rfl rfl (fun hb=>zz rfl (zp (gk (gk (gk (gk yh)))) hb) rfl rfl) (sk (sk (sk (sk st1)))) ?_
     refine vz hF (fun hg47 hF=>?_)
     refine zy rfl rfl (fun hb=>wi default rfl yX (zp (gk (gk (gk qe))) hb) (zp (gk (gk (gk (gk yB)))) hb) isl (hg47 hb)) (sk (sk (sk (sk xf)))) ?_
     refine zy rfl rfl (fun hb=>zd rfl wI (zp (gk (gk (gk (gk yv)))) hb) rfl) (sk (sk (sk (sk x5)))) ?_
     refine zy rfl rfl (fun hb=>yW rfl ty27.choose_spec.1 (zp (gk (gk (gk (gk yf)))) hb) (zu (cs':=[.int .u8 (((l0.items).getD (IntKind.wrap .i64 ((n2:Int) - (1:Int))).toNat default).dot.actor.rep),.int .u32 (((l0.items).getD (IntKind.wrap .i64 ((n2:Int) - (1:Int))).toNat default).dot.actor.inc),.int .u64 (((l0.items).getD (IntKind.wrap .i64 ((n2:Int) - (1:Int))).toNat default).dot.seq)]) ty27.choose_spec.2 rfl rfl) (zb rfl)) (sk (sk (sk (sk yV)))) ?_
     refine zy rfl rfl (fun hb=>zd rfl qX yR rfl) (sk (sk (sk (sk xp)))) ?_
     refine zy rfl rfl (fun hb=>zq rfl xM (zp (gk (gk (gk (gk yR)))) hb) rfl (zt rfl) (zb rfl)) (sk (sk (sk (sk xI)))) ?_
     refine zy rfl rfl (fun hb=>zd rfl wI yR rfl) (sk (sk (sk (sk xN)))) ?_
     refine zy rfl rfl (fun hb=>zq rfl ty27.choose_spec.1 (zp (gk (gk (gk (gk xu)))) hb) rfl (zu (cs':=[.int .u8 x2.dot.actor.rep,.int .u32 x2.dot.actor.inc,.int .u64 x2.dot.seq]) ty27.choose_spec.2 rfl rfl) (zb rfl)) (sk (sk (sk (sk xC)))) ?_
     refine yP hF (fun v48 hv48 hF=>?_)
     refine xn rfl rfl (fun hb=>zC rfl rfl rfl (zo (zp (gk (gk (gk vC))) hb) (zo (zp (gk (gk (gk (gk yp)))) hb) (zo (zp (gk (gk (gk (gk xh)))) hb) (zo (zp (gk (gk (gk (gk xr)))) hb) zw)))) (.cons (zb rfl) (.cons (zb rfl) (.cons (zb rfl) (.cons (zb rfl) .nil))))) (fun hb=>ok14 (hv48 hb)) (sk (sk (sk (sk xR)))) ?_
     refine zy rfl rfl (fun hb=>vB rfl (zp (gk (gk (gk (gk xK)))) hb) rfl) (sk (sk (sk (sk yy)))) ?_
     refine zi rfl rfl (zM rfl (gk (gk (gk va))) (gk (gk (gk (gk yw)))) rfl (zS (fun ht=>gT ht))) (sk (sk (sk (sk yx)))) ?_
     refine zX ?_
     refine zk ?_
     refine zI (gk (gk (gk (gk yr)))) hF (fun hc49 hF=>?_) (fun hc49 hF=>?_)
     ·refine zn (ze ?_)
      refine zc rfl (zj rfl rfl (zb rfl)) xf ?_
      refine zf (zk (zJ ?_))
      refine zL ?_
      refine zD ?_
      refine yN ?_
      obtain rfl:=Option.some.inj hF
      replace hF:=hK2
      refine zL ?_
      refine zD ?_
      obtain rfl:=Option.some.inj hF
      refine zF rfl (zH yv zA) (zB (leV.refl _) rfl ?_)
      exact ⟨rfl,rfl⟩
     ·refine zN (ye (zk (ze ?_)))
      refine zc rfl (zg rfl yp (zb rfl)) (sk (sk yy)) ?_
      refine zc rfl (zz rfl (gk (gk yw)) rfl rfl) (sk (sk yx)) ?_
      refine zc rfl (zj rfl (gk (gk yr)) (zb rfl)) yV ?_
      refine zf (xw ?_)
      obtain rfl:=Option.some.inj hF
      exact ⟨(),hl2,hK2,wk.trans (wk.le (by exact (.drop (.eq (.drop (.drop (.cons (leV.of_eq (qT (by omega) (by omega))) (.d16 (.d16 (.d16 (.d16 (.d16 (.d16 (.d16 (.d16 (.d16 (.d16 (.d16 (.d16 (.d4 (.d4 leL.nil))))))))))))))))))))) (vX (by simp [y3,AV.low]) rfl rfl (by simp [Blk.low,y3,AV.low]))⟩
   ·refine xD ?_
    refine yd ?_
    refine z7 ?_
    refine z8 ?_
    refine zk (zn (zn (ze ?_)))
    refine zc rfl (zj rfl rfl (zb rfl)) xI ?_
    refine zf (zk (zW ?_))
    refine xi (fun (n3:Nat) (s3:Unit)=>xB [0,2,3,4,5,7,8,9,10,11,12,13,14,15,16,17,18,19,20,21,22,23,24,25,26,27,28,29,30,31,32,33,34,35,36,37,38,39,40,41,42,43,44,45,46,47,48,49,50,51,52,53,54,55,56,57,58,59,60,61,62,63,64,65,66,67,68,69,70,71,72,73,74,75,76,77,78,79,80,81,82,83,84,85,86,87,88,89,90,91,92,93,94,95,96,97,98,99,100,101,102,103,104,105,106,107,108,109,110,111,112,113,114,115,116,117,118,119,120,121,122,123,124,125,126,127,128,129,130,131,132,133,134,135,136,137,138,139,140,141,142,143,144,145,146,147,148,149,150,151,152,153,154,155,156,157,158,159,160,161,162,163,164,165,166,167,168,169,170,171,172,173,174,175,176,177,178,179,180,181,182,183,184,185,186,187,188,189,190,191,192,193,194,195,196,197,198,199,200,201,202,203,204] [(6,.int .i64 (n3:Int))]) (fun s3=>h.ext [.cells [.int .u8 l0.typ,.int .i64 l0.n,.int .u64 l0.time,.int .u8 l0.dot.actor.rep,.int .u32 l0.dot.actor.inc,.int .u64 l0.dot.seq,.str l0.text,.sl 5 (l0.items.map GItem.row),.sl 3 (l0.tombs.map GDot.row)],.cells [.int .u8 (0:Int),.int .u32 (0:Int),.int .u64 (0:Int)]] []) hF (fun _ _=>by simp only [xB,upd,List.set_cons_succ,List.set_cons_zero];try rfl) (wk.le (by exact (.drop (.eq (.d4 (.cons (leV.of_eq rfl) (.d16 (.d16 (.d16 (.d16 (.d16 (.d16 (.d16 (.d16 (.d16 (.d16 (.d16 (.d16 (.d4 (.drop (.drop leL.nil))))))))))))))))))))) ?_
    intro n3 s3 hi3 hF
    refine zn (zn (ze ?_))
    refine zc rfl (zg rfl xh (zb rfl)) (sk (sk (sk (sk yE)))) ?_
    refine zc rfl (zd rfl y5 yB rfl) (sk (sk (sk (sk yK)))) ?_
    refine zc rfl (zq rfl xP (gk (gk (gk (gk yI)))) rfl (zt rfl) (zb rfl)) (sk (sk (sk (sk yT)))) ?_
    refine yj rfl (ya rfl rfl rfl rfl yU (gk (gk (gk (gk yY)))) yC) (sk (sk (sk (sk yS)))) fun hn72=>?_
    replace hn72:=wW hn72
    refine zc rfl (zz rfl (gk (gk (gk (gk yD)))) (gk (gk (gk (gk yO)))) rfl) (sk (sk (sk (sk yZ)))) ?_
    refine zf (zk ?_)
    refine xO (gk (gk (gk (gk y4)))) hF (fun x3 o3 hl3 hx3 hF hK3=>?_) (fun hF=>?_)
    ·refine zN (zk (zn (zW (zn ?_))))
     refine yb [5] [] trivial mixed (by kernel_rfl) ?_
     refine zi rfl rfl (zd rfl y5 yB rfl) (sk (sk (sk (sk xJ)))) ?_
     refine zi rfl rfl (zq rfl xP (gk (gk (gk (gk xL)))) rfl (zt rfl) (zb rfl)) (sk (sk (sk (sk xQ)))) ?_
     refine zi rfl rfl (zg rfl xh (zb rfl)) (sk (sk (sk (sk wb)))) ?_
     refine zi rfl rfl (yM rfl yU (gk (gk (gk (gk xX)))) (gk (gk (gk (gk wa)))) isl (wc hx3)) (sk (sk (sk (sk wl)))) ?_
     refine zi rfl rfl (yW rfl ty27.choose_spec.1 (gk (gk (gk (gk wq)))) (zu (cs':=[.int .u8 x3.actor.rep,.int .u32 x3.actor.inc,.int .u64 x3.seq]) ty27.choose_spec.2 rfl rfl) (zb rfl)) (sk (sk (sk (sk wp)))) ?_
     refine zQ hF (fun v73 hv73 hF=>?_)
     refine yQ rfl rfl (fun _=>zC rfl rfl rfl (zo (gk (gk (gk (gk wg)))) zw) (.cons (zb rfl) .nil)) (by rintro _ ⟨B2,T2,rfl,hk2⟩;exact ok22 hv73) (sk (sk (sk (sk wu)))) ?_
     refine zi rfl rfl (vB rfl (gk (gk (gk (gk ww)))) rfl) (sk (sk (sk (sk wz)))) ?_
     refine zi rfl rfl (zg rfl (gk (gk (gk (gk wv)))) (zb rfl)) (sk (sk (sk (sk wV)))) ?_
     refine zy rfl rfl (fun hb=>zg rfl xh (zb rfl)) (sk (sk (sk (sk wU)))) ?_
     refine zy rfl rfl (fun hb=>zz rfl (zp (gk (gk (gk (gk w4)))) hb) rfl rfl) (sk (sk (sk (sk wG)))) ?_
     refine zy rfl rfl (fun hb=>zg rfl (zp (gk (gk (gk (gk wH)))) hb) (zb rfl)) (sk (sk (sk (sk w9)))) ?_
     refine zy rfl (yc rfl rfl rfl) (fun hb=>zd rfl y5 yB rfl) (sk (sk (sk (sk w8)))) ?_
     refine zy rfl (yc rfl rfl rfl) (fun hb=>zq rfl xP (zp (gk (gk (gk (gk va)))) hb) rfl (zt rfl) (zb rfl)) (sk (sk (sk (sk w7)))) ?_
     refine zy rfl (yc rfl rfl rfl) (fun hb=>zg rfl xh (zb rfl)) (sk (sk (sk (sk wT)))) ?_
     refine zy rfl (yc rfl rfl rfl) (fun hb=>zz rfl (zp (gk (gk (gk (gk wQ)))) hb) rfl rfl) (sk (sk (sk (sk wS)))) ?_
     refine vz hF (fun hg74 hF=>?_)
     refine zy rfl (yc rfl rfl rfl) (fun hb=>wi default rfl yU (zp (gk (gk (gk (gk wZ)))) hb) (zp (gk (gk (gk (gk wY)))) hb) isl (hg74 hb)) (sk (sk (sk (sk wR)))) ?_
     refine zy rfl (yc rfl rfl rfl) (fun hb=>yW rfl ty27.choose_spec.1 (zp (gk (gk (gk (gk wX)))) hb) (zu (cs':=[.int .u8 (((l0.tombs).getD (IntKind.wrap .i64 ((n3:Int) - (1:Int))).toNat default).actor.rep),.int .u32 (((l0.tombs).getD (IntKind.wrap .i64 ((n3:Int) - (1:Int))).toNat default).actor.inc),.int .u64 (((l0.tombs).getD (IntKind.wrap .i64 ((n3:Int) - (1:Int))).toNat default).seq)]) ty27.choose_spec.2 rfl rfl) (zb rfl)) (sk (sk (sk (sk vg)))) ?_
     refine zy rfl (yc rfl rfl rfl) (fun hb=>zd rfl y5 yB rfl) (sk (sk (sk (sk vf)))) ?_
     refine zy rfl (yc rfl rfl rfl) (fun hb=>zq rfl xP (zp (gk (gk (gk (gk vm)))) hb) rfl (zt rfl) (zb rfl)) (sk (sk (sk (sk vI)))) ?_
     refine zy rfl (yc rfl rfl rfl) (fun hb=>zg rfl xh (zb rfl)) (sk (sk (sk (sk vN)))) ?_
     refine vz hF (fun hg75 hF=>?_)
     refine zy rfl (yc rfl rfl rfl) (fun hb=>wi default rfl yU (zp (gk (gk (gk (gk vC)))) hb) (zp (gk (gk (gk (gk vO)))) hb) isl (hg75 hb)) (sk (sk (sk (sk vZ)))) ?_
     refine zy rfl (yc rfl rfl rfl) (fun hb=>yW rfl ty27.choose_spec.1 (zp (gk (gk (gk (gk qe)))) hb) (zu (cs':=[.int .u8 (((l0.tombs).getD (n3:Int).toNat default).actor.rep),.int .u32 (((l0.tombs).getD (n3:Int).toNat default).actor.inc),.int .u64 (((l0.tombs).getD (n3:Int).toNat default).seq)]) ty27.choose_spec.2 rfl rfl) (zb rfl)) (sk (sk (sk (sk (sk st0))))) ?_
     refine yP hF (fun v76 hv76 hF=>?_)
     refine xn rfl (yc rfl rfl rfl) (fun hb=>zC rfl rfl rfl (zo (zp (gk (gk (gk (gk vn)))) hb) (zo (zp (gk (gk (gk (gk (gk yh))))) hb) zw)) (.cons (zb rfl) (.cons (zb rfl) .nil))) (fun hb=>ok25 (hv76 hb)) (sk (sk (sk (sk (sk st1))))) ?_
     refine zy rfl (yc rfl rfl rfl) (fun hb=>vB rfl (zp (gk (gk (gk (gk (gk yB))))) hb) rfl) (sk (sk (sk (sk (sk xf))))) ?_
     refine zy rfl rfl (fun hb=>zM rfl (zp (gk (gk (gk (gk we)))) hb) (gk (gk (gk (gk (gk yv))))) rfl (zS (fun ht=>gT2 hb ht))) (sk (sk (sk (sk (sk x5))))) ?_
     refine zi rfl rfl (zM rfl (gk (gk (gk (gk wD)))) rfl (gk (gk (gk (gk (gk yf))))) (zZ (fun ht=>gF ht))) (sk (sk (sk (sk (sk yV))))) ?_
     refine zX ?_
     refine zk ?_
     refine zI (gk (gk (gk (gk (gk yp))))) hF (fun hc77 hF=>?_) (fun hc77 hF=>?_)
     ·refine zn (ze ?_)
      refine zc rfl (zj rfl rfl (zb rfl)) xf ?_
      refine zf (zk (zJ ?_))
      refine zL ?_
      refine zD ?_
      refine yN ?_
      obtain rfl:=Option.some.inj hF
      replace hF:=hK3
      refine zL ?_
      refine zD ?_
      obtain rfl:=Option.some.inj hF
      refine zF rfl (zH yv zA) (zB (leV.refl _) rfl ?_)
      exact ⟨rfl,rfl⟩
     ·refine zN (ye (zk (ze ?_)))
      refine zc rfl (zg rfl xh (zb rfl)) (sk (sk (sk (sk y8)))) ?_
      refine zc rfl (zz rfl (gk (gk (gk (gk xd)))) rfl rfl) (sk (sk (sk (sk xk)))) ?_
      refine zc rfl (zj rfl (gk (gk (gk (gk xl)))) (zb rfl)) xI ?_
      refine zf (xw ?_)
      obtain rfl:=Option.some.inj hF
      exact ⟨(),hl3,hK3,wk.le (by exact (.drop (.eq (.d4 (.cons (leV.of_eq (qT (by omega) (by omega))) (.d16 (.d16 (.d16 (.d16 (.d16 (.d16 (.d16 (.d16 (.d16 (.d16 (.d16 (.d16 (.d4 (.drop (.drop leL.nil))))))))))))))))))))⟩
    ·refine xD ?_
     refine yd ?_
     refine z7 ?_
     refine z8 ?_
     refine zk (zn (ze ?_))
     refine zc rfl (zj rfl rfl (zb rfl)) xf ?_
     refine zf (zk (zJ ?_))
     obtain rfl:=Option.some.inj hF
     refine zF rfl (zH yv zA) (zB (leV.refl _) rfl ?_)
     exact ⟨rfl,rfl⟩
/-! varve/varveref05.New -/
theorem ok12 {kind0:Int} {res:GLeaf} {h:AH}  (hF:ref05New kind0=some res):Spec Tryz.prog 12 [.int .u8 kind0] h (fun rr hh=>rr=.agg [.int .u8 res.typ,.int .i64 res.n,.int .u64 res.time,.int .u8 res.dot.actor.rep,.int .u32 res.dot.actor.inc,.int .u64 res.dot.seq,.str res.text,.sl 5 (res.items.map GItem.row),.sl 3 (res.tombs.map GDot.row)]∧hh=h):=by
 unfold ref05New at hF
 refine zx Tryz.func12 rfl (by kernel_rfl) (env:=[.int .u8 kind0,za,za,za,za,za,za,za,za,za,za,za]) (by rfl) ?_
 refine zn (ze ?_)
 refine zc rfl (xG (n:=0) rfl ze31 rfl) xf ?_
 refine zf (zk (zn (zn (ze ?_))))
 refine zc rfl (zg rfl yh (zb rfl)) x5 ?_
 refine zc rfl (zz rfl yf rfl rfl) yV ?_
 refine zc rfl (zg rfl yp (zb rfl)) xp ?_
 refine zr rfl (fun hb=>zg rfl yh (zb rfl)) xI ?_
 refine zr rfl (fun hb=>zz rfl (zp xh hb) rfl rfl) xN ?_
 refine zc rfl (zM rfl yR xu rfl (zS (fun ht=>gT ht))) xC ?_
 refine zf (zk ?_)
 refine zI xr hF (fun hc1 hF=>?_) (fun hc1 hF=>?_)
 ·refine zn (ze ?_)
  refine zc rfl (zg rfl yh (zb rfl)) xR ?_
  refine zc rfl (xc (cs':=[.int .u8 kind0,.int .i64 (0:Int),.int .u64 (0:Int),.int .u8 (0:Int),.int .u32 (0:Int),.int .u64 (0:Int),.str ([]:yn),.osl none 5 (([]:List GItem).map GItem.row),.osl none 3 (([]:List GDot).map GDot.row)]) rfl su31 ze31 pl31 (zK xK zT) (.cons (zb rfl) .nil) rfl rfl) yy ?_
  refine zc rfl (zP (cs':=[.int .u8 kind0,.int .i64 (0:Int),.int .u64 (0:Int),.int .u8 (0:Int),.int .u32 (0:Int),.int .u64 (0:Int),.str ([]:yn),.osl none 5 (([]:List GItem).map GItem.row),.osl none 3 (([]:List GDot).map GDot.row)]) rfl ty31.choose_spec.1 yv yw (zb rfl) rfl rfl rfl rfl rfl) rfl ?_
  refine zf (zk (zJ (zD ?_)))
  obtain rfl:=Option.some.inj hF
  refine zF rfl (xg ty31.choose_spec.1 yv rfl (zu (cs':=[.int .u8 kind0,.int .i64 (0:Int),.int .u64 (0:Int),.int .u8 (0:Int),.int .u32 (0:Int),.int .u64 (0:Int),.str ([]:yn),.osl none 5 (([]:List GItem).map GItem.row),.osl none 3 (([]:List GDot).map GDot.row)]) ty31.choose_spec.2 rfl rfl) (zb rfl) zA) (zB (leV.agg (.eq (.eq (.eq (.eq (.eq (.eq (.eq (.cons (leV.osl _ _ _) (.cons (leV.osl _ _ _) leL.nil))))))))) rfl) rfl ?_)
  exact ⟨rfl,rfl⟩
 ·refine zN (zk (zn (ze ?_)))
  refine zc rfl (xc (cs':=[.int .u8 (0:Int),.int .i64 (0:Int),.int .u64 (0:Int),.int .u8 (0:Int),.int .u32 (0:Int),.int .u64 (0:Int),.str ([]:yn),.osl none 5 (([]:List GItem).map GItem.row),.osl none 3 (([]:List GDot).map GDot.row)]) rfl su31 ze31 pl31 zT .nil rfl rfl) yx ?_
  refine zc rfl (zP (cs':=[.int .u8 (0:Int),.int .i64 (0:Int),.int .u64 (0:Int),.int .u8 (0:Int),.int .u32 (0:Int),.int .u64 (0:Int),.str ([]:yn),.osl none 5 (([]:List GItem).map GItem.row),.osl none 3 (([]:List GDot).map GDot.row)]) rfl ty31.choose_spec.1 yv yr (zb rfl) rfl rfl rfl rfl rfl) rfl ?_
  refine zf (zk (zJ ?_))
  obtain rfl:=Option.some.inj hF
  refine zF rfl (xg ty31.choose_spec.1 yv rfl (zu (cs':=[.int .u8 (0:Int),.int .i64 (0:Int),.int .u64 (0:Int),.int .u8 (0:Int),.int .u32 (0:Int),.int .u64 (0:Int),.str ([]:yn),.osl none 5 (([]:List GItem).map GItem.row),.osl none 3 (([]:List GDot).map GDot.row)]) ty31.choose_spec.2 rfl rfl) (zb rfl) zA) (zB (leV.agg (.eq (.eq (.eq (.eq (.eq (.eq (.eq (.cons (leV.osl _ _ _) (.cons (leV.osl _ _ _) leL.nil))))))))) rfl) rfl ?_)
  exact ⟨rfl,rfl⟩
/-! varve/varveref04.IsName -/
theorem ok92 {s0:yn} {res:Bool} {h:AH}  (hF:ref04IsName s0=some res):Spec Tryz.prog 92 [.str s0] h (fun rr hh=>rr=.bool res∧hh=h):=by
 unfold ref04IsName at hF
 refine zx Tryz.func92 rfl (by kernel_rfl) (env:=[.str s0,za,za,za,za,za,za,za,za,za,za,za,za,za,za,za,za,za,za,za,za,za,za,za,za,za,za,za,za,za,za,za,za,za,za,za,za,za,za,za,za,za,za,za,za]) (by rfl) ?_
 refine zn (ze ?_)
 refine zc rfl (zj rfl rfl (zb rfl)) xf ?_
 refine zf (zk (zn (zn (ze ?_))))
 refine zc rfl (zg rfl yh (zb rfl)) xp ?_
 refine yj rfl (wA rfl rfl rfl rfl ty9 yR) xI fun hn1=>?_
 replace hn1:=wW hn1
 refine zc rfl (zz rfl xh rfl rfl) xN ?_
 refine zc rfl (zg rfl xu (zb rfl)) xC ?_
 refine zr rfl (fun hb=>zg rfl yh (zb rfl)) xR ?_
 refine xq rfl (fun hb=>wA rfl rfl rfl rfl ty9 (zp xK hb)) yy fun hn2=>?_
 refine zr rfl (fun hb=>zz rfl (zp yw hb) rfl rfl) yx ?_
 refine zc rfl (zM rfl xr rfl yr (zZ (fun ht=>gF ht))) yE ?_
 refine zf (zk ?_)
 refine zI yD hF (fun hc3 hF=>?_) (fun hc3 hF=>?_)
 ·refine zn (ze ?_)
  refine zc rfl (zj rfl rfl (zb rfl)) xf ?_
  refine zf (zk (zJ (zD ?_)))
  obtain rfl:=Option.some.inj hF
  refine zF rfl (zH yv zA) (zB (leV.refl _) rfl ?_)
  exact ⟨rfl,rfl⟩
 ·refine zN (zk (zn (zn (ze ?_))))
  refine zc rfl (zj rfl rfl (zb rfl)) x5 ?_
  refine zf (zk (zW ?_))
  refine xi (fun (n1:Nat) (s1:Unit)=>xB [1,2,4,5,6,7,8,9,10,11,12,13,14,15,16,17,18,19,20,21,22,23,24,25,26,27,28,29,30,31,32,33,34,35,36,37,38,39,40,41,42,43,44] [(3,.int .i64 (n1:Int))]) (fun s1=>h.ext [] []) hF (fun _ _=>by simp only [xB,upd,List.set_cons_succ,List.set_cons_zero];try rfl) (wk.le (by exact (.eq (.drop (.drop (.cons (leV.of_eq rfl) (.d16 (.d16 (.d4 (.d4 (.drop leL.nil))))))))))) ?_
  intro n1 s1 hi1 hF
  refine zn (zn (ze ?_))
  refine zc rfl (zg rfl yf (zb rfl)) yK ?_
  refine zc rfl (zg rfl yh (zb rfl)) yT ?_
  refine yj rfl (wA rfl rfl rfl rfl ty9 yY) yS fun hn10=>?_
  replace hn10:=wW hn10
  refine zc rfl (zz rfl yI yO rfl) yZ ?_
  refine zf (zk ?_)
  refine xO y4 hF (fun x1 o1 hl1 hx1 hF hK1=>?_) (fun hF=>?_)
  ·refine zN (zk (zn (zW (zn (ze ?_)))))
   refine zc rfl (zg rfl yh (zb rfl)) xJ ?_
   refine zc rfl (zg rfl yf (zb rfl)) xQ ?_
   refine zc rfl (s_idxStr rfl ty9 xL xX (wc hx1)) wb ?_
   refine zc rfl (zj rfl wa (zb rfl)) yV ?_
   refine zf (zk (zn (ze ?_)))
   refine zc rfl (zg rfl yp (zb rfl)) wl ?_
   refine zc rfl (zz rfl wq rfl rfl) wp ?_
   refine zc rfl (zg rfl wg (zb rfl)) wu ?_
   refine zr rfl (fun hb=>zg rfl yp (zb rfl)) wz ?_
   refine zr rfl (fun hb=>zz rfl (zp wv hb) rfl rfl) wV ?_
   refine zc rfl (zM rfl ww wD rfl (zS (fun ht=>gT ht))) wU ?_
   refine zc rfl (zg rfl w4 (zb rfl)) wG ?_
   refine zr rfl (fun hb=>zg rfl yp (zb rfl)) w9 ?_
   refine zr rfl (fun hb=>zz rfl (zp we hb) rfl rfl) w8 ?_
   refine zr rfl (fun hb=>zg rfl (zp va hb) (zb rfl)) w7 ?_
   refine zr (yc rfl rfl rfl) (fun hb=>zg rfl yp (zb rfl)) wT ?_
   refine zr (yc rfl rfl rfl) (fun hb=>zz rfl (zp wQ hb) rfl rfl) wS ?_
   refine zr rfl (fun hb=>zM rfl (zp wZ hb) wY rfl (zS (fun ht=>gT2 hb ht))) wR ?_
   refine zc rfl (zM rfl wH rfl wX (zZ (fun ht=>gF ht))) vg ?_
   refine zc rfl (zg rfl vn (zb rfl)) vf ?_
   refine zr rfl (fun hb=>zg rfl yp (zb rfl)) vI ?_
   refine zr rfl (fun hb=>zz rfl (zp vC hb) rfl rfl) vN ?_
   refine zr rfl (fun hb=>zg rfl (zp vO hb) (zb rfl)) vZ ?_
   refine zr (yc rfl rfl rfl) (fun hb=>zg rfl yp (zb rfl)) (sk st0) ?_
   refine zr (yc rfl rfl rfl) (fun hb=>zz rfl (zp (gk yh) hb) rfl rfl) (sk st1) ?_
   refine zr rfl (fun hb=>zM rfl (zp qe hb) (gk yB) rfl (zS (fun ht=>gT2 hb ht))) (sk xf) ?_
   refine zc rfl (zM rfl vm rfl (gk yv) (zZ (fun ht=>gF ht))) (sk x5) ?_
   refine zc rfl (vB rfl (gk yf) rfl) (sk yV) ?_
   refine zf (zk ?_)
   refine zI (gk yp) hF (fun hc11 hF=>?_) (fun hc11 hF=>?_)
   ·refine zn (ze ?_)
    refine zc rfl (zj rfl rfl (zb rfl)) xf ?_
    refine zf (zk (zJ ?_))
    refine zL ?_
    refine zD ?_
    refine yN ?_
    obtain rfl:=Option.some.inj hF
    replace hF:=hK1
    refine zL ?_
    refine zD ?_
    obtain rfl:=Option.some.inj hF
    refine zF rfl (zH yv zA) (zB (leV.refl _) rfl ?_)
    exact ⟨rfl,rfl⟩
   ·refine zN (ye (zk (ze ?_)))
    refine zc rfl (zg rfl yf (zb rfl)) y8 ?_
    refine zc rfl (zz rfl xd rfl rfl) xk ?_
    refine zc rfl (zj rfl xl (zb rfl)) x5 ?_
    refine zf (xw ?_)
    obtain rfl:=Option.some.inj hF
    exact ⟨(),hl1,hK1,wk.le (by exact (.eq (.drop (.drop (.cons (leV.of_eq (qT (by omega) (by omega))) (.d16 (.d16 (.d4 (.d4 (.drop leL.nil))))))))))⟩
  ·refine xD ?_
   refine yd ?_
   refine z7 ?_
   refine z8 ?_
   refine zk (zn (ze ?_))
   refine zc rfl (zj rfl rfl (zb rfl)) xf ?_
   refine zf (zk (zJ ?_))
   obtain rfl:=Option.some.inj hF
   refine zF rfl (zH yv zA) (zB (leV.refl _) rfl ?_)
   exact ⟨rfl,rfl⟩
/-! varve/varveref04.MayPath -/
theorem ok74 {p0:(List yn)} {res:Bool} {h:AH}  (hF:ref04MayPath p0=some res):Spec Tryz.prog 74 [.sl 1 (p0.map zG)] h (fun rr hh=>rr=.bool res∧hh=h):=by
 unfold ref04MayPath at hF
 refine zx Tryz.func74 rfl (by kernel_rfl) (env:=[.sl 1 (p0.map zG),za,za,za,za,za,za,za,za,za,za,za,za,za,za,za,za,za,za,za,za,za,za,za]) (by rfl) ?_
 refine zn (ze ?_)
 refine zc rfl (zj rfl rfl (zb rfl)) xf ?_
 refine zf (zk (zn (zn (ze ?_))))
 refine zc rfl (zj rfl rfl (zb rfl)) x5 ?_
 refine zf (zk (zW ?_))
 refine xi (fun (n1:Nat) (s1:Unit)=>xB [1,2,4,5,6,7,8,9,10,11,12,13,14,15,16,17,18,19,20,21,22,23] [(3,.int .i64 (n1:Int))]) (fun s1=>h.ext [] []) hF (fun _ _=>by simp only [xB,upd,List.set_cons_succ,List.set_cons_zero];try rfl) (wk.le (by exact (.eq (.drop (.drop (.cons (leV.of_eq rfl) (.d16 (.d4 leL.nil)))))))) ?_
 intro n1 s1 hi1 hF
 refine zn (zn (ze ?_))
 refine zc rfl (zg rfl yf (zb rfl)) yV ?_
 refine zc rfl (zg rfl yh (zb rfl)) xp ?_
 refine yj rfl (ya rfl rfl rfl rfl el32 yR yC) xI fun hn8=>?_
 replace hn8:=wW hn8
 refine zc rfl (zz rfl yp xh rfl) xN ?_
 refine zf (zk ?_)
 refine xO xu hF (fun x1 o1 hl1 hx1 hF hK1=>?_) (fun hF=>?_)
 ·refine zN (zk (zn (zW (zn (ze ?_)))))
  refine zc rfl (zg rfl yh (zb rfl)) yy ?_
  refine zc rfl (zg rfl yf (zb rfl)) yx ?_
  refine zc rfl (yM rfl el32 yw yr isl (wc hx1)) yE ?_
  refine zc rfl (yW rfl ty9 yD (zt rfl) (zb rfl)) yK ?_
  refine zQ hF (fun v9 hv9 hF=>?_)
  refine zU rfl (zC rfl rfl rfl (zo yI zw) (.cons (zb rfl) .nil)) (ok92 hv9) yT ?_
  refine zc rfl (vB rfl yY rfl) yS ?_
  refine zf (zk ?_)
  refine zI yO hF (fun hc10 hF=>?_) (fun hc10 hF=>?_)
  ·refine zn (ze ?_)
   refine zc rfl (zj rfl rfl (zb rfl)) xf ?_
   refine zf (zk (zJ ?_))
   refine zL ?_
   refine zD ?_
   refine yN ?_
   obtain rfl:=Option.some.inj hF
   replace hF:=hK1
   refine zL ?_
   refine zD ?_
   obtain rfl:=Option.some.inj hF
   refine zF rfl (zH yv zA) (zB (leV.refl _) rfl ?_)
   exact ⟨rfl,rfl⟩
  ·refine zN (ye (zk (ze ?_)))
   refine zc rfl (zg rfl yf (zb rfl)) xC ?_
   refine zc rfl (zz rfl xr rfl rfl) xR ?_
   refine zc rfl (zj rfl xK (zb rfl)) x5 ?_
   refine zf (xw ?_)
   obtain rfl:=Option.some.inj hF
   exact ⟨(),hl1,hK1,wk.le (by exact (.eq (.drop (.drop (.cons (leV.of_eq (qT (by omega) (by omega))) (.d16 (.d4 leL.nil)))))))⟩
 ·refine xD ?_
  refine yd ?_
  refine z7 ?_
  refine z8 ?_
  refine zk (zn (ze ?_))
  refine zc rfl (zg rfl yh (zb rfl)) yZ ?_
  refine yj rfl (ya rfl rfl rfl rfl el32 y4 yC) y8 fun hn11=>?_
  replace hn11:=wW hn11
  refine zc rfl (zz rfl xd rfl rfl) xk ?_
  refine zc rfl (zg rfl xl (zb rfl)) xJ ?_
  refine zr rfl (fun hb=>zg rfl yh (zb rfl)) xQ ?_
  refine xq rfl (fun hb=>ya rfl rfl rfl rfl el32 (zp xX hb) yC) wb fun hn12=>?_
  refine zr rfl (fun hb=>zz rfl (zp wa hb) rfl rfl) wl ?_
  refine zc rfl (zM rfl xL wq rfl (zS (fun ht=>gT ht))) wp ?_
  refine zc rfl (zj rfl wg (zb rfl)) xf ?_
  refine zf (zk (zJ ?_))
  obtain rfl:=Option.some.inj hF
  refine zF rfl (zH yv zA) (zB (leV.refl _) rfl ?_)
  exact ⟨rfl,rfl⟩
/-! varve/varveref04.Type -/
theorem ok39 {kind0:Int} {res:Int} {h:AH}  (hF:ref04Type kind0=some res):Spec Tryz.prog 39 [.int .u8 kind0] h (fun rr hh=>rr=.int .u8 res∧hh=h):=by
 unfold ref04Type at hF
 refine zx Tryz.func39 rfl (by kernel_rfl) (env:=[.int .u8 kind0,za,za,za,za,za,za,za,za,za,za,za,za]) (by rfl) ?_
 refine zn (ze ?_)
 refine zc rfl (zj rfl rfl (zb rfl)) xf ?_
 refine zf (zk (zn (zn (ze ?_))))
 refine zc rfl (zg rfl yh (zb rfl)) x5 ?_
 refine zf (zk (zW (zn (ze ?_))))
 refine zc rfl (zz rfl yf rfl rfl) xp ?_
 refine zc rfl (zj rfl yR (zb rfl)) yV ?_
 refine zf (zk ?_)
 refine zI yp hF (fun hc1 hF=>?_) (fun hc1 hF=>?_)
 ·refine zn (ze ?_)
  refine zc rfl (zj rfl rfl (zb rfl)) xf ?_
  refine zf (zk (zJ ?_))
  refine zL ?_
  refine zD ?_
  obtain rfl:=Option.some.inj hF
  refine zF rfl (zH yv zA) (zB (leV.refl _) rfl ?_)
  exact ⟨rfl,rfl⟩
 ·refine zn (ze ?_)
  refine zc rfl (zz rfl yf rfl rfl) xN ?_
  refine zc rfl (zj rfl xu (zb rfl)) xI ?_
  refine zf (zk ?_)
  refine zI xh hF (fun hc2 hF=>?_) (fun hc2 hF=>?_)
  ·refine zn (ze ?_)
   refine zc rfl (zj rfl rfl (zb rfl)) xf ?_
   refine zf (zk (zJ ?_))
   refine zL ?_
   refine zD ?_
   obtain rfl:=Option.some.inj hF
   refine zF rfl (zH yv zA) (zB (leV.refl _) rfl ?_)
   exact ⟨rfl,rfl⟩
  ·refine zn (zn (ze ?_))
   refine zc rfl (zz rfl yf rfl rfl) xR ?_
   refine zc rfl (zj rfl xK (zb rfl)) xC ?_
   refine zf (zk ?_)
   refine zI xr hF (fun hc3 hF=>?_) (fun hc3 hF=>?_)
   ·refine zN (zk ?_)
    refine zI xr hF (fun hc4 hF=>?_) (fun hc4 hF=>?_)
    ·refine zn (ze ?_)
     refine zc rfl (zj rfl rfl (zb rfl)) xf ?_
     refine zf (zk (zJ ?_))
     refine zL ?_
     refine zD ?_
     obtain rfl:=Option.some.inj hF
     refine zF rfl (zH yv zA) (zB (leV.refl _) rfl ?_)
     exact ⟨rfl,rfl⟩
    ·refine zn (ze ?_)
     refine zc rfl (zz rfl yf rfl rfl) yE ?_
     refine zc rfl (zj rfl yD (zb rfl)) yx ?_
     refine zf (zk ?_)
     refine zI yr hF (fun hc5 hF=>?_) (fun hc5 hF=>?_)
     ·refine zn (ze ?_)
      refine zc rfl (zj rfl rfl (zb rfl)) xf ?_
      refine zf (zk (zJ ?_))
      refine zL ?_
      refine zD ?_
      obtain rfl:=Option.some.inj hF
      refine zF rfl (zH yv zA) (zB (leV.refl _) rfl ?_)
      exact ⟨rfl,rfl⟩
     ·refine zN (ye (zk (zn (ze ?_))))
      refine zc rfl (zj rfl rfl (zb rfl)) xf ?_
      refine zf (zk (zJ ?_))
      obtain rfl:=Option.some.inj hF
      refine zF rfl (zH yv zA) (zB (leV.refl _) rfl ?_)
      exact ⟨rfl,rfl⟩
   ·refine ze ?_
    refine zc rfl (zz rfl yf rfl rfl) yy ?_
    refine zc rfl (zj rfl yw (zb rfl)) xC ?_
    refine zf (zk ?_)
    refine zI xr hF (fun hc6 hF=>?_) (fun hc6 hF=>?_)
    ·refine zn (ze ?_)
     refine zc rfl (zj rfl rfl (zb rfl)) xf ?_
     refine zf (zk (zJ ?_))
     refine zL ?_
     refine zD ?_
     obtain rfl:=Option.some.inj hF
     refine zF rfl (zH yv zA) (zB (leV.refl _) rfl ?_)
     exact ⟨rfl,rfl⟩
    ·refine zn (ze ?_)
     refine zc rfl (zz rfl yf rfl rfl) yE ?_
     refine zc rfl (zj rfl yD (zb rfl)) yx ?_
     refine zf (zk ?_)
     refine zI yr hF (fun hc7 hF=>?_) (fun hc7 hF=>?_)
     ·refine zn (ze ?_)
      refine zc rfl (zj rfl rfl (zb rfl)) xf ?_
      refine zf (zk (zJ ?_))
      refine zL ?_
      refine zD ?_
      obtain rfl:=Option.some.inj hF
      refine zF rfl (zH yv zA) (zB (leV.refl _) rfl ?_)
      exact ⟨rfl,rfl⟩
     ·refine zN (ye (zk (zn (ze ?_))))
      refine zc rfl (zj rfl rfl (zb rfl)) xf ?_
      refine zf (zk (zJ ?_))
      obtain rfl:=Option.some.inj hF
      refine zF rfl (zH yv zA) (zB (leV.refl _) rfl ?_)
      exact ⟨rfl,rfl⟩
/-! varve/varveref04.May -/
theorem ok58 {o0:GOp} {res:Bool} {h:AH}  (hF:ref04May o0=some res):Spec Tryz.prog 58 [.agg [.int .u8 o0.kind,.sl 1 (o0.path.map zG),.int .i64 o0.n,.str o0.text,.sl 3 (o0.dots.map GDot.row)]] h (fun rr hh=>rr=.bool res∧hh=h):=by
 unfold ref04May at hF
 refine zx Tryz.func58 rfl (by kernel_rfl) (env:=[.agg [.int .u8 o0.kind,.sl 1 (o0.path.map zG),.int .i64 o0.n,.str o0.text,.sl 3 (o0.dots.map GDot.row)],za,za,za,za,za,za,za,za,za,za,za,za,za,za,za,za,za,za,za,za,za,za,za,za,za,za,za,za,za,za,za,za,za,za,za,za,za,za,za,za,za,za,za,za,za,za,za,za,za,za,za,za,za,za,za,za,za,za,za,za,za,za,za,za,za,za,za,za,za,za,za,za,za,za,za,za,za,za,za,za,za,za,za,za,za,za,za,za,za,za,za,za,za,za]) (by rfl) ?_
 refine zn (ze ?_)
 refine zc rfl (yF (n:=0) rfl yh (zb rfl) rfl rfl) st1 ?_
 refine zc rfl (zj rfl rfl (zb rfl)) xf ?_
 refine zf (zk (zn (zn (ze ?_))))
 refine zc rfl (zd rfl fo34x0 yB rfl) yV ?_
 refine zc rfl (zq rfl ty5 yp rfl (zt rfl) (zb rfl)) xp ?_
 refine zQ hF (fun v1 hv1 hF=>?_)
 refine zU rfl (zC rfl rfl rfl (zo yR zw) (.cons (zb rfl) .nil)) (ok39 hv1) xI ?_
 refine zc rfl (zz rfl xh rfl rfl) xN ?_
 refine zc rfl (zg rfl xu (zb rfl)) xC ?_
 refine zr rfl (fun hb=>zd rfl fo34x1 yB rfl) xR ?_
 refine zr rfl (fun hb=>zq rfl ty32 (zp xK hb) rfl (zt rfl) (zb rfl)) yy ?_
 refine yP hF (fun v2 hv2 hF=>?_)
 refine yJ rfl (fun hb=>zC rfl rfl rfl (zo (zp yw hb) zw) (.cons (zb rfl) .nil)) (fun hb=>ok74 (hv2 hb)) yx ?_
 refine zr rfl (fun hb=>vB rfl (zp yr hb) rfl) yE ?_
 refine zc rfl (zM rfl xr rfl yD (zZ (fun ht=>gF ht))) yK ?_
 refine zc rfl (zg rfl yI (zb rfl)) yT ?_
 refine zr rfl (fun hb=>zd rfl qt yB rfl) yS ?_
 refine zr rfl (fun hb=>zq rfl ty9 (zp yO hb) rfl (zt rfl) (zb rfl)) yZ ?_
 refine xq rfl (fun hb=>wA rfl rfl rfl rfl ty9 (zp y4 hb)) y8 fun hn3=>?_
 refine zr rfl (fun hb=>zz rfl (zp xd hb) rfl rfl) xk ?_
 refine zc rfl (zM rfl yY rfl xl (zZ (fun ht=>gF ht))) xJ ?_
 refine zc rfl (zg rfl xL (zb rfl)) xQ ?_
 refine zr rfl (fun hb=>zd rfl vJ yB rfl) wb ?_
 refine zr rfl (fun hb=>zq rfl xP (zp wa hb) rfl (zt rfl) (zb rfl)) wl ?_
 refine xq rfl (fun hb=>ya rfl rfl rfl rfl yU (zp wq hb) yC) wp fun hn4=>?_
 refine zr rfl (fun hb=>zz rfl (zp wg hb) rfl rfl) wu ?_
 refine zc rfl (zM rfl xX rfl ww (zZ (fun ht=>gF ht))) wz ?_
 refine zf (zk ?_)
 refine zI wv hF (fun hc5 hF=>?_) (fun hc5 hF=>?_)
 ·refine zn (ze ?_)
  refine zc rfl (zj rfl rfl (zb rfl)) xf ?_
  refine zf (zk (zJ (zD ?_)))
  obtain rfl:=Option.some.inj hF
  refine zF rfl (zH yv zA) (zB (leV.refl _) rfl ?_)
  exact ⟨rfl,rfl⟩
 ·refine zN (zk (zn (zn (ze ?_))))
  refine zc rfl (zd rfl fo34x0 yB rfl) wV ?_
  refine zc rfl (zq rfl ty5 wD rfl (zt rfl) (zb rfl)) wU ?_
  refine zc rfl (zz rfl w4 rfl rfl) wG ?_
  refine zf (zk ?_)
  refine zI wH hF (fun hc6 hF=>?_) (fun hc6 hF=>?_)
  ·refine zn (ze ?_)
   refine zc rfl (zd rfl fo34x2 yB rfl) w9 ?_
   refine zc rfl (zq rfl ty2 we rfl (zt rfl) (zb rfl)) w8 ?_
   refine zc rfl (zz rfl va rfl rfl) w7 ?_
   refine zc rfl (zg rfl wZ (zb rfl)) wT ?_
   refine zr rfl (fun hb=>zd rfl fo34x2 yB rfl) wS ?_
   refine zr rfl (fun hb=>zq rfl ty2 (zp wY hb) rfl (zt rfl) (zb rfl)) wR ?_
   refine zr rfl (fun hb=>zz rfl (zp wX hb) rfl rfl) vg ?_
   refine zc rfl (zM rfl wQ vn rfl (zS (fun ht=>gT ht))) vf ?_
   refine zc rfl (zg rfl vm (zb rfl)) vI ?_
   refine zr rfl (fun hb=>zd rfl qt yB rfl) vN ?_
   refine zr rfl (fun hb=>zq rfl ty9 (zp vO hb) rfl (zt rfl) (zb rfl)) vZ ?_
   refine zr rfl (fun hb=>zz rfl (zp qe hb) rfl rfl) (sk st0) ?_
   refine zc rfl (zM rfl vC (gk yh) rfl (zS (fun ht=>gT ht))) (sk st1) ?_
   refine zc rfl (zg rfl (gk yB) (zb rfl)) (sk xf) ?_
   refine zr rfl (fun hb=>zd rfl vJ yB rfl) (sk x5) ?_
   refine zr rfl (fun hb=>zq rfl xP (zp (gk yf) hb) rfl (zt rfl) (zb rfl)) (sk yV) ?_
   refine xq rfl (fun hb=>ya rfl rfl rfl rfl yU (zp (gk yp) hb) yC) (sk xp) fun hn7=>?_
   refine zr rfl (fun hb=>zz rfl (zp (gk yR) hb) rfl rfl) (sk xI) ?_
   refine zc rfl (zM rfl (gk yv) (gk xh) rfl (zS (fun ht=>gT ht))) (sk xN) ?_
   refine zc rfl (zj rfl (gk xu) (zb rfl)) xf ?_
   refine zf (zk (zJ (zD ?_)))
   obtain rfl:=Option.some.inj hF
   refine zF rfl (zH yv zA) (zB (leV.refl _) rfl ?_)
   exact ⟨rfl,rfl⟩
  ·refine zN (zk (zn (zn (ze ?_))))
   refine zc rfl (zd rfl fo34x2 yB rfl) (sk xC) ?_
   refine zc rfl (zq rfl ty2 (gk xr) rfl (zt rfl) (zb rfl)) (sk xR) ?_
   refine zc rfl (zz rfl (gk xK) rfl rfl) (sk yy) ?_
   refine zc rfl (zg rfl (gk yw) (zb rfl)) (sk yx) ?_
   refine zr rfl (fun hb=>zd rfl fo34x0 yB rfl) (sk yE) ?_
   refine zr rfl (fun hb=>zq rfl ty5 (zp (gk yD) hb) rfl (zt rfl) (zb rfl)) (sk yK) ?_
   refine zr rfl (fun hb=>zz rfl (zp (gk yI) hb) rfl rfl) (sk yT) ?_
   refine zr rfl (fun hb=>zg rfl (zp (gk yY) hb) (zb rfl)) (sk yS) ?_
   refine zr (yc rfl rfl rfl) (fun hb=>zd rfl vJ yB rfl) (sk yZ) ?_
   refine zr (yc rfl rfl rfl) (fun hb=>zq rfl xP (zp (gk y4) hb) rfl (zt rfl) (zb rfl)) (sk y8) ?_
   refine xq (yc rfl rfl rfl) (fun hb=>ya rfl rfl rfl rfl yU (zp (gk xd) hb) yC) (sk xk) fun hn8=>?_
   refine zr (yc rfl rfl rfl) (fun hb=>zz rfl (zp (gk xl) hb) rfl rfl) (sk xJ) ?_
   refine zr rfl (fun hb=>zM rfl (zp (gk yO) hb) (gk xL) rfl (zS (fun ht=>gT2 hb ht))) (sk xQ) ?_
   refine zc rfl (zM rfl (gk yr) rfl (gk xX) (zZ (fun ht=>gF ht))) (sk wb) ?_
   refine zf (zk ?_)
   refine zI (gk wa) hF (fun hc9 hF=>?_) (fun hc9 hF=>?_)
   ·refine zn (ze ?_)
    refine zc rfl (zj rfl rfl (zb rfl)) xf ?_
    refine zf (zk (zJ (zD ?_)))
    obtain rfl:=Option.some.inj hF
    refine zF rfl (zH yv zA) (zB (leV.refl _) rfl ?_)
    exact ⟨rfl,rfl⟩
   ·refine zN (zk (zn (zn (ze ?_))))
    refine zc rfl (zj rfl rfl (zb rfl)) x5 ?_
    refine zf (zk (zW ?_))
    refine xi (fun (n1:Nat) (s1:Unit)=>xB [0,2,4,5,6,7,8,9,10,11,12,13,14,15,16,17,18,19,20,21,22,23,24,25,26,27,28,29,30,31,32,33,34,35,36,37,38,39,40,41,42,43,44,45,46,47,48,49,50,51,52,53,54,55,56,57,58,59,60,61,62,63,64,65,66,67,68,69,70,71,72,73,74,75,76,77,78,79,80,81,82,83,84,85,86,87,88,89,90,91,92,93,94] [(3,.int .i64 (n1:Int))]) (fun s1=>h.ext [.cells [.int .u8 o0.kind,.sl 1 (o0.path.map zG),.int .i64 o0.n,.str o0.text,.sl 3 (o0.dots.map GDot.row)]] []) hF (fun _ _=>by simp only [xB,upd,List.set_cons_succ,List.set_cons_zero];try rfl) (wk.le (by exact (.drop (.eq (.drop (.cons (leV.of_eq rfl) (.d16 (.d16 (.d16 (.d16 (.d16 (.d4 (.d4 (.drop (.drop (.drop leL.nil)))))))))))))))) ?_
    intro n1 s1 hi1 hF
    refine zn (zn (ze ?_))
    refine zc rfl (zg rfl yf (zb rfl)) (sk wl) ?_
    refine zc rfl (zd rfl vJ yB rfl) (sk wp) ?_
    refine zc rfl (zq rfl xP (gk wg) rfl (zt rfl) (zb rfl)) (sk wu) ?_
    refine yj rfl (ya rfl rfl rfl rfl yU (gk ww) yC) (sk wz) fun hn25=>?_
    replace hn25:=wW hn25
    refine zc rfl (zz rfl (gk wq) (gk wv) rfl) (sk wV) ?_
    refine zf (zk ?_)
    refine xO (gk wD) hF (fun x1 o1 hl1 hx1 hF hK1=>?_) (fun hF=>?_)
    ·refine zN (zk (zn (zW (zn ?_))))
     refine yb [5] [] trivial mixed (by kernel_rfl) ?_
     refine zi rfl rfl (zd rfl vJ yB rfl) (sk w9) ?_
     refine zi rfl rfl (zq rfl xP (gk we) rfl (zt rfl) (zb rfl)) (sk w8) ?_
     refine zi rfl rfl (zg rfl yf (zb rfl)) (sk w7) ?_
     refine zi rfl rfl (yM rfl yU (gk va) (gk wZ) isl (wc hx1)) (sk wT) ?_
     refine zi rfl rfl (yW rfl ty27.choose_spec.1 (gk wQ) (zu (cs':=[.int .u8 x1.actor.rep,.int .u32 x1.actor.inc,.int .u64 x1.seq]) ty27.choose_spec.2 rfl rfl) (zb rfl)) (sk wS) ?_
     refine zQ hF (fun v26 hv26 hF=>?_)
     refine yQ rfl rfl (fun _=>zC rfl rfl rfl (zo (gk wY) zw) (.cons (zb rfl) .nil)) (by rintro _ ⟨B2,T2,rfl,hk2⟩;exact ok22 hv26) (sk wR) ?_
     refine zi rfl rfl (vB rfl (gk wX) rfl) (sk vg) ?_
     refine zi rfl rfl (zg rfl (gk vn) (zb rfl)) (sk vf) ?_
     refine zy rfl rfl (fun hb=>zg rfl yf (zb rfl)) (sk vI) ?_
     refine zy rfl rfl (fun hb=>zz rfl (zp (gk vC) hb) rfl rfl) (sk vN) ?_
     refine zy rfl rfl (fun hb=>zg rfl (zp (gk vO) hb) (zb rfl)) (sk vZ) ?_
     refine zy rfl (yc rfl rfl rfl) (fun hb=>zd rfl vJ yB rfl) (sk (sk st0)) ?_
     refine zy rfl (yc rfl rfl rfl) (fun hb=>zq rfl xP (zp (gk (gk yh)) hb) rfl (zt rfl) (zb rfl)) (sk (sk st1)) ?_
     refine zy rfl (yc rfl rfl rfl) (fun hb=>zg rfl yf (zb rfl)) (sk (sk xf)) ?_
     refine zy rfl (yc rfl rfl rfl) (fun hb=>zz rfl (zp (gk (gk yv)) hb) rfl rfl) (sk (sk x5)) ?_
     refine vz hF (fun hg27 hF=>?_)
     refine zy rfl (yc rfl rfl rfl) (fun hb=>wi default rfl yU (zp (gk (gk yB)) hb) (zp (gk (gk yf)) hb) isl (hg27 hb)) (sk (sk yV)) ?_
     refine zy rfl (yc rfl rfl rfl) (fun hb=>yW rfl ty27.choose_spec.1 (zp (gk (gk yp)) hb) (zu (cs':=[.int .u8 (((o0.dots).getD (IntKind.wrap .i64 ((n1:Int) - (1:Int))).toNat default).actor.rep),.int .u32 (((o0.dots).getD (IntKind.wrap .i64 ((n1:Int) - (1:Int))).toNat default).actor.inc),.int .u64 (((o0.dots).getD (IntKind.wrap .i64 ((n1:Int) - (1:Int))).toNat default).seq)]) ty27.choose_spec.2 rfl rfl) (zb rfl)) (sk (sk xp)) ?_
     refine zy rfl (yc rfl rfl rfl) (fun hb=>zd rfl vJ yB rfl) (sk (sk xI)) ?_
     refine zy rfl (yc rfl rfl rfl) (fun hb=>zq rfl xP (zp (gk (gk xh)) hb) rfl (zt rfl) (zb rfl)) (sk (sk xN)) ?_
     refine zy rfl (yc rfl rfl rfl) (fun hb=>zg rfl yf (zb rfl)) (sk (sk xC)) ?_
     refine vz hF (fun hg28 hF=>?_)
     refine zy rfl (yc rfl rfl rfl) (fun hb=>wi default rfl yU (zp (gk (gk xu)) hb) (zp (gk (gk xr)) hb) isl (hg28 hb)) (sk (sk xR)) ?_
     refine zy rfl (yc rfl rfl rfl) (fun hb=>yW rfl ty27.choose_spec.1 (zp (gk (gk xK)) hb) (zu (cs':=[.int .u8 (((o0.dots).getD (n1:Int).toNat default).actor.rep),.int .u32 (((o0.dots).getD (n1:Int).toNat default).actor.inc),.int .u64 (((o0.dots).getD (n1:Int).toNat default).seq)]) ty27.choose_spec.2 rfl rfl) (zb rfl)) (sk (sk yy)) ?_
     refine yP hF (fun v29 hv29 hF=>?_)
     refine xn rfl (yc rfl rfl rfl) (fun hb=>zC rfl rfl rfl (zo (zp (gk (gk yR)) hb) (zo (zp (gk (gk yw)) hb) zw)) (.cons (zb rfl) (.cons (zb rfl) .nil))) (fun hb=>ok25 (hv29 hb)) (sk (sk yx)) ?_
     refine zy rfl (yc rfl rfl rfl) (fun hb=>vB rfl (zp (gk (gk yr)) hb) rfl) (sk (sk yE)) ?_
     refine zy rfl rfl (fun hb=>zM rfl (zp (gk qe) hb) (gk (gk yD)) rfl (zS (fun ht=>gT2 hb ht))) (sk (sk yK)) ?_
     refine zi rfl rfl (zM rfl (gk vm) rfl (gk (gk yI)) (zZ (fun ht=>gF ht))) (sk (sk yT)) ?_
     refine zX ?_
     refine zk ?_
     refine zI (gk (gk yY)) hF (fun hc30 hF=>?_) (fun hc30 hF=>?_)
     ·refine zn (ze ?_)
      refine zc rfl (zj rfl rfl (zb rfl)) xf ?_
      refine zf (zk (zJ ?_))
      refine zL ?_
      refine zD ?_
      refine yN ?_
      obtain rfl:=Option.some.inj hF
      replace hF:=hK1
      refine zL ?_
      refine zD ?_
      obtain rfl:=Option.some.inj hF
      refine zF rfl (zH yv zA) (zB (leV.refl _) rfl ?_)
      exact ⟨rfl,rfl⟩
     ·refine zN (ye (zk (ze ?_)))
      refine zc rfl (zg rfl yf (zb rfl)) (sk wU) ?_
      refine zc rfl (zz rfl (gk w4) rfl rfl) (sk wG) ?_
      refine zc rfl (zj rfl (gk wH) (zb rfl)) x5 ?_
      refine zf (xw ?_)
      obtain rfl:=Option.some.inj hF
      exact ⟨(),hl1,hK1,wk.le (by exact (.drop (.eq (.drop (.cons (leV.of_eq (qT (by omega) (by omega))) (.d16 (.d16 (.d16 (.d16 (.d16 (.d4 (.d4 (.drop (.drop (.drop leL.nil)))))))))))))))⟩
    ·refine xD ?_
     refine yd ?_
     refine z7 ?_
     refine z8 ?_
     refine zk (zn (ze ?_))
     refine zc rfl (zj rfl rfl (zb rfl)) xf ?_
     refine zf (zk (zJ ?_))
     obtain rfl:=Option.some.inj hF
     refine zF rfl (zH yv zA) (zB (leV.refl _) rfl ?_)
     exact ⟨rfl,rfl⟩
/-! varve/varveref04.MayEvent -/
theorem ok38 {e0:GEvent} {res:Bool} {h:AH}  (hF:qh e0=some res):Spec Tryz.prog 38 [.agg [.int .u8 e0.dot.actor.rep,.int .u32 e0.dot.actor.inc,.int .u64 e0.dot.seq,.int .u64 e0.time,.int .u8 e0.op.kind,.sl 1 (e0.op.path.map zG),.int .i64 e0.op.n,.str e0.op.text,.sl 3 (e0.op.dots.map GDot.row)]] h (fun rr hh=>rr=.bool res∧hh=h):=by
 unfold qh at hF
 refine zx Tryz.func38 rfl (by kernel_rfl) (env:=[.agg [.int .u8 e0.dot.actor.rep,.int .u32 e0.dot.actor.inc,.int .u64 e0.dot.seq,.int .u64 e0.time,.int .u8 e0.op.kind,.sl 1 (e0.op.path.map zG),.int .i64 e0.op.n,.str e0.op.text,.sl 3 (e0.op.dots.map GDot.row)],za,za,za,za,za,za,za,za,za,za,za,za,za,za,za,za,za,za,za,za]) (by rfl) ?_
 refine zn (ze ?_)
 refine zc rfl (yF (n:=0) rfl yh (zb rfl) rfl rfl) st1 ?_
 refine zc rfl (zj rfl rfl (zb rfl)) xf ?_
 refine zf (zk (zn (ze ?_)))
 refine zc rfl (zd rfl vU yB rfl) x5 ?_
 refine zc rfl (zq rfl ty27.choose_spec.1 yf rfl (zu (cs':=[.int .u8 e0.dot.actor.rep,.int .u32 e0.dot.actor.inc,.int .u64 e0.dot.seq]) ty27.choose_spec.2 rfl rfl) (zb rfl)) yV ?_
 refine zQ hF (fun v1 hv1 hF=>?_)
 refine zU rfl (zC rfl rfl rfl (zo yp zw) (.cons (zb rfl) .nil)) (ok22 hv1) xp ?_
 refine zc rfl (zg rfl yR (zb rfl)) xI ?_
 refine zr rfl (fun hb=>zd rfl qY yB rfl) xN ?_
 refine zr rfl (fun hb=>zq rfl xM (zp xu hb) rfl (zt rfl) (zb rfl)) xC ?_
 refine zr rfl (fun hb=>zz rfl (zp xr hb) rfl rfl) xR ?_
 refine zc rfl (zM rfl xh xK rfl (zS (fun ht=>gT ht))) yy ?_
 refine zc rfl (zg rfl yw (zb rfl)) yx ?_
 refine zr rfl (fun hb=>zd rfl qY yB rfl) yE ?_
 refine zr rfl (fun hb=>zq rfl xM (zp yD hb) rfl (zt rfl) (zb rfl)) yK ?_
 refine zr rfl (fun hb=>zz rfl (zp yI hb) rfl rfl) yT ?_
 refine zc rfl (zM rfl yr yY rfl (zS (fun ht=>gT ht))) yS ?_
 refine zc rfl (zg rfl yO (zb rfl)) yZ ?_
 refine zr rfl (fun hb=>zd rfl wd yB rfl) y8 ?_
 refine zr rfl (fun hb=>zq rfl ty34.choose_spec.1 (zp xd hb) rfl (zu (cs':=[.int .u8 e0.op.kind,.sl 1 (e0.op.path.map zG),.int .i64 e0.op.n,.str e0.op.text,.sl 3 (e0.op.dots.map GDot.row)]) ty34.choose_spec.2 rfl rfl) (zb rfl)) xk ?_
 refine yP hF (fun v2 hv2 hF=>?_)
 refine yJ rfl (fun hb=>zC rfl rfl rfl (zo (zp xl hb) zw) (.cons (zb rfl) .nil)) (fun hb=>ok58 (hv2 hb)) xJ ?_
 refine zc rfl (zM rfl y4 xL rfl (zS (fun ht=>gT ht))) xQ ?_
 refine zc rfl (zj rfl xX (zb rfl)) xf ?_
 refine zf (zk (zJ ?_))
 obtain rfl:=Option.some.inj hF
 refine zF rfl (zH yv zA) (zB (leV.refl _) rfl ?_)
 exact ⟨rfl,rfl⟩
/-! varve/varveref05.Lay -/
theorem ok40 {l0:(List GItem)} {x1:GItem} {res:(List GItem)} {h:AH}  (hF:ref05Lay l0 x1=some res):Spec Tryz.prog 40 [.sl 5 (l0.map GItem.row),.agg [.int .u64 x1.time,.int .u8 x1.dot.actor.rep,.int .u32 x1.dot.actor.inc,.int .u64 x1.dot.seq,.str x1.text]] h (fun rr hh=>rr=.sl 5 (res.map GItem.row)∧hh=h):=by
 unfold ref05Lay at hF
 refine zx Tryz.func40 rfl (by kernel_rfl) (env:=[.sl 5 (l0.map GItem.row),.agg [.int .u64 x1.time,.int .u8 x1.dot.actor.rep,.int .u32 x1.dot.actor.inc,.int .u64 x1.dot.seq,.str x1.text],za,za,za,za,za,za,za,za,za,za,za,za,za,za,za,za,za,za,za,za,za,za,za,za,za,za,za,za,za,za,za,za,za,za,za,za,za,za,za,za,za,za,za,za,za,za,za,za,za,za,za]) (by rfl) ?_
 refine zn (ze ?_)
 refine zc rfl (yF (n:=0) rfl yB (zb rfl) rfl rfl) x5 ?_
 refine zc rfl (zj rfl rfl (qf yX)) yV ?_
 refine zf (zk (zn (zn (ze ?_))))
 refine zc rfl (zg rfl yh (zb rfl)) xN ?_
 refine zc rfl (zd rfl wI yf rfl) xC ?_
 refine zc rfl (zq rfl ty27.choose_spec.1 xr rfl (zu (cs':=[.int .u8 x1.dot.actor.rep,.int .u32 x1.dot.actor.inc,.int .u64 x1.dot.seq]) ty27.choose_spec.2 rfl rfl) (zb rfl)) xR ?_
 refine zQ hF (fun v1 hv1 hF=>?_)
 refine zU rfl (zC rfl rfl rfl (zo xu (zo xK zw)) (.cons (zb rfl) (.cons (zb rfl) .nil))) (ok23 hv1) yy ?_
 refine zc rfl (zz rfl yw rfl rfl) yx ?_
 refine zf (zk ?_)
 refine zI yr hF (fun hc2 hF=>?_) (fun hc2 hF=>?_)
 ·refine zn (ze ?_)
  refine zc rfl (yq (es:=([]:List GItem).map GItem.row) rfl yX ze47 rfl rfl zT .nil rfl rfl rfl) yE ?_
  refine zc rfl (zg rfl yh (zb rfl)) yK ?_
  refine vz hF (fun hm3 hF=>?_)
  refine zc rfl (e_appN (m:=0) (T':=[((([]:List GItem)++l0)).length]) rfl rfl rfl rfl yX yX yD yI (zb rfl) (zb rfl) qI hm3 rfl rfl) yT ?_
  refine zc rfl (zj rfl yY (zb rfl)) yV ?_
  refine zf (zk (zJ (zD ?_)))
  obtain rfl:=Option.some.inj hF
  refine zF rfl (zH yp zA) (zB (leV.osl _ _ _) rfl ?_)
  exact ⟨rfl,rfl⟩
 ·refine zN (zk (zn (ze ?_)))
  refine zc rfl (zj rfl rfl (qf yX)) xp ?_
  refine zf (zk (zn (ze ?_)))
  refine zc rfl (zj rfl rfl (zb rfl)) xI ?_
  refine zf (zk (zn (zW ?_)))
  refine r_loopWF (fun (s1:(List GItem)×Int)=>xB [1,2,4,7,8,9,10,11,12,13,14,15,16,17,18,19,20,21,22,23,24,25,26,27,28,29,30,31,32,33,34,35,36,37,38,39,40,41,42,43,44,45,46,47,48,49,50,51,52] [(5,.osl (some (h.toks.length+0)) 5 (s1.1.map GItem.row)),(6,.int .i64 s1.2)]) (fun s1=>h.ext [.cells [.int .u64 x1.time,.int .u8 x1.dot.actor.rep,.int .u32 x1.dot.actor.inc,.int .u64 x1.dot.seq,.str x1.text]] [(s1.1).length]) hF (fun _=>by simp only [xB,upd,List.set_cons_succ,List.set_cons_zero];try rfl) (wk.trans (wk_tok yR rfl xp rfl) (wk.le (by exact (.eq (.drop (.drop (.eq (.drop (.cons (leV.of_eq rfl) (.cons (leV.of_eq rfl) (.d16 (.d16 (.d4 (.d4 (.d4 (.drop (.drop leL.nil))))))))))))))))) ?_
  intro n1 s1 o1 hF hK1
  refine zn (zn ?_)
  refine yb [] [] trivial mixed (by kernel_rfl) ?_
  refine zi rfl rfl (zg rfl xh (zb rfl)) yS ?_
  refine zi rfl rfl (zg rfl yh (zb rfl)) yZ ?_
  refine draw_len rfl rfl (ya rfl rfl rfl rfl yX y4 yC) y8 ?_
  refine zi rfl rfl (zz rfl yO xd rfl) xk ?_
  refine zi rfl rfl (zg rfl xl (zb rfl)) xJ ?_
  refine zy rfl rfl (fun hb=>zg rfl yh (zb rfl)) xQ ?_
  refine zy rfl rfl (fun hb=>zg rfl xh (zb rfl)) wb ?_
  refine vz hF (fun hg19 hF=>?_)
  refine zy rfl rfl (fun hb=>wi default rfl yX (zp xX hb) (zp wa hb) isl (hg19 hb)) wl ?_
  refine zy rfl rfl (fun hb=>zd rfl qX (zp wq hb) rfl) wp ?_
  refine zy rfl rfl (fun hb=>yW rfl xM (zp wg hb) (zt rfl) (zb rfl)) wu ?_
  refine zy rfl rfl (fun hb=>zg rfl yh (zb rfl)) wz ?_
  refine zy rfl rfl (fun hb=>zg rfl xh (zb rfl)) wV ?_
  refine vz hF (fun hg20 hF=>?_)
  refine zy rfl rfl (fun hb=>wi default rfl yX (zp wv hb) (zp wD hb) isl (hg20 hb)) wU ?_
  refine zy rfl rfl (fun hb=>zd rfl wI (zp w4 hb) rfl) wG ?_
  refine zy rfl rfl (fun hb=>yW rfl ty27.choose_spec.1 (zp wH hb) (zu (cs':=[.int .u8 (((l0).getD s1.2.toNat default).dot.actor.rep),.int .u32 (((l0).getD s1.2.toNat default).dot.actor.inc),.int .u64 (((l0).getD s1.2.toNat default).dot.seq)]) ty27.choose_spec.2 rfl rfl) (zb rfl)) w9 ?_
  refine zy rfl rfl (fun hb=>zd rfl qX yf rfl) w8 ?_
  refine zy rfl rfl (fun hb=>zq rfl xM (zp va hb) rfl (zt rfl) (zb rfl)) w7 ?_
  refine zy rfl rfl (fun hb=>zd rfl wI yf rfl) wT ?_
  refine zy rfl rfl (fun hb=>zq rfl ty27.choose_spec.1 (zp wQ hb) rfl (zu (cs':=[.int .u8 x1.dot.actor.rep,.int .u32 x1.dot.actor.inc,.int .u64 x1.dot.seq]) ty27.choose_spec.2 rfl rfl) (zb rfl)) wS ?_
  refine yP hF (fun v21 hv21 hF=>?_)
  refine xn rfl rfl (fun hb=>zC rfl rfl rfl (zo (zp ww hb) (zo (zp we hb) (zo (zp wZ hb) (zo (zp wY hb) zw)))) (.cons (zb rfl) (.cons (zb rfl) (.cons (zb rfl) (.cons (zb rfl) .nil))))) (fun hb=>ok14 (hv21 hb)) wR ?_
  refine zi rfl rfl (zM rfl xL wX rfl (zS (fun ht=>gT ht))) vg ?_
  refine zX ?_
  refine zk ?_
  refine zI vn hF (fun hc22 hF=>?_) (fun hc22 hF=>?_)
  ·refine zN (zk (zW (zn (ze ?_))))
   refine zc rfl (zg rfl yR (zb rfl)) vf ?_
   refine zc rfl (zg rfl yh (zb rfl)) vI ?_
   refine zc rfl (zg rfl xh (zb rfl)) vN ?_
   refine zQ hF (fun y23 hy23 hF=>?_)
   refine zc rfl (yM rfl yX vC vO isl hy23) vZ ?_
   refine zc rfl (yW rfl ty47.choose_spec.1 qe (zu (cs':=[.int .u64 y23.time,.int .u8 y23.dot.actor.rep,.int .u32 y23.dot.actor.inc,.int .u64 y23.dot.seq,.str y23.text]) ty47.choose_spec.2 rfl rfl) (zb rfl)) (sk st0) ?_
   refine zc rfl (yq (es:=([y23]:List GItem).map GItem.row) rfl yX ze47 rfl rfl (zK (gk yh) zT) (.cons (zb rfl) .nil) rfl rfl rfl) (sk st1) ?_
   refine vz hF (fun hm24 hF=>?_)
   refine zc rfl (e_appT (j:=0) (T':=[((s1.1++([y23]:List GItem))).length]) rfl rfl rfl rfl yX yX vm (gk yB) (zb rfl) (zb rfl) news_osl hm24 rfl rfl) (sk xf) ?_
   refine zc rfl (zj rfl (gk yv) (zb rfl)) xp ?_
   refine zf (zk (ze ?_))
   refine zc rfl (zg rfl xh (zb rfl)) (sk x5) ?_
   refine zc rfl (zz rfl (gk yf) rfl rfl) (sk yV) ?_
   refine zc rfl (zj rfl (gk yp) (zb rfl)) xI ?_
   refine zf (ye (xw ?_))
   obtain rfl:=Option.some.inj hF
   exact ⟨((s1.1++([y23]:List GItem)),(IntKind.wrap .i64 (s1.2+(1:Int)))),hK1,wk.le (by exact (.eq (.drop (.drop (.eq (.drop (.cons (leV.of_eq rfl) (.cons (leV.of_eq rfl) (.d16 (.d16 (.d4 (.d4 (.d4 (.drop (.drop leL.nil)))))))))))))))⟩
  ·refine xD ?_
   refine yd ?_
   refine z7 ?_
   obtain rfl:=Option.some.inj hF
   replace hF:=hK1
   refine z8 ?_
   refine zk (zn ?_)
   refine yb [] [] trivial mixed (by kernel_rfl) ?_
   refine zi rfl rfl (zg rfl yR (zb rfl)) (sk xp) ?_
   refine zi rfl rfl (zq rfl ty47.choose_spec.1 yf rfl (zu (cs':=[.int .u64 x1.time,.int .u8 x1.dot.actor.rep,.int .u32 x1.dot.actor.inc,.int .u64 x1.dot.seq,.str x1.text]) ty47.choose_spec.2 rfl rfl) (zb rfl)) (sk xI) ?_
   refine zi rfl rfl (yq (es:=([x1]:List GItem).map GItem.row) rfl yX ze47 rfl rfl (zK (gk xh) zT) (.cons (zb rfl) .nil) rfl rfl rfl) (sk xN) ?_
   refine vz hF (fun hm28 hF=>?_)
   refine draw_okH rfl FOk.nil (by rfl) rfl (e_appT (j:=0) (T':=[((s1.1++([x1]:List GItem))).length]) rfl rfl rfl rfl yX yX (gk yR) (gk xu) (zb rfl) (zb rfl) news_osl hm28 rfl rfl) (sk xC) ?_
   refine zi rfl rfl (zg rfl yh (zb rfl)) (sk xR) ?_
   refine zi rfl rfl (zg rfl xh (zb rfl)) (sk yy) ?_
   refine zQ hF (fun m29 hm29 hF=>?_)
   refine zi rfl rfl (s_slcSl rfl yX (gk xK) (.inl rfl) (.some (gk yw)) .none hm29) (sk yx) ?_
   refine vz hF (fun hm30 hF=>?_)
   refine draw_okH rfl FOk.nil (by rfl) rfl (e_appT (j:=0) (T':=[(((s1.1++([x1]:List GItem))++m29)).length]) rfl rfl rfl rfl yX yX (gk xr) (gk yr) (zb rfl) (zb rfl) qI hm30 rfl rfl) (sk yE) ?_
   refine zi rfl rfl (zj rfl (gk yD) (zb rfl)) yV ?_
   refine zX ?_
   refine zk (zJ ?_)
   obtain rfl:=Option.some.inj hF
   refine zF rfl (zH yp zA) (zB (leV.osl _ _ _) rfl ?_)
   exact ⟨rfl,rfl⟩
/-! varve/varveref05.Bury -/
theorem ok41 {l0:(List GDot)} {d1:GDot} {res:(List GDot)} {h:AH}  (hF:ref05Bury l0 d1=some res):Spec Tryz.prog 41 [.sl 3 (l0.map GDot.row),.agg [.int .u8 d1.actor.rep,.int .u32 d1.actor.inc,.int .u64 d1.seq]] h (fun rr hh=>rr=.sl 3 (res.map GDot.row)∧hh=h):=by
 unfold ref05Bury at hF
 refine zx Tryz.func41 rfl (by kernel_rfl) (env:=[.sl 3 (l0.map GDot.row),.agg [.int .u8 d1.actor.rep,.int .u32 d1.actor.inc,.int .u64 d1.seq],za,za,za,za,za,za,za,za,za,za,za,za,za,za,za,za,za,za,za,za,za,za,za,za,za,za,za,za,za,za,za,za,za,za,za,za,za,za]) (by rfl) ?_
 refine zn (ze ?_)
 refine zc rfl (yF (n:=0) rfl yB (zb rfl) rfl rfl) x5 ?_
 refine zc rfl (zj rfl rfl (qf yU)) yV ?_
 refine zf (zk (zn (zn (ze ?_))))
 refine zc rfl (zg rfl yh (zb rfl)) xN ?_
 refine zc rfl (zq rfl ty27.choose_spec.1 yf rfl (zu (cs':=[.int .u8 d1.actor.rep,.int .u32 d1.actor.inc,.int .u64 d1.seq]) ty27.choose_spec.2 rfl rfl) (zb rfl)) xC ?_
 refine zQ hF (fun v1 hv1 hF=>?_)
 refine zU rfl (zC rfl rfl rfl (zo xu (zo xr zw)) (.cons (zb rfl) (.cons (zb rfl) .nil))) (ok24 hv1) xR ?_
 refine zf (zk ?_)
 refine zI xK hF (fun hc2 hF=>?_) (fun hc2 hF=>?_)
 ·refine zn (ze ?_)
  refine zc rfl (zg rfl yh (zb rfl)) yy ?_
  refine zc rfl (zj rfl yw (zb rfl)) yV ?_
  refine zf (zk (zJ (zD ?_)))
  obtain rfl:=Option.some.inj hF
  refine zF rfl (zH yp zA) (zB (leV.refl _) rfl ?_)
  exact ⟨rfl,rfl⟩
 ·refine zN (zk (zn (ze ?_)))
  refine zc rfl (zj rfl rfl (qf yU)) xp ?_
  refine zf (zk (zn (ze ?_)))
  refine zc rfl (zj rfl rfl (zb rfl)) xI ?_
  refine zf (zk (zn (zW ?_)))
  refine r_loopWF (fun (s1:(List GDot)×Int)=>xB [1,2,4,7,8,9,10,11,12,13,14,15,16,17,18,19,20,21,22,23,24,25,26,27,28,29,30,31,32,33,34,35,36,37,38,39] [(5,.osl (some (h.toks.length+0)) 3 (s1.1.map GDot.row)),(6,.int .i64 s1.2)]) (fun s1=>h.ext [.cells [.int .u8 d1.actor.rep,.int .u32 d1.actor.inc,.int .u64 d1.seq]] [(s1.1).length]) hF (fun _=>by simp only [xB,upd,List.set_cons_succ,List.set_cons_zero];try rfl) (wk.trans (wk_tok yR rfl xp rfl) (wk.le (by exact (.eq (.drop (.drop (.eq (.drop (.cons (leV.of_eq rfl) (.cons (leV.of_eq rfl) (.d16 (.d16 (.drop leL.nil))))))))))))) ?_
  intro n1 s1 o1 hF hK1
  refine zn (zn ?_)
  refine yb [] [] trivial mixed (by kernel_rfl) ?_
  refine zi rfl rfl (zg rfl xh (zb rfl)) yx ?_
  refine zi rfl rfl (zg rfl yh (zb rfl)) yE ?_
  refine draw_len rfl rfl (ya rfl rfl rfl rfl yU yD yC) yK ?_
  refine zi rfl rfl (zz rfl yr yI rfl) yT ?_
  refine zi rfl rfl (zg rfl yY (zb rfl)) yS ?_
  refine zy rfl rfl (fun hb=>zg rfl yh (zb rfl)) yZ ?_
  refine zy rfl rfl (fun hb=>zg rfl xh (zb rfl)) y8 ?_
  refine vz hF (fun hg15 hF=>?_)
  refine zy rfl rfl (fun hb=>wi default rfl yU (zp y4 hb) (zp xd hb) isl (hg15 hb)) xk ?_
  refine zy rfl rfl (fun hb=>yW rfl ty27.choose_spec.1 (zp xl hb) (zu (cs':=[.int .u8 (((l0).getD s1.2.toNat default).actor.rep),.int .u32 (((l0).getD s1.2.toNat default).actor.inc),.int .u64 (((l0).getD s1.2.toNat default).seq)]) ty27.choose_spec.2 rfl rfl) (zb rfl)) xJ ?_
  refine zy rfl rfl (fun hb=>zq rfl ty27.choose_spec.1 yf rfl (zu (cs':=[.int .u8 d1.actor.rep,.int .u32 d1.actor.inc,.int .u64 d1.seq]) ty27.choose_spec.2 rfl rfl) (zb rfl)) xQ ?_
  refine yP hF (fun v16 hv16 hF=>?_)
  refine xn rfl rfl (fun hb=>zC rfl rfl rfl (zo (zp xL hb) (zo (zp xX hb) zw)) (.cons (zb rfl) (.cons (zb rfl) .nil))) (fun hb=>ok25 (hv16 hb)) wb ?_
  refine zi rfl rfl (zM rfl yO wa rfl (zS (fun ht=>gT ht))) wl ?_
  refine zX ?_
  refine zk ?_
  refine zI wq hF (fun hc17 hF=>?_) (fun hc17 hF=>?_)
  ·refine zN (zk (zW (zn (ze ?_))))
   refine zc rfl (zg rfl yR (zb rfl)) wp ?_
   refine zc rfl (zg rfl yh (zb rfl)) wu ?_
   refine zc rfl (zg rfl xh (zb rfl)) wz ?_
   refine zQ hF (fun y18 hy18 hF=>?_)
   refine zc rfl (yM rfl yU ww wv isl hy18) wV ?_
   refine zc rfl (yW rfl ty27.choose_spec.1 wD (zu (cs':=[.int .u8 y18.actor.rep,.int .u32 y18.actor.inc,.int .u64 y18.seq]) ty27.choose_spec.2 rfl rfl) (zb rfl)) wU ?_
   refine zc rfl (yq (es:=([y18]:List GDot).map GDot.row) rfl yU ze27 rfl rfl (zK w4 zT) (.cons (zb rfl) .nil) rfl rfl rfl) wG ?_
   refine vz hF (fun hm19 hF=>?_)
   refine zc rfl (e_appT (j:=0) (T':=[((s1.1++([y18]:List GDot))).length]) rfl rfl rfl rfl yU yU wg wH (zb rfl) (zb rfl) news_osl hm19 rfl rfl) w9 ?_
   refine zc rfl (zj rfl we (zb rfl)) xp ?_
   refine zf (zk (ze ?_))
   refine zc rfl (zg rfl xh (zb rfl)) w8 ?_
   refine zc rfl (zz rfl va rfl rfl) w7 ?_
   refine zc rfl (zj rfl wZ (zb rfl)) xI ?_
   refine zf (ye (xw ?_))
   obtain rfl:=Option.some.inj hF
   exact ⟨((s1.1++([y18]:List GDot)),(IntKind.wrap .i64 (s1.2+(1:Int)))),hK1,wk.le (by exact (.eq (.drop (.drop (.eq (.drop (.cons (leV.of_eq rfl) (.cons (leV.of_eq rfl) (.d16 (.d16 (.drop leL.nil)))))))))))⟩
  ·refine xD ?_
   refine yd ?_
   refine z7 ?_
   obtain rfl:=Option.some.inj hF
   replace hF:=hK1
   refine z8 ?_
   refine zk (zn ?_)
   refine yb [] [] trivial mixed (by kernel_rfl) ?_
   refine zi rfl rfl (zg rfl yR (zb rfl)) wT ?_
   refine zi rfl rfl (zq rfl ty27.choose_spec.1 yf rfl (zu (cs':=[.int .u8 d1.actor.rep,.int .u32 d1.actor.inc,.int .u64 d1.seq]) ty27.choose_spec.2 rfl rfl) (zb rfl)) wS ?_
   refine zi rfl rfl (yq (es:=([d1]:List GDot).map GDot.row) rfl yU ze27 rfl rfl (zK wY zT) (.cons (zb rfl) .nil) rfl rfl rfl) wR ?_
   refine vz hF (fun hm23 hF=>?_)
   refine draw_okH rfl FOk.nil (by rfl) rfl (e_appT (j:=0) (T':=[((s1.1++([d1]:List GDot))).length]) rfl rfl rfl rfl yU yU wQ wX (zb rfl) (zb rfl) news_osl hm23 rfl rfl) vg ?_
   refine zi rfl rfl (zg rfl yh (zb rfl)) vf ?_
   refine zi rfl rfl (zg rfl xh (zb rfl)) vI ?_
   refine zQ hF (fun m24 hm24 hF=>?_)
   refine zi rfl rfl (s_slcSl rfl yU vm (.inl rfl) (.some vC) .none hm24) vN ?_
   refine vz hF (fun hm25 hF=>?_)
   refine draw_okH rfl FOk.nil (by rfl) rfl (e_appT (j:=0) (T':=[(((s1.1++([d1]:List GDot))++m24)).length]) rfl rfl rfl rfl yU yU vn vO (zb rfl) (zb rfl) qI hm25 rfl rfl) vZ ?_
   refine zi rfl rfl (zj rfl qe (zb rfl)) yV ?_
   refine zX ?_
   refine zk (zJ ?_)
   obtain rfl:=Option.some.inj hF
   refine zF rfl (zH yp zA) (zB (leV.osl _ _ _) rfl ?_)
   exact ⟨rfl,rfl⟩
/-! varve/varveref05.Left -/
theorem ok42 {l0:(List GItem)} {tombs1:(List GDot)} {res:(List GItem)} {h:AH}  (hF:ref05Left l0 tombs1=some res):Spec Tryz.prog 42 [.sl 5 (l0.map GItem.row),.sl 3 (tombs1.map GDot.row)] h (fun rr hh=>rr=.sl 5 (res.map GItem.row)∧hh=h):=by
 unfold ref05Left at hF
 refine zx Tryz.func42 rfl (by kernel_rfl) (env:=[.sl 5 (l0.map GItem.row),.sl 3 (tombs1.map GDot.row),za,za,za,za,za,za,za,za,za,za,za,za,za,za,za,za,za,za,za,za,za,za,za,za,za,za,za]) (by rfl) ?_
 refine zn (ze ?_)
 refine zc rfl (zj rfl rfl (qf yX)) yV ?_
 refine zf (zk (zn (ze ?_)))
 refine zc rfl (zj rfl rfl (qf yX)) xp ?_
 refine zf (zk (zn (zn (ze ?_))))
 refine zc rfl (zj rfl rfl (zb rfl)) xI ?_
 refine zf (zk (zW ?_))
 refine xi (fun (n1:Nat) (s1:(List GItem))=>xB [2,3,4,7,8,9,10,11,12,13,14,15,16,17,18,19,20,21,22,23,24,25,26,27,28] [(5,.osl (some (h.toks.length+0)) 5 (s1.map GItem.row)),(6,.int .i64 (n1:Int))]) (fun s1=>h.ext [] [(s1).length]) hF (fun _ _=>by simp only [xB,upd,List.set_cons_succ,List.set_cons_zero];try rfl) (wk.trans (wk_tok yR rfl xp rfl) (wk.le (by exact (.eq (.eq (.drop (.drop (.drop (.cons (leV.of_eq rfl) (.cons (leV.of_eq rfl) (.d16 (.d4 (.drop (.drop leL.nil)))))))))))))) ?_
 intro n1 s1 hi1 hF
 refine zn (zn (ze ?_))
 refine zc rfl (zg rfl xh (zb rfl)) xN ?_
 refine zc rfl (zg rfl yh (zb rfl)) xC ?_
 refine yj rfl (ya rfl rfl rfl rfl yX xr yC) xR fun hn11=>?_
 replace hn11:=wW hn11
 refine zc rfl (zz rfl xu xK rfl) yy ?_
 refine zf (zk ?_)
 refine xO yw hF (fun x1 o1 hl1 hx1 hF hK1=>?_) (fun hF=>?_)
 ·refine zN (zk (zn (zW (zn (ze ?_)))))
  refine zc rfl (zg rfl yB (zb rfl)) yK ?_
  refine zc rfl (zg rfl yh (zb rfl)) yT ?_
  refine zc rfl (zg rfl xh (zb rfl)) yS ?_
  refine zc rfl (yM rfl yX yY yO isl (wc hx1)) yZ ?_
  refine zc rfl (zd rfl wI y4 rfl) y8 ?_
  refine zc rfl (yW rfl ty27.choose_spec.1 xd (zu (cs':=[.int .u8 x1.dot.actor.rep,.int .u32 x1.dot.actor.inc,.int .u64 x1.dot.seq]) ty27.choose_spec.2 rfl rfl) (zb rfl)) xk ?_
  refine zQ hF (fun v12 hv12 hF=>?_)
  refine zU rfl (zC rfl rfl rfl (zo yI (zo xl zw)) (.cons (zb rfl) (.cons (zb rfl) .nil))) (ok24 hv12) xJ ?_
  refine zc rfl (vB rfl xL rfl) xQ ?_
  refine zf (zk ?_)
  refine zI xX hF (fun hc13 hF=>?_) (fun hc13 hF=>?_)
  ·refine ze ?_
   refine zc rfl (zg rfl yR (zb rfl)) wb ?_
   refine zc rfl (zg rfl yh (zb rfl)) wl ?_
   refine zc rfl (zg rfl xh (zb rfl)) wp ?_
   refine zc rfl (yM rfl yX wq wg isl (wc hx1)) wu ?_
   refine zc rfl (yW rfl ty47.choose_spec.1 ww (zu (cs':=[.int .u64 x1.time,.int .u8 x1.dot.actor.rep,.int .u32 x1.dot.actor.inc,.int .u64 x1.dot.seq,.str x1.text]) ty47.choose_spec.2 rfl rfl) (zb rfl)) wz ?_
   refine zc rfl (yq (es:=([x1]:List GItem).map GItem.row) rfl yX ze47 rfl rfl (zK wv zT) (.cons (zb rfl) .nil) rfl rfl rfl) wV ?_
   refine vz hF (fun hm14 hF=>?_)
   refine zc rfl (e_appT (j:=0) (T':=[((s1++([x1]:List GItem))).length]) rfl rfl rfl rfl yX yX wa wD (zb rfl) (zb rfl) news_osl hm14 rfl rfl) wU ?_
   refine zc rfl (zj rfl w4 (zb rfl)) xp ?_
   refine zf (ye (zk (ze ?_)))
   refine zc rfl (zg rfl xh (zb rfl)) yx ?_
   refine zc rfl (zz rfl yr rfl rfl) yE ?_
   refine zc rfl (zj rfl yD (zb rfl)) xI ?_
   refine zf (xw ?_)
   obtain rfl:=Option.some.inj hF
   exact ⟨(s1++([x1]:List GItem)),hl1,hK1,wk.le (by exact (.eq (.eq (.drop (.drop (.drop (.cons (leV.of_eq rfl) (.cons (leV.of_eq (qT (by omega) (by omega))) (.d16 (.d4 (.drop (.drop leL.nil))))))))))))⟩
  ·refine zN (ye (zk (ze ?_)))
   refine zc rfl (zg rfl xh (zb rfl)) yx ?_
   refine zc rfl (zz rfl yr rfl rfl) yE ?_
   refine zc rfl (zj rfl yD (zb rfl)) xI ?_
   refine zf (xw ?_)
   obtain rfl:=Option.some.inj hF
   exact ⟨s1,hl1,hK1,wk.le (by exact (.eq (.eq (.drop (.drop (.drop (.cons (leV.of_eq rfl) (.cons (leV.of_eq (qT (by omega) (by omega))) (.d16 (.d4 (.drop (.drop leL.nil))))))))))))⟩
 ·refine xD ?_
  refine yd ?_
  refine z7 ?_
  refine z8 ?_
  refine zk (zn (ze ?_))
  refine zc rfl (zg rfl yR (zb rfl)) wG ?_
  refine zc rfl (zj rfl wH (zb rfl)) yV ?_
  refine zf (zk (zJ ?_))
  obtain rfl:=Option.some.inj hF
  refine zF rfl (zH yp zA) (zB (leV.osl _ _ _) rfl ?_)
  exact ⟨rfl,rfl⟩
/-! varve/varveref05.Apply -/
theorem ok16 {l0:GLeaf} {e1:GEvent} {res:(GLeaf×Int)} {h:AH}  (hF:ref05Apply l0 e1=some res):Spec Tryz.prog 16 [.agg [.int .u8 l0.typ,.int .i64 l0.n,.int .u64 l0.time,.int .u8 l0.dot.actor.rep,.int .u32 l0.dot.actor.inc,.int .u64 l0.dot.seq,.str l0.text,.sl 5 (l0.items.map GItem.row),.sl 3 (l0.tombs.map GDot.row)],.agg [.int .u8 e1.dot.actor.rep,.int .u32 e1.dot.actor.inc,.int .u64 e1.dot.seq,.int .u64 e1.time,.int .u8 e1.op.kind,.sl 1 (e1.op.path.map zG),.int .i64 e1.op.n,.str e1.op.text,.sl 3 (e1.op.dots.map GDot.row)]] h (fun rr hh=>rr=.tup [.agg [.int .u8 res.1.typ,.int .i64 res.1.n,.int .u64 res.1.time,.int .u8 res.1.dot.actor.rep,.int .u32 res.1.dot.actor.inc,.int .u64 res.1.dot.seq,.str res.1.text,.sl 5 (res.1.items.map GItem.row),.sl 3 (res.1.tombs.map GDot.row)],.int .i64 res.2]∧hh=h):=by
 unfold ref05Apply at hF
 refine zx Tryz.func16 rfl (by kernel_rfl) (env:=[.agg [.int .u8 l0.typ,.int .i64 l0.n,.int .u64 l0.time,.int .u8 l0.dot.actor.rep,.int .u32 l0.dot.actor.inc,.int .u64 l0.dot.seq,.str l0.text,.sl 5 (l0.items.map GItem.row),.sl 3 (l0.tombs.map GDot.row)],.agg [.int .u8 e1.dot.actor.rep,.int .u32 e1.dot.actor.inc,.int .u64 e1.dot.seq,.int .u64 e1.time,.int .u8 e1.op.kind,.sl 1 (e1.op.path.map zG),.int .i64 e1.op.n,.str e1.op.text,.sl 3 (e1.op.dots.map GDot.row)],za,za,za,za,za,za,za,za,za,za,za,za,za,za,za,za,za,za,za,za,za,za,za,za,za,za,za,za,za,za,za,za,za,za,za,za,za,za,za,za,za,za,za,za,za,za,za,za,za,za,za,za,za,za,za,za,za,za,za,za,za,za,za,za,za,za,za,za,za,za,za,za,za,za,za,za,za,za,za,za,za,za,za,za,za,za,za,za,za,za,za,za,za,za,za,za,za,za,za,za,za,za,za,za,za,za,za,za,za,za,za,za,za,za,za,za,za,za,za]) (by rfl) ?_
 refine zn (ze ?_)
 refine zc rfl (yF (n:=0) rfl yh (zb rfl) rfl rfl) xf ?_
 refine zc rfl (yF (n:=1) rfl yB (zb rfl) rfl rfl) x5 ?_
 refine zc rfl (xG (n:=2) rfl ze31 rfl) yV ?_
 refine zc rfl (zj rfl rfl (zb rfl)) xp ?_
 refine zf (zk (zn (zn (ze ?_))))
 refine zc rfl (zq rfl ty31.choose_spec.1 yv rfl (zu (cs':=[.int .u8 l0.typ,.int .i64 l0.n,.int .u64 l0.time,.int .u8 l0.dot.actor.rep,.int .u32 l0.dot.actor.inc,.int .u64 l0.dot.seq,.str l0.text,.sl 5 (l0.items.map GItem.row),.sl 3 (l0.tombs.map GDot.row)]) ty31.choose_spec.2 rfl rfl) (zb rfl)) xN ?_
 refine zQ hF (fun v1 hv1 hF=>?_)
 refine zU rfl (zC rfl rfl rfl (zo xu zw) (.cons (zb rfl) .nil)) (ok8 hv1) xC ?_
 refine zc rfl (vB rfl xr rfl) xR ?_
 refine zc rfl (zg rfl xK (zb rfl)) yy ?_
 refine zr rfl (fun hb=>zq rfl ty36.choose_spec.1 yf rfl (zu (cs':=[.int .u8 e1.dot.actor.rep,.int .u32 e1.dot.actor.inc,.int .u64 e1.dot.seq,.int .u64 e1.time,.int .u8 e1.op.kind,.sl 1 (e1.op.path.map zG),.int .i64 e1.op.n,.str e1.op.text,.sl 3 (e1.op.dots.map GDot.row)]) ty36.choose_spec.2 rfl rfl) (zb rfl)) yx ?_
 refine yP hF (fun v2 hv2 hF=>?_)
 refine yJ rfl (fun hb=>zC rfl rfl rfl (zo (zp yr hb) zw) (.cons (zb rfl) .nil)) (fun hb=>ok38 (hv2 hb)) yE ?_
 refine zr rfl (fun hb=>vB rfl (zp yD hb) rfl) yK ?_
 refine zc rfl (zM rfl yw rfl yI (zZ (fun ht=>gF ht))) yT ?_
 refine zf (zk ?_)
 refine zI yY hF (fun hc3 hF=>?_) (fun hc3 hF=>?_)
 ·refine zn (ze ?_)
  refine zc rfl (xc (cs':=[.int .u8 (0:Int),.int .i64 (0:Int),.int .u64 (0:Int),.int .u8 (0:Int),.int .u32 (0:Int),.int .u64 (0:Int),.str ([]:yn),.osl none 5 (([]:List GItem).map GItem.row),.osl none 3 (([]:List GDot).map GDot.row)]) rfl su31 ze31 pl31 zT .nil rfl rfl) yS ?_
  refine zc rfl (zP (cs':=[.int .u8 (0:Int),.int .i64 (0:Int),.int .u64 (0:Int),.int .u8 (0:Int),.int .u32 (0:Int),.int .u64 (0:Int),.str ([]:yn),.osl none 5 (([]:List GItem).map GItem.row),.osl none 3 (([]:List GDot).map GDot.row)]) rfl ty31.choose_spec.1 yp yO (zb rfl) rfl rfl rfl rfl rfl) rfl ?_
  refine zc rfl (zj rfl rfl (zb rfl)) xp ?_
  refine zf (zk (zJ (zD ?_)))
  obtain rfl:=Option.some.inj hF
  refine xU rfl (xg ty31.choose_spec.1 yp rfl (zu (cs':=[.int .u8 (0:Int),.int .i64 (0:Int),.int .u64 (0:Int),.int .u8 (0:Int),.int .u32 (0:Int),.int .u64 (0:Int),.str ([]:yn),.osl none 5 (([]:List GItem).map GItem.row),.osl none 3 (([]:List GDot).map GDot.row)]) ty31.choose_spec.2 rfl rfl) (zb rfl) (zH yR zA)) (zB (leV.tup (.cons (leV.agg (.eq (.eq (.eq (.eq (.eq (.eq (.eq (.cons (leV.osl _ _ _) (.cons (leV.osl _ _ _) leL.nil))))))))) rfl) (.eq leL.nil))) rfl ?_)
  exact ⟨rfl,rfl⟩
 ·refine zN (zk (zn (zn ?_)))
  refine yb [3] [] trivial mixed (by kernel_rfl) ?_
  refine zi rfl rfl (zd rfl wd yf rfl) yZ ?_
  refine zi rfl rfl (zd rfl fo34x0 y4 rfl) y8 ?_
  refine zi rfl rfl (zq rfl ty5 xd rfl (zt rfl) (zb rfl)) xk ?_
  refine zQ hF (fun v4 hv4 hF=>?_)
  refine yQ rfl rfl (fun _=>zC rfl rfl rfl (zo xl zw) (.cons (zb rfl) .nil)) (by rintro _ ⟨B2,T2,rfl,hk2⟩;exact ok39 hv4) xJ ?_
  refine zi rfl rfl (zd rfl vu yv rfl) xQ ?_
  refine zi rfl rfl (zq rfl ty5 xX rfl (zt rfl) (zb rfl)) wb ?_
  refine zi rfl rfl (zz rfl xL wa rfl) wl ?_
  refine zX ?_
  refine zk ?_
  refine zI wq hF (fun hc5 hF=>?_) (fun hc5 hF=>?_)
  ·refine zn (ze ?_)
   refine zc rfl (xc (cs':=[.int .u8 (0:Int),.int .i64 (0:Int),.int .u64 (0:Int),.int .u8 (0:Int),.int .u32 (0:Int),.int .u64 (0:Int),.str ([]:yn),.osl none 5 (([]:List GItem).map GItem.row),.osl none 3 (([]:List GDot).map GDot.row)]) rfl su31 ze31 pl31 zT .nil rfl rfl) wp ?_
   refine zc rfl (zP (cs':=[.int .u8 (0:Int),.int .i64 (0:Int),.int .u64 (0:Int),.int .u8 (0:Int),.int .u32 (0:Int),.int .u64 (0:Int),.str ([]:yn),.osl none 5 (([]:List GItem).map GItem.row),.osl none 3 (([]:List GDot).map GDot.row)]) rfl ty31.choose_spec.1 yp wg (zb rfl) rfl rfl rfl rfl rfl) rfl ?_
   refine zc rfl (zj rfl rfl (zb rfl)) xp ?_
   refine zf (zk (zJ (zD ?_)))
   obtain rfl:=Option.some.inj hF
   refine xU rfl (xg ty31.choose_spec.1 yp rfl (zu (cs':=[.int .u8 (0:Int),.int .i64 (0:Int),.int .u64 (0:Int),.int .u8 (0:Int),.int .u32 (0:Int),.int .u64 (0:Int),.str ([]:yn),.osl none 5 (([]:List GItem).map GItem.row),.osl none 3 (([]:List GDot).map GDot.row)]) ty31.choose_spec.2 rfl rfl) (zb rfl) (zH yR zA)) (zB (leV.tup (.cons (leV.agg (.eq (.eq (.eq (.eq (.eq (.eq (.eq (.cons (leV.osl _ _ _) (.cons (leV.osl _ _ _) leL.nil))))))))) rfl) (.eq leL.nil))) rfl ?_)
   exact ⟨rfl,rfl⟩
  ·refine zN (zk (zn (zn (ze ?_))))
   refine zc rfl (zd rfl wd yf rfl) wu ?_
   refine zc rfl (zd rfl fo34x0 ww rfl) wz ?_
   refine zc rfl (zq rfl ty5 wv rfl (zt rfl) (zb rfl)) wV ?_
   refine zf (zk (zW (zn (ze ?_))))
   refine zc rfl (zz rfl wD rfl rfl) wG ?_
   refine zc rfl (zj rfl wH (zb rfl)) wU ?_
   refine zf (zk ?_)
   refine zI w4 hF (fun hc6 hF=>?_) (fun hc6 hF=>?_)
   ·refine ze ?_
    refine zc rfl (zd rfl qZ yv rfl) w9 ?_
    refine zc rfl (zq rfl ty2 we rfl (zt rfl) (zb rfl)) w8 ?_
    refine zc rfl (zd rfl wd yf rfl) w7 ?_
    refine zc rfl (zd rfl fo34x2 wZ rfl) wT ?_
    refine zc rfl (zq rfl ty2 wQ rfl (zt rfl) (zb rfl)) wS ?_
    refine zc rfl (zz rfl va wY rfl) wR ?_
    refine zc rfl (zd rfl qZ yv rfl) vg ?_
    refine zc rfl (zP (cs':=[.int .u8 l0.typ,.int .i64 (IntKind.wrap .i64 (l0.n+e1.op.n)),.int .u64 l0.time,.int .u8 l0.dot.actor.rep,.int .u32 l0.dot.actor.inc,.int .u64 l0.dot.seq,.str l0.text,.sl 5 (l0.items.map GItem.row),.sl 3 (l0.tombs.map GDot.row)]) rfl ty2 vn wX (zb rfl) rfl rfl rfl rfl rfl) rfl ?_
    refine zf (ye (zk (zn (ze ?_))))
    refine zc rfl (zq rfl ty31.choose_spec.1 yv rfl (zu (cs':=[.int .u8 l0.typ,.int .i64 (IntKind.wrap .i64 (l0.n+e1.op.n)),.int .u64 l0.time,.int .u8 l0.dot.actor.rep,.int .u32 l0.dot.actor.inc,.int .u64 l0.dot.seq,.str l0.text,.sl 5 (l0.items.map GItem.row),.sl 3 (l0.tombs.map GDot.row)]) ty31.choose_spec.2 rfl rfl) (zb rfl)) (sk (sk (sk st0))) ?_
    refine zc rfl (zP (cs':=[.int .u8 l0.typ,.int .i64 (IntKind.wrap .i64 (l0.n+e1.op.n)),.int .u64 l0.time,.int .u8 l0.dot.actor.rep,.int .u32 l0.dot.actor.inc,.int .u64 l0.dot.seq,.str l0.text,.sl 5 (l0.items.map GItem.row),.sl 3 (l0.tombs.map GDot.row)]) rfl ty31.choose_spec.1 yp (gk (gk (gk yh))) (zb rfl) rfl rfl rfl rfl rfl) rfl ?_
    refine zc rfl (zj rfl rfl (zb rfl)) xp ?_
    refine zf (zk (zJ ?_))
    obtain rfl:=Option.some.inj hF
    refine xU rfl (xg ty31.choose_spec.1 yp rfl (zu (cs':=[.int .u8 l0.typ,.int .i64 (IntKind.wrap .i64 (l0.n+e1.op.n)),.int .u64 l0.time,.int .u8 l0.dot.actor.rep,.int .u32 l0.dot.actor.inc,.int .u64 l0.dot.seq,.str l0.text,.sl 5 (l0.items.map GItem.row),.sl 3 (l0.tombs.map GDot.row)]) ty31.choose_spec.2 rfl rfl) (zb rfl) (zH yR zA)) (zB (leV.refl _) rfl ?_)
    exact ⟨rfl,rfl⟩
   ·refine zn (ze ?_)
    refine zc rfl (zz rfl wD rfl rfl) vI ?_
    refine zc rfl (zj rfl vC (zb rfl)) vf ?_
    refine zf (zk ?_)
    refine zI vm hF (fun hc7 hF=>?_) (fun hc7 hF=>?_)
    ·refine zn (ze ?_)
     refine zc rfl (zd rfl wm yv rfl) vN ?_
     refine zc rfl (zq rfl xM vO rfl (zt rfl) (zb rfl)) vZ ?_
     refine zc rfl (zz rfl qe rfl rfl) (sk st0) ?_
     refine zc rfl (zg rfl (gk yh) (zb rfl)) (sk st1) ?_
     refine zr rfl (fun hb=>zd rfl wm yv rfl) (sk xf) ?_
     refine zr rfl (fun hb=>zq rfl xM (zp (gk yv) hb) rfl (zt rfl) (zb rfl)) (sk x5) ?_
     refine zr rfl (fun hb=>zd rfl vp yv rfl) (sk yV) ?_
     refine zr rfl (fun hb=>zq rfl ty27.choose_spec.1 (zp (gk yp) hb) rfl (zu (cs':=[.int .u8 l0.dot.actor.rep,.int .u32 l0.dot.actor.inc,.int .u64 l0.dot.seq]) ty27.choose_spec.2 rfl rfl) (zb rfl)) (sk xp) ?_
     refine zr rfl (fun hb=>zd rfl qY yf rfl) (sk xI) ?_
     refine zr rfl (fun hb=>zq rfl xM (zp (gk xh) hb) rfl (zt rfl) (zb rfl)) (sk xN) ?_
     refine zr rfl (fun hb=>zd rfl vU yf rfl) (sk xC) ?_
     refine zr rfl (fun hb=>zq rfl ty27.choose_spec.1 (zp (gk xr) hb) rfl (zu (cs':=[.int .u8 e1.dot.actor.rep,.int .u32 e1.dot.actor.inc,.int .u64 e1.dot.seq]) ty27.choose_spec.2 rfl rfl) (zb rfl)) (sk xR) ?_
     refine yP hF (fun v8 hv8 hF=>?_)
     refine yJ rfl (fun hb=>zC rfl rfl rfl (zo (zp (gk yf) hb) (zo (zp (gk yR) hb) (zo (zp (gk xu) hb) (zo (zp (gk xK) hb) zw)))) (.cons (zb rfl) (.cons (zb rfl) (.cons (zb rfl) (.cons (zb rfl) .nil))))) (fun hb=>ok14 (hv8 hb)) (sk yy) ?_
     refine zc rfl (zM rfl (gk yB) rfl (gk yw) (zZ (fun ht=>gF ht))) (sk yx) ?_
     refine zf (zk ?_)
     refine zI (gk yr) hF (fun hc9 hF=>?_) (fun hc9 hF=>?_)
     ·refine zn (ze ?_)
      refine zc rfl (zd rfl qY yf rfl) (sk yE) ?_
      refine zc rfl (zq rfl xM (gk yD) rfl (zt rfl) (zb rfl)) (sk yK) ?_
      refine zc rfl (zd rfl wm yv rfl) (sk yT) ?_
      refine zc rfl (zP (cs':=[.int .u8 l0.typ,.int .i64 l0.n,.int .u64 e1.time,.int .u8 l0.dot.actor.rep,.int .u32 l0.dot.actor.inc,.int .u64 l0.dot.seq,.str l0.text,.sl 5 (l0.items.map GItem.row),.sl 3 (l0.tombs.map GDot.row)]) rfl xM (gk yY) (gk yI) (zb rfl) rfl rfl rfl rfl rfl) rfl ?_
      refine zf (zk (zn (ze ?_)))
      refine zc rfl (zd rfl vU yf rfl) (sk yS) ?_
      refine zc rfl (zq rfl ty27.choose_spec.1 (gk yO) rfl (zu (cs':=[.int .u8 e1.dot.actor.rep,.int .u32 e1.dot.actor.inc,.int .u64 e1.dot.seq]) ty27.choose_spec.2 rfl rfl) (zb rfl)) (sk yZ) ?_
      refine zc rfl (zd rfl vp yv rfl) (sk y8) ?_
      refine zc rfl (zP (cs':=[.int .u8 l0.typ,.int .i64 l0.n,.int .u64 e1.time,.int .u8 e1.dot.actor.rep,.int .u32 e1.dot.actor.inc,.int .u64 e1.dot.seq,.str l0.text,.sl 5 (l0.items.map GItem.row),.sl 3 (l0.tombs.map GDot.row)]) rfl ty27.choose_spec.1 (gk xd) (gk y4) (zb rfl) rfl rfl rfl rfl rfl) rfl ?_
      refine zf (zk (ze ?_))
      refine zc rfl (zd rfl wd yf rfl) (sk xk) ?_
      refine zc rfl (zd rfl qt (gk xl) rfl) (sk xJ) ?_
      refine zc rfl (zq rfl ty9 (gk xL) rfl (zt rfl) (zb rfl)) (sk xQ) ?_
      refine zc rfl (zd rfl qN yv rfl) (sk wb) ?_
      refine zc rfl (zP (cs':=[.int .u8 l0.typ,.int .i64 l0.n,.int .u64 e1.time,.int .u8 e1.dot.actor.rep,.int .u32 e1.dot.actor.inc,.int .u64 e1.dot.seq,.str e1.op.text,.sl 5 (l0.items.map GItem.row),.sl 3 (l0.tombs.map GDot.row)]) rfl ty9 (gk wa) (gk xX) (zb rfl) rfl rfl rfl rfl rfl) rfl ?_
      refine zf (ye (zk (zn (ze ?_))))
      refine zc rfl (zq rfl ty31.choose_spec.1 yv rfl (zu (cs':=[.int .u8 l0.typ,.int .i64 l0.n,.int .u64 e1.time,.int .u8 e1.dot.actor.rep,.int .u32 e1.dot.actor.inc,.int .u64 e1.dot.seq,.str e1.op.text,.sl 5 (l0.items.map GItem.row),.sl 3 (l0.tombs.map GDot.row)]) ty31.choose_spec.2 rfl rfl) (zb rfl)) (sk (sk (sk st0))) ?_
      refine zc rfl (zP (cs':=[.int .u8 l0.typ,.int .i64 l0.n,.int .u64 e1.time,.int .u8 e1.dot.actor.rep,.int .u32 e1.dot.actor.inc,.int .u64 e1.dot.seq,.str e1.op.text,.sl 5 (l0.items.map GItem.row),.sl 3 (l0.tombs.map GDot.row)]) rfl ty31.choose_spec.1 yp (gk (gk (gk yh))) (zb rfl) rfl rfl rfl rfl rfl) rfl ?_
      refine zc rfl (zj rfl rfl (zb rfl)) xp ?_
      refine zf (zk (zJ ?_))
      obtain rfl:=Option.some.inj hF
      refine xU rfl (xg ty31.choose_spec.1 yp rfl (zu (cs':=[.int .u8 l0.typ,.int .i64 l0.n,.int .u64 e1.time,.int .u8 e1.dot.actor.rep,.int .u32 e1.dot.actor.inc,.int .u64 e1.dot.seq,.str e1.op.text,.sl 5 (l0.items.map GItem.row),.sl 3 (l0.tombs.map GDot.row)]) ty31.choose_spec.2 rfl rfl) (zb rfl) (zH yR zA)) (zB (leV.refl _) rfl ?_)
      exact ⟨rfl,rfl⟩
     ·refine zN (ye (zk (zn (ze ?_))))
      refine zc rfl (zq rfl ty31.choose_spec.1 yv rfl (zu (cs':=[.int .u8 l0.typ,.int .i64 l0.n,.int .u64 l0.time,.int .u8 l0.dot.actor.rep,.int .u32 l0.dot.actor.inc,.int .u64 l0.dot.seq,.str l0.text,.sl 5 (l0.items.map GItem.row),.sl 3 (l0.tombs.map GDot.row)]) ty31.choose_spec.2 rfl rfl) (zb rfl)) (sk (sk (sk st0))) ?_
      refine zc rfl (zP (cs':=[.int .u8 l0.typ,.int .i64 l0.n,.int .u64 l0.time,.int .u8 l0.dot.actor.rep,.int .u32 l0.dot.actor.inc,.int .u64 l0.dot.seq,.str l0.text,.sl 5 (l0.items.map GItem.row),.sl 3 (l0.tombs.map GDot.row)]) rfl ty31.choose_spec.1 yp (gk (gk (gk yh))) (zb rfl) rfl rfl rfl rfl rfl) rfl ?_
      refine zc rfl (zj rfl rfl (zb rfl)) xp ?_
      refine zf (zk (zJ ?_))
      obtain rfl:=Option.some.inj hF
      refine xU rfl (xg ty31.choose_spec.1 yp rfl (zu (cs':=[.int .u8 l0.typ,.int .i64 l0.n,.int .u64 l0.time,.int .u8 l0.dot.actor.rep,.int .u32 l0.dot.actor.inc,.int .u64 l0.dot.seq,.str l0.text,.sl 5 (l0.items.map GItem.row),.sl 3 (l0.tombs.map GDot.row)]) ty31.choose_spec.2 rfl rfl) (zb rfl) (zH yR zA)) (zB (leV.refl _) rfl ?_)
      exact ⟨rfl,rfl⟩
    ·refine zn (ze ?_)
     refine zc rfl (zz rfl wD rfl rfl) (sk wp) ?_
     refine zc rfl (zj rfl (gk wg) (zb rfl)) (sk wl) ?_
     refine zf (zk ?_)
     refine zI (gk wq) hF (fun hc10 hF=>?_) (fun hc10 hF=>?_)
     ·refine zn (ze ?_)
      refine zc rfl (zd rfl y5 yv rfl) (sk wu) ?_
      refine zc rfl (zq rfl xP (gk ww) rfl (zt rfl) (zb rfl)) (sk wz) ?_
      refine zc rfl (zd rfl vU yf rfl) (sk wV) ?_
      refine zc rfl (zq rfl ty27.choose_spec.1 (gk wD) rfl (zu (cs':=[.int .u8 e1.dot.actor.rep,.int .u32 e1.dot.actor.inc,.int .u64 e1.dot.seq]) ty27.choose_spec.2 rfl rfl) (zb rfl)) (sk wU) ?_
      refine zQ hF (fun v11 hv11 hF=>?_)
      refine zU rfl (zC rfl rfl rfl (zo (gk wv) (zo (gk w4) zw)) (.cons (zb rfl) (.cons (zb rfl) .nil))) (ok24 hv11) (sk wG) ?_
      refine zc rfl (vB rfl (gk wH) rfl) (sk w9) ?_
      refine zf (zk ?_)
      refine zI (gk we) hF (fun hc12 hF=>?_) (fun hc12 hF=>?_)
      ·refine ze ?_
       refine zc rfl (zd rfl ym yv rfl) (sk w8) ?_
       refine zc rfl (zq rfl xW (gk va) rfl (zt rfl) (zb rfl)) (sk w7) ?_
       refine zc rfl (zd rfl vU yf rfl) (sk wT) ?_
       refine zc rfl (zq rfl ty27.choose_spec.1 (gk wQ) rfl (zu (cs':=[.int .u8 e1.dot.actor.rep,.int .u32 e1.dot.actor.inc,.int .u64 e1.dot.seq]) ty27.choose_spec.2 rfl rfl) (zb rfl)) (sk wS) ?_
       refine zc rfl (zd rfl wd yf rfl) (sk wR) ?_
       refine zc rfl (zd rfl qt (gk wX) rfl) (sk vg) ?_
       refine zc rfl (zq rfl ty9 (gk vn) rfl (zt rfl) (zb rfl)) (sk vf) ?_
       refine zc rfl (xc (cs':=[.int .u64 (0:Int),.int .u8 e1.dot.actor.rep,.int .u32 e1.dot.actor.inc,.int .u64 e1.dot.seq,.str e1.op.text]) rfl su47 ze47 pl47 (zK (gk wY) (zK (gk vm) zT)) (.cons (zb rfl) (.cons (zb rfl) .nil)) rfl rfl) (sk vI) ?_
       refine zQ hF (fun v13 hv13 hF=>?_)
       refine zU rfl (zC rfl rfl rfl (zo (gk wZ) (zo (gk vC) zw)) (.cons (zb rfl) (.cons (zb rfl) .nil))) (ok40 hv13) (sk vN) ?_
       refine zc rfl (zd rfl ym yv rfl) (sk vZ) ?_
       refine zc rfl (zP (cs':=[.int .u8 l0.typ,.int .i64 l0.n,.int .u64 l0.time,.int .u8 l0.dot.actor.rep,.int .u32 l0.dot.actor.inc,.int .u64 l0.dot.seq,.str l0.text,.sl 5 (v13.map GItem.row),.sl 3 (l0.tombs.map GDot.row)]) rfl xW (gk qe) (gk vO) (zb rfl) rfl rfl rfl rfl rfl) rfl ?_
       refine zf (ye (zk (zn (ze ?_))))
       refine zc rfl (zq rfl ty31.choose_spec.1 yv rfl (zu (cs':=[.int .u8 l0.typ,.int .i64 l0.n,.int .u64 l0.time,.int .u8 l0.dot.actor.rep,.int .u32 l0.dot.actor.inc,.int .u64 l0.dot.seq,.str l0.text,.sl 5 (v13.map GItem.row),.sl 3 (l0.tombs.map GDot.row)]) ty31.choose_spec.2 rfl rfl) (zb rfl)) (sk (sk (sk st0))) ?_
       refine zc rfl (zP (cs':=[.int .u8 l0.typ,.int .i64 l0.n,.int .u64 l0.time,.int .u8 l0.dot.actor.rep,.int .u32 l0.dot.actor.inc,.int .u64 l0.dot.seq,.str l0.text,.sl 5 (v13.map GItem.row),.sl 3 (l0.tombs.map GDot.row)]) rfl ty31.choose_spec.1 yp (gk (gk (gk yh))) (zb rfl) rfl rfl rfl rfl rfl) rfl ?_
       refine zc rfl (zj rfl rfl (zb rfl)) xp ?_
       refine zf (zk (zJ ?_))
       obtain rfl:=Option.some.inj hF
       refine xU rfl (xg ty31.choose_spec.1 yp rfl (zu (cs':=[.int .u8 l0.typ,.int .i64 l0.n,.int .u64 l0.time,.int .u8 l0.dot.actor.rep,.int .u32 l0.dot.actor.inc,.int .u64 l0.dot.seq,.str l0.text,.sl 5 (v13.map GItem.row),.sl 3 (l0.tombs.map GDot.row)]) ty31.choose_spec.2 rfl rfl) (zb rfl) (zH yR zA)) (zB (leV.refl _) rfl ?_)
       exact ⟨rfl,rfl⟩
      ·refine zN (ye (zk (zn (ze ?_))))
       refine zc rfl (zq rfl ty31.choose_spec.1 yv rfl (zu (cs':=[.int .u8 l0.typ,.int .i64 l0.n,.int .u64 l0.time,.int .u8 l0.dot.actor.rep,.int .u32 l0.dot.actor.inc,.int .u64 l0.dot.seq,.str l0.text,.sl 5 (l0.items.map GItem.row),.sl 3 (l0.tombs.map GDot.row)]) ty31.choose_spec.2 rfl rfl) (zb rfl)) (sk (sk (sk st0))) ?_
       refine zc rfl (zP (cs':=[.int .u8 l0.typ,.int .i64 l0.n,.int .u64 l0.time,.int .u8 l0.dot.actor.rep,.int .u32 l0.dot.actor.inc,.int .u64 l0.dot.seq,.str l0.text,.sl 5 (l0.items.map GItem.row),.sl 3 (l0.tombs.map GDot.row)]) rfl ty31.choose_spec.1 yp (gk (gk (gk yh))) (zb rfl) rfl rfl rfl rfl rfl) rfl ?_
       refine zc rfl (zj rfl rfl (zb rfl)) xp ?_
       refine zf (zk (zJ ?_))
       obtain rfl:=Option.some.inj hF
       refine xU rfl (xg ty31.choose_spec.1 yp rfl (zu (cs':=[.int .u8 l0.typ,.int .i64 l0.n,.int .u64 l0.time,.int .u8 l0.dot.actor.rep,.int .u32 l0.dot.actor.inc,.int .u64 l0.dot.seq,.str l0.text,.sl 5 (l0.items.map GItem.row),.sl 3 (l0.tombs.map GDot.row)]) ty31.choose_spec.2 rfl rfl) (zb rfl) (zH yR zA)) (zB (leV.refl _) rfl ?_)
       exact ⟨rfl,rfl⟩
     ·refine zn (ze ?_)
      refine zc rfl (zz rfl wD rfl rfl) (sk (sk st1)) ?_
      refine zc rfl (zj rfl (gk (gk yB)) (zb rfl)) (sk (sk st0)) ?_
      refine zf (zk ?_)
      refine zI (gk (gk yh)) hF (fun hc14 hF=>?_) (fun hc14 hF=>?_)
      ·refine zn (zn (ze ?_))
       refine zc rfl (zj rfl rfl (zb rfl)) xI ?_
       refine zf (zk (zW ?_))
       refine xi (fun (n1:Nat) (s1:(List GDot))=>xB [0,1,5,7,8,9,10,11,12,13,14,15,16,17,18,19,20,21,22,23,24,25,26,27,28,29,30,31,32,33,34,35,36,37,38,39,40,41,42,43,44,45,46,47,48,49,50,51,52,53,54,55,56,57,58,59,60,61,62,63,64,65,66,67,68,69,70,71,72,73,74,75,76,77,78,79,80,81,82,83,84,85,86,87,88,89,90,91,92,93,94,95,96,97,98,99,100,101,102,103,104,105,106,107,108,109,110,111,112,113,114,115,116,117,118,119,120] [(6,.int .i64 (n1:Int))]) (fun s1=>h.ext [.cells [.int .u8 l0.typ,.int .i64 l0.n,.int .u64 l0.time,.int .u8 l0.dot.actor.rep,.int .u32 l0.dot.actor.inc,.int .u64 l0.dot.seq,.str l0.text,.sl 5 (l0.items.map GItem.row),.sl 3 (s1.map GDot.row)],.cells [.int .u8 e1.dot.actor.rep,.int .u32 e1.dot.actor.inc,.int .u64 e1.dot.seq,.int .u64 e1.time,.int .u8 e1.op.kind,.sl 1 (e1.op.path.map zG),.int .i64 e1.op.n,.str e1.op.text,.sl 3 (e1.op.dots.map GDot.row)],.cells [.int .u8 (0:Int),.int .i64 (0:Int),.int .u64 (0:Int),.int .u8 (0:Int),.int .u32 (0:Int),.int .u64 (0:Int),.str ([]:yn),.osl none 5 (([]:List GItem).map GItem.row),.osl none 3 (([]:List GDot).map GDot.row)]] []) hF (fun _ _=>by simp only [xB,upd,List.set_cons_succ,List.set_cons_zero];try rfl) (wk.le (by exact (.drop (.drop (.eq (.eq (.eq (.drop (.cons (leV.of_eq rfl) (.d16 (.d16 (.d16 (.d16 (.d16 (.d16 (.d16 (.drop (.drop leL.nil)))))))))))))))))) ?_
       intro n1 s1 hi1 hF
       refine zn (zn (ze ?_))
       refine zc rfl (zg rfl xh (zb rfl)) (sk (sk xf)) ?_
       refine zc rfl (zd rfl wd yf rfl) (sk (sk x5)) ?_
       refine zc rfl (zd rfl vJ (gk (gk yf)) rfl) (sk (sk yV)) ?_
       refine zc rfl (zq rfl xP (gk (gk yp)) rfl (zt rfl) (zb rfl)) (sk (sk xp)) ?_
       refine yj rfl (ya rfl rfl rfl rfl yU (gk (gk yR)) yC) (sk (sk xI)) fun hn48=>?_
       replace hn48:=wW hn48
       refine zc rfl (zz rfl (gk (gk yv)) (gk (gk xh)) rfl) (sk (sk xN)) ?_
       refine zf (zk ?_)
       refine xO (gk (gk xu)) hF (fun x1 o1 hl1 hx1 hF hK1=>?_) (fun hF=>?_)
       ·refine zN (zk (zn (zW ?_)))
        refine yb [8] [] trivial mixed (by kernel_rfl) ?_
        refine zi rfl rfl (zd rfl y5 yv rfl) (sk (sk yy)) ?_
        refine zi rfl rfl (zq rfl xP (gk (gk yw)) rfl (zt rfl) (zb rfl)) (sk (sk yx)) ?_
        refine zi rfl rfl (zd rfl wd yf rfl) (sk (sk yE)) ?_
        refine zi rfl rfl (zd rfl vJ (gk (gk yD)) rfl) (sk (sk yK)) ?_
        refine zi rfl rfl (zq rfl xP (gk (gk yI)) rfl (zt rfl) (zb rfl)) (sk (sk yT)) ?_
        refine zi rfl rfl (zg rfl xh (zb rfl)) (sk (sk yS)) ?_
        refine zi rfl rfl (yM rfl yU (gk (gk yY)) (gk (gk yO)) isl (wc hx1)) (sk (sk yZ)) ?_
        refine zi rfl rfl (yW rfl ty27.choose_spec.1 (gk (gk y4)) (zu (cs':=[.int .u8 x1.actor.rep,.int .u32 x1.actor.inc,.int .u64 x1.seq]) ty27.choose_spec.2 rfl rfl) (zb rfl)) (sk (sk y8)) ?_
        refine zQ hF (fun v49 hv49 hF=>?_)
        refine yQ rfl rfl (fun _=>zC rfl rfl rfl (zo (gk (gk yr)) (zo (gk (gk xd)) zw)) (.cons (zb rfl) (.cons (zb rfl) .nil))) (by rintro _ ⟨B2,T2,rfl,hk2⟩;exact ok41 hv49) (sk (sk xk)) ?_
        refine zi rfl rfl (zd rfl y5 yv rfl) (sk (sk xJ)) ?_
        refine yG rfl (FOk.cons (.inr (xY trivial)) FOk.nil) (by kernel_rfl) rfl (zP (cs':=[.int .u8 l0.typ,.int .i64 l0.n,.int .u64 l0.time,.int .u8 l0.dot.actor.rep,.int .u32 l0.dot.actor.inc,.int .u64 l0.dot.seq,.str l0.text,.sl 5 (l0.items.map GItem.row),.sl 3 (v49.map GDot.row)]) rfl xP (gk (gk xL)) (gk (gk xl)) (zb rfl) rfl rfl rfl rfl rfl) rfl ?_
        refine zX ?_
        refine ye (zk (ze ?_))
        refine zc rfl (zg rfl xh (zb rfl)) (sk (sk xC)) ?_
        refine zc rfl (zz rfl (gk (gk xr)) rfl rfl) (sk (sk xR)) ?_
        refine zc rfl (zj rfl (gk (gk xK)) (zb rfl)) xI ?_
        refine zf (xw ?_)
        obtain rfl:=Option.some.inj hF
        exact ⟨v49,hl1,hK1,wk.le (by exact (.drop (.drop (.eq (.eq (.eq (.drop (.cons (leV.of_eq (qT (by omega) (by omega))) (.d16 (.d16 (.d16 (.d16 (.d16 (.d16 (.d16 (.drop (.drop leL.nil)))))))))))))))))⟩
       ·refine xD ?_
        refine yd ?_
        refine z7 ?_
        refine z8 ?_
        refine zk (ze ?_)
        refine zc rfl (zd rfl ym yv rfl) (sk (sk xQ)) ?_
        refine zc rfl (zq rfl xW (gk (gk xX)) rfl (zt rfl) (zb rfl)) (sk (sk wb)) ?_
        refine zc rfl (zd rfl y5 yv rfl) (sk (sk wl)) ?_
        refine zc rfl (zq rfl xP (gk (gk wq)) rfl (zt rfl) (zb rfl)) (sk (sk wp)) ?_
        refine zQ hF (fun v50 hv50 hF=>?_)
        refine zU rfl (zC rfl rfl rfl (zo (gk (gk wa)) (zo (gk (gk wg)) zw)) (.cons (zb rfl) (.cons (zb rfl) .nil))) (ok42 hv50) (sk (sk wu)) ?_
        refine zc rfl (zd rfl ym yv rfl) (sk (sk wz)) ?_
        refine zc rfl (zP (cs':=[.int .u8 l0.typ,.int .i64 l0.n,.int .u64 l0.time,.int .u8 l0.dot.actor.rep,.int .u32 l0.dot.actor.inc,.int .u64 l0.dot.seq,.str l0.text,.sl 5 (v50.map GItem.row),.sl 3 (s1.map GDot.row)]) rfl xW (gk (gk wv)) (gk (gk ww)) (zb rfl) rfl rfl rfl rfl rfl) rfl ?_
        refine zf (ye (zk (zn (ze ?_))))
        refine zc rfl (zq rfl ty31.choose_spec.1 yv rfl (zu (cs':=[.int .u8 l0.typ,.int .i64 l0.n,.int .u64 l0.time,.int .u8 l0.dot.actor.rep,.int .u32 l0.dot.actor.inc,.int .u64 l0.dot.seq,.str l0.text,.sl 5 (v50.map GItem.row),.sl 3 (s1.map GDot.row)]) ty31.choose_spec.2 rfl rfl) (zb rfl)) (sk (sk (sk st0))) ?_
        refine zc rfl (zP (cs':=[.int .u8 l0.typ,.int .i64 l0.n,.int .u64 l0.time,.int .u8 l0.dot.actor.rep,.int .u32 l0.dot.actor.inc,.int .u64 l0.dot.seq,.str l0.text,.sl 5 (v50.map GItem.row),.sl 3 (s1.map GDot.row)]) rfl ty31.choose_spec.1 yp (gk (gk (gk yh))) (zb rfl) rfl rfl rfl rfl rfl) rfl ?_
        refine zc rfl (zj rfl rfl (zb rfl)) xp ?_
        refine zf (zk (zJ ?_))
        obtain rfl:=Option.some.inj hF
        refine xU rfl (xg ty31.choose_spec.1 yp rfl (zu (cs':=[.int .u8 l0.typ,.int .i64 l0.n,.int .u64 l0.time,.int .u8 l0.dot.actor.rep,.int .u32 l0.dot.actor.inc,.int .u64 l0.dot.seq,.str l0.text,.sl 5 (v50.map GItem.row),.sl 3 (s1.map GDot.row)]) ty31.choose_spec.2 rfl rfl) (zb rfl) (zH yR zA)) (zB (leV.refl _) rfl ?_)
        exact ⟨rfl,rfl⟩
      ·refine zn (ze ?_)
       refine zc rfl (zz rfl wD rfl rfl) (sk (sk wU)) ?_
       refine zc rfl (zj rfl (gk (gk w4)) (zb rfl)) (sk (sk wV)) ?_
       refine zf (zk ?_)
       refine zI (gk (gk wD)) hF (fun hc51 hF=>?_) (fun hc51 hF=>?_)
       ·refine ze ?_
        refine zc rfl (zd rfl ym yv rfl) (sk (sk wG)) ?_
        refine zc rfl (zq rfl xW (gk (gk wH)) rfl (zt rfl) (zb rfl)) (sk (sk w9)) ?_
        refine zc rfl (zd rfl qY yf rfl) (sk (sk w8)) ?_
        refine zc rfl (zq rfl xM (gk (gk va)) rfl (zt rfl) (zb rfl)) (sk (sk w7)) ?_
        refine zc rfl (zd rfl vU yf rfl) (sk (sk wT)) ?_
        refine zc rfl (zq rfl ty27.choose_spec.1 (gk (gk wQ)) rfl (zu (cs':=[.int .u8 e1.dot.actor.rep,.int .u32 e1.dot.actor.inc,.int .u64 e1.dot.seq]) ty27.choose_spec.2 rfl rfl) (zb rfl)) (sk (sk wS)) ?_
        refine zc rfl (zd rfl wd yf rfl) (sk (sk wR)) ?_
        refine zc rfl (zd rfl qt (gk (gk wX)) rfl) (sk (sk vg)) ?_
        refine zc rfl (zq rfl ty9 (gk (gk vn)) rfl (zt rfl) (zb rfl)) (sk (sk vf)) ?_
        refine zc rfl (xc (cs':=[.int .u64 e1.time,.int .u8 e1.dot.actor.rep,.int .u32 e1.dot.actor.inc,.int .u64 e1.dot.seq,.str e1.op.text]) rfl su47 ze47 pl47 (zK (gk (gk wZ)) (zK (gk (gk wY)) (zK (gk (gk vm)) zT))) (.cons (zb rfl) (.cons (zb rfl) (.cons (zb rfl) .nil))) rfl rfl) (sk (sk vI)) ?_
        refine zQ hF (fun v52 hv52 hF=>?_)
        refine zU rfl (zC rfl rfl rfl (zo (gk (gk we)) (zo (gk (gk vC)) zw)) (.cons (zb rfl) (.cons (zb rfl) .nil))) (ok40 hv52) (sk (sk vN)) ?_
        refine zc rfl (zd rfl ym yv rfl) (sk (sk vZ)) ?_
        refine zc rfl (zP (cs':=[.int .u8 l0.typ,.int .i64 l0.n,.int .u64 l0.time,.int .u8 l0.dot.actor.rep,.int .u32 l0.dot.actor.inc,.int .u64 l0.dot.seq,.str l0.text,.sl 5 (v52.map GItem.row),.sl 3 (l0.tombs.map GDot.row)]) rfl xW (gk (gk qe)) (gk (gk vO)) (zb rfl) rfl rfl rfl rfl rfl) rfl ?_
        refine zf (ye (zk (zn (ze ?_))))
        refine zc rfl (zq rfl ty31.choose_spec.1 yv rfl (zu (cs':=[.int .u8 l0.typ,.int .i64 l0.n,.int .u64 l0.time,.int .u8 l0.dot.actor.rep,.int .u32 l0.dot.actor.inc,.int .u64 l0.dot.seq,.str l0.text,.sl 5 (v52.map GItem.row),.sl 3 (l0.tombs.map GDot.row)]) ty31.choose_spec.2 rfl rfl) (zb rfl)) (sk (sk (sk st0))) ?_
        refine zc rfl (zP (cs':=[.int .u8 l0.typ,.int .i64 l0.n,.int .u64 l0.time,.int .u8 l0.dot.actor.rep,.int .u32 l0.dot.actor.inc,.int .u64 l0.dot.seq,.str l0.text,.sl 5 (v52.map GItem.row),.sl 3 (l0.tombs.map GDot.row)]) rfl ty31.choose_spec.1 yp (gk (gk (gk yh))) (zb rfl) rfl rfl rfl rfl rfl) rfl ?_
        refine zc rfl (zj rfl rfl (zb rfl)) xp ?_
        refine zf (zk (zJ ?_))
        obtain rfl:=Option.some.inj hF
        refine xU rfl (xg ty31.choose_spec.1 yp rfl (zu (cs':=[.int .u8 l0.typ,.int .i64 l0.n,.int .u64 l0.time,.int .u8 l0.dot.actor.rep,.int .u32 l0.dot.actor.inc,.int .u64 l0.dot.seq,.str l0.text,.sl 5 (v52.map GItem.row),.sl 3 (l0.tombs.map GDot.row)]) ty31.choose_spec.2 rfl rfl) (zb rfl) (zH yR zA)) (zB (leV.refl _) rfl ?_)
        exact ⟨rfl,rfl⟩
       ·refine zN (ye (zk (zn (ze ?_))))
        refine zc rfl (zq rfl ty31.choose_spec.1 yv rfl (zu (cs':=[.int .u8 l0.typ,.int .i64 l0.n,.int .u64 l0.time,.int .u8 l0.dot.actor.rep,.int .u32 l0.dot.actor.inc,.int .u64 l0.dot.seq,.str l0.text,.sl 5 (l0.items.map GItem.row),.sl 3 (l0.tombs.map GDot.row)]) ty31.choose_spec.2 rfl rfl) (zb rfl)) (sk (sk (sk st0))) ?_
        refine zc rfl (zP (cs':=[.int .u8 l0.typ,.int .i64 l0.n,.int .u64 l0.time,.int .u8 l0.dot.actor.rep,.int .u32 l0.dot.actor.inc,.int .u64 l0.dot.seq,.str l0.text,.sl 5 (l0.items.map GItem.row),.sl 3 (l0.tombs.map GDot.row)]) rfl ty31.choose_spec.1 yp (gk (gk (gk yh))) (zb rfl) rfl rfl rfl rfl rfl) rfl ?_
        refine zc rfl (zj rfl rfl (zb rfl)) xp ?_
        refine zf (zk (zJ ?_))
        obtain rfl:=Option.some.inj hF
        refine xU rfl (xg ty31.choose_spec.1 yp rfl (zu (cs':=[.int .u8 l0.typ,.int .i64 l0.n,.int .u64 l0.time,.int .u8 l0.dot.actor.rep,.int .u32 l0.dot.actor.inc,.int .u64 l0.dot.seq,.str l0.text,.sl 5 (l0.items.map GItem.row),.sl 3 (l0.tombs.map GDot.row)]) ty31.choose_spec.2 rfl rfl) (zb rfl) (zH yR zA)) (zB (leV.refl _) rfl ?_)
        exact ⟨rfl,rfl⟩
end Go.Vv
