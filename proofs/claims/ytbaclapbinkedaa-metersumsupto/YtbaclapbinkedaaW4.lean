/- Each function that the law reaches computes what its reading says; printed by a program. -/
import Derived.Test.YtbaclapbinkedaaW3
namespace Go.Vv
open Go Go.Proofs
set_option maxRecDepth 100000
set_option maxHeartbeats 1000000
set_option linter.unusedSimpArgs false
set_option linter.unusedVariables false
theorem ok3 {t0:(List GNode)} {res:Bool} {h:AH}  (hF:qa t0=some res):Spec Try.prog 3 [.sl 3 (t0.map GNode.row)] h (fun rr hh=>rr=.bool res∧hh=h):=by
 unfold qa at hF
 refine zw Try.func3 rfl (by kernel_rfl) (env:=[.sl 3 (t0.map GNode.row),za,za,za,za,za,za,za,za,za,za,za,za,za,za,za,za,za,za,za,za,za,za,za,za,za,za,za,za,za,za,za,za,za,za,za,za,za,za,za,za,za,za,za,za,za,za,za,za,za,za,za,za,za,za,za,za,za,za,za,za,za,za,za,za,za,za,za,za,za,za,za,za,za,za,za,za,za,za,za,za,za,za,za,za,za,za,za,za,za,za,za,za,za,za,za,za,za,za,za,za,za,za,za,za,za,za,za,za,za,za,za,za,za,za,za,za,za,za,za,za]) (by rfl) ?_
 refine zn (zd ?_)
 refine zc rfl (zi rfl rfl (zb rfl)) xj ?_
 refine zf (zj (zn (zn (zd ?_))))
 refine zc rfl (ze rfl yd (zb rfl)) yO ?_
 refine zc rfl (vw (cs':=[.int .u8 (0:Int),.osl none 1 (([]:List yg).map zR),.int .i64 (0:Int),.str ([]:yg),.osl none 3 (([]:List GDot).map GDot.row)]) rfl su28 ze28 pl28 yb .nil rfl rfl) yS ?_
 refine zK hF (fun v1 hv1 hF=>?_)
 refine zU rfl (zz rfl rfl rfl (zg rfl (zg yE (zg yP zu))) (.cons (xk el45) (.cons (zb rfl) (.cons (zb rfl) .nil)))) ((ok4 hv1).le (.cons (leV.osl _ _ _) (.eq (.cons (leV.agg (.eq (.cons (leV.osl _ _ _) (.eq (.eq (.cons (leV.osl _ _ _) leL.nil))))) rfl) leL.nil)))) yW ?_
 refine zc rfl (ze rfl yU (zb rfl)) xa ?_
 refine zq rfl (fun hb=>ze rfl yd (zb rfl)) xd ?_
 refine wi hF (fun v2 hv2 hF=>?_)
 refine xN rfl (fun hb=>zz rfl rfl rfl (zg (zp xb hb) zu) (.cons (zb rfl) .nil)) (fun hb=>ok5 (hv2 hb)) xq ?_
 refine zq rfl (fun hb=>qm rfl (zp yD hb) rfl) xr ?_
 refine zc rfl (zM rfl yR rfl xz (ya (fun ht=>gF ht))) xV ?_
 refine zf (zj ?_)
 refine zG xi hF (fun hc3 hF=>?_) (fun hc3 hF=>?_)
 ·refine zn (zd ?_)
  refine zK hF (fun v4 hv4 hF=>?_)
  refine zU rfl (zz rfl rfl rfl zu .nil) (ok6 hv4) xU ?_
  refine zc rfl (zi rfl xY (zb rfl)) xj ?_
  refine zf (zj (zO (zC ?_)))
  obtain rfl:=Option.some.inj hF
  refine zA rfl (zE yQ zB) (zD (leV.refl _) rfl ?_)
  exact ⟨rfl,rfl⟩
 ·refine zH (zj (zn (zd ?_)))
  refine zc rfl (ze rfl yd (zb rfl)) wh ?_
  refine zK hF (fun v5 hv5 hF=>?_)
  refine zU rfl (zz rfl rfl rfl (zg xH zu) (.cons (zb rfl) .nil)) (ok7 hv5) wu ?_
  refine zc rfl (ze rfl xg (zb rfl)) wa ?_
  refine zc rfl (vb rfl wb rfl (zb rfl)) wB ?_
  refine zc rfl (vb rfl wb rfl (zb rfl)) va ?_
  refine zc rfl (zi rfl ww (zb rfl)) wA ?_
  refine zc rfl (zi rfl vg (zb rfl)) yK ?_
  refine zf (zj (zn (zd ?_)))
  refine zc rfl (ze rfl yd (zb rfl)) vm ?_
  refine zK hF (fun v6 hv6 hF=>?_)
  refine zU rfl (zz rfl rfl rfl (zg vo zu) (.cons (zb rfl) .nil)) (ok8 hv6) vu ?_
  refine zc rfl (ze rfl vy (zb rfl)) wV ?_
  refine zc rfl (vb rfl wX rfl (zb rfl)) vt ?_
  refine zc rfl (vb rfl wX rfl (zb rfl)) vr ?_
  refine zc rfl (xn (n:=0) rfl ze36 rfl) xI ?_
  refine zc rfl (yk (cs':=[.str v6.1.name,.int .i64 v6.1.leaves,.int .i64 v6.1.items,.int .i64 v6.1.tombs,.int .i64 v6.1.bytes]) rfl ty36.choose_spec.1 yX vn (zb rfl) rfl rfl rfl rfl rfl) rfl ?_
  refine zc rfl (zi rfl vU (zb rfl)) xT ?_
  refine zf (zj (zn (zd ?_)))
  refine zc rfl (zi rfl rfl (zb rfl)) x9 ?_
  refine zc rfl (zi rfl rfl (zb rfl)) xS ?_
  refine zc rfl (zi rfl rfl (zb rfl)) wE ?_
  refine zf (zj (zn (zn (zd ?_))))
  refine zc rfl (ze rfl yY (zb rfl)) wU ?_
  refine z7 rfl (zX rfl rfl rfl rfl el31 wM z8) w9 fun hn7=>?_
  replace hn7:=xG hn7
  refine zc rfl (ze rfl rfl (zb rfl)) wT ?_
  refine zf (zj (zI ?_))
  refine yw (fun (n1:Nat) (s1:Int×Int×Int)=>yv [1,2,10,11,12,13,14,15,16,17,18,19,20,21,22,23,24,25,26,27,28,29,30,31,35,36,37,38,39,40,41,42,43,44,45,46,47,48,49,50,51,52,53,54,55,56,57,58,59,60,61,62,63,64,65,66,67,68,69,70,71,72,73,74,75,76,77,78,79,80,81,82,83,84,85,86,87,88,89,90,91,92,93,94,95,96,97,98,99,100,101,102,103,104,105,106,107,108,109,110,111,112,113,114,115,116,117,118,119,120] [(7,.int .i64 s1.1),(8,.int .i64 s1.2.1),(9,.int .i64 s1.2.2),(34,.int .i64 (n1:Int))]) (fun s1=>h.ext [.cells [.str v6.1.name,.int .i64 v6.1.leaves,.int .i64 v6.1.items,.int .i64 v6.1.tombs,.int .i64 v6.1.bytes]] []) hF (fun _ _=>by simp only [yv,upd,List.set_cons_succ,List.set_cons_zero];try rfl) (wk.le (by exact (.eq (.drop (.drop (.eq (.eq (.eq (.eq (.cons (leV.of_eq rfl) (.cons (leV.of_eq rfl) (.cons (leV.of_eq rfl) (.d16 (.d4 (.drop (.drop (.eq (.eq (.cons (leV.of_eq rfl) (.d16 (.d16 (.d16 (.d16 (.d16 (.d4 (.drop (.drop leL.nil))))))))))))))))))))))))))) ?_
  intro n1 s1 hi1 hF
  refine zn (zd ?_)
  refine zc rfl (zr rfl wL wW rfl) wS ?_
  refine zf (zj (zn ?_))
  refine y7 wP hF (fun x1 o1 hl1 hx1 hF hK1=>?_) (fun hF=>?_)
  ·refine zH (zj (zn (zI (zn (zd ?_)))))
   refine zc rfl (ze rfl wL (zb rfl)) w8 ?_
   refine zc rfl (yM rfl el31 wM wL qI (xl hx1)) wZ ?_
   refine zc rfl (yf rfl ty36.choose_spec.1 ve (zF (cs':=[.str x1.name,.int .i64 x1.leaves,.int .i64 x1.items,.int .i64 x1.tombs,.int .i64 x1.bytes]) ty36.choose_spec.2 rfl rfl) (zb rfl)) vD ?_
   refine zc rfl (xn (n:=1) rfl ze36 rfl) yz ?_
   refine zc rfl (zi rfl vf (zb rfl)) yC ?_
   refine zc rfl (yk (cs':=[.str x1.name,.int .i64 x1.leaves,.int .i64 x1.items,.int .i64 x1.tombs,.int .i64 x1.bytes]) rfl ty36.choose_spec.1 yh vJ (zb rfl) rfl rfl rfl rfl rfl) rfl ?_
   refine zf (zj (zn ?_))
   refine yr [] [] trivial xF (by kernel_rfl) ?_
   refine zo rfl rfl (ze rfl xE (zb rfl)) vC ?_
   refine zo rfl rfl (zk rfl fo36x1 yh rfl) (sk st0) ?_
   refine zo rfl rfl (zy rfl ty3 (gk yd) rfl (zt rfl) (zb rfl)) (sk st1) ?_
   refine zo rfl rfl (zr rfl vI (gk yo) rfl) (sk xj) ?_
   refine zo rfl rfl (ze rfl xu (zb rfl)) (sk wA) ?_
   refine zo rfl rfl (zk rfl fo36x2 yh rfl) (sk yK) ?_
   refine zo rfl rfl (zy rfl ty3 (gk yG) rfl (zt rfl) (zb rfl)) (sk xI) ?_
   refine zo rfl rfl (zr rfl (gk yY) (gk yX) rfl) (sk xT) ?_
   refine zo rfl rfl (ze rfl x4 (zb rfl)) (sk x9) ?_
   refine zo rfl rfl (zk rfl fo36x3 yh rfl) (sk xS) ?_
   refine zo rfl rfl (zy rfl ty3 (gk xu) rfl (zt rfl) (zb rfl)) (sk wE) ?_
   refine zo rfl rfl (zr rfl (gk xE) (gk x4) rfl) (sk yC) ?_
   refine zo rfl rfl (zi rfl (gk yQ) (zb rfl)) x9 ?_
   refine zo rfl rfl (zi rfl (gk y5) (zb rfl)) xS ?_
   refine zo rfl rfl (zi rfl (gk yl) (zb rfl)) wE ?_
   refine yc ?_
   refine zj (zn ?_)
   refine yr [] [] trivial xF (by kernel_rfl) ?_
   refine zo rfl rfl (zk rfl fo36x0 yh rfl) (sk yz) ?_
   refine zo rfl rfl (zy rfl ty9 (gk yh) rfl (zt rfl) (zb rfl)) (sk yL) ?_
   refine zo rfl rfl (ze rfl yd (zb rfl)) (sk yO) ?_
   refine zo rfl rfl (ze rfl yl (zb rfl)) (sk yS) ?_
   refine zK hF (fun y21 hy21 hF=>?_)
   refine zo rfl rfl (we rfl qA (gk yE) (gk yP) qI hy21 (GNode.row_eq _)) (sk yW) ?_
   refine zo rfl rfl (zk rfl fo41x0 (gk yU) rfl) (sk xa) ?_
   refine zo rfl rfl (yf rfl ty9 (gk yR) (zt rfl) (zb rfl)) (sk xd) ?_
   refine zo rfl rfl (zr rfl (gk yJ) (gk xb) rfl) (sk xq) ?_
   refine zo rfl rfl (ze rfl (gk yD) (zb rfl)) (sk xr) ?_
   refine zx rfl rfl (fun hb=>zk rfl fo36x4 yh rfl) (sk xV) ?_
   refine zx rfl rfl (fun hb=>zy rfl ty3 (zp (gk xi) hb) rfl (zt rfl) (zb rfl)) (sk xU) ?_
   refine zx rfl rfl (fun hb=>zk rfl fo36x4 yX rfl) (sk wa) ?_
   refine zx rfl rfl (fun hb=>zy rfl ty3 (zp (gk wb) hb) rfl (zt rfl) (zb rfl)) (sk wh) ?_
   refine zx rfl rfl (fun hb=>zr rfl (zp (gk xY) hb) (zp (gk xH) hb) rfl) (sk wu) ?_
   refine zo rfl rfl (zM rfl (gk xz) rfl (gk xg) (ya (fun ht=>gF ht))) (sk wB) ?_
   refine yc ?_
   refine zj ?_
   refine zG (gk ww) hF (fun hc22 hF=>?_) (fun hc22 hF=>?_)
   ·refine zn (zd ?_)
    refine zc rfl (zi rfl rfl (zb rfl)) xj ?_
    refine zf (zj (zO ?_))
    refine zJ ?_
    refine zC ?_
    refine yp ?_
    obtain rfl:=Option.some.inj hF
    replace hF:=hK1
    refine zJ ?_
    refine zC ?_
    obtain rfl:=Option.some.inj hF
    refine zA rfl (zE yQ zB) (zD (leV.refl _) rfl ?_)
    exact ⟨rfl,rfl⟩
   ·refine zH (zY (zj (zd ?_)))
    refine zc rfl (zr rfl wL rfl rfl) (sk va) ?_
    refine zc rfl (ze rfl (gk vg) (zb rfl)) wT ?_
    refine zf (yi ?_)
    obtain rfl:=Option.some.inj hF
    exact ⟨((IntKind.wrap .i64 (s1.1+x1.leaves)),(IntKind.wrap .i64 (s1.2.1+x1.items)),(IntKind.wrap .i64 (s1.2.2+x1.tombs))),hl1,hK1,wk.trans (wk.le (by exact (.eq (.drop (.drop (.eq (.eq (.eq (.eq (.cons (leV.of_eq rfl) (.cons (leV.of_eq rfl) (.cons (leV.of_eq rfl) (.d16 (.d4 (.drop (.drop (.eq (.eq (.cons (leV.of_eq (qp (by omega) (by omega))) (.d16 (.d16 (.d16 (.d16 (.d16 (.d4 (.drop (.drop leL.nil))))))))))))))))))))))))))) (wD (by simp [z9,AV.low]) rfl rfl (by simp [Blk.low,z9,AV.low]))⟩
  ·refine yy ?_
   refine zT ?_
   refine zP ?_
   refine zQ ?_
   refine zj (zn (zd ?_))
   refine zc rfl (ze rfl yd (zb rfl)) (sk wV) ?_
   refine zK hF (fun v23 hv23 hF=>?_)
   refine zU rfl (zz rfl rfl rfl (zg (gk wX) (zg rfl zu)) (.cons (zb rfl) (.cons (zb rfl) .nil))) (ok9 hv23) (sk vm) ?_
   refine zc rfl (zi rfl (gk vo) (zb rfl)) yL ?_
   refine zf (zj (zn (zn (zd ?_))))
   refine zc rfl (ze rfl yG (zb rfl)) (sk vu) ?_
   refine zc rfl (zr rfl (gk vy) rfl rfl) (sk vt) ?_
   refine zc rfl (ze rfl (gk vn) (zb rfl)) (sk vr) ?_
   refine zq rfl (fun hb=>ze rfl y5 (zb rfl)) (sk wU) ?_
   refine zq rfl (fun hb=>zr rfl (zp (gk wM) hb) rfl rfl) (sk w9) ?_
   refine zc rfl (zM rfl (gk vU) rfl (gk wW) (ya (fun ht=>gF ht))) (sk wT) ?_
   refine zc rfl (ze rfl (gk wL) (zb rfl)) (sk wS) ?_
   refine zq rfl (fun hb=>ze rfl yY (zb rfl)) (sk w8) ?_
   refine vc rfl (fun hb=>zX rfl rfl rfl rfl el31 (zp (gk vf) hb) z8) (sk wZ) fun hn24=>?_
   refine zq rfl (fun hb=>ze rfl yd (zb rfl)) (sk vD) ?_
   refine vc rfl (fun hb=>zX rfl rfl rfl rfl qA (zp (gk vJ) hb) z8) (sk vC) fun hn25=>?_
   refine zq rfl (fun hb=>zr rfl (zp (gk ve) hb) (zp (gk vI) hb) rfl) (sk (sk st0)) ?_
   refine zc rfl (zM rfl (gk wP) rfl (gk (gk yd)) (ya (fun ht=>gF ht))) (sk (sk st1)) ?_
   refine zc rfl (ze rfl (gk (gk yo)) (zb rfl)) (sk (sk xj)) ?_
   refine zq rfl (fun hb=>ze rfl xE (zb rfl)) (sk (sk wA)) ?_
   refine zq rfl (fun hb=>zk rfl fo36x1 yX rfl) (sk (sk yK)) ?_
   refine zq rfl (fun hb=>zy rfl ty3 (zp (gk (gk yG)) hb) rfl (zt rfl) (zb rfl)) (sk (sk xI)) ?_
   refine zq rfl (fun hb=>zr rfl (zp (gk (gk yY)) hb) (zp (gk (gk yX)) hb) rfl) (sk (sk xT)) ?_
   refine zc rfl (zM rfl (gk (gk yQ)) rfl (gk (gk y5)) (ya (fun ht=>gF ht))) (sk (sk x9)) ?_
   refine zc rfl (ze rfl (gk (gk xE)) (zb rfl)) (sk (sk xS)) ?_
   refine zq rfl (fun hb=>ze rfl xu (zb rfl)) (sk (sk wE)) ?_
   refine zq rfl (fun hb=>zk rfl fo36x2 yX rfl) (sk (sk yC)) ?_
   refine zq rfl (fun hb=>zy rfl ty3 (zp (gk (gk yl)) hb) rfl (zt rfl) (zb rfl)) (sk (sk yz)) ?_
   refine zq rfl (fun hb=>zr rfl (zp (gk (gk x4)) hb) (zp (gk (gk yh)) hb) rfl) (sk (sk yL)) ?_
   refine zc rfl (zM rfl (gk (gk xu)) rfl (gk (gk yJ)) (ya (fun ht=>gF ht))) (sk (sk yO)) ?_
   refine zc rfl (ze rfl (gk (gk yE)) (zb rfl)) (sk (sk yS)) ?_
   refine zq rfl (fun hb=>ze rfl x4 (zb rfl)) (sk (sk yW)) ?_
   refine zq rfl (fun hb=>zk rfl fo36x3 yX rfl) (sk (sk xa)) ?_
   refine zq rfl (fun hb=>zy rfl ty3 (zp (gk (gk yR)) hb) rfl (zt rfl) (zb rfl)) (sk (sk xd)) ?_
   refine zq rfl (fun hb=>zr rfl (zp (gk (gk yU)) hb) (zp (gk (gk xb)) hb) rfl) (sk (sk xq)) ?_
   refine zc rfl (zM rfl (gk (gk yP)) rfl (gk (gk yD)) (ya (fun ht=>gF ht))) (sk (sk xr)) ?_
   refine zf (zj ?_)
   refine zG (gk (gk xz)) hF (fun hc26 hF=>?_) (fun hc26 hF=>?_)
   ·refine zn (zd ?_)
    refine zc rfl (zi rfl rfl (zb rfl)) xj ?_
    refine zf (zj (zO (zC ?_)))
    obtain rfl:=Option.some.inj hF
    refine zA rfl (zE yQ zB) (zD (leV.refl _) rfl ?_)
    exact ⟨rfl,rfl⟩
   ·refine zH (zj (zn (zd ?_)))
    refine zc rfl (ze rfl xE (zb rfl)) (sk (sk xV)) ?_
    refine zc rfl (ze rfl xu (zb rfl)) (sk (sk xU)) ?_
    refine zc rfl (zr rfl (gk (gk xi)) (gk (gk xY)) rfl) (sk (sk wa)) ?_
    refine zc rfl (ze rfl yd (zb rfl)) (sk (sk wh)) ?_
    refine zK hF (fun v27 hv27 hF=>?_)
    refine zU rfl (zz rfl rfl rfl (zg (gk (gk xH)) zu) (.cons (zb rfl) .nil)) (ok10 hv27) (sk (sk wu)) ?_
    refine zc rfl (zr rfl (gk (gk wb)) (gk (gk xg)) rfl) (sk (sk wB)) ?_
    refine zc rfl (ze rfl (gk (gk ww)) (zb rfl)) (sk (sk va)) ?_
    refine zq rfl (fun hb=>ze rfl x4 (zb rfl)) (sk (sk wV)) ?_
    refine zq rfl (fun hb=>ze rfl yd (zb rfl)) (sk (sk vm)) ?_
    refine wi hF (fun v28 hv28 hF=>?_)
    refine xN rfl (fun hb=>zz rfl rfl rfl (zg (zp (gk (gk vo)) hb) zu) (.cons (zb rfl) .nil)) (fun hb=>ok11 (hv28 hb)) (sk (sk vu)) ?_
    refine zq rfl (fun hb=>zr rfl (zp (gk (gk wX)) hb) (zp (gk (gk vy)) hb) rfl) (sk (sk vt)) ?_
    refine zc rfl (zM rfl (gk (gk vg)) (gk (gk vn)) rfl (zS (fun ht=>gT ht))) (sk (sk vr)) ?_
    refine zc rfl (ze rfl (gk (gk vU)) (zb rfl)) (sk (sk wU)) ?_
    refine zq rfl (fun hb=>ze rfl yJ (zb rfl)) (sk (sk w9)) ?_
    refine vc rfl (fun hb=>zX rfl rfl rfl rfl wo (zp (gk (gk wW)) hb) z8) (sk (sk wT)) fun hn29=>?_
    refine zq rfl (fun hb=>ze rfl xE (zb rfl)) (sk (sk wS)) ?_
    refine zq rfl (fun hb=>zr rfl (zp (gk (gk wL)) hb) (zp (gk (gk wP)) hb) rfl) (sk (sk w8)) ?_
    refine zc rfl (zM rfl (gk (gk wM)) (gk (gk vf)) rfl (zS (fun ht=>gT ht))) (sk (sk wZ)) ?_
    refine zc rfl (ze rfl (gk (gk ve)) (zb rfl)) (sk (sk vD)) ?_
    refine wi hF (fun v30 hv30 hF=>?_)
    refine xN rfl (fun hb=>zz rfl rfl rfl zu .nil) (fun hb=>ok6 (hv30 hb)) (sk (sk vC)) ?_
    refine zc rfl (zM rfl (gk (gk vJ)) (gk (gk vI)) rfl (zS (fun ht=>gT ht))) (sk (sk (sk st0))) ?_
    refine zc rfl (zi rfl (gk (gk (gk yd))) (zb rfl)) xj ?_
    refine zf (zj (zO ?_))
    obtain rfl:=Option.some.inj hF
    refine zA rfl (zE yQ zB) (zD (leV.refl _) rfl ?_)
    exact ⟨rfl,rfl⟩
end Go.Vv
