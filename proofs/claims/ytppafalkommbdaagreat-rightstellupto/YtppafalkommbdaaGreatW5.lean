/- Each function that the law reaches computes what its reading says; printed by a program. -/
import Derived.Test.YtppafalkommbdaaGreatW4
namespace Go.Vv
open Go Go.Proofs
set_option maxRecDepth 100000
set_option maxHeartbeats 1000000
set_option linter.unusedSimpArgs false
set_option linter.unusedVariables false
/-! slices.Equal[[]int,int] -/
theorem ok17 {s10:(List Int)} {s21:(List Int)} {res:Bool} {h:AH}  (hF:qQ s10 s21=some res):Spec Tryz.prog 17 [.sl 1 (s10.map (q7 .i64)),.sl 1 (s21.map (q7 .i64))] h (fun rr hh=>rr=.bool res∧hh=h):=by
 unfold qQ at hF
 refine zt Tryz.func17 rfl (by kernel_rfl) (env:=[.sl 1 (s10.map (q7 .i64)),.sl 1 (s21.map (q7 .i64)),za,za,za,za,za,za,za,za,za,za,za,za,za,za,za,za,za,za,za,za,za,za,za,za]) (by rfl) ?_
 refine zk (zd ?_)
 refine zc rfl (zg rfl rfl (zb rfl)) yD ?_
 refine zf (zi (zk (zk (zd ?_))))
 refine zc rfl (ze rfl yg (zb rfl)) xp ?_
 refine z7 rfl (zQ rfl rfl rfl rfl el43 yS z0) xK fun hn1=>?_
 replace hn1:=xg hn1
 refine zc rfl (ze rfl yw (zb rfl)) xH ?_
 refine z7 rfl (zQ rfl rfl rfl rfl el43 yV z0) x8 fun hn2=>?_
 replace hn2:=xg hn2
 refine zc rfl (zu rfl xn xl rfl) yq ?_
 refine zf (zi ?_)
 refine zH yi hF (fun hc3 hF=>?_) (fun hc3 hF=>?_)
 ·refine zk (zd ?_)
  refine zc rfl (zg rfl rfl (zb rfl)) yD ?_
  refine zf (zi (zJ (zA ?_)))
  obtain rfl:=Option.some.inj hF
  refine zB rfl (zC yv zD) (zz (leV.refl _) rfl ?_)
  exact ⟨rfl,rfl⟩
 ·refine zI (zi (zk (zk (zd ?_))))
  refine zc rfl (ze rfl yg (zb rfl)) yy ?_
  refine z7 rfl (zQ rfl rfl rfl rfl el43 yl z0) yE fun hn4=>?_
  replace hn4:=xg hn4
  refine zc rfl (ze rfl rfl (zb rfl)) yG ?_
  refine zf (zi (zO ?_))
  refine ym (fun (n1:Nat) (s1:Unit)=>yB [2,3,4,5,6,7,8,9,10,11,14,15,16,17,18,19,20,21,22,23,24,25] [(13,.int .i64 (n1:Int))]) (fun s1=>h.ext [] []) hF (fun _ _=>by simp only [yB,qw,List.set_cons_succ,List.set_cons_zero];try rfl) (wk.le (by exact (.eq (.eq (.d4 (.d4 (.drop (.drop (.eq (.cons (leV.of_eq rfl) (.d4 (.d4 (.d4 leL.nil))))))))))))) ?_
  intro n1 s1 hi1 hF
  refine zk (zd ?_)
  refine zc rfl (zu rfl yr yC rfl) yN ?_
  refine zf (zi (zk ?_))
  refine yJ yM hF (fun x1 o1 hl1 hx1 hF hK1=>?_) (fun hF=>?_)
  ·refine zI (zi (zk (zO (zk (zd ?_)))))
   refine zc rfl (ze rfl yr (zb rfl)) yO ?_
   refine zc rfl (zg rfl yL (zb rfl)) xw ?_
   refine zf (zi (zk ?_))
   refine yI [] [] trivial mixed (by kernel_rfl) ?_
   refine zq rfl rfl (ze rfl yg (zb rfl)) yT ?_
   refine zq rfl rfl (ze rfl yP (zb rfl)) yZ ?_
   refine zq rfl rfl (yd rfl el43 yQ yY wd (yA hx1)) xd ?_
   refine zq rfl rfl (zY rfl ty3 xb (zr rfl) (zb rfl)) xi ?_
   refine zq rfl rfl (ze rfl yw (zb rfl)) xA ?_
   refine zq rfl rfl (ze rfl yP (zb rfl)) xE ?_
   refine zS hF (fun y10 hy10 hF=>?_)
   refine zq rfl rfl (yd rfl el43 xz xB wd hy10) xI ?_
   refine zq rfl rfl (zY rfl ty3 xF (zr rfl) (zb rfl)) xD ?_
   refine zq rfl rfl (zu rfl xh xu rfl) xM ?_
   refine yo ?_
   refine zi ?_
   refine zH xN hF (fun hc11 hF=>?_) (fun hc11 hF=>?_)
   ·refine zk (zd ?_)
    refine zc rfl (zg rfl rfl (zb rfl)) yD ?_
    refine zf (zi (zJ ?_))
    refine zF ?_
    refine zA ?_
    refine yf ?_
    obtain rfl:=Option.some.inj hF
    replace hF:=hK1
    refine zF ?_
    refine zA ?_
    obtain rfl:=Option.some.inj hF
    refine zB rfl (zC yv zD) (zz (leV.refl _) rfl ?_)
    exact ⟨rfl,rfl⟩
   ·refine zI (yb (zi (zd ?_)))
    refine zc rfl (zu rfl yr rfl rfl) wa ?_
    refine zc rfl (ze rfl x9 (zb rfl)) yG ?_
    refine zf (yu ?_)
    obtain rfl:=Option.some.inj hF
    exact ⟨(),hl1,hK1,wk.le (by exact (.eq (.eq (.d4 (.d4 (.drop (.drop (.eq (.cons (leV.of_eq (wx (by omega) (by omega))) (.d4 (.d4 (.d4 leL.nil))))))))))))⟩
  ·refine yF ?_
   refine zX ?_
   refine zU ?_
   refine zV ?_
   refine zi (zk (zd ?_))
   refine zc rfl (zg rfl rfl (zb rfl)) yD ?_
   refine zf (zi (zJ ?_))
   obtain rfl:=Option.some.inj hF
   refine zB rfl (zC yv zD) (zz (leV.refl _) rfl ?_)
   exact ⟨rfl,rfl⟩
/-! varve/rights.parts -/
theorem ok65 {p0:(List zR)} {res:((List zR)×Bool)} {h:AH}  (hF:rightsXparts p0=some res):Spec Tryz.prog 65 [.sl 1 (p0.map zK)] h (fun rr hh=>rr=.tup [.sl 1 (res.1.map zK),.bool res.2]∧hh=h):=by
 unfold rightsXparts at hF
 refine zt Tryz.func65 rfl (by kernel_rfl) (env:=[.sl 1 (p0.map zK),za,za,za,za,za,za,za,za,za,za,za,za,za,za,za,za,za]) (by rfl) ?_
 refine zk (zd ?_)
 refine zc rfl (zg rfl rfl (xq xc)) yH ?_
 refine zc rfl (zg rfl rfl (zb rfl)) xS ?_
 refine zf (zi (zk (zk (zd ?_))))
 refine zc rfl (ze rfl yg (zb rfl)) xw ?_
 refine z7 rfl (zQ rfl rfl rfl rfl xc yP z0) xp fun hn1=>?_
 replace hn1:=xg hn1
 refine zc rfl (zg rfl yS (zb rfl)) yD ?_
 refine zf (zi (zk (zd ?_)))
 refine zc rfl (ze rfl yg (zb rfl)) xK ?_
 refine zc rfl (ze rfl yv (zb rfl)) xH ?_
 refine zc rfl (zu rfl yV rfl rfl) x8 ?_
 refine zS hF (fun y2 hy2 hF=>?_)
 refine zc rfl (yd rfl xc xn xl wd hy2) yq ?_
 refine zc rfl (zY rfl vt yi (zr rfl) (zb rfl)) yy ?_
 refine zc rfl (zu rfl yl rfl rfl) yE ?_
 refine zf (zi ?_)
 refine zH yC hF (fun hc3 hF=>?_) (fun hc3 hF=>?_)
 ·refine zk (zd ?_)
  refine zc rfl (ze rfl yg (zb rfl)) yG ?_
  refine zc rfl (ze rfl yv (zb rfl)) yN ?_
  refine zc rfl (zu rfl yM rfl rfl) yO ?_
  refine zS hF (fun m4 hm4 hF=>?_)
  refine zc rfl (vu rfl xc yr (.inl rfl) .none (.some yL) hm4) yT ?_
  refine zc rfl (zg rfl yQ (zb rfl)) yH ?_
  refine zc rfl (zg rfl rfl (zb rfl)) xS ?_
  refine zf (zi (zJ (zA ?_)))
  obtain rfl:=Option.some.inj hF
  refine qe rfl (zC yz (zC yX zD)) (zz (leV.refl _) rfl ?_)
  exact ⟨rfl,rfl⟩
 ·refine zI (zi (zk (zd ?_)))
  refine zc rfl (ze rfl yg (zb rfl)) yZ ?_
  refine zc rfl (zg rfl yY (zb rfl)) yH ?_
  refine zc rfl (zg rfl rfl (zb rfl)) xS ?_
  refine zf (zi (zJ ?_))
  obtain rfl:=Option.some.inj hF
  refine qe rfl (zC yz (zC yX zD)) (zz (leV.refl _) rfl ?_)
  exact ⟨rfl,rfl⟩
/-! varve/rights.wider -/
theorem ok41 {p0:(List zR)} {q1:(List zR)} {res:Bool} {h:AH}  (hF:rightsXwider p0 q1=some res):Spec Tryz.prog 41 [.sl 1 (p0.map zK),.sl 1 (q1.map zK)] h (fun rr hh=>rr=.bool res∧hh=h):=by
 unfold rightsXwider at hF
 refine zt Tryz.func41 rfl (by kernel_rfl) (env:=[.sl 1 (p0.map zK),.sl 1 (q1.map zK),za,za,za,za,za,za,za,za,za,za,za,za,za,za,za,za,za,za,za,za,za,za,za,za,za,za,za,za,za,za,za,za,za,za,za,za,za,za,za,za,za,za,za,za,za,za,za,za,za,za,za,za,za,za,za,za]) (by rfl) ?_
 refine zk (zd ?_)
 refine zc rfl (zg rfl rfl (zb rfl)) yD ?_
 refine zf (zi (zk (zd ?_)))
 refine zc rfl (ze rfl yg (zb rfl)) yE ?_
 refine zS hF (fun v1 hv1 hF=>?_)
 refine zM rfl (zE rfl rfl rfl (zo yC zy) (.cons (zb rfl) .nil)) (ok65 hv1) yG ?_
 refine zc rfl (ze rfl yr (zb rfl)) yy ?_
 refine zc rfl (xe rfl yl rfl (zb rfl)) yN ?_
 refine zc rfl (xe rfl yl rfl (zb rfl)) yO ?_
 refine zc rfl (zg rfl yM (zb rfl)) xw ?_
 refine zc rfl (zg rfl yL (zb rfl)) xp ?_
 refine zf (zi (zk (zd ?_)))
 refine zc rfl (ze rfl yw (zb rfl)) yZ ?_
 refine zS hF (fun v2 hv2 hF=>?_)
 refine zM rfl (zE rfl rfl rfl (zo yY zy) (.cons (zb rfl) .nil)) (ok65 hv2) xd ?_
 refine zc rfl (ze rfl xb (zb rfl)) yT ?_
 refine zc rfl (xe rfl yQ rfl (zb rfl)) xi ?_
 refine zc rfl (xe rfl yQ rfl (zb rfl)) xA ?_
 refine zc rfl (zg rfl xh (zb rfl)) xK ?_
 refine zc rfl (zg rfl xz (zb rfl)) xH ?_
 refine zf (zi (zk (zk (zd ?_))))
 refine zc rfl (ze rfl yP (zb rfl)) xE ?_
 refine z7 rfl (zQ rfl rfl rfl rfl xc xB z0) xI fun hn3=>?_
 replace hn3:=xg hn3
 refine zc rfl (ze rfl xn (zb rfl)) xD ?_
 refine z7 rfl (zQ rfl rfl rfl rfl xc xu z0) xM fun hn4=>?_
 replace hn4:=xg hn4
 refine zc rfl (zu rfl xF xN rfl) wa ?_
 refine zc rfl (ze rfl x9 (zb rfl)) wi ?_
 refine zp rfl (fun hb=>ze rfl yS (zb rfl)) wj ?_
 refine zp rfl (fun hb=>xV rfl (zn wm hb) rfl) wn ?_
 refine zp rfl (fun hb=>ze rfl (zn wl hb) (zb rfl)) wD ?_
 refine zp (zP rfl rfl rfl) (fun hb=>ze rfl yV (zb rfl)) wC ?_
 refine zp (zP rfl rfl rfl) (fun hb=>ze rfl (zn wM hb) (zb rfl)) wI ?_
 refine zp (zP rfl rfl rfl) (fun hb=>ze rfl yP (zb rfl)) wH ?_
 refine xj (zP rfl rfl rfl) (fun hb=>zQ rfl rfl rfl rfl xc (zn wy hb) z0) wP fun hn5=>?_
 refine zp (zP rfl rfl rfl) (fun hb=>ze rfl xn (zb rfl)) wO ?_
 refine xj (zP rfl rfl rfl) (fun hb=>zQ rfl rfl rfl rfl xc (zn wK hb) z0) wN fun hn6=>?_
 refine zp (zP rfl rfl rfl) (fun hb=>zu rfl (zn wT hb) (zn wS hb) rfl) wG ?_
 refine zp (zP rfl rfl rfl) (fun hb=>zG rfl (zn wL hb) rfl wu (zZ (fun ht=>gF2 hb ht))) wF ?_
 refine zp rfl (fun hb=>zG rfl (zn wz hb) wJ rfl (zN (fun ht=>gT2 hb ht))) wZ ?_
 refine zc rfl (zG rfl wh rfl w6 (zZ (fun ht=>gF ht))) wY ?_
 refine zf (zi ?_)
 refine zH w5 hF (fun hc7 hF=>?_) (fun hc7 hF=>?_)
 ·refine zk (zd ?_)
  refine zc rfl (zg rfl rfl (zb rfl)) yD ?_
  refine zf (zi (zJ (zA ?_)))
  obtain rfl:=Option.some.inj hF
  refine zB rfl (zC yv zD) (zz (leV.refl _) rfl ?_)
  exact ⟨rfl,rfl⟩
 ·refine zI (zi (zk (zk (zd ?_))))
  refine zc rfl (ze rfl yP (zb rfl)) (sk qP) ?_
  refine z7 rfl (zQ rfl rfl rfl rfl xc (gk yg) z0) (sk qI) fun hn8=>?_
  replace hn8:=xg hn8
  refine zc rfl (ze rfl rfl (zb rfl)) (sk yH) ?_
  refine zf (zi (zO ?_))
  refine ym (fun (n1:Nat) (s1:Unit)=>yB [0,1,2,3,4,5,6,8,9,10,11,12,13,14,15,16,17,18,19,20,21,22,23,24,25,26,27,28,29,30,31,32,33,34,35,36,37,38,39,43,44,45,46,47,48,49,50,51,52,53,54,55,56,57] [(42,.int .i64 (n1:Int))]) (fun s1=>h.ext [] []) hF (fun _ _=>by simp only [yB,qw,List.set_cons_succ,List.set_cons_zero];try rfl) (wk.le (by exact (.d4 (.drop (.drop (.drop (.eq (.d16 (.d16 (.eq (.eq (.cons (leV.of_eq rfl) (.d4 (.d4 (.d4 (.drop (.drop (.drop leL.nil)))))))))))))))))) ?_
  intro n1 s1 hi1 hF
  refine zk (zd ?_)
  refine zc rfl (zu rfl (gk yz) (gk yw) rfl) (sk xS) ?_
  refine zf (zi (zk ?_))
  refine yJ (gk yX) hF (fun x1 o1 hl1 hx1 hF hK1=>?_) (fun hF=>?_)
  ·refine zI (zi (zk (zO (zk (zd ?_)))))
   refine zc rfl (ze rfl (gk yz) (zb rfl)) (sk yD) ?_
   refine zc rfl (yd rfl xc (gk yg) (gk yz) wd (yA hx1)) (sk xw) ?_
   refine zc rfl (zY rfl vt (gk yP) (zr rfl) (zb rfl)) (sk xp) ?_
   refine zc rfl (zg rfl (gk yv) (zb rfl)) x8 ?_
   refine zc rfl (zg rfl (gk yS) (zb rfl)) yq ?_
   refine zf (zi (zk (zd ?_)))
   refine zc rfl (ze rfl yi (zb rfl)) (sk xK) ?_
   refine zc rfl (zu rfl (gk xn) rfl rfl) (sk xH) ?_
   refine zc rfl (ze rfl (gk yV) (zb rfl)) (sk x8) ?_
   refine zp rfl (fun hb=>ze rfl yi (zb rfl)) (sk yq) ?_
   refine zp rfl (fun hb=>ze rfl xn (zb rfl)) (sk yy) ?_
   refine zp rfl (fun hb=>ze rfl xl (zb rfl)) (sk yE) ?_
   refine xG hF (fun hg14 hF=>?_)
   refine zp rfl (fun hb=>yK default rfl xc (zn (gk yl) hb) (zn (gk yC) hb) wd (hg14 hb)) (sk yG) ?_
   refine zp rfl (fun hb=>zY rfl vt (zn (gk yr) hb) (zr rfl) (zb rfl)) (sk yN) ?_
   refine zp rfl (fun hb=>zu rfl (zn (gk yi) hb) (zn (gk yM) hb) rfl) (sk yO) ?_
   refine zc rfl (zG rfl (gk xl) (gk yL) rfl (zN (fun ht=>gT ht))) (sk yT) ?_
   refine zf (zi ?_)
   refine zH (gk yQ) hF (fun hc15 hF=>?_) (fun hc15 hF=>?_)
   ·refine zk (zd ?_)
    refine zc rfl (zg rfl rfl (zb rfl)) yD ?_
    refine zf (zi (zJ ?_))
    refine zF ?_
    refine zA ?_
    refine yf ?_
    obtain rfl:=Option.some.inj hF
    replace hF:=hK1
    refine zF ?_
    refine zA ?_
    obtain rfl:=Option.some.inj hF
    refine zB rfl (zC yv zD) (zz (leV.refl _) rfl ?_)
    exact ⟨rfl,rfl⟩
   ·refine zI (yb (zi (zd ?_)))
    refine zc rfl (zu rfl (gk yz) rfl rfl) (sk yZ) ?_
    refine zc rfl (ze rfl (gk yY) (zb rfl)) (sk yH) ?_
    refine zf (yu ?_)
    obtain rfl:=Option.some.inj hF
    exact ⟨(),hl1,hK1,wk.le (by exact (.d4 (.drop (.drop (.drop (.eq (.d16 (.d16 (.eq (.eq (.cons (leV.of_eq (wx (by omega) (by omega))) (.d4 (.d4 (.d4 (.drop (.drop (.drop leL.nil)))))))))))))))))⟩
  ·refine yF ?_
   refine zX ?_
   refine zU ?_
   refine zV ?_
   refine zi (zk (zd ?_))
   refine zc rfl (zg rfl rfl (zb rfl)) yD ?_
   refine zf (zi (zJ ?_))
   obtain rfl:=Option.some.inj hF
   refine zB rfl (zC yv zD) (zz (leV.refl _) rfl ?_)
   exact ⟨rfl,rfl⟩
/-! varve/rights.Idle 1 -/
theorem ok40 {y0:GRule} {c0:GRule} {i0:Nat} {res:Bool} {h:AH} (hb0:h.blk i0=some (.cells [.int .u8 c0.rep,.sl 1 (c0.path.map zK),.int .u8 c0.kinds,.bool c0.allow,.bool c0.read])) (hF:qo y0 c0=some res):Spec Tryz.prog 40 [.agg [.int .u8 y0.rep,.sl 1 (y0.path.map zK),.int .u8 y0.kinds,.bool y0.allow,.bool y0.read],.ptr i0 0] h (fun rr hh=>rr=.bool res∧hh=h):=by
 unfold qo at hF
 refine zt Tryz.func40 rfl (by kernel_rfl) (env:=[.agg [.int .u8 y0.rep,.sl 1 (y0.path.map zK),.int .u8 y0.kinds,.bool y0.allow,.bool y0.read],.ptr i0 0,za,za,za,za,za,za,za,za,za,za,za,za,za,za,za,za,za,za,za,za,za,za,za,za,za,za,za,za,za,za,za,za,za,za,za,za]) (by rfl) ?_
 refine zk (zd ?_)
 refine zc rfl (xy (n:=0) rfl yg (zb rfl) rfl rfl) yH ?_
 refine zc rfl (zg rfl rfl (zb rfl)) xS ?_
 refine zf (zi (zk (zd ?_)))
 refine zc rfl (zj rfl qr yz rfl) yD ?_
 refine zc rfl (zw rfl vb yv rfl (zr rfl) (zb rfl)) xw ?_
 refine zc rfl (zu rfl yP rfl rfl) xp ?_
 refine zc rfl (ze rfl yS (zb rfl)) xK ?_
 refine zp rfl (fun hb=>zj rfl qr yz rfl) xH ?_
 refine zp rfl (fun hb=>zw rfl vb (zn yV hb) rfl (zr rfl) (zb rfl)) x8 ?_
 refine zp rfl (fun hb=>zj rfl qr yw rfl) yq ?_
 refine zp rfl (fun hb=>b_load rfl vb (zn yi hb) hb0 (zr rfl) (zb rfl)) yy ?_
 refine zp rfl (fun hb=>zu rfl (zn xl hb) (zn yl hb) rfl) yE ?_
 refine zc rfl (zG rfl xn rfl yC (zZ (fun ht=>gF ht))) yG ?_
 refine zc rfl (ze rfl yr (zb rfl)) yN ?_
 refine zp rfl (fun hb=>zj rfl fo39x2 yw rfl) yO ?_
 refine zp rfl (fun hb=>b_load rfl vb (zn yL hb) hb0 (zr rfl) (zb rfl)) yT ?_
 refine zp rfl (fun hb=>zj rfl fo39x2 yz rfl) yZ ?_
 refine zp rfl (fun hb=>zw rfl vb (zn yY hb) rfl (zr rfl) (zb rfl)) xd ?_
 refine zp rfl (fun hb=>zu rfl (zn yQ hb) (zn xb hb) rfl) xi ?_
 refine zp rfl (fun hb=>zu rfl (zn xh hb) rfl rfl) xA ?_
 refine zc rfl (zG rfl yM xz rfl (zN (fun ht=>gT ht))) xE ?_
 refine zc rfl (ze rfl xB (zb rfl)) xI ?_
 refine zp rfl (fun hb=>zj rfl fo39x4 yz rfl) xD ?_
 refine zp rfl (fun hb=>zw rfl ty4 (zn xu hb) rfl (zr rfl) (zb rfl)) xM ?_
 refine zp rfl (fun hb=>ze rfl (zn xN hb) (zb rfl)) wa ?_
 refine zp (zP rfl rfl rfl) (fun hb=>zj rfl fo39x4 yw rfl) wi ?_
 refine zp (zP rfl rfl rfl) (fun hb=>b_load rfl ty4 (zn wh hb) hb0 (zr rfl) (zb rfl)) wj ?_
 refine zp (zP rfl rfl rfl) (fun hb=>xV rfl (zn wm hb) rfl) wn ?_
 refine zp rfl (fun hb=>zG rfl (zn x9 hb) rfl wl (zZ (fun ht=>gF2 hb ht))) wD ?_
 refine zc rfl (zG rfl xF wz rfl (zN (fun ht=>gT ht))) wC ?_
 refine zc rfl (ze rfl wM (zb rfl)) wI ?_
 refine zp rfl (fun hb=>zj rfl fo39x1 yz rfl) wH ?_
 refine zp rfl (fun hb=>zw rfl ty23 (zn wy hb) rfl (zr rfl) (zb rfl)) wP ?_
 refine zp rfl (fun hb=>zj rfl fo39x1 yw rfl) wO ?_
 refine zp rfl (fun hb=>b_load rfl ty23 (zn wK hb) hb0 (zr rfl) (zb rfl)) wN ?_
 refine yn hF (fun v1 hv1 hF=>?_)
 refine z8 rfl (fun hb=>zE rfl rfl rfl (zo (zn wT hb) (zo (zn wS hb) zy)) (.cons (zb rfl) (.cons (zb rfl) .nil))) (fun hb=>ok41 (hv1 hb)) wG ?_
 refine zc rfl (zG rfl wL wu rfl (zN (fun ht=>gT ht))) wF ?_
 refine zc rfl (zg rfl wJ (zb rfl)) xS ?_
 refine zf (zi (zJ ?_))
 obtain rfl:=Option.some.inj hF
 refine zB rfl (zC yX zD) (zz (leV.refl _) rfl ?_)
 exact ⟨rfl,rfl⟩
/-! varve/rights.Idle -/
theorem ok18 {l0:(List GRule)} {res:(List Int)} {h:AH}  (hF:rightsIdle l0=some res):Spec Tryz.prog 18 [.sl 5 (l0.map GRule.row)] h (fun rr hh=>rr=.sl 1 (res.map (q7 .i64))∧hh=h):=by
 unfold rightsIdle at hF
 refine zt Tryz.func18 rfl (by kernel_rfl) (env:=[.sl 5 (l0.map GRule.row),za,za,za,za,za,za,za,za,za,za,za,za,za,za,za,za,za,za,za,za,za,za,za,za,za,za,za,za]) (by rfl) ?_
 refine zk (zd ?_)
 refine zc rfl (zg rfl rfl (xq el43)) yH ?_
 refine zf (zi (zk (zk (zd ?_))))
 refine zc rfl (ze rfl yg (zb rfl)) xp ?_
 refine zS hF (fun v1 hv1 hF=>?_)
 refine zM rfl (zE rfl rfl rfl (zo yS zy) (.cons (zb rfl) .nil)) (ok10 hv1) xK ?_
 refine zc rfl (xV rfl xn rfl) xH ?_
 refine zf (zi ?_)
 refine zH yV hF (fun hc2 hF=>?_) (fun hc2 hF=>?_)
 ·refine zk (zd ?_)
  refine zc rfl (zg rfl rfl (xq el43)) yH ?_
  refine zf (zi (zJ (zA ?_)))
  obtain rfl:=Option.some.inj hF
  refine zB rfl (zC yz zD) (zz (leV.osl _ _ _) rfl ?_)
  exact ⟨rfl,rfl⟩
 ·refine zI (zi (zk (zk (zd ?_))))
  refine zc rfl (ze rfl yg (zb rfl)) x8 ?_
  refine z7 rfl (zQ rfl rfl rfl rfl el22 xl z0) yq fun hn3=>?_
  replace hn3:=xg hn3
  refine zc rfl (ze rfl rfl (zb rfl)) yy ?_
  refine zf (zi (zO ?_))
  refine ym (fun (n1:Nat) (s1:(List Int))=>yB [1,3,4,5,6,7,8,12,13,14,15,16,17,18,19,20,21,22,23,24,25,26,27,28] [(2,.osl (some (h.toks.length+0)) 1 (s1.map (q7 .i64))),(11,.int .i64 (n1:Int))]) (fun s1=>h.ext [] [(s1).length]) hF (fun _ _=>by simp only [yB,qw,List.set_cons_succ,List.set_cons_zero];try rfl) (wk.trans (wk_tok yz rfl yH rfl) (wk.le (by exact (.eq (.drop (.cons (leV.of_eq rfl) (.d4 (.drop (.drop (.eq (.eq (.cons (leV.of_eq rfl) (.d16 (.drop leL.nil)))))))))))))) ?_
  intro n1 s1 hi1 hF
  refine zk (zd ?_)
  refine zc rfl (zu rfl yl yi rfl) yE ?_
  refine zf (zi (zk ?_))
  refine yJ yC hF (fun x1 o1 hl1 hx1 hF hK1=>?_) (fun hF=>?_)
  ·refine zI (zi (zk (zO (zk (zd ?_)))))
   refine zc rfl (ze rfl yl (zb rfl)) yG ?_
   refine zc rfl (yd rfl el22 xl yl wd (yA hx1)) yN ?_
   refine zc rfl (zY rfl ty39.choose_spec.1 yM (zL (cs':=[.int .u8 x1.rep,.sl 1 (x1.path.map zK),.int .u8 x1.kinds,.bool x1.allow,.bool x1.read]) ty39.choose_spec.2 rfl rfl) (zb rfl)) yO ?_
   refine zc rfl (xf (n:=0) rfl ze39 rfl) yD ?_
   refine zc rfl (zg rfl yr (zb rfl)) xS ?_
   refine zc rfl (yk (cs':=[.int .u8 x1.rep,.sl 1 (x1.path.map zK),.int .u8 x1.kinds,.bool x1.allow,.bool x1.read]) rfl ty39.choose_spec.1 yv yL (zb rfl) rfl rfl rfl rfl rfl) rfl ?_
   refine zf (zi (zk (zd ?_)))
   refine zc rfl (qS rfl rfl rfl) yT ?_
   refine zc rfl (zg rfl yQ (zb rfl)) xw ?_
   refine zf (zi (zk (zd ?_)))
   refine zc rfl (ze rfl yg (zb rfl)) yZ ?_
   refine zc rfl (ze rfl yX (zb rfl)) xd ?_
   refine zc rfl (zu rfl xb rfl rfl) xi ?_
   refine zS hF (fun m12 hm12 hF=>?_)
   refine zc rfl (vu rfl el22 yY (.inl rfl) (.some xh) .none hm12) xA ?_
   refine zc rfl (ze rfl yP (zb rfl)) xE ?_
   refine zS hF (fun v13 hv13 hF=>?_)
   refine zM rfl (zE rfl rfl rfl (zo xz (zo xB zy)) (.cons (zb rfl) (.cons (zb rfl) .nil))) (ok31 (fun _ v L M hv=>ok40 (blk_ext2 (j:=0) rfl) hv) hv13) xI ?_
   refine zf (zi ?_)
   refine zH xF hF (fun hc14 hF=>?_) (fun hc14 hF=>?_)
   ·refine zd ?_
    refine zc rfl (ze rfl yz (zb rfl)) xD ?_
    refine zc rfl (ze rfl yX (zb rfl)) xM ?_
    refine zc rfl (yh (es:=([(n1:Int)]:List Int).map (q7 .i64)) rfl el43 ze3 rfl rfl (zT xN ye) (.cons (zb rfl) .nil) rfl rfl rfl) wa ?_
    refine xG hF (fun hm15 hF=>?_)
    refine zc rfl (wv (j:=0) (T':=[((s1++([(n1:Int)]:List Int))).length]) rfl rfl rfl rfl el43 el43 xu x9 (zb rfl) (zb rfl) wo hm15 rfl rfl) wi ?_
    refine zc rfl (zg rfl wh (zb rfl)) yH ?_
    refine zf (yb (zi (zd ?_)))
    refine zc rfl (zu rfl yl rfl rfl) wj ?_
    refine zc rfl (ze rfl wm (zb rfl)) yy ?_
    refine zf (yu ?_)
    obtain rfl:=Option.some.inj hF
    exact ⟨(s1++([(n1:Int)]:List Int)),hl1,hK1,wk.trans (wk.le (by exact (.eq (.drop (.cons (leV.of_eq rfl) (.d4 (.drop (.drop (.eq (.eq (.cons (leV.of_eq (wx (by omega) (by omega))) (.d16 (.drop leL.nil))))))))))))) (xY (by simp [yj,AV.low]) rfl rfl (by simp [Blk.low,yj,AV.low]))⟩
   ·refine zI (yb (zi (zd ?_)))
    refine zc rfl (zu rfl yl rfl rfl) wj ?_
    refine zc rfl (ze rfl wm (zb rfl)) yy ?_
    refine zf (yu ?_)
    obtain rfl:=Option.some.inj hF
    exact ⟨s1,hl1,hK1,wk.trans (wk.le (by exact (.eq (.drop (.cons (leV.of_eq rfl) (.d4 (.drop (.drop (.eq (.eq (.cons (leV.of_eq (wx (by omega) (by omega))) (.d16 (.drop leL.nil))))))))))))) (xY (by simp [yj,AV.low]) rfl rfl (by simp [Blk.low,yj,AV.low]))⟩
  ·refine yF ?_
   refine zX ?_
   refine zU ?_
   refine zV ?_
   refine zi (zk (zd ?_))
   refine zc rfl (ze rfl yz (zb rfl)) wn ?_
   refine zc rfl (zg rfl wl (zb rfl)) yH ?_
   refine zf (zi (zJ ?_))
   obtain rfl:=Option.some.inj hF
   refine zB rfl (zC yz zD) (zz (leV.osl _ _ _) rfl ?_)
   exact ⟨rfl,rfl⟩
/-! varve/varveref42.wider -/
theorem ok42N (n:Nat):∀ {p0:(List zR)} {q1:(List zR)} {res:Bool} {h:AH} , vN n p0 q1=some res→Spec Tryz.prog 42 [.sl 1 (p0.map zK),.sl 1 (q1.map zK)] h (fun rr hh=>rr=.bool res∧hh=h):=by
 induction n with
 | zero=>intro p0 q1 res h  hF;simp [vN] at hF
 | succ n ih =>
  intro p0 q1 res h  hF
  unfold vN at hF
  refine zt Tryz.func42 rfl (by kernel_rfl) (env:=[.sl 1 (p0.map zK),.sl 1 (q1.map zK),za,za,za,za,za,za,za,za,za,za,za,za,za,za,za,za,za,za,za,za,za,za,za,za,za,za,za,za,za,za,za,za,za,za,za,za,za,za,za,za,za,za,za,za,za,za,za,za,za,za,za]) (by rfl) ?_
  refine zk (zd ?_)
  refine zc rfl (zg rfl rfl (zb rfl)) yD ?_
  refine zf (zi (zk (zk (zd ?_))))
  refine zc rfl (ze rfl yg (zb rfl)) xw ?_
  refine z7 rfl (zQ rfl rfl rfl rfl xc yP z0) xp fun hn1=>?_
  replace hn1:=xg hn1
  refine zc rfl (zu rfl yS rfl rfl) xK ?_
  refine zc rfl (ze rfl xn (zb rfl)) xH ?_
  refine zp rfl (fun hb=>ze rfl yg (zb rfl)) x8 ?_
  refine xG hF (fun hg2 hF=>?_)
  refine zp rfl (fun hb=>yK default rfl xc (zn xl hb) rfl wd (hg2 hb)) yq ?_
  refine zp rfl (fun hb=>zY rfl vt (zn yi hb) (zr rfl) (zb rfl)) yy ?_
  refine zp rfl (fun hb=>zu rfl (zn yl hb) rfl rfl) yE ?_
  refine zc rfl (zG rfl yV yC rfl (zN (fun ht=>gT ht))) yG ?_
  refine zf (zi ?_)
  refine zH yr hF (fun hc3 hF=>?_) (fun hc3 hF=>?_)
  ·refine zk (zd ?_)
   refine zc rfl (zg rfl rfl (zb rfl)) yD ?_
   refine zf (zi (zJ (zA ?_)))
   obtain rfl:=Option.some.inj hF
   refine zB rfl (zC yv zD) (zz (leV.refl _) rfl ?_)
   exact ⟨rfl,rfl⟩
  ·refine zI (zi (zk (zk (zd ?_))))
   refine zc rfl (ze rfl yg (zb rfl)) yN ?_
   refine z7 rfl (zQ rfl rfl rfl rfl xc yM z0) yO fun hn4=>?_
   replace hn4:=xg hn4
   refine zc rfl (zu rfl yL rfl rfl) yT ?_
   refine zc rfl (ze rfl yQ (zb rfl)) yZ ?_
   refine zp rfl (fun hb=>ze rfl yw (zb rfl)) xd ?_
   refine xj rfl (fun hb=>zQ rfl rfl rfl rfl xc (zn xb hb) z0) xi fun hn5=>?_
   refine zp rfl (fun hb=>zu rfl (zn xh hb) rfl rfl) xA ?_
   refine zc rfl (zG rfl yY rfl xz (zZ (fun ht=>gF ht))) xE ?_
   refine zf (zi ?_)
   refine zH xB hF (fun hc6 hF=>?_) (fun hc6 hF=>?_)
   ·refine zk (zd ?_)
    refine zc rfl (ze rfl yg (zb rfl)) xI ?_
    refine z7 rfl (zQ rfl rfl rfl rfl xc xF z0) xD fun hn7=>?_
    replace hn7:=xg hn7
    refine zc rfl (ze rfl yw (zb rfl)) xM ?_
    refine z7 rfl (zQ rfl rfl rfl rfl xc xN z0) wa fun hn8=>?_
    replace hn8:=xg hn8
    refine zc rfl (zu rfl xu x9 rfl) wi ?_
    refine zc rfl (zg rfl wh (zb rfl)) yD ?_
    refine zf (zi (zJ (zA ?_)))
    obtain rfl:=Option.some.inj hF
    refine zB rfl (zC yv zD) (zz (leV.refl _) rfl ?_)
    exact ⟨rfl,rfl⟩
   ·refine zI (zi (zk ?_))
    refine yI [] [] trivial mixed (by kernel_rfl) ?_
    refine zq rfl rfl (ze rfl yw (zb rfl)) wj ?_
    refine zS hF (fun y9 hy9 hF=>?_)
    refine zq rfl rfl (yd rfl xc wm rfl wd hy9) wn ?_
    refine zq rfl rfl (zY rfl vt wl (zr rfl) (zb rfl)) wD ?_
    refine zq rfl rfl (zu rfl wz rfl rfl) wC ?_
    refine zq rfl rfl (ze rfl wM (zb rfl)) wI ?_
    refine zx rfl rfl (fun hb=>ze rfl yg (zb rfl)) wH ?_
    refine xG hF (fun hg10 hF=>?_)
    refine zx rfl rfl (fun hb=>yK default rfl xc (zn wy hb) rfl wd (hg10 hb)) wP ?_
    refine zx rfl rfl (fun hb=>zY rfl vt (zn wT hb) (zr rfl) (zb rfl)) wO ?_
    refine zx rfl rfl (fun hb=>zu rfl (zn wK hb) rfl rfl) wN ?_
    refine zx rfl rfl (fun hb=>ze rfl (zn wS hb) (zb rfl)) wG ?_
    refine zx rfl (zP rfl rfl rfl) (fun hb=>ze rfl yg (zb rfl)) wF ?_
    refine xG hF (fun hg11 hF=>?_)
    refine zx rfl (zP rfl rfl rfl) (fun hb=>yK default rfl xc (zn wJ hb) rfl wd (hg11 hb)) wZ ?_
    refine zx rfl (zP rfl rfl rfl) (fun hb=>zY rfl vt (zn w6 hb) (zr rfl) (zb rfl)) wY ?_
    refine zx rfl (zP rfl rfl rfl) (fun hb=>ze rfl yw (zb rfl)) (sk qP) ?_
    refine xG hF (fun hg12 hF=>?_)
    refine zx rfl (zP rfl rfl rfl) (fun hb=>yK default rfl xc (zn (gk yg) hb) rfl wd (hg12 hb)) (sk qI) ?_
    refine zx rfl (zP rfl rfl rfl) (fun hb=>zY rfl vt (zn (gk yw) hb) (zr rfl) (zb rfl)) (sk yH) ?_
    refine zx rfl (zP rfl rfl rfl) (fun hb=>zu rfl (zn w5 hb) (zn (gk yz) hb) rfl) (sk xS) ?_
    refine zx rfl rfl (fun hb=>zG rfl (zn wu hb) rfl (gk yX) (zZ (fun ht=>gF2 hb ht))) (sk yD) ?_
    refine zq rfl rfl (zG rfl wL (gk yv) rfl (zN (fun ht=>gT ht))) (sk xw) ?_
    refine zq rfl rfl (ze rfl (gk yP) (zb rfl)) (sk xp) ?_
    refine zx rfl rfl (fun hb=>ze rfl yg (zb rfl)) (sk xK) ?_
    refine xG hF (fun hg14 hF=>?_)
    refine zx rfl rfl (fun hb=>vu rfl xc (zn (gk xn) hb) (.inl rfl) (.some rfl) .none (slc_of (hg14 hb))) (sk xH) ?_
    refine zx rfl rfl (fun hb=>ze rfl yw (zb rfl)) (sk x8) ?_
    refine xG hF (fun hg16 hF=>?_)
    refine zx rfl rfl (fun hb=>vu rfl xc (zn (gk xl) hb) (.inl rfl) (.some rfl) .none (slc_of (hg16 hb))) (sk yq) ?_
    refine yn hF (fun v17 hv17 hF=>?_)
    refine ww rfl rfl (fun hb=>zE rfl rfl rfl (zo (zn (gk yV) hb) (zo (zn (gk yi) hb) zy)) (.cons (zb rfl) (.cons (zb rfl) .nil))) (fun hb=>ih (hv17 hb)) (sk yy) ?_
    refine zq rfl rfl (zG rfl (gk yS) (gk yl) rfl (zN (fun ht=>gT ht))) (sk yE) ?_
    refine zq rfl rfl (zg rfl (gk yC) (zb rfl)) yD ?_
    refine yo ?_
    refine zi (zJ ?_)
    obtain rfl:=Option.some.inj hF
    refine zB rfl (zC yv zD) (zz (leV.refl _) rfl ?_)
    exact ⟨rfl,rfl⟩
theorem ok42 {p0:(List zR)} {q1:(List zR)} {res:Bool} {h:AH}  (hF:ref42Xwider p0 q1=some res):Spec Tryz.prog 42 [.sl 1 (p0.map zK),.sl 1 (q1.map zK)] h (fun rr hh=>rr=.bool res∧hh=h):=by
 obtain ⟨n,hn⟩:=anyN_is hF
 exact ok42N n  hn
/-! varve/varveref42.Idle -/
theorem ok19 {l0:(List GRule)} {res:(List Int)} {h:AH}  (hF:ref42Idle l0=some res):Spec Tryz.prog 19 [.sl 5 (l0.map GRule.row)] h (fun rr hh=>rr=.sl 1 (res.map (q7 .i64))∧hh=h):=by
 unfold ref42Idle at hF
 refine zt Tryz.func19 rfl (by kernel_rfl) (env:=[.sl 5 (l0.map GRule.row),za,za,za,za,za,za,za,za,za,za,za,za,za,za,za,za,za,za,za,za,za,za,za,za,za,za,za,za,za,za,za,za,za,za,za,za,za,za,za,za,za,za,za,za,za,za,za,za,za,za,za,za,za,za,za,za,za,za,za,za,za,za,za,za,za,za,za,za,za,za,za,za,za,za,za,za,za,za,za,za,za,za,za,za,za,za,za,za,za,za,za,za]) (by rfl) ?_
 refine zk (zd ?_)
 refine zc rfl (zg rfl rfl (xq el43)) yH ?_
 refine zf (zi (zk (zd ?_)))
 refine zc rfl (zg rfl rfl (xq el43)) xS ?_
 refine zf (zi (zk (zk (zd ?_))))
 refine zc rfl (ze rfl yg (zb rfl)) yy ?_
 refine zS hF (fun v1 hv1 hF=>?_)
 refine zM rfl (zE rfl rfl rfl (zo yl zy) (.cons (zb rfl) .nil)) (ok11 hv1) yE ?_
 refine zc rfl (xV rfl yC rfl) yG ?_
 refine zf (zi ?_)
 refine zH yr hF (fun hc2 hF=>?_) (fun hc2 hF=>?_)
 ·refine zk (zd ?_)
  refine zc rfl (ze rfl yX (zb rfl)) yN ?_
  refine zc rfl (zg rfl yM (zb rfl)) yH ?_
  refine zf (zi (zJ (zA ?_)))
  obtain rfl:=Option.some.inj hF
  refine zB rfl (zC yz zD) (zz (leV.osl _ _ _) rfl ?_)
  exact ⟨rfl,rfl⟩
 ·refine zI (zi (zk (zk (zd ?_))))
  refine zc rfl (zg rfl rfl (zb rfl)) yD ?_
  refine zf (zi (zO ?_))
  refine ym (fun (n1:Nat) (s1:(List Int))=>yB [1,2,5,6,7,8,9,10,11,12,13,14,15,16,17,18,19,20,21,22,23,24,25,26,27,28,29,30,31,32,33,34,35,36,37,38,39,40,41,42,43,44,45,46,47,48,49,50,51,52,53,54,55,56,57,58,59,60,61,62,63,64,65,66,67,68,69,70,71,72,73,74,75,76,77,78,79,80,81,82,83,84,85,86,87,88,89,90,91,92] [(3,.osl (some (h.toks.length+0)) 1 (s1.map (q7 .i64))),(4,.int .i64 (n1:Int))]) (fun s1=>h.ext [] [(s1).length]) hF (fun _ _=>by simp only [yB,qw,List.set_cons_succ,List.set_cons_zero];try rfl) (wk.trans (wk_tok yX rfl xS rfl) (wk.le (by exact (.eq (.drop (.drop (.cons (leV.of_eq rfl) (.cons (leV.of_eq rfl) (.d16 (.d16 (.d16 (.d16 (.d16 (.d4 (.d4 leL.nil))))))))))))))) ?_
  intro n1 s1 hi1 hF
  refine zk (zk (zd ?_))
  refine zc rfl (ze rfl yv (zb rfl)) yO ?_
  refine zc rfl (ze rfl yg (zb rfl)) yT ?_
  refine z7 rfl (zQ rfl rfl rfl rfl el22 yQ z0) yZ fun hn65=>?_
  replace hn65:=xg hn65
  refine zc rfl (zu rfl yL yY rfl) xd ?_
  refine zf (zi ?_)
  refine yJ xb hF (fun x1 o1 hl1 hx1 hF hK1=>?_) (fun hF=>?_)
  ·refine zI (zi (zk (zO (zk (zd ?_)))))
   refine zc rfl (zg rfl rfl (zb rfl)) xw ?_
   refine zf (zi (zk (zk (zd ?_))))
   refine zc rfl (ze rfl yv (zb rfl)) xE ?_
   refine zc rfl (zu rfl xB rfl rfl) xI ?_
   refine zc rfl (zg rfl xF (zb rfl)) xp ?_
   refine zf (zi (zO ?_))
   refine qd (fun (s2:Bool×Int)=>yB [1,2,7,8,9,10,11,12,13,14,15,16,17,18,19,20,21,22,23,24,25,26,27,28,29,30,31,32,33,34,35,36,37,38,39,40,41,42,43,44,45,46,47,48,49,50,51,52,53,54,55,56,57,58,59,60,61,62,63,64,65,66,67,68,69,70,71,72,73,74,75,76,77,78,79,80,81,82,83,84,85,86,87,88,89,90,91,92] [(5,.bool s2.1),(6,.int .i64 s2.2)]) (fun s2=>h.ext [] [(s1).length]) hF (fun _=>by simp only [yB,qw,List.set_cons_succ,List.set_cons_zero];try rfl) (wk.le (by exact (.eq (.drop (.drop (.eq (.eq (.cons (leV.of_eq rfl) (.cons (leV.of_eq rfl) (.d16 (.d16 (.d16 (.d16 (.d16 (.d4 (.drop (.drop leL.nil))))))))))))))))) ?_
   intro n2 s2 o2 hF hK2
   refine zk (zk (zd ?_))
   refine zc rfl (ze rfl yS (zb rfl)) xD ?_
   refine zc rfl (ze rfl yg (zb rfl)) xM ?_
   refine z7 rfl (zQ rfl rfl rfl rfl el22 xN z0) wa fun hn92=>?_
   replace hn92:=xg hn92
   refine zc rfl (zu rfl xu x9 rfl) wi ?_
   refine zf (zi ?_)
   refine zH wh hF (fun hc93 hF=>?_) (fun hc93 hF=>?_)
   ·refine zI (zi (zk (zO (zk ?_))))
    refine r_any 12 rfl mixed ?_
    refine any_s (i:=0) (by kernel_rfl) (by kernel_rfl) rfl rfl (fun _=>ze rfl yg (zb rfl)) wD ?_
    refine any_s (i:=1) (by kernel_rfl) (by kernel_rfl) rfl rfl (fun _=>ze rfl yv (zb rfl)) wC ?_
    refine any_s (i:=2) (by kernel_rfl) (by kernel_rfl) rfl rfl (fun _=>yd rfl el22 wz wM wd (yA hx1)) wI ?_
    refine any_s (i:=3) (by kernel_rfl) (by kernel_rfl) rfl rfl (fun _=>zY rfl ty39.choose_spec.1 wL (zL (cs':=[.int .u8 x1.rep,.sl 1 (x1.path.map zK),.int .u8 x1.kinds,.bool x1.allow,.bool x1.read]) ty39.choose_spec.2 rfl rfl) (zb rfl)) wH ?_
    refine any_s (i:=4) (by kernel_rfl) (by kernel_rfl) rfl rfl (fun _=>ze rfl yg (zb rfl)) wP ?_
    refine any_s (i:=5) (by kernel_rfl) (by kernel_rfl) rfl rfl (fun _=>ze rfl yS (zb rfl)) wO ?_
    refine zS hF (fun y94 hy94 hF=>?_)
    refine any_s (i:=6) (by kernel_rfl) (by kernel_rfl) rfl rfl (fun _=>yd rfl el22 wT wK wd hy94) wN ?_
    refine any_s (i:=7) (by kernel_rfl) (by kernel_rfl) rfl rfl (fun _=>zY rfl ty39.choose_spec.1 wS (zL (cs':=[.int .u8 y94.rep,.sl 1 (y94.path.map zK),.int .u8 y94.kinds,.bool y94.allow,.bool y94.read]) ty39.choose_spec.2 rfl rfl) (zb rfl)) wG ?_
    refine any_2 (i:=8) (j:=9) (by kernel_rfl) ?_ ?_
    ·refine any_at rfl rfl (xf (n:=0) rfl ze39 rfl) xK ?_
     refine any_1 (i:=9) (by kernel_rfl) (any_at rfl rfl (xf (n:=1) rfl ze39 rfl) xH ?_)
     refine any_1 (i:=10) (by kernel_rfl) (any_at rfl rfl (yk (cs':=[.int .u8 x1.rep,.sl 1 (x1.path.map zK),.int .u8 x1.kinds,.bool x1.allow,.bool x1.read]) rfl ty39.choose_spec.1 xn wy (zb rfl) rfl rfl rfl rfl rfl) rfl ?_)
     refine any_1 (i:=11) (by kernel_rfl) (any_at rfl rfl (yk (cs':=[.int .u8 y94.rep,.sl 1 (y94.path.map zK),.int .u8 y94.kinds,.bool y94.allow,.bool y94.read]) rfl ty39.choose_spec.1 yV wu (zb rfl) rfl rfl rfl rfl rfl) rfl ?_)
     refine any_end (by kernel_rfl) ?_
     refine zi (zk (zd ?_))
     refine zc rfl (zg rfl rfl (zb rfl)) x8 ?_
     refine zf (zi (zk (zk (zd ?_))))
     refine zc rfl (zg rfl rfl (zb rfl)) yq ?_
     refine zf (zi (zO ?_))
     refine qd (fun (s3:Bool×Int)=>yB [1,2,11,12,13,14,15,16,17,18,19,20,21,22,23,24,25,26,27,28,29,30,31,32,33,34,35,36,37,38,39,40,41,42,43,44,45,46,47,48,49,50,51,52,53,54,55,56,57,58,59,60,61,62,63,64,65,66,67,68,69,70,71,72,73,74,75,76,77,78,79,80,81,82,83,84,85,86,87,88,89,90,91,92] [(9,.bool s3.1),(10,.int .u8 s3.2)]) (fun s3=>h.ext [.cells [.int .u8 x1.rep,.sl 1 (x1.path.map zK),.int .u8 x1.kinds,.bool x1.allow,.bool x1.read],.cells [.int .u8 y94.rep,.sl 1 (y94.path.map zK),.int .u8 y94.kinds,.bool y94.allow,.bool y94.read]] [(s1).length]) hF (fun _=>by simp only [yB,qw,List.set_cons_succ,List.set_cons_zero];try rfl) (wk.le (by exact (.eq (.drop (.drop (.eq (.eq (.eq (.eq (.eq (.eq (.cons (leV.of_eq rfl) (.cons (leV.of_eq rfl) (.d16 (.d16 (.d16 (.d16 (.d16 (.drop (.drop leL.nil)))))))))))))))))))) ?_
     intro n3 s3 o3 hF hK3
     refine zk (zk (zd ?_))
     refine zc rfl (ze rfl yi (zb rfl)) wF ?_
     refine zc rfl (zu rfl wJ rfl rfl) wZ ?_
     refine zf (zi ?_)
     refine zH w6 hF (fun hc110 hF=>?_) (fun hc110 hF=>?_)
     ·refine zI (zi (zk (zO (zd ?_))))
      refine zc rfl (ze rfl xl (zb rfl)) (sk qI) ?_
      refine zc rfl (ze rfl (gk yw) (zb rfl)) (sk yH) ?_
      refine zp rfl (fun hb=>zj rfl fo39x2 xn rfl) (sk xS) ?_
      refine zp rfl (fun hb=>zw rfl vb (zn (gk yX) hb) rfl (zr rfl) (zb rfl)) (sk yD) ?_
      refine zp rfl (fun hb=>ze rfl yi (zb rfl)) (sk xw) ?_
      refine yn hF (fun v111 hv111 hF=>?_)
      refine z8 rfl (fun hb=>zE rfl rfl rfl (zo (zn (gk yv) hb) (zo (zn (gk yP) hb) zy)) (.cons (zb rfl) (.cons (zb rfl) .nil))) (fun hb=>ok30 (hv111 hb)) (sk xp) ?_
      refine zp rfl (fun hb=>xV rfl (zn (gk yS) hb) rfl) (sk xK) ?_
      refine zp rfl (fun hb=>ze rfl (zn (gk xn) hb) (zb rfl)) (sk xH) ?_
      refine zp (zP rfl rfl rfl) (fun hb=>zj rfl fo39x2 yV rfl) (sk x8) ?_
      refine zp (zP rfl rfl rfl) (fun hb=>zw rfl vb (zn (gk xl) hb) rfl (zr rfl) (zb rfl)) (sk yq) ?_
      refine zp (zP rfl rfl rfl) (fun hb=>ze rfl yi (zb rfl)) (sk yy) ?_
      refine yn hF (fun v112 hv112 hF=>?_)
      refine z8 (zP rfl rfl rfl) (fun hb=>zE rfl rfl rfl (zo (zn (gk yi) hb) (zo (zn (gk yl) hb) zy)) (.cons (zb rfl) (.cons (zb rfl) .nil))) (fun hb=>ok30 (hv112 hb)) (sk yE) ?_
      refine zp rfl (fun hb=>zG rfl (zn (gk yV) hb) rfl (gk yC) (zZ (fun ht=>gF2 hb ht))) (sk yG) ?_
      refine zc rfl (zG rfl (gk yz) (gk yr) rfl (zN (fun ht=>gT ht))) (sk yN) ?_
      refine zc rfl (zg rfl (gk yM) (zb rfl)) x8 ?_
      refine zf (yb (zi (zd ?_)))
      refine zc rfl (ze rfl yi (zb rfl)) wY ?_
      refine zc rfl (zu rfl w5 rfl rfl) (sk qP) ?_
      refine zc rfl (zg rfl (gk yg) (zb rfl)) yq ?_
      refine zf (yu ?_)
      obtain rfl:=Option.some.inj hF
      exact ⟨((s3.1&&((!v111) || v112)),(IntKind.wrap .u8 (s3.2+(1:Int)))),hK3,wk.le (by exact (.eq (.drop (.drop (.eq (.eq (.eq (.eq (.eq (.eq (.cons (leV.of_eq rfl) (.cons (leV.of_eq rfl) (.d16 (.d16 (.d16 (.d16 (.d16 (.drop (.drop leL.nil)))))))))))))))))))⟩
     ·refine yF ?_
      refine zX ?_
      refine zU ?_
      obtain rfl:=Option.some.inj hF
      replace hF:=hK3
      refine zV ?_
      refine zi (zd ?_)
      refine zc rfl (ze rfl yP (zb rfl)) (sk yO) ?_
      refine zc rfl (ze rfl (gk yL) (zb rfl)) (sk yT) ?_
      refine zp rfl (fun hb=>ze rfl xl (zb rfl)) (sk yZ) ?_
      refine zp rfl (fun hb=>ze rfl (zn (gk yY) hb) (zb rfl)) (sk xd) ?_
      refine zp (zP rfl rfl rfl) (fun hb=>zj rfl qr yV rfl) (sk xi) ?_
      refine zp (zP rfl rfl rfl) (fun hb=>zw rfl vb (zn (gk xh) hb) rfl (zr rfl) (zb rfl)) (sk xA) ?_
      refine zp (zP rfl rfl rfl) (fun hb=>zu rfl (zn (gk xz) hb) rfl rfl) (sk xE) ?_
      refine zp (zP rfl rfl rfl) (fun hb=>ze rfl (zn (gk xB) hb) (zb rfl)) (sk xI) ?_
      refine zp (zP rfl rfl rfl) (fun hb=>zj rfl qr yV rfl) (sk xD) ?_
      refine zp (zP rfl rfl rfl) (fun hb=>zw rfl vb (zn (gk xu) hb) rfl (zr rfl) (zb rfl)) (sk xM) ?_
      refine zp (zP rfl rfl rfl) (fun hb=>zj rfl qr xn rfl) (sk wa) ?_
      refine zp (zP rfl rfl rfl) (fun hb=>zw rfl vb (zn (gk x9) hb) rfl (zr rfl) (zb rfl)) (sk wi) ?_
      refine zp (zP rfl rfl rfl) (fun hb=>zu rfl (zn (gk xN) hb) (zn (gk wh) hb) rfl) (sk wj) ?_
      refine zp (zP rfl rfl rfl) (fun hb=>zG rfl (zn (gk xF) hb) rfl (gk wm) (zZ (fun ht=>gF2 hb ht))) (sk wn) ?_
      refine zp rfl (fun hb=>zG rfl (zn (gk xb) hb) (gk wl) rfl (zN (fun ht=>gT2 hb ht))) (sk wD) ?_
      refine zp rfl (fun hb=>ze rfl (zn (gk wz) hb) (zb rfl)) (sk wC) ?_
      refine zp (zP rfl rfl rfl) (fun hb=>zj rfl fo39x4 yV rfl) (sk wI) ?_
      refine zp (zP rfl rfl rfl) (fun hb=>zw rfl ty4 (zn (gk wL) hb) rfl (zr rfl) (zb rfl)) (sk wH) ?_
      refine zp (zP rfl rfl rfl) (fun hb=>ze rfl (zn (gk wy) hb) (zb rfl)) (sk wP) ?_
      refine zp (zP rfl rfl rfl) (fun hb=>zj rfl fo39x4 xn rfl) (sk wO) ?_
      refine zp (zP rfl rfl rfl) (fun hb=>zw rfl ty4 (zn (gk wK) hb) rfl (zr rfl) (zb rfl)) (sk wN) ?_
      refine zp (zP rfl rfl rfl) (fun hb=>xV rfl (zn (gk wS) hb) rfl) (sk wG) ?_
      refine zp (zP rfl rfl rfl) (fun hb=>zG rfl (zn (gk wT) hb) rfl (gk wu) (zZ (fun ht=>gF2 hb ht))) (sk wF) ?_
      refine zp rfl (fun hb=>zG rfl (zn (gk wM) hb) (gk wJ) rfl (zN (fun ht=>gT2 hb ht))) (sk wZ) ?_
      refine zp rfl (fun hb=>ze rfl (zn (gk w6) hb) (zb rfl)) (sk wY) ?_
      refine zp (zP rfl rfl rfl) (fun hb=>zj rfl fo39x1 yV rfl) (sk (sk qP)) ?_
      refine zp (zP rfl rfl rfl) (fun hb=>zw rfl ty23 (zn (gk (gk yg)) hb) rfl (zr rfl) (zb rfl)) (sk (sk qI)) ?_
      refine zp (zP rfl rfl rfl) (fun hb=>zj rfl fo39x1 xn rfl) (sk (sk yH)) ?_
      refine zp (zP rfl rfl rfl) (fun hb=>zw rfl ty23 (zn (gk (gk yz)) hb) rfl (zr rfl) (zb rfl)) (sk (sk xS)) ?_
      refine yn hF (fun v114 hv114 hF=>?_)
      refine z8 (zP rfl rfl rfl) (fun hb=>zE rfl rfl rfl (zo (zn (gk (gk yw)) hb) (zo (zn (gk (gk yX)) hb) zy)) (.cons (zb rfl) (.cons (zb rfl) .nil))) (fun hb=>ok42 (hv114 hb)) (sk (sk yD)) ?_
      refine zp rfl (fun hb=>zG rfl (zn (gk w5) hb) (gk (gk yv)) rfl (zN (fun ht=>gT2 hb ht))) (sk (sk xw)) ?_
      refine zc rfl (zG rfl (gk yQ) rfl (gk (gk yP)) (zZ (fun ht=>gF ht))) (sk (sk xp)) ?_
      refine zc rfl (zg rfl (gk (gk yS)) (zb rfl)) xw ?_
      refine zf (yb (zi (zd ?_)))
      refine zc rfl (ze rfl yS (zb rfl)) wj ?_
      refine zc rfl (zu rfl wm rfl rfl) wn ?_
      refine zc rfl (zg rfl wl (zb rfl)) xp ?_
      refine zf (yu ?_)
      obtain rfl:=Option.some.inj hF
      exact ⟨((s2.1 || (((s3.1&&((y94.rep==(255:Int)) || (y94.rep==x1.rep)))&&(y94.read || (!x1.read)))&&v114)),(IntKind.wrap .i64 (s2.2+(1:Int)))),hK2,wk.trans (wk.le (by exact (.eq (.drop (.drop (.eq (.eq (.cons (leV.of_eq rfl) (.cons (leV.of_eq rfl) (.d16 (.d16 (.d16 (.d16 (.d16 (.d4 (.drop (.drop leL.nil))))))))))))))))) (xY (by simp [yj,AV.low]) rfl rfl (by simp [Blk.low,yj,AV.low]))⟩
    ·refine any_at rfl rfl (xf (n:=0) rfl ze39 rfl) xH ?_
     refine any_1 (i:=8) (by kernel_rfl) (any_at rfl rfl (xf (n:=1) rfl ze39 rfl) xK ?_)
     refine any_1 (i:=10) (by kernel_rfl) (any_at rfl rfl (yk (cs':=[.int .u8 x1.rep,.sl 1 (x1.path.map zK),.int .u8 x1.kinds,.bool x1.allow,.bool x1.read]) rfl ty39.choose_spec.1 xn wy (zb rfl) rfl rfl rfl rfl rfl) rfl ?_)
     refine any_1 (i:=11) (by kernel_rfl) (any_at rfl rfl (yk (cs':=[.int .u8 y94.rep,.sl 1 (y94.path.map zK),.int .u8 y94.kinds,.bool y94.allow,.bool y94.read]) rfl ty39.choose_spec.1 yV wu (zb rfl) rfl rfl rfl rfl rfl) rfl ?_)
     refine any_end (by kernel_rfl) ?_
     refine zi (zk (zd ?_))
     refine zc rfl (zg rfl rfl (zb rfl)) x8 ?_
     refine zf (zi (zk (zk (zd ?_))))
     refine zc rfl (zg rfl rfl (zb rfl)) yq ?_
     refine zf (zi (zO ?_))
     refine qd (fun (s3:Bool×Int)=>yB [1,2,11,12,13,14,15,16,17,18,19,20,21,22,23,24,25,26,27,28,29,30,31,32,33,34,35,36,37,38,39,40,41,42,43,44,45,46,47,48,49,50,51,52,53,54,55,56,57,58,59,60,61,62,63,64,65,66,67,68,69,70,71,72,73,74,75,76,77,78,79,80,81,82,83,84,85,86,87,88,89,90,91,92] [(9,.bool s3.1),(10,.int .u8 s3.2)]) (fun s3=>h.ext [.cells [.int .u8 y94.rep,.sl 1 (y94.path.map zK),.int .u8 y94.kinds,.bool y94.allow,.bool y94.read],.cells [.int .u8 x1.rep,.sl 1 (x1.path.map zK),.int .u8 x1.kinds,.bool x1.allow,.bool x1.read]] [(s1).length]) hF (fun _=>by simp only [yB,qw,List.set_cons_succ,List.set_cons_zero];try rfl) (wk.le (by exact (.eq (.drop (.drop (.eq (.eq (.eq (.eq (.eq (.eq (.cons (leV.of_eq rfl) (.cons (leV.of_eq rfl) (.d16 (.d16 (.d16 (.d16 (.d16 (.drop (.drop leL.nil)))))))))))))))))))) ?_
     intro n3 s3 o3 hF hK3
     refine zk (zk (zd ?_))
     refine zc rfl (ze rfl yi (zb rfl)) wF ?_
     refine zc rfl (zu rfl wJ rfl rfl) wZ ?_
     refine zf (zi ?_)
     refine zH w6 hF (fun hc110 hF=>?_) (fun hc110 hF=>?_)
     ·refine zI (zi (zk (zO (zd ?_))))
      refine zc rfl (ze rfl xl (zb rfl)) (sk qI) ?_
      refine zc rfl (ze rfl (gk yw) (zb rfl)) (sk yH) ?_
      refine zp rfl (fun hb=>zj rfl fo39x2 xn rfl) (sk xS) ?_
      refine zp rfl (fun hb=>zw rfl vb (zn (gk yX) hb) rfl (zr rfl) (zb rfl)) (sk yD) ?_
      refine zp rfl (fun hb=>ze rfl yi (zb rfl)) (sk xw) ?_
      refine yn hF (fun v111 hv111 hF=>?_)
      refine z8 rfl (fun hb=>zE rfl rfl rfl (zo (zn (gk yv) hb) (zo (zn (gk yP) hb) zy)) (.cons (zb rfl) (.cons (zb rfl) .nil))) (fun hb=>ok30 (hv111 hb)) (sk xp) ?_
      refine zp rfl (fun hb=>xV rfl (zn (gk yS) hb) rfl) (sk xK) ?_
      refine zp rfl (fun hb=>ze rfl (zn (gk xn) hb) (zb rfl)) (sk xH) ?_
      refine zp (zP rfl rfl rfl) (fun hb=>zj rfl fo39x2 yV rfl) (sk x8) ?_
      refine zp (zP rfl rfl rfl) (fun hb=>zw rfl vb (zn (gk xl) hb) rfl (zr rfl) (zb rfl)) (sk yq) ?_
      refine zp (zP rfl rfl rfl) (fun hb=>ze rfl yi (zb rfl)) (sk yy) ?_
      refine yn hF (fun v112 hv112 hF=>?_)
      refine z8 (zP rfl rfl rfl) (fun hb=>zE rfl rfl rfl (zo (zn (gk yi) hb) (zo (zn (gk yl) hb) zy)) (.cons (zb rfl) (.cons (zb rfl) .nil))) (fun hb=>ok30 (hv112 hb)) (sk yE) ?_
      refine zp rfl (fun hb=>zG rfl (zn (gk yV) hb) rfl (gk yC) (zZ (fun ht=>gF2 hb ht))) (sk yG) ?_
      refine zc rfl (zG rfl (gk yz) (gk yr) rfl (zN (fun ht=>gT ht))) (sk yN) ?_
      refine zc rfl (zg rfl (gk yM) (zb rfl)) x8 ?_
      refine zf (yb (zi (zd ?_)))
      refine zc rfl (ze rfl yi (zb rfl)) wY ?_
      refine zc rfl (zu rfl w5 rfl rfl) (sk qP) ?_
      refine zc rfl (zg rfl (gk yg) (zb rfl)) yq ?_
      refine zf (yu ?_)
      obtain rfl:=Option.some.inj hF
      exact ⟨((s3.1&&((!v111) || v112)),(IntKind.wrap .u8 (s3.2+(1:Int)))),hK3,wk.le (by exact (.eq (.drop (.drop (.eq (.eq (.eq (.eq (.eq (.eq (.cons (leV.of_eq rfl) (.cons (leV.of_eq rfl) (.d16 (.d16 (.d16 (.d16 (.d16 (.drop (.drop leL.nil)))))))))))))))))))⟩
     ·refine yF ?_
      refine zX ?_
      refine zU ?_
      obtain rfl:=Option.some.inj hF
      replace hF:=hK3
      refine zV ?_
      refine zi (zd ?_)
      refine zc rfl (ze rfl yP (zb rfl)) (sk yO) ?_
      refine zc rfl (ze rfl (gk yL) (zb rfl)) (sk yT) ?_
      refine zp rfl (fun hb=>ze rfl xl (zb rfl)) (sk yZ) ?_
      refine zp rfl (fun hb=>ze rfl (zn (gk yY) hb) (zb rfl)) (sk xd) ?_
      refine zp (zP rfl rfl rfl) (fun hb=>zj rfl qr yV rfl) (sk xi) ?_
      refine zp (zP rfl rfl rfl) (fun hb=>zw rfl vb (zn (gk xh) hb) rfl (zr rfl) (zb rfl)) (sk xA) ?_
      refine zp (zP rfl rfl rfl) (fun hb=>zu rfl (zn (gk xz) hb) rfl rfl) (sk xE) ?_
      refine zp (zP rfl rfl rfl) (fun hb=>ze rfl (zn (gk xB) hb) (zb rfl)) (sk xI) ?_
      refine zp (zP rfl rfl rfl) (fun hb=>zj rfl qr yV rfl) (sk xD) ?_
      refine zp (zP rfl rfl rfl) (fun hb=>zw rfl vb (zn (gk xu) hb) rfl (zr rfl) (zb rfl)) (sk xM) ?_
      refine zp (zP rfl rfl rfl) (fun hb=>zj rfl qr xn rfl) (sk wa) ?_
      refine zp (zP rfl rfl rfl) (fun hb=>zw rfl vb (zn (gk x9) hb) rfl (zr rfl) (zb rfl)) (sk wi) ?_
      refine zp (zP rfl rfl rfl) (fun hb=>zu rfl (zn (gk xN) hb) (zn (gk wh) hb) rfl) (sk wj) ?_
      refine zp (zP rfl rfl rfl) (fun hb=>zG rfl (zn (gk xF) hb) rfl (gk wm) (zZ (fun ht=>gF2 hb ht))) (sk wn) ?_
      refine zp rfl (fun hb=>zG rfl (zn (gk xb) hb) (gk wl) rfl (zN (fun ht=>gT2 hb ht))) (sk wD) ?_
      refine zp rfl (fun hb=>ze rfl (zn (gk wz) hb) (zb rfl)) (sk wC) ?_
      refine zp (zP rfl rfl rfl) (fun hb=>zj rfl fo39x4 yV rfl) (sk wI) ?_
      refine zp (zP rfl rfl rfl) (fun hb=>zw rfl ty4 (zn (gk wL) hb) rfl (zr rfl) (zb rfl)) (sk wH) ?_
      refine zp (zP rfl rfl rfl) (fun hb=>ze rfl (zn (gk wy) hb) (zb rfl)) (sk wP) ?_
      refine zp (zP rfl rfl rfl) (fun hb=>zj rfl fo39x4 xn rfl) (sk wO) ?_
      refine zp (zP rfl rfl rfl) (fun hb=>zw rfl ty4 (zn (gk wK) hb) rfl (zr rfl) (zb rfl)) (sk wN) ?_
      refine zp (zP rfl rfl rfl) (fun hb=>xV rfl (zn (gk wS) hb) rfl) (sk wG) ?_
      refine zp (zP rfl rfl rfl) (fun hb=>zG rfl (zn (gk wT) hb) rfl (gk wu) (zZ (fun ht=>gF2 hb ht))) (sk wF) ?_
      refine zp rfl (fun hb=>zG rfl (zn (gk wM) hb) (gk wJ) rfl (zN (fun ht=>gT2 hb ht))) (sk wZ) ?_
      refine zp rfl (fun hb=>ze rfl (zn (gk w6) hb) (zb rfl)) (sk wY) ?_
      refine zp (zP rfl rfl rfl) (fun hb=>zj rfl fo39x1 yV rfl) (sk (sk qP)) ?_
      refine zp (zP rfl rfl rfl) (fun hb=>zw rfl ty23 (zn (gk (gk yg)) hb) rfl (zr rfl) (zb rfl)) (sk (sk qI)) ?_
      refine zp (zP rfl rfl rfl) (fun hb=>zj rfl fo39x1 xn rfl) (sk (sk yH)) ?_
      refine zp (zP rfl rfl rfl) (fun hb=>zw rfl ty23 (zn (gk (gk yz)) hb) rfl (zr rfl) (zb rfl)) (sk (sk xS)) ?_
      refine yn hF (fun v114 hv114 hF=>?_)
      refine z8 (zP rfl rfl rfl) (fun hb=>zE rfl rfl rfl (zo (zn (gk (gk yw)) hb) (zo (zn (gk (gk yX)) hb) zy)) (.cons (zb rfl) (.cons (zb rfl) .nil))) (fun hb=>ok42 (hv114 hb)) (sk (sk yD)) ?_
      refine zp rfl (fun hb=>zG rfl (zn (gk w5) hb) (gk (gk yv)) rfl (zN (fun ht=>gT2 hb ht))) (sk (sk xw)) ?_
      refine zc rfl (zG rfl (gk yQ) rfl (gk (gk yP)) (zZ (fun ht=>gF ht))) (sk (sk xp)) ?_
      refine zc rfl (zg rfl (gk (gk yS)) (zb rfl)) xw ?_
      refine zf (yb (zi (zd ?_)))
      refine zc rfl (ze rfl yS (zb rfl)) wj ?_
      refine zc rfl (zu rfl wm rfl rfl) wn ?_
      refine zc rfl (zg rfl wl (zb rfl)) xp ?_
      refine zf (yu ?_)
      obtain rfl:=Option.some.inj hF
      exact ⟨((s2.1 || (((s3.1&&((y94.rep==(255:Int)) || (y94.rep==x1.rep)))&&(y94.read || (!x1.read)))&&v114)),(IntKind.wrap .i64 (s2.2+(1:Int)))),hK2,wk.trans (wk.le (by exact (.eq (.drop (.drop (.eq (.eq (.cons (leV.of_eq rfl) (.cons (leV.of_eq rfl) (.d16 (.d16 (.d16 (.d16 (.d16 (.d4 (.drop (.drop leL.nil))))))))))))))))) (xY (by simp [yj,AV.low]) rfl rfl (by simp [Blk.low,yj,AV.low]))⟩
   ·refine yF ?_
    refine zX ?_
    refine zU ?_
    obtain rfl:=Option.some.inj hF
    replace hF:=hK2
    refine zV ?_
    refine zi (zk (zd ?_))
    refine zc rfl (ze rfl yP (zb rfl)) (sk (sk xK)) ?_
    refine zf (zi ?_)
    refine zH (gk (gk xn)) hF (fun hc117 hF=>?_) (fun hc117 hF=>?_)
    ·refine zd ?_
     refine zc rfl (ze rfl yX (zb rfl)) (sk (sk xH)) ?_
     refine zc rfl (ze rfl yv (zb rfl)) (sk (sk x8)) ?_
     refine zc rfl (yh (es:=([(n1:Int)]:List Int).map (q7 .i64)) rfl el43 ze3 rfl rfl (zT (gk (gk xl)) ye) (.cons (zb rfl) .nil) rfl rfl rfl) (sk (sk yq)) ?_
     refine xG hF (fun hm118 hF=>?_)
     refine zc rfl (wv (j:=0) (T':=[((s1++([(n1:Int)]:List Int))).length]) rfl rfl rfl rfl el43 el43 (gk (gk yV)) (gk (gk yi)) (zb rfl) (zb rfl) wo hm118 rfl rfl) (sk (sk yy)) ?_
     refine zc rfl (zg rfl (gk (gk yl)) (zb rfl)) xS ?_
     refine zf (yb (zi (zd ?_)))
     refine zc rfl (ze rfl yv (zb rfl)) xi ?_
     refine zc rfl (zu rfl xh rfl rfl) xA ?_
     refine zc rfl (zg rfl xz (zb rfl)) yD ?_
     refine zf (yu ?_)
     obtain rfl:=Option.some.inj hF
     exact ⟨(s1++([(n1:Int)]:List Int)),hl1,hK1,wk.le (by exact (.eq (.drop (.drop (.cons (leV.of_eq rfl) (.cons (leV.of_eq (wx (by omega) (by omega))) (.d16 (.d16 (.d16 (.d16 (.d16 (.d4 (.d4 leL.nil)))))))))))))⟩
    ·refine zI (yb (zi (zd ?_)))
     refine zc rfl (ze rfl yv (zb rfl)) xi ?_
     refine zc rfl (zu rfl xh rfl rfl) xA ?_
     refine zc rfl (zg rfl xz (zb rfl)) yD ?_
     refine zf (yu ?_)
     obtain rfl:=Option.some.inj hF
     exact ⟨s1,hl1,hK1,wk.le (by exact (.eq (.drop (.drop (.cons (leV.of_eq rfl) (.cons (leV.of_eq (wx (by omega) (by omega))) (.d16 (.d16 (.d16 (.d16 (.d16 (.d4 (.d4 leL.nil)))))))))))))⟩
  ·refine yF ?_
   refine zX ?_
   refine zU ?_
   refine zV ?_
   refine zi (zk (zd ?_))
   refine zc rfl (ze rfl yX (zb rfl)) (sk (sk yE)) ?_
   refine zc rfl (zg rfl (gk (gk yC)) (zb rfl)) yH ?_
   refine zf (zi (zJ ?_))
   obtain rfl:=Option.some.inj hF
   refine zB rfl (zC yz zD) (zz (leV.osl _ _ _) rfl ?_)
   exact ⟨rfl,rfl⟩
/-! varve/varvelaw42.RightsTell -/
theorem ok3 {l0:(List GRule)} {rep1:Int} {o2:GOp} {path3:(List zR)} {t4:(List GNode)} {res:Bool} {h:AH}  (hF:qC l0 rep1 o2 path3 t4=some res):Spec Tryz.prog 3 [.sl 5 (l0.map GRule.row),.int .u8 rep1,.agg [.int .u8 o2.kind,.sl 1 (o2.path.map zK),.int .i64 o2.n,.str o2.text,.sl 3 (o2.dots.map GDot.row)],.sl 1 (path3.map zK),.sl 3 (t4.map GNode.row)] h (fun rr hh=>rr=.bool res∧hh=h):=by
 unfold qC at hF
 refine zt Tryz.func3 rfl (by kernel_rfl) (env:=[.sl 5 (l0.map GRule.row),.int .u8 rep1,.agg [.int .u8 o2.kind,.sl 1 (o2.path.map zK),.int .i64 o2.n,.str o2.text,.sl 3 (o2.dots.map GDot.row)],.sl 1 (path3.map zK),.sl 3 (t4.map GNode.row),za,za,za,za,za,za,za,za,za,za,za,za,za,za,za,za,za,za,za,za,za,za,za,za,za,za,za,za,za,za,za,za,za,za,za,za,za,za,za,za,za,za,za,za,za,za,za,za,za,za,za,za,za,za,za,za,za,za,za,za,za,za,za,za,za,za,za,za,za,za,za,za,za,za,za,za,za,za,za,za,za,za,za,za,za,za,za,za,za,za,za,za,za,za,za,za,za,za,za,za,za,za]) (by rfl) ?_
 refine zk (zd ?_)
 refine zc rfl (xy (n:=0) rfl yz (zb rfl) rfl rfl) xK ?_
 refine zc rfl (zg rfl rfl (zb rfl)) yq ?_
 refine zf (zi (zk (zk (zd ?_))))
 refine zc rfl (ze rfl yg (zb rfl)) yT ?_
 refine zc rfl (zw rfl ty26.choose_spec.1 xn rfl (zL (cs':=[.int .u8 o2.kind,.sl 1 (o2.path.map zK),.int .i64 o2.n,.str o2.text,.sl 3 (o2.dots.map GDot.row)]) ty26.choose_spec.2 rfl rfl) (zb rfl)) yZ ?_
 refine zS hF (fun v1 hv1 hF=>?_)
 refine zM rfl (zE rfl rfl rfl (zo yQ (zo yY zy)) (.cons (zb rfl) (.cons (zb rfl) .nil))) (ok4 hv1) xd ?_
 refine zc rfl (ze rfl xb (zb rfl)) xi ?_
 refine zp rfl (fun hb=>ze rfl yX (zb rfl)) xA ?_
 refine xj rfl (fun hb=>zQ rfl rfl rfl rfl xc (zn xz hb) z0) xE fun hn2=>?_
 refine zp rfl (fun hb=>zu rfl (zn xB hb) rfl rfl) xI ?_
 refine zc rfl (zG rfl xh rfl xF (zZ (fun ht=>gF ht))) xD ?_
 refine zc rfl (ze rfl xu (zb rfl)) xM ?_
 refine zp rfl (fun hb=>ze rfl yv (zb rfl)) wa ?_
 refine yn hF (fun v3 hv3 hF=>?_)
 refine z8 rfl (fun hb=>zE rfl rfl rfl (zo (zn x9 hb) zy) (.cons (zb rfl) .nil)) (fun hb=>ok5 (hv3 hb)) wi ?_
 refine zc rfl (zG rfl xN rfl wh (zZ (fun ht=>gF ht))) wj ?_
 refine zf (zi ?_)
 refine zH wm hF (fun hc4 hF=>?_) (fun hc4 hF=>?_)
 ·refine zk (zd ?_)
  refine zS hF (fun v5 hv5 hF=>?_)
  refine zM rfl (zE rfl rfl rfl zy .nil) (ok6 hv5) wn ?_
  refine zc rfl (zg rfl wl (zb rfl)) yq ?_
  refine zf (zi (zJ (zA ?_)))
  obtain rfl:=Option.some.inj hF
  refine zB rfl (zC yi zD) (zz (leV.refl _) rfl ?_)
  exact ⟨rfl,rfl⟩
 ·refine zI (zi (zk (zd ?_)))
  refine zc rfl (ze rfl yg (zb rfl)) wC ?_
  refine zc rfl (ze rfl yw (zb rfl)) wI ?_
  refine zc rfl (ze rfl yv (zb rfl)) wH ?_
  refine zS hF (fun v6 hv6 hF=>?_)
  refine zM rfl (zE rfl rfl rfl (zo wM (zo wL (zo wy zy))) (.cons (zb rfl) (.cons (zb rfl) (.cons (zb rfl) .nil)))) (ok7 hv6) wP ?_
  refine zc rfl (ze rfl wT (zb rfl)) wD ?_
  refine zc rfl (xe rfl wz rfl (zb rfl)) wO ?_
  refine zc rfl (xe rfl wz rfl (zb rfl)) wN ?_
  refine zc rfl (zg rfl wK (zb rfl)) yy ?_
  refine zc rfl (zg rfl wS (zb rfl)) yE ?_
  refine zf (zi (zk (zd ?_)))
  refine zc rfl (ze rfl yg (zb rfl)) wF ?_
  refine zc rfl (ze rfl yw (zb rfl)) wZ ?_
  refine zc rfl (ze rfl yv (zb rfl)) wY ?_
  refine zS hF (fun v7 hv7 hF=>?_)
  refine zM rfl (zE rfl rfl rfl (zo wJ (zo w6 (zo w5 zy))) (.cons (zb rfl) (.cons (zb rfl) (.cons (zb rfl) .nil)))) (ok8 hv7) (sk qP) ?_
  refine zc rfl (ze rfl (gk yg) (zb rfl)) wG ?_
  refine zc rfl (xe rfl wu rfl (zb rfl)) (sk qI) ?_
  refine zc rfl (xe rfl wu rfl (zb rfl)) (sk yH) ?_
  refine zc rfl (zg rfl (gk yw) (zb rfl)) yG ?_
  refine zc rfl (zg rfl (gk yz) (zb rfl)) yN ?_
  refine zf (zi (zk (zd ?_)))
  refine zc rfl (ze rfl yg (zb rfl)) (sk xS) ?_
  refine zc rfl (ze rfl yw (zb rfl)) (sk yD) ?_
  refine zc rfl (zw rfl ty26.choose_spec.1 xn rfl (zL (cs':=[.int .u8 o2.kind,.sl 1 (o2.path.map zK),.int .i64 o2.n,.str o2.text,.sl 3 (o2.dots.map GDot.row)]) ty26.choose_spec.2 rfl rfl) (zb rfl)) (sk xw) ?_
  refine zS hF (fun v8 hv8 hF=>?_)
  refine zM rfl (zE rfl rfl rfl (zo (gk yX) (zo (gk yv) (zo (gk yP) zy))) (.cons (zb rfl) (.cons (zb rfl) (.cons (zb rfl) .nil)))) (ok9 hv8) (sk xp) ?_
  refine zc rfl (zg rfl (gk yS) (zb rfl)) yO ?_
  refine zf (zi (zk (zd ?_)))
  refine zc rfl (ze rfl yg (zb rfl)) (sk xK) ?_
  refine zS hF (fun v9 hv9 hF=>?_)
  refine zM rfl (zE rfl rfl rfl (zo (gk xn) zy) (.cons (zb rfl) .nil)) (ok10 hv9) (sk xH) ?_
  refine zc rfl (ze rfl yg (zb rfl)) (sk x8) ?_
  refine zS hF (fun v10 hv10 hF=>?_)
  refine zM rfl (zE rfl rfl rfl (zo (gk xl) zy) (.cons (zb rfl) .nil)) (ok11 hv10) (sk yq) ?_
  refine zc rfl (zu rfl (gk yV) (gk yi) (bin_boolE ty4)) (sk yy) ?_
  refine zc rfl (ze rfl (gk yl) (zb rfl)) (sk yE) ?_
  refine zp rfl (fun hb=>ze rfl yg (zb rfl)) (sk yG) ?_
  refine zp rfl (fun hb=>ze rfl yw (zb rfl)) (sk yN) ?_
  refine zp rfl (fun hb=>zw rfl ty26.choose_spec.1 xn rfl (zL (cs':=[.int .u8 o2.kind,.sl 1 (o2.path.map zK),.int .i64 o2.n,.str o2.text,.sl 3 (o2.dots.map GDot.row)]) ty26.choose_spec.2 rfl rfl) (zb rfl)) (sk yO) ?_
  refine yn hF (fun v11 hv11 hF=>?_)
  refine z8 rfl (fun hb=>zE rfl rfl rfl (zo (zn (gk yr) hb) (zo (zn (gk yM) hb) (zo (zn (gk yL) hb) zy))) (.cons (zb rfl) (.cons (zb rfl) (.cons (zb rfl) .nil)))) (fun hb=>ok12 (hv11 hb)) (sk yT) ?_
  refine zp rfl (fun hb=>ze rfl yL (zb rfl)) (sk yZ) ?_
  refine zp rfl (fun hb=>zu rfl (zn (gk yQ) hb) (zn (gk yY) hb) rfl) (sk xd) ?_
  refine zc rfl (zG rfl (gk yC) (gk xb) rfl (zN (fun ht=>gT ht))) (sk xi) ?_
  refine zc rfl (ze rfl (gk xh) (zb rfl)) (sk xA) ?_
  refine zp rfl (fun hb=>ze rfl yg (zb rfl)) (sk xE) ?_
  refine zp rfl (fun hb=>ze rfl yw (zb rfl)) (sk xI) ?_
  refine zp rfl (fun hb=>zw rfl ty26.choose_spec.1 xn rfl (zL (cs':=[.int .u8 o2.kind,.sl 1 (o2.path.map zK),.int .i64 o2.n,.str o2.text,.sl 3 (o2.dots.map GDot.row)]) ty26.choose_spec.2 rfl rfl) (zb rfl)) (sk xD) ?_
  refine yn hF (fun v12 hv12 hF=>?_)
  refine z8 rfl (fun hb=>zE rfl rfl rfl (zo (zn (gk xB) hb) (zo (zn (gk xF) hb) (zo (zn (gk xu) hb) zy))) (.cons (zb rfl) (.cons (zb rfl) (.cons (zb rfl) .nil)))) (fun hb=>ok13 (hv12 hb)) (sk xM) ?_
  refine zp rfl (fun hb=>ze rfl yL (zb rfl)) (sk wa) ?_
  refine zp rfl (fun hb=>zu rfl (zn (gk x9) hb) rfl rfl) (sk wi) ?_
  refine zp rfl (fun hb=>ze rfl (zn (gk wh) hb) (zb rfl)) (sk wj) ?_
  refine zp (zP rfl rfl rfl) (fun hb=>ze rfl yg (zb rfl)) (sk wn) ?_
  refine zp (zP rfl rfl rfl) (fun hb=>ze rfl yL (zb rfl)) (sk wD) ?_
  refine xG hF (fun hg13 hF=>?_)
  refine zp (zP rfl rfl rfl) (fun hb=>yK default rfl el22 (zn (gk wl) hb) (zn (gk wz) hb) wd (hg13 hb)) (sk wC) ?_
  refine zp (zP rfl rfl rfl) (fun hb=>zj rfl fo39x3 (zn (gk wM) hb) rfl) (sk wI) ?_
  refine zp (zP rfl rfl rfl) (fun hb=>zY rfl ty4 (zn (gk wL) hb) (zr rfl) (zb rfl)) (sk wH) ?_
  refine zp rfl (fun hb=>zG rfl (zn (gk wm) hb) (gk wy) rfl (zN (fun ht=>gT2 hb ht))) (sk wP) ?_
  refine zp rfl (fun hb=>zu rfl (zn (gk xN) hb) (zn (gk wT) hb) (bin_boolE ty4)) (sk wO) ?_
  refine zc rfl (zG rfl (gk xz) (gk wK) rfl (zN (fun ht=>gT ht))) (sk wN) ?_
  refine zc rfl (ze rfl (gk wS) (zb rfl)) (sk wG) ?_
  refine zp rfl (fun hb=>ze rfl yg (zb rfl)) (sk wF) ?_
  refine zp rfl (fun hb=>ze rfl yw (zb rfl)) (sk wZ) ?_
  refine zp rfl (fun hb=>ze rfl yX (zb rfl)) (sk wY) ?_
  refine yn hF (fun v14 hv14 hF=>?_)
  refine z8 rfl (fun hb=>zE rfl rfl rfl (zo (zn (gk wJ) hb) (zo (zn (gk w6) hb) (zo (zn (gk w5) hb) zy))) (.cons (zb rfl) (.cons (zb rfl) (.cons (zb rfl) .nil)))) (fun hb=>ok14 (hv14 hb)) (sk (sk qP)) ?_
  refine zp rfl (fun hb=>ze rfl yg (zb rfl)) (sk (sk qI)) ?_
  refine zp rfl (fun hb=>ze rfl yw (zb rfl)) (sk (sk yH)) ?_
  refine zp rfl (fun hb=>ze rfl yX (zb rfl)) (sk (sk xS)) ?_
  refine yn hF (fun v15 hv15 hF=>?_)
  refine z8 rfl (fun hb=>zE rfl rfl rfl (zo (zn (gk (gk yw)) hb) (zo (zn (gk (gk yz)) hb) (zo (zn (gk (gk yX)) hb) zy))) (.cons (zb rfl) (.cons (zb rfl) (.cons (zb rfl) .nil)))) (fun hb=>ok15 (hv15 hb)) (sk (sk yD)) ?_
  refine zp rfl (fun hb=>zu rfl (zn (gk (gk yg)) hb) (zn (gk (gk yv)) hb) (bin_boolE ty4)) (sk (sk xw)) ?_
  refine zc rfl (zG rfl (gk wu) (gk (gk yP)) rfl (zN (fun ht=>gT ht))) (sk (sk xp)) ?_
  refine zc rfl (ze rfl (gk (gk yS)) (zb rfl)) (sk (sk xK)) ?_
  refine zp rfl (fun hb=>ze rfl yl (zb rfl)) (sk (sk xH)) ?_
  refine zp rfl (fun hb=>ze rfl yr (zb rfl)) (sk (sk x8)) ?_
  refine yn hF (fun v16 hv16 hF=>?_)
  refine z8 rfl (fun hb=>zE rfl rfl rfl (zo (zn (gk (gk yV)) hb) (zo (zn (gk (gk xl)) hb) zy)) (.cons (zb rfl) (.cons (zb rfl) .nil))) (fun hb=>ok16 (hv16 hb)) (sk (sk yq)) ?_
  refine zc rfl (zG rfl (gk (gk xn)) (gk (gk yi)) rfl (zN (fun ht=>gT ht))) (sk (sk yy)) ?_
  refine zc rfl (ze rfl (gk (gk yl)) (zb rfl)) (sk (sk yE)) ?_
  refine zp rfl (fun hb=>ze rfl yC (zb rfl)) (sk (sk yG)) ?_
  refine zp rfl (fun hb=>ze rfl yM (zb rfl)) (sk (sk yN)) ?_
  refine zp rfl (fun hb=>zu rfl (zn (gk (gk yr)) hb) (zn (gk (gk yM)) hb) rfl) (sk (sk yO)) ?_
  refine zc rfl (zG rfl (gk (gk yC)) (gk (gk yL)) rfl (zN (fun ht=>gT ht))) (sk (sk yT)) ?_
  refine zc rfl (ze rfl (gk (gk yQ)) (zb rfl)) (sk (sk yZ)) ?_
  refine zp rfl (fun hb=>ze rfl yg (zb rfl)) (sk (sk xd)) ?_
  refine yn hF (fun v17 hv17 hF=>?_)
  refine z8 rfl (fun hb=>zE rfl rfl rfl (zo (zn (gk (gk xb)) hb) zy) (.cons (zb rfl) .nil)) (fun hb=>ok18 (hv17 hb)) (sk (sk xi)) ?_
  refine zp rfl (fun hb=>ze rfl yg (zb rfl)) (sk (sk xA)) ?_
  refine yn hF (fun v18 hv18 hF=>?_)
  refine z8 rfl (fun hb=>zE rfl rfl rfl (zo (zn (gk (gk xz)) hb) zy) (.cons (zb rfl) .nil)) (fun hb=>ok19 (hv18 hb)) (sk (sk xE)) ?_
  refine yn hF (fun v19 hv19 hF=>?_)
  refine z8 rfl (fun hb=>zE rfl rfl rfl (zo (zn (gk (gk xh)) hb) (zo (zn (gk (gk xB)) hb) zy)) (.cons (zb rfl) (.cons (zb rfl) .nil))) (fun hb=>ok17 (hv19 hb)) (sk (sk xI)) ?_
  refine zc rfl (zG rfl (gk (gk yY)) (gk (gk xF)) rfl (zN (fun ht=>gT ht))) (sk (sk xD)) ?_
  refine zc rfl (ze rfl (gk (gk xu)) (zb rfl)) (sk (sk xM)) ?_
  refine yn hF (fun v20 hv20 hF=>?_)
  refine z8 rfl (fun hb=>zE rfl rfl rfl zy .nil) (fun hb=>ok6 (hv20 hb)) (sk (sk wa)) ?_
  refine zc rfl (zG rfl (gk (gk xN)) (gk (gk x9)) rfl (zN (fun ht=>gT ht))) (sk (sk wi)) ?_
  refine zc rfl (zg rfl (gk (gk wh)) (zb rfl)) yq ?_
  refine zf (zi (zJ ?_))
  obtain rfl:=Option.some.inj hF
  refine zB rfl (zC yi zD) (zz (leV.refl _) rfl ?_)
  exact ⟨rfl,rfl⟩
end Go.Vv
