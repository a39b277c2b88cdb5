/- Each function that the law reaches computes what its reading says; printed by a program. -/
import Derived.Test.YtppafalkommbdaaGreatW3
namespace Go.Vv
open Go Go.Proofs
set_option maxRecDepth 100000
set_option maxHeartbeats 1000000
set_option linter.unusedSimpArgs false
set_option linter.unusedVariables false
/-! varve/varveref05.May -/
theorem ok95 {l0:GLeaf} {res:Bool} {h:AH}  (hF:ref05May l0=some res):Spec Tryz.prog 95 [.agg [.int .u8 l0.typ,.int .i64 l0.n,.int .u64 l0.time,.int .u8 l0.dot.actor.rep,.int .u32 l0.dot.actor.inc,.int .u64 l0.dot.seq,.str l0.text,.sl 5 (l0.items.map GItem.row),.sl 3 (l0.tombs.map GDot.row)]] h (fun rr hh=>rr=.bool res∧hh=h):=by
 unfold ref05May at hF
 refine zt Tryz.func95 rfl (by kernel_rfl) (env:=[.agg [.int .u8 l0.typ,.int .i64 l0.n,.int .u64 l0.time,.int .u8 l0.dot.actor.rep,.int .u32 l0.dot.actor.inc,.int .u64 l0.dot.seq,.str l0.text,.sl 5 (l0.items.map GItem.row),.sl 3 (l0.tombs.map GDot.row)],za,za,za,za,za,za,za,za,za,za,za,za,za,za,za,za,za,za,za,za,za,za,za,za,za,za,za,za,za,za,za,za,za,za,za,za,za,za,za,za,za,za,za,za,za,za,za,za,za,za,za,za,za,za,za,za,za,za,za,za,za,za,za,za,za,za,za,za,za,za,za,za,za,za,za,za,za,za,za,za,za,za,za,za,za,za,za,za,za,za,za,za,za,za,za,za,za,za,za,za,za,za,za,za,za,za,za,za,za,za,za,za,za,za,za,za,za,za,za,za,za,za,za,za,za,za,za,za,za,za,za,za,za,za,za,za,za,za,za,za,za,za,za,za,za,za,za,za,za,za,za,za,za,za,za,za,za,za,za,za,za,za,za,za,za,za,za,za,za,za,za,za,za,za,za,za,za,za,za,za,za,za,za,za,za,za,za,za,za,za,za,za,za,za,za,za,za,za,za,za,za,za,za,za]) (by rfl) ?_
 refine zk (zd ?_)
 refine zc rfl (xy (n:=0) rfl yg (zb rfl) rfl rfl) qI ?_
 refine zc rfl (zg rfl rfl (zb rfl)) yH ?_
 refine zf (zi (zk (zk (zd ?_))))
 refine zc rfl (zj rfl wU yw rfl) xK ?_
 refine zc rfl (zw rfl vb xn rfl (zr rfl) (zb rfl)) xH ?_
 refine zc rfl (zu rfl yV rfl rfl) x8 ?_
 refine zc rfl (ze rfl xl (zb rfl)) yq ?_
 refine zp rfl (fun hb=>zj rfl wU yw rfl) yy ?_
 refine zp rfl (fun hb=>zw rfl vb (zn yl hb) rfl (zr rfl) (zb rfl)) yE ?_
 refine zp rfl (fun hb=>zu rfl (zn yC hb) rfl rfl) yG ?_
 refine zc rfl (zG rfl yi rfl yr (zZ (fun ht=>gF ht))) yN ?_
 refine zc rfl (ze rfl yM (zb rfl)) yO ?_
 refine zp rfl (fun hb=>zj rfl wU yw rfl) yT ?_
 refine zp rfl (fun hb=>zw rfl vb (zn yQ hb) rfl (zr rfl) (zb rfl)) yZ ?_
 refine zp rfl (fun hb=>zu rfl (zn yY hb) rfl rfl) xd ?_
 refine zp rfl (fun hb=>ze rfl (zn xb hb) (zb rfl)) xi ?_
 refine zp (zP rfl rfl rfl) (fun hb=>zj rfl fo58x1 yw rfl) xA ?_
 refine zp (zP rfl rfl rfl) (fun hb=>zw rfl ty2 (zn xz hb) rfl (zr rfl) (zb rfl)) xE ?_
 refine zp (zP rfl rfl rfl) (fun hb=>zu rfl (zn xB hb) rfl rfl) xI ?_
 refine zp rfl (fun hb=>zG rfl (zn xh hb) xF rfl (zN (fun ht=>gT2 hb ht))) xD ?_
 refine zc rfl (zG rfl yL rfl xu (zZ (fun ht=>gF ht))) xM ?_
 refine zc rfl (ze rfl xN (zb rfl)) wa ?_
 refine zp rfl (fun hb=>zj rfl wU yw rfl) wi ?_
 refine zp rfl (fun hb=>zw rfl vb (zn wh hb) rfl (zr rfl) (zb rfl)) wj ?_
 refine zp rfl (fun hb=>zu rfl (zn wm hb) rfl rfl) wn ?_
 refine zp rfl (fun hb=>ze rfl (zn wl hb) (zb rfl)) wD ?_
 refine zp (zP rfl rfl rfl) (fun hb=>zj rfl w7 yw rfl) wC ?_
 refine zp (zP rfl rfl rfl) (fun hb=>zw rfl ty56 (zn wM hb) rfl (zr rfl) (zb rfl)) wI ?_
 refine xj (zP rfl rfl rfl) (fun hb=>zQ rfl rfl rfl rfl el56 (zn wL hb) z0) wH fun hn1=>?_
 refine zp (zP rfl rfl rfl) (fun hb=>zu rfl (zn wy hb) rfl rfl) wP ?_
 refine zp rfl (fun hb=>zG rfl (zn wz hb) wT rfl (zN (fun ht=>gT2 hb ht))) wO ?_
 refine zc rfl (zG rfl x9 rfl wK (zZ (fun ht=>gF ht))) wN ?_
 refine zc rfl (ze rfl wS (zb rfl)) wG ?_
 refine zp rfl (fun hb=>zj rfl wU yw rfl) wF ?_
 refine zp rfl (fun hb=>zw rfl vb (zn wJ hb) rfl (zr rfl) (zb rfl)) wZ ?_
 refine zp rfl (fun hb=>zu rfl (zn w6 hb) rfl rfl) wY ?_
 refine zp rfl (fun hb=>ze rfl (zn w5 hb) (zb rfl)) (sk qP) ?_
 refine zp (zP rfl rfl rfl) (fun hb=>zj rfl vz yw rfl) (sk qI) ?_
 refine zp (zP rfl rfl rfl) (fun hb=>zw rfl qL (zn (gk yw) hb) rfl (zr rfl) (zb rfl)) (sk yH) ?_
 refine xj (zP rfl rfl rfl) (fun hb=>zQ rfl rfl rfl rfl qf (zn (gk yz) hb) z0) (sk xS) fun hn2=>?_
 refine zp (zP rfl rfl rfl) (fun hb=>zu rfl (zn (gk yX) hb) rfl rfl) (sk yD) ?_
 refine zp rfl (fun hb=>zG rfl (zn (gk yg) hb) (gk yv) rfl (zN (fun ht=>gT2 hb ht))) (sk xw) ?_
 refine zc rfl (zG rfl wu rfl (gk yP) (zZ (fun ht=>gF ht))) (sk xp) ?_
 refine zf (zi ?_)
 refine zH (gk yS) hF (fun hc3 hF=>?_) (fun hc3 hF=>?_)
 ·refine zk (zd ?_)
  refine zc rfl (zg rfl rfl (zb rfl)) yH ?_
  refine zf (zi (zJ (zA ?_)))
  obtain rfl:=Option.some.inj hF
  refine zB rfl (zC yz zD) (zz (leV.refl _) rfl ?_)
  exact ⟨rfl,rfl⟩
 ·refine zI (zi (zk (zd ?_)))
  refine zc rfl (wR (cs':=[.int .u8 (0:Int),.int .u32 (0:Int),.int .u64 (0:Int)]) rfl su55 ze55 pl55 ye .nil rfl rfl) (sk xK) ?_
  refine zc rfl (xf (n:=1) rfl ze55 rfl) xS ?_
  refine zc rfl (yk (cs':=[.int .u8 (0:Int),.int .u32 (0:Int),.int .u64 (0:Int)]) rfl ty55.choose_spec.1 yX (gk xn) (zb rfl) rfl rfl rfl rfl rfl) rfl ?_
  refine zf (zi ?_)
  refine r_join (fun (s1:Unit)=>yB [0,2,3,4,5,6,7,8,9,10,11,12,13,14,15,16,17,18,19,20,21,22,23,24,25,26,27,28,29,30,31,32,33,34,35,36,37,38,39,40,41,42,43,44,45,46,47,48,49,50,51,52,53,54,55,56,57,58,59,60,61,62,63,64,65,66,67,68,69,70,71,72,73,74,75,76,77,78,79,80,81,82,83,84,85,86,87,88,89,90,91,92,93,94,95,96,97,98,99,100,101,102,103,104,105,106,107,108,109,110,111,112,113,114,115,116,117,118,119,120,121,122,123,124,125,126,127,128,129,130,131,132,133,134,135,136,137,138,139,140,141,142,143,144,145,146,147,148,149,150,151,152,153,154,155,156,157,158,159,160,161,162,163,164,165,166,167,168,169,170,171,172,173,174,175,176,177,178,179,180,181,182,183,184,185,186,187,188,189,190,191,192,193,194,195,196,197,198,199,200,201,202,203,204] []) (fun s1=>h.ext [.cells [.int .u8 l0.typ,.int .i64 l0.n,.int .u64 l0.time,.int .u8 l0.dot.actor.rep,.int .u32 l0.dot.actor.inc,.int .u64 l0.dot.seq,.str l0.text,.sl 5 (l0.items.map GItem.row),.sl 3 (l0.tombs.map GDot.row)],.cells [.int .u8 (0:Int),.int .u32 (0:Int),.int .u64 (0:Int)]] []) hF (fun _=>by simp only [yB,qw,List.set_cons_succ,List.set_cons_zero];try rfl) (fun o1 hF hK1=>?_) (fun s1 hF=>?_)
  ·refine zk (zd ?_)
   refine zc rfl (zj rfl wU yw rfl) (sk xH) ?_
   refine zc rfl (zw rfl vb (gk yV) rfl (zr rfl) (zb rfl)) (sk x8) ?_
   refine zc rfl (zu rfl (gk xl) rfl rfl) (sk yq) ?_
   refine zc rfl (ze rfl (gk yi) (zb rfl)) (sk yy) ?_
   refine zp rfl (fun hb=>zj rfl fo58x2 yw rfl) (sk yE) ?_
   refine zp rfl (fun hb=>zw rfl qK (zn (gk yC) hb) rfl (zr rfl) (zb rfl)) (sk yG) ?_
   refine zp rfl (fun hb=>zu rfl (zn (gk yr) hb) rfl rfl) (sk yN) ?_
   refine zc rfl (zG rfl (gk yl) rfl (gk yM) (zZ (fun ht=>gF ht))) (sk yO) ?_
   refine zf (zi ?_)
   refine zH (gk yL) hF (fun hc9 hF=>?_) (fun hc9 hF=>?_)
   ·refine zk (zd ?_)
    refine zc rfl (zj rfl fo58x2 yw rfl) (sk yT) ?_
    refine zc rfl (zw rfl qK (gk yQ) rfl (zr rfl) (zb rfl)) (sk yZ) ?_
    refine zc rfl (zu rfl (gk yY) rfl rfl) (sk xd) ?_
    refine zc rfl (ze rfl (gk xb) (zb rfl)) (sk xi) ?_
    refine zp rfl (fun hb=>zj rfl fo58x3 yw rfl) (sk xA) ?_
    refine zp rfl (fun hb=>zw rfl ty55.choose_spec.1 (zn (gk xz) hb) rfl (zL (cs':=[.int .u8 l0.dot.actor.rep,.int .u32 l0.dot.actor.inc,.int .u64 l0.dot.seq]) ty55.choose_spec.2 rfl rfl) (zb rfl)) (sk xE) ?_
    refine zp rfl (fun hb=>zw rfl ty55.choose_spec.1 yX rfl (zL (cs':=[.int .u8 (0:Int),.int .u32 (0:Int),.int .u64 (0:Int)]) ty55.choose_spec.2 rfl rfl) (zb rfl)) (sk xI) ?_
    refine zp rfl (fun hb=>zu rfl (zn (gk xB) hb) (zn (gk xF) hb) (bin_ne pk55 rfl)) (sk xD) ?_
    refine zc rfl (zG rfl (gk xh) rfl (gk xu) (zZ (fun ht=>gF ht))) (sk xM) ?_
    refine zc rfl (ze rfl (gk xN) (zb rfl)) (sk wa) ?_
    refine zp rfl (fun hb=>zj rfl fo58x4 yw rfl) (sk wi) ?_
    refine zp rfl (fun hb=>zw rfl vt (zn (gk wh) hb) rfl (zr rfl) (zb rfl)) (sk wj) ?_
    refine zp rfl (fun hb=>zu rfl (zn (gk wm) hb) rfl rfl) (sk wn) ?_
    refine zc rfl (zG rfl (gk x9) rfl (gk wl) (zZ (fun ht=>gF ht))) (sk wD) ?_
    refine zf (zi ?_)
    refine zH (gk wz) hF (fun hc10 hF=>?_) (fun hc10 hF=>?_)
    ·refine zk (zd ?_)
     refine zc rfl (zg rfl rfl (zb rfl)) yH ?_
     refine zf (zi (zJ ?_))
     refine q_join_ret ?_
     obtain rfl:=Option.some.inj hF
     replace hF:=hK1
     obtain rfl:=Option.some.inj hF
     refine zB rfl (zC yz zD) (zz (leV.refl _) rfl ?_)
     exact ⟨rfl,rfl⟩
    ·refine zI (q_join ?_)
     obtain rfl:=Option.some.inj hF
     exact ⟨(),hK1,wk.le (by exact (.drop (.eq (.d16 (.d16 (.d16 (.d16 (.d16 (.d16 (.d16 (.d16 (.d16 (.d16 (.d16 (.d16 (.d4 (.d4 (.drop (.drop (.drop leL.nil))))))))))))))))))))⟩
   ·refine zk (zd ?_)
    refine zc rfl (zj rfl fo58x2 yw rfl) (sk wC) ?_
    refine zc rfl (zw rfl qK (gk wM) rfl (zr rfl) (zb rfl)) (sk wI) ?_
    refine zc rfl (zu rfl (gk wL) rfl rfl) (sk wH) ?_
    refine zc rfl (ze rfl (gk wy) (zb rfl)) (sk wP) ?_
    refine zp rfl (fun hb=>zj rfl fo58x3 yw rfl) (sk wO) ?_
    refine zp rfl (fun hb=>zw rfl ty55.choose_spec.1 (zn (gk wK) hb) rfl (zL (cs':=[.int .u8 l0.dot.actor.rep,.int .u32 l0.dot.actor.inc,.int .u64 l0.dot.seq]) ty55.choose_spec.2 rfl rfl) (zb rfl)) (sk wN) ?_
    refine yn hF (fun v11 hv11 hF=>?_)
    refine z8 rfl (fun hb=>zE rfl rfl rfl (zo (zn (gk wS) hb) zy) (.cons (zb rfl) .nil)) (fun hb=>ok56 (hv11 hb)) (sk wG) ?_
    refine zp rfl (fun hb=>xV rfl (zn (gk wu) hb) rfl) (sk wF) ?_
    refine zc rfl (zG rfl (gk wT) rfl (gk wJ) (zZ (fun ht=>gF ht))) (sk wZ) ?_
    refine zc rfl (ze rfl (gk w6) (zb rfl)) (sk wY) ?_
    refine zp rfl (fun hb=>zj rfl fo58x4 yw rfl) (sk (sk qP)) ?_
    refine zp rfl (fun hb=>zw rfl vt (zn (gk (gk yg)) hb) rfl (zr rfl) (zb rfl)) (sk (sk qI)) ?_
    refine xj rfl (fun hb=>vq rfl rfl rfl rfl vt (zn (gk (gk yw)) hb)) (sk (sk yH)) fun hn12=>?_
    refine zp rfl (fun hb=>zu rfl (zn (gk (gk yz)) hb) rfl rfl) (sk (sk xS)) ?_
    refine zc rfl (zG rfl (gk w5) rfl (gk (gk yX)) (zZ (fun ht=>gF ht))) (sk (sk yD)) ?_
    refine zf (zi ?_)
    refine zH (gk (gk yv)) hF (fun hc13 hF=>?_) (fun hc13 hF=>?_)
    ·refine zk (zd ?_)
     refine zc rfl (zg rfl rfl (zb rfl)) yH ?_
     refine zf (zi (zJ ?_))
     refine q_join_ret ?_
     obtain rfl:=Option.some.inj hF
     replace hF:=hK1
     obtain rfl:=Option.some.inj hF
     refine zB rfl (zC yz zD) (zz (leV.refl _) rfl ?_)
     exact ⟨rfl,rfl⟩
    ·refine zI (q_join ?_)
     obtain rfl:=Option.some.inj hF
     exact ⟨(),hK1,wk.le (by exact (.drop (.eq (.d16 (.d16 (.d16 (.d16 (.d16 (.d16 (.d16 (.d16 (.d16 (.d16 (.d16 (.d16 (.d4 (.d4 (.drop (.drop (.drop leL.nil))))))))))))))))))))⟩
  ·refine zk (zk (zd ?_))
   refine zc rfl (zg rfl rfl (zb rfl)) yD ?_
   refine zf (zi (zO ?_))
   refine ym (fun (n2:Nat) (s2:Unit)=>yB [0,2,3,5,6,7,8,9,10,11,12,13,14,15,16,17,18,19,20,21,22,23,24,25,26,27,28,29,30,31,32,33,34,35,36,37,38,39,40,41,42,43,44,45,46,47,48,49,50,51,52,53,54,55,56,57,58,59,60,61,62,63,64,65,66,67,68,69,70,71,72,73,74,75,76,77,78,79,80,81,82,83,84,85,86,87,88,89,90,91,92,93,94,95,96,97,98,99,100,101,102,103,104,105,106,107,108,109,110,111,112,113,114,115,116,117,118,119,120,121,122,123,124,125,126,127,128,129,130,131,132,133,134,135,136,137,138,139,140,141,142,143,144,145,146,147,148,149,150,151,152,153,154,155,156,157,158,159,160,161,162,163,164,165,166,167,168,169,170,171,172,173,174,175,176,177,178,179,180,181,182,183,184,185,186,187,188,189,190,191,192,193,194,195,196,197,198,199,200,201,202,203,204] [(4,.int .i64 (n2:Int))]) (fun s2=>h.ext [.cells [.int .u8 l0.typ,.int .i64 l0.n,.int .u64 l0.time,.int .u8 l0.dot.actor.rep,.int .u32 l0.dot.actor.inc,.int .u64 l0.dot.seq,.str l0.text,.sl 5 (l0.items.map GItem.row),.sl 3 (l0.tombs.map GDot.row)],.cells [.int .u8 (0:Int),.int .u32 (0:Int),.int .u64 (0:Int)]] []) hF (fun _ _=>by simp only [yB,qw,List.set_cons_succ,List.set_cons_zero];try rfl) (wk.le (by exact (.drop (.eq (.drop (.drop (.cons (leV.of_eq rfl) (.d16 (.d16 (.d16 (.d16 (.d16 (.d16 (.d16 (.d16 (.d16 (.d16 (.d16 (.d16 (.d4 (.d4 leL.nil))))))))))))))))))))) ?_
   intro n2 s2 hi2 hF
   refine zk (zk (zd ?_))
   refine zc rfl (ze rfl yv (zb rfl)) (sk (sk xw)) ?_
   refine zc rfl (zj rfl w7 yw rfl) (sk (sk xp)) ?_
   refine zc rfl (zw rfl ty56 (gk (gk yS)) rfl (zr rfl) (zb rfl)) (sk (sk xK)) ?_
   refine z7 rfl (zQ rfl rfl rfl rfl el56 (gk (gk xn)) z0) (sk (sk xH)) fun hn40=>?_
   replace hn40:=xg hn40
   refine zc rfl (zu rfl (gk (gk yP)) (gk (gk yV)) rfl) (sk (sk x8)) ?_
   refine zf (zi ?_)
   refine yJ (gk (gk xl)) hF (fun x2 o2 hl2 hx2 hF hK2=>?_) (fun hF=>?_)
   ·refine zI (zi (zk (zO (zk (zd ?_)))))
    refine zc rfl (zj rfl w7 yw rfl) (sk (sk yE)) ?_
    refine zc rfl (zw rfl ty56 (gk (gk yC)) rfl (zr rfl) (zb rfl)) (sk (sk yG)) ?_
    refine zc rfl (ze rfl yv (zb rfl)) (sk (sk yN)) ?_
    refine zc rfl (yd rfl el56 (gk (gk yr)) (gk (gk yM)) wd (yA hx2)) (sk (sk yO)) ?_
    refine zc rfl (zY rfl ty77.choose_spec.1 (gk (gk yL)) (zL (cs':=[.int .u64 x2.time,.int .u8 x2.dot.actor.rep,.int .u32 x2.dot.actor.inc,.int .u64 x2.dot.seq,.str x2.text]) ty77.choose_spec.2 rfl rfl) (zb rfl)) (sk (sk yT)) ?_
    refine zc rfl (xf (n:=2) rfl ze77 rfl) xw ?_
    refine zc rfl (yk (cs':=[.int .u64 x2.time,.int .u8 x2.dot.actor.rep,.int .u32 x2.dot.actor.inc,.int .u64 x2.dot.seq,.str x2.text]) rfl ty77.choose_spec.1 yP (gk (gk yQ)) (zb rfl) rfl rfl rfl rfl rfl) rfl ?_
    refine zf (zi (zk (zk (zd ?_))))
    refine zc rfl (zj rfl fo77x1 yP rfl) (sk (sk yZ)) ?_
    refine zc rfl (zw rfl ty55.choose_spec.1 (gk (gk yY)) rfl (zL (cs':=[.int .u8 x2.dot.actor.rep,.int .u32 x2.dot.actor.inc,.int .u64 x2.dot.seq]) ty55.choose_spec.2 rfl rfl) (zb rfl)) (sk (sk xd)) ?_
    refine zS hF (fun v41 hv41 hF=>?_)
    refine zM rfl (zE rfl rfl rfl (zo (gk (gk xb)) zy) (.cons (zb rfl) .nil)) (ok56 hv41) (sk (sk xi)) ?_
    refine zc rfl (xV rfl (gk (gk xh)) rfl) (sk (sk xA)) ?_
    refine zc rfl (ze rfl (gk (gk xz)) (zb rfl)) (sk (sk xE)) ?_
    refine zp rfl (fun hb=>zj rfl fo77x2 yP rfl) (sk (sk xI)) ?_
    refine zp rfl (fun hb=>zw rfl vt (zn (gk (gk xF)) hb) rfl (zr rfl) (zb rfl)) (sk (sk xD)) ?_
    refine xj rfl (fun hb=>vq rfl rfl rfl rfl vt (zn (gk (gk xu)) hb)) (sk (sk xM)) fun hn42=>?_
    refine zp rfl (fun hb=>zu rfl (zn (gk (gk xN)) hb) rfl rfl) (sk (sk wa)) ?_
    refine zc rfl (zG rfl (gk (gk xB)) rfl (gk (gk x9)) (zZ (fun ht=>gF ht))) (sk (sk wi)) ?_
    refine zc rfl (ze rfl (gk (gk wh)) (zb rfl)) (sk (sk wj)) ?_
    refine zp rfl (fun hb=>zj rfl wU yw rfl) (sk (sk wn)) ?_
    refine zp rfl (fun hb=>zw rfl vb (zn (gk (gk wl)) hb) rfl (zr rfl) (zb rfl)) (sk (sk wD)) ?_
    refine zp rfl (fun hb=>zu rfl (zn (gk (gk wz)) hb) rfl rfl) (sk (sk wC)) ?_
    refine zp rfl (fun hb=>ze rfl (zn (gk (gk wM)) hb) (zb rfl)) (sk (sk wI)) ?_
    refine zp (zP rfl rfl rfl) (fun hb=>zj rfl fo77x0 yP rfl) (sk (sk wH)) ?_
    refine zp (zP rfl rfl rfl) (fun hb=>zw rfl qK (zn (gk (gk wy)) hb) rfl (zr rfl) (zb rfl)) (sk (sk wP)) ?_
    refine zp (zP rfl rfl rfl) (fun hb=>zu rfl (zn (gk (gk wT)) hb) rfl rfl) (sk (sk wO)) ?_
    refine zp rfl (fun hb=>zG rfl (zn (gk (gk wL)) hb) (gk (gk wK)) rfl (zN (fun ht=>gT2 hb ht))) (sk (sk wN)) ?_
    refine zc rfl (zG rfl (gk (gk wm)) rfl (gk (gk wS)) (zZ (fun ht=>gF ht))) (sk (sk wG)) ?_
    refine zc rfl (ze rfl (gk (gk wu)) (zb rfl)) (sk (sk wF)) ?_
    refine zp rfl (fun hb=>zj rfl wU yw rfl) (sk (sk wZ)) ?_
    refine zp rfl (fun hb=>zw rfl vb (zn (gk (gk w6)) hb) rfl (zr rfl) (zb rfl)) (sk (sk wY)) ?_
    refine zp rfl (fun hb=>zu rfl (zn (gk (gk w5)) hb) rfl rfl) (sk (sk (sk qP))) ?_
    refine zp rfl (fun hb=>ze rfl (zn (gk (gk (gk yg))) hb) (zb rfl)) (sk (sk (sk qI))) ?_
    refine zp (zP rfl rfl rfl) (fun hb=>zj rfl fo77x0 yP rfl) (sk (sk (sk yH))) ?_
    refine zp (zP rfl rfl rfl) (fun hb=>zw rfl qK (zn (gk (gk (gk yz))) hb) rfl (zr rfl) (zb rfl)) (sk (sk (sk xS))) ?_
    refine zp (zP rfl rfl rfl) (fun hb=>zu rfl (zn (gk (gk (gk yX))) hb) rfl rfl) (sk (sk (sk yD))) ?_
    refine zp (zP rfl rfl rfl) (fun hb=>ze rfl (zn (gk (gk (gk yv))) hb) (zb rfl)) (sk (sk (sk xw))) ?_
    refine zp (zP rfl rfl rfl) (fun hb=>zj rfl fo77x0 yP rfl) (sk (sk (sk xp))) ?_
    refine zp (zP rfl rfl rfl) (fun hb=>zw rfl qK (zn (gk (gk (gk yS))) hb) rfl (zr rfl) (zb rfl)) (sk (sk (sk xK))) ?_
    refine zp (zP rfl rfl rfl) (fun hb=>zu rfl (zn (gk (gk (gk xn))) hb) rfl rfl) (sk (sk (sk xH))) ?_
    refine zp (zP rfl rfl rfl) (fun hb=>zG rfl (zn (gk (gk (gk yP))) hb) rfl (gk (gk (gk yV))) (zZ (fun ht=>gF2 hb ht))) (sk (sk (sk x8))) ?_
    refine zp rfl (fun hb=>zG rfl (zn (gk (gk (gk yw))) hb) (gk (gk (gk xl))) rfl (zN (fun ht=>gT2 hb ht))) (sk (sk (sk yq))) ?_
    refine zc rfl (zG rfl (gk (gk wJ)) rfl (gk (gk (gk yi))) (zZ (fun ht=>gF ht))) (sk (sk (sk yy))) ?_
    refine zc rfl (ze rfl (gk (gk (gk yl))) (zb rfl)) (sk (sk (sk yE))) ?_
    refine zp rfl (fun hb=>zj rfl w7 yw rfl) (sk (sk (sk yG))) ?_
    refine zp rfl (fun hb=>zw rfl ty56 (zn (gk (gk (gk yr))) hb) rfl (zr rfl) (zb rfl)) (sk (sk (sk yN))) ?_
    refine zp rfl (fun hb=>zj rfl fo77x1 yP rfl) (sk (sk (sk yO))) ?_
    refine zp rfl (fun hb=>zw rfl ty55.choose_spec.1 (zn (gk (gk (gk yL))) hb) rfl (zL (cs':=[.int .u8 x2.dot.actor.rep,.int .u32 x2.dot.actor.inc,.int .u64 x2.dot.seq]) ty55.choose_spec.2 rfl rfl) (zb rfl)) (sk (sk (sk yT))) ?_
    refine yn hF (fun v43 hv43 hF=>?_)
    refine z8 rfl (fun hb=>zE rfl rfl rfl (zo (zn (gk (gk (gk yM))) hb) (zo (zn (gk (gk (gk yQ))) hb) zy)) (.cons (zb rfl) (.cons (zb rfl) .nil))) (fun hb=>ok119 (hv43 hb)) (sk (sk (sk yZ))) ?_
    refine zp rfl (fun hb=>ze rfl yv (zb rfl)) (sk (sk (sk xd))) ?_
    refine zp rfl (fun hb=>zu rfl (zn (gk (gk (gk yY))) hb) (zn (gk (gk (gk xb))) hb) rfl) (sk (sk (sk xi))) ?_
    refine zc rfl (zG rfl (gk (gk (gk yC))) rfl (gk (gk (gk xh))) (zZ (fun ht=>gF ht))) (sk (sk (sk xA))) ?_
    refine zc rfl (ze rfl (gk (gk (gk xz))) (zb rfl)) (sk (sk (sk xE))) ?_
    refine zp rfl (fun hb=>zj rfl vz yw rfl) (sk (sk (sk xI))) ?_
    refine zp rfl (fun hb=>zw rfl qL (zn (gk (gk (gk xF))) hb) rfl (zr rfl) (zb rfl)) (sk (sk (sk xD))) ?_
    refine zp rfl (fun hb=>zj rfl fo77x1 yP rfl) (sk (sk (sk xM))) ?_
    refine zp rfl (fun hb=>zw rfl ty55.choose_spec.1 (zn (gk (gk (gk xN))) hb) rfl (zL (cs':=[.int .u8 x2.dot.actor.rep,.int .u32 x2.dot.actor.inc,.int .u64 x2.dot.seq]) ty55.choose_spec.2 rfl rfl) (zb rfl)) (sk (sk (sk wa))) ?_
    refine yn hF (fun v44 hv44 hF=>?_)
    refine z8 rfl (fun hb=>zE rfl rfl rfl (zo (zn (gk (gk (gk xu))) hb) (zo (zn (gk (gk (gk x9))) hb) zy)) (.cons (zb rfl) (.cons (zb rfl) .nil))) (fun hb=>ok120 (hv44 hb)) (sk (sk (sk wi))) ?_
    refine zc rfl (zG rfl (gk (gk (gk xB))) rfl (gk (gk (gk wh))) (zZ (fun ht=>gF ht))) (sk (sk (sk wj))) ?_
    refine zf (zi ?_)
    refine zH (gk (gk (gk wm))) hF (fun hc45 hF=>?_) (fun hc45 hF=>?_)
    ·refine zk (zd ?_)
     refine zc rfl (zg rfl rfl (zb rfl)) yH ?_
     refine zf (zi (zJ (zA ?_)))
     refine zF ?_
     refine zA ?_
     refine yf ?_
     obtain rfl:=Option.some.inj hF
     replace hF:=hK2
     refine zF ?_
     refine zA ?_
     obtain rfl:=Option.some.inj hF
     refine zB rfl (zC yz zD) (zz (leV.refl _) rfl ?_)
     exact ⟨rfl,rfl⟩
    ·refine zI (zi (zk ?_))
     refine yI [] [] trivial mixed (by kernel_rfl) ?_
     refine zq rfl rfl (ze rfl yv (zb rfl)) (sk (sk (sk wn))) ?_
     refine zq rfl rfl (zu rfl (gk (gk (gk wl))) rfl rfl) (sk (sk (sk wD))) ?_
     refine zq rfl rfl (ze rfl (gk (gk (gk wz))) (zb rfl)) (sk (sk (sk wC))) ?_
     refine zx rfl rfl (fun hb=>zj rfl w7 yw rfl) (sk (sk (sk wI))) ?_
     refine zx rfl rfl (fun hb=>zw rfl ty56 (zn (gk (gk (gk wL))) hb) rfl (zr rfl) (zb rfl)) (sk (sk (sk wH))) ?_
     refine zx rfl rfl (fun hb=>ze rfl yv (zb rfl)) (sk (sk (sk wP))) ?_
     refine zx rfl rfl (fun hb=>zu rfl (zn (gk (gk (gk wT))) hb) rfl rfl) (sk (sk (sk wO))) ?_
     refine xG hF (fun hg46 hF=>?_)
     refine zx rfl rfl (fun hb=>yK default rfl el56 (zn (gk (gk (gk wy))) hb) (zn (gk (gk (gk wK))) hb) wd (hg46 hb)) (sk (sk (sk wN))) ?_
     refine zx rfl rfl (fun hb=>zj rfl fo77x0 (zn (gk (gk (gk wS))) hb) rfl) (sk (sk (sk wG))) ?_
     refine zx rfl rfl (fun hb=>zY rfl qK (zn (gk (gk (gk wu))) hb) (zr rfl) (zb rfl)) (sk (sk (sk wF))) ?_
     refine zx rfl rfl (fun hb=>zj rfl w7 yw rfl) (sk (sk (sk wZ))) ?_
     refine zx rfl rfl (fun hb=>zw rfl ty56 (zn (gk (gk (gk w6))) hb) rfl (zr rfl) (zb rfl)) (sk (sk (sk wY))) ?_
     refine zx rfl rfl (fun hb=>ze rfl yv (zb rfl)) (sk (sk (sk (sk qP)))) ?_
     refine zx rfl rfl (fun hb=>zu rfl (zn (gk (gk (gk (gk yg)))) hb) rfl rfl) (sk (sk (sk (sk qI)))) ?_
     refine xG hF (fun hg47 hF=>?_)
     refine zx rfl rfl (fun hb=>yK default rfl el56 (zn (gk (gk (gk w5))) hb) (zn (gk (gk (gk (gk yw)))) hb) wd (hg47 hb)) (sk (sk (sk (sk yH)))) ?_
     refine zx rfl rfl (fun hb=>zj rfl fo77x1 (zn (gk (gk (gk (gk yz)))) hb) rfl) (sk (sk (sk (sk xS)))) ?_
     refine zx rfl rfl (fun hb=>zY rfl ty55.choose_spec.1 (zn (gk (gk (gk (gk yX)))) hb) (zL (cs':=[.int .u8 (((l0.items).getD (IntKind.wrap .i64 ((n2:Int) - (1:Int))).toNat default).dot.actor.rep),.int .u32 (((l0.items).getD (IntKind.wrap .i64 ((n2:Int) - (1:Int))).toNat default).dot.actor.inc),.int .u64 (((l0.items).getD (IntKind.wrap .i64 ((n2:Int) - (1:Int))).toNat default).dot.seq)]) ty55.choose_spec.2 rfl rfl) (zb rfl)) (sk (sk (sk (sk yD)))) ?_
     refine zx rfl rfl (fun hb=>zj rfl fo77x0 yP rfl) (sk (sk (sk (sk xw)))) ?_
     refine zx rfl rfl (fun hb=>zw rfl qK (zn (gk (gk (gk (gk yP)))) hb) rfl (zr rfl) (zb rfl)) (sk (sk (sk (sk xp)))) ?_
     refine zx rfl rfl (fun hb=>zj rfl fo77x1 yP rfl) (sk (sk (sk (sk xK)))) ?_
     refine zx rfl rfl (fun hb=>zw rfl ty55.choose_spec.1 (zn (gk (gk (gk (gk xn)))) hb) rfl (zL (cs':=[.int .u8 x2.dot.actor.rep,.int .u32 x2.dot.actor.inc,.int .u64 x2.dot.seq]) ty55.choose_spec.2 rfl rfl) (zb rfl)) (sk (sk (sk (sk xH)))) ?_
     refine yn hF (fun v48 hv48 hF=>?_)
     refine ww rfl rfl (fun hb=>zE rfl rfl rfl (zo (zn (gk (gk (gk wJ))) hb) (zo (zn (gk (gk (gk (gk yv)))) hb) (zo (zn (gk (gk (gk (gk yS)))) hb) (zo (zn (gk (gk (gk (gk yV)))) hb) zy)))) (.cons (zb rfl) (.cons (zb rfl) (.cons (zb rfl) (.cons (zb rfl) .nil))))) (fun hb=>ok121 (hv48 hb)) (sk (sk (sk (sk x8)))) ?_
     refine zx rfl rfl (fun hb=>xV rfl (zn (gk (gk (gk (gk xl)))) hb) rfl) (sk (sk (sk (sk yq)))) ?_
     refine zq rfl rfl (zG rfl (gk (gk (gk wM))) (gk (gk (gk (gk yi)))) rfl (zN (fun ht=>gT ht))) (sk (sk (sk (sk yy)))) ?_
     refine yo ?_
     refine zi ?_
     refine zH (gk (gk (gk (gk yl)))) hF (fun hc49 hF=>?_) (fun hc49 hF=>?_)
     ·refine zk (zd ?_)
      refine zc rfl (zg rfl rfl (zb rfl)) yH ?_
      refine zf (zi (zJ ?_))
      refine zF ?_
      refine zA ?_
      refine yf ?_
      obtain rfl:=Option.some.inj hF
      replace hF:=hK2
      refine zF ?_
      refine zA ?_
      obtain rfl:=Option.some.inj hF
      refine zB rfl (zC yz zD) (zz (leV.refl _) rfl ?_)
      exact ⟨rfl,rfl⟩
     ·refine zI (yb (zi (zd ?_)))
      refine zc rfl (ze rfl yv (zb rfl)) (sk (sk yq)) ?_
      refine zc rfl (zu rfl (gk (gk yi)) rfl rfl) (sk (sk yy)) ?_
      refine zc rfl (zg rfl (gk (gk yl)) (zb rfl)) yD ?_
      refine zf (yu ?_)
      obtain rfl:=Option.some.inj hF
      exact ⟨(),hl2,hK2,wk.trans (wk.le (by exact (.drop (.eq (.drop (.drop (.cons (leV.of_eq (wx (by omega) (by omega))) (.d16 (.d16 (.d16 (.d16 (.d16 (.d16 (.d16 (.d16 (.d16 (.d16 (.d16 (.d16 (.d4 (.d4 leL.nil))))))))))))))))))))) (xY (by simp [yj,AV.low]) rfl rfl (by simp [Blk.low,yj,AV.low]))⟩
   ·refine yF ?_
    refine zX ?_
    refine zU ?_
    refine zV ?_
    refine zi (zk (zk (zd ?_)))
    refine zc rfl (zg rfl rfl (zb rfl)) xp ?_
    refine zf (zi (zO ?_))
    refine ym (fun (n3:Nat) (s3:Unit)=>yB [0,2,3,4,5,7,8,9,10,11,12,13,14,15,16,17,18,19,20,21,22,23,24,25,26,27,28,29,30,31,32,33,34,35,36,37,38,39,40,41,42,43,44,45,46,47,48,49,50,51,52,53,54,55,56,57,58,59,60,61,62,63,64,65,66,67,68,69,70,71,72,73,74,75,76,77,78,79,80,81,82,83,84,85,86,87,88,89,90,91,92,93,94,95,96,97,98,99,100,101,102,103,104,105,106,107,108,109,110,111,112,113,114,115,116,117,118,119,120,121,122,123,124,125,126,127,128,129,130,131,132,133,134,135,136,137,138,139,140,141,142,143,144,145,146,147,148,149,150,151,152,153,154,155,156,157,158,159,160,161,162,163,164,165,166,167,168,169,170,171,172,173,174,175,176,177,178,179,180,181,182,183,184,185,186,187,188,189,190,191,192,193,194,195,196,197,198,199,200,201,202,203,204] [(6,.int .i64 (n3:Int))]) (fun s3=>h.ext [.cells [.int .u8 l0.typ,.int .i64 l0.n,.int .u64 l0.time,.int .u8 l0.dot.actor.rep,.int .u32 l0.dot.actor.inc,.int .u64 l0.dot.seq,.str l0.text,.sl 5 (l0.items.map GItem.row),.sl 3 (l0.tombs.map GDot.row)],.cells [.int .u8 (0:Int),.int .u32 (0:Int),.int .u64 (0:Int)]] []) hF (fun _ _=>by simp only [yB,qw,List.set_cons_succ,List.set_cons_zero];try rfl) (wk.le (by exact (.drop (.eq (.d4 (.cons (leV.of_eq rfl) (.d16 (.d16 (.d16 (.d16 (.d16 (.d16 (.d16 (.d16 (.d16 (.d16 (.d16 (.d16 (.d4 (.drop (.drop leL.nil))))))))))))))))))))) ?_
    intro n3 s3 hi3 hF
    refine zk (zk (zd ?_))
    refine zc rfl (ze rfl yS (zb rfl)) (sk (sk (sk (sk yE)))) ?_
    refine zc rfl (zj rfl vz yw rfl) (sk (sk (sk (sk yG)))) ?_
    refine zc rfl (zw rfl qL (gk (gk (gk (gk yr)))) rfl (zr rfl) (zb rfl)) (sk (sk (sk (sk yN)))) ?_
    refine z7 rfl (zQ rfl rfl rfl rfl qf (gk (gk (gk (gk yM)))) z0) (sk (sk (sk (sk yO)))) fun hn72=>?_
    replace hn72:=xg hn72
    refine zc rfl (zu rfl (gk (gk (gk (gk yC)))) (gk (gk (gk (gk yL)))) rfl) (sk (sk (sk (sk yT)))) ?_
    refine zf (zi ?_)
    refine yJ (gk (gk (gk (gk yQ)))) hF (fun x3 o3 hl3 hx3 hF hK3=>?_) (fun hF=>?_)
    ·refine zI (zi (zk (zO (zk ?_))))
     refine yI [5] [] trivial mixed (by kernel_rfl) ?_
     refine zq rfl rfl (zj rfl vz yw rfl) (sk (sk (sk (sk xi)))) ?_
     refine zq rfl rfl (zw rfl qL (gk (gk (gk (gk xh)))) rfl (zr rfl) (zb rfl)) (sk (sk (sk (sk xA)))) ?_
     refine zq rfl rfl (ze rfl yS (zb rfl)) (sk (sk (sk (sk xE)))) ?_
     refine zq rfl rfl (yd rfl qf (gk (gk (gk (gk xz)))) (gk (gk (gk (gk xB)))) wd (yA hx3)) (sk (sk (sk (sk xI)))) ?_
     refine zq rfl rfl (zY rfl ty55.choose_spec.1 (gk (gk (gk (gk xF)))) (zL (cs':=[.int .u8 x3.actor.rep,.int .u32 x3.actor.inc,.int .u64 x3.seq]) ty55.choose_spec.2 rfl rfl) (zb rfl)) (sk (sk (sk (sk xD)))) ?_
     refine zS hF (fun v73 hv73 hF=>?_)
     refine yW rfl rfl (fun _=>zE rfl rfl rfl (zo (gk (gk (gk (gk xu)))) zy) (.cons (zb rfl) .nil)) (by rintro _ ⟨B2,T2,rfl,hk2⟩;exact ok56 hv73) (sk (sk (sk (sk xM)))) ?_
     refine zq rfl rfl (xV rfl (gk (gk (gk (gk xN)))) rfl) (sk (sk (sk (sk wa)))) ?_
     refine zq rfl rfl (ze rfl (gk (gk (gk (gk x9)))) (zb rfl)) (sk (sk (sk (sk wi)))) ?_
     refine zx rfl rfl (fun hb=>ze rfl yS (zb rfl)) (sk (sk (sk (sk wj)))) ?_
     refine zx rfl rfl (fun hb=>zu rfl (zn (gk (gk (gk (gk wm)))) hb) rfl rfl) (sk (sk (sk (sk wn)))) ?_
     refine zx rfl rfl (fun hb=>ze rfl (zn (gk (gk (gk (gk wl)))) hb) (zb rfl)) (sk (sk (sk (sk wD)))) ?_
     refine zx rfl (zP rfl rfl rfl) (fun hb=>zj rfl vz yw rfl) (sk (sk (sk (sk wC)))) ?_
     refine zx rfl (zP rfl rfl rfl) (fun hb=>zw rfl qL (zn (gk (gk (gk (gk wM)))) hb) rfl (zr rfl) (zb rfl)) (sk (sk (sk (sk wI)))) ?_
     refine zx rfl (zP rfl rfl rfl) (fun hb=>ze rfl yS (zb rfl)) (sk (sk (sk (sk wH)))) ?_
     refine zx rfl (zP rfl rfl rfl) (fun hb=>zu rfl (zn (gk (gk (gk (gk wy)))) hb) rfl rfl) (sk (sk (sk (sk wP)))) ?_
     refine xG hF (fun hg74 hF=>?_)
     refine zx rfl (zP rfl rfl rfl) (fun hb=>yK default rfl qf (zn (gk (gk (gk (gk wL)))) hb) (zn (gk (gk (gk (gk wT)))) hb) wd (hg74 hb)) (sk (sk (sk (sk wO)))) ?_
     refine zx rfl (zP rfl rfl rfl) (fun hb=>zY rfl ty55.choose_spec.1 (zn (gk (gk (gk (gk wK)))) hb) (zL (cs':=[.int .u8 (((l0.tombs).getD (IntKind.wrap .i64 ((n3:Int) - (1:Int))).toNat default).actor.rep),.int .u32 (((l0.tombs).getD (IntKind.wrap .i64 ((n3:Int) - (1:Int))).toNat default).actor.inc),.int .u64 (((l0.tombs).getD (IntKind.wrap .i64 ((n3:Int) - (1:Int))).toNat default).seq)]) ty55.choose_spec.2 rfl rfl) (zb rfl)) (sk (sk (sk (sk wN)))) ?_
     refine zx rfl (zP rfl rfl rfl) (fun hb=>zj rfl vz yw rfl) (sk (sk (sk (sk wG)))) ?_
     refine zx rfl (zP rfl rfl rfl) (fun hb=>zw rfl qL (zn (gk (gk (gk (gk wu)))) hb) rfl (zr rfl) (zb rfl)) (sk (sk (sk (sk wF)))) ?_
     refine zx rfl (zP rfl rfl rfl) (fun hb=>ze rfl yS (zb rfl)) (sk (sk (sk (sk wZ)))) ?_
     refine xG hF (fun hg75 hF=>?_)
     refine zx rfl (zP rfl rfl rfl) (fun hb=>yK default rfl qf (zn (gk (gk (gk (gk wJ)))) hb) (zn (gk (gk (gk (gk w6)))) hb) wd (hg75 hb)) (sk (sk (sk (sk wY)))) ?_
     refine zx rfl (zP rfl rfl rfl) (fun hb=>zY rfl ty55.choose_spec.1 (zn (gk (gk (gk (gk w5)))) hb) (zL (cs':=[.int .u8 (((l0.tombs).getD (n3:Int).toNat default).actor.rep),.int .u32 (((l0.tombs).getD (n3:Int).toNat default).actor.inc),.int .u64 (((l0.tombs).getD (n3:Int).toNat default).seq)]) ty55.choose_spec.2 rfl rfl) (zb rfl)) (sk (sk (sk (sk (sk qP))))) ?_
     refine yn hF (fun v76 hv76 hF=>?_)
     refine ww rfl (zP rfl rfl rfl) (fun hb=>zE rfl rfl rfl (zo (zn (gk (gk (gk (gk wS)))) hb) (zo (zn (gk (gk (gk (gk (gk yg))))) hb) zy)) (.cons (zb rfl) (.cons (zb rfl) .nil))) (fun hb=>ok57 (hv76 hb)) (sk (sk (sk (sk (sk qI))))) ?_
     refine zx rfl (zP rfl rfl rfl) (fun hb=>xV rfl (zn (gk (gk (gk (gk (gk yw))))) hb) rfl) (sk (sk (sk (sk (sk yH))))) ?_
     refine zx rfl rfl (fun hb=>zG rfl (zn (gk (gk (gk (gk wz)))) hb) (gk (gk (gk (gk (gk yz))))) rfl (zN (fun ht=>gT2 hb ht))) (sk (sk (sk (sk (sk xS))))) ?_
     refine zq rfl rfl (zG rfl (gk (gk (gk (gk wh)))) rfl (gk (gk (gk (gk (gk yX))))) (zZ (fun ht=>gF ht))) (sk (sk (sk (sk (sk yD))))) ?_
     refine yo ?_
     refine zi ?_
     refine zH (gk (gk (gk (gk (gk yv))))) hF (fun hc77 hF=>?_) (fun hc77 hF=>?_)
     ·refine zk (zd ?_)
      refine zc rfl (zg rfl rfl (zb rfl)) yH ?_
      refine zf (zi (zJ ?_))
      refine zF ?_
      refine zA ?_
      refine yf ?_
      obtain rfl:=Option.some.inj hF
      replace hF:=hK3
      refine zF ?_
      refine zA ?_
      obtain rfl:=Option.some.inj hF
      refine zB rfl (zC yz zD) (zz (leV.refl _) rfl ?_)
      exact ⟨rfl,rfl⟩
     ·refine zI (yb (zi (zd ?_)))
      refine zc rfl (ze rfl yS (zb rfl)) (sk (sk (sk (sk yZ)))) ?_
      refine zc rfl (zu rfl (gk (gk (gk (gk yY)))) rfl rfl) (sk (sk (sk (sk xd)))) ?_
      refine zc rfl (zg rfl (gk (gk (gk (gk xb)))) (zb rfl)) xp ?_
      refine zf (yu ?_)
      obtain rfl:=Option.some.inj hF
      exact ⟨(),hl3,hK3,wk.le (by exact (.drop (.eq (.d4 (.cons (leV.of_eq (wx (by omega) (by omega))) (.d16 (.d16 (.d16 (.d16 (.d16 (.d16 (.d16 (.d16 (.d16 (.d16 (.d16 (.d16 (.d4 (.drop (.drop leL.nil))))))))))))))))))))⟩
    ·refine yF ?_
     refine zX ?_
     refine zU ?_
     refine zV ?_
     refine zi (zk (zd ?_))
     refine zc rfl (zg rfl rfl (zb rfl)) yH ?_
     refine zf (zi (zJ ?_))
     obtain rfl:=Option.some.inj hF
     refine zB rfl (zC yz zD) (zz (leV.refl _) rfl ?_)
     exact ⟨rfl,rfl⟩
/-! varve/varveref07.may -/
theorem ok51N (n:Nat):∀ {t0:(List GNode)} {deep1:Int} {res:Bool} {h:AH} , qV n t0 deep1=some res→Spec Tryz.prog 51 [.sl 3 (t0.map GNode.row),.int .i64 deep1] h (fun rr hh=>rr=.bool res∧hh=h):=by
 induction n with
 | zero=>intro t0 deep1 res h  hF;simp [qV] at hF
 | succ n ih =>
  intro t0 deep1 res h  hF
  unfold qV at hF
  refine zt Tryz.func51 rfl (by kernel_rfl) (env:=[.sl 3 (t0.map GNode.row),.int .i64 deep1,za,za,za,za,za,za,za,za,za,za,za,za,za,za,za,za,za,za,za,za,za,za,za,za,za,za,za,za,za,za,za,za,za,za,za,za,za,za,za,za,za,za,za,za,za,za,za,za,za,za,za,za,za,za,za,za,za,za,za,za,za,za,za,za,za,za,za,za,za,za,za,za,za,za,za,za,za,za,za,za,za,za,za,za,za,za,za,za,za,za,za,za,za]) (by rfl) ?_
  refine zk (zd ?_)
  refine zc rfl (zg rfl rfl (zb rfl)) yD ?_
  refine zf (zi (zk (zk (zd ?_))))
  refine zc rfl (zg rfl rfl (zb rfl)) xw ?_
  refine zf (zi (zO ?_))
  refine ym (fun (n1:Nat) (s1:Unit)=>yB [2,3,4,6,7,8,9,10,11,12,13,14,15,16,17,18,19,20,21,22,23,24,25,26,27,28,29,30,31,32,33,34,35,36,37,38,39,40,41,42,43,44,45,46,47,48,49,50,51,52,53,54,55,56,57,58,59,60,61,62,63,64,65,66,67,68,69,70,71,72,73,74,75,76,77,78,79,80,81,82,83,84,85,86,87,88,89,90,91,92,93,94] [(5,.int .i64 (n1:Int))]) (fun s1=>h.ext [] []) hF (fun _ _=>by simp only [yB,qw,List.set_cons_succ,List.set_cons_zero];try rfl) (wk.le (by exact (.eq (.eq (.drop (.drop (.drop (.cons (leV.of_eq rfl) (.d16 (.d16 (.d16 (.d16 (.d16 (.d4 (.d4 (.drop leL.nil)))))))))))))))) ?_
  intro n1 s1 hi1 hF
  refine zk (zk (zd ?_))
  refine zc rfl (ze rfl yP (zb rfl)) xH ?_
  refine zc rfl (ze rfl yg (zb rfl)) x8 ?_
  refine z7 rfl (zQ rfl rfl rfl rfl xa xl z0) yq fun hn30=>?_
  replace hn30:=xg hn30
  refine zc rfl (zu rfl yV yi rfl) yy ?_
  refine zf (zi ?_)
  refine yJ yl hF (fun x1 o1 hl1 hx1 hF hK1=>?_) (fun hF=>?_)
  ·refine zI (zi (zk (zO (zk (zd ?_)))))
   refine zc rfl (ze rfl yg (zb rfl)) yN ?_
   refine zc rfl (ze rfl yP (zb rfl)) yO ?_
   refine zc rfl (xO rfl xa yM yL wd (yA hx1) (GNode.row_eq _)) yT ?_
   refine zc rfl (zY rfl ty74.choose_spec.1 yQ (zL (cs':=[.str x1.name,.sl 9 (x1.leaves.map GLeaf.row),.sl 3 (x1.subs.map GNode.row)]) ty74.choose_spec.2 rfl rfl) (zb rfl)) yZ ?_
   refine zc rfl (xf (n:=0) rfl ze74 rfl) xp ?_
   refine zc rfl (yk (cs':=[.str x1.name,.sl 9 (x1.leaves.map GLeaf.row),.sl 3 (x1.subs.map GNode.row)]) rfl ty74.choose_spec.1 yS yY (zb rfl) rfl rfl rfl rfl rfl) rfl ?_
   refine zf (zi (zk (zk ?_)))
   refine yI [] [] trivial mixed (by kernel_rfl) ?_
   refine zq rfl rfl (ze rfl yw (zb rfl)) xd ?_
   refine zq rfl rfl (zu rfl xb rfl rfl) xi ?_
   refine zq rfl rfl (ze rfl xh (zb rfl)) xA ?_
   refine zx rfl rfl (fun hb=>zj rfl q9 yS rfl) xE ?_
   refine zx rfl rfl (fun hb=>zw rfl vt (zn xB hb) rfl (zr rfl) (zb rfl)) xI ?_
   refine yn hF (fun v31 hv31 hF=>?_)
   refine ww rfl rfl (fun hb=>zE rfl rfl rfl (zo (zn xF hb) zy) (.cons (zb rfl) .nil)) (fun hb=>ok61 (hv31 hb)) xD ?_
   refine zx rfl rfl (fun hb=>xV rfl (zn xu hb) rfl) xM ?_
   refine zq rfl rfl (zG rfl xz rfl xN (zZ (fun ht=>gF ht))) wa ?_
   refine zq rfl rfl (ze rfl x9 (zb rfl)) wi ?_
   refine zx rfl rfl (fun hb=>ze rfl yP (zb rfl)) wj ?_
   refine zx rfl rfl (fun hb=>zu rfl (zn wm hb) rfl rfl) wn ?_
   refine zx rfl rfl (fun hb=>ze rfl (zn wl hb) (zb rfl)) wD ?_
   refine zx rfl (zP rfl rfl rfl) (fun hb=>ze rfl yg (zb rfl)) wC ?_
   refine zx rfl (zP rfl rfl rfl) (fun hb=>ze rfl yP (zb rfl)) wI ?_
   refine zx rfl (zP rfl rfl rfl) (fun hb=>zu rfl (zn wL hb) rfl rfl) wH ?_
   refine xG hF (fun hg32 hF=>?_)
   refine zx rfl (zP rfl rfl rfl) (fun hb=>qm default rfl xa (zn wM hb) (zn wy hb) wd (hg32 hb) (GNode.row_eq _)) wP ?_
   refine zx rfl (zP rfl rfl rfl) (fun hb=>zj rfl q9 (zn wT hb) rfl) wO ?_
   refine zx rfl (zP rfl rfl rfl) (fun hb=>zY rfl vt (zn wK hb) (zr rfl) (zb rfl)) wN ?_
   refine zx rfl (zP rfl rfl rfl) (fun hb=>zj rfl q9 yS rfl) wG ?_
   refine zx rfl (zP rfl rfl rfl) (fun hb=>zw rfl vt (zn wu hb) rfl (zr rfl) (zb rfl)) wF ?_
   refine zx rfl (zP rfl rfl rfl) (fun hb=>zu rfl (zn wS hb) (zn wJ hb) rfl) wZ ?_
   refine zx rfl rfl (fun hb=>zG rfl (zn wz hb) w6 rfl (zN (fun ht=>gT2 hb ht))) wY ?_
   refine zq rfl rfl (zG rfl wh rfl w5 (zZ (fun ht=>gF ht))) (sk qP) ?_
   refine zq rfl rfl (ze rfl (gk yg) (zb rfl)) (sk qI) ?_
   refine zx rfl rfl (fun hb=>zj rfl xX yS rfl) (sk yH) ?_
   refine zx rfl rfl (fun hb=>zw rfl qk (zn (gk yz) hb) rfl (zr rfl) (zb rfl)) (sk xS) ?_
   refine draw_glen rfl rfl (fun hb=>zQ rfl rfl rfl rfl wr (zn (gk yX) hb) z0) (sk yD) ?_
   refine zx rfl rfl (fun hb=>zu rfl (zn (gk yv) hb) rfl rfl) (sk xw) ?_
   refine zx rfl rfl (fun hb=>ze rfl (zn (gk yP) hb) (zb rfl)) (sk xp) ?_
   refine zx rfl (zP rfl rfl rfl) (fun hb=>zj rfl q8 yS rfl) (sk xK) ?_
   refine zx rfl (zP rfl rfl rfl) (fun hb=>zw rfl ty28 (zn (gk xn) hb) rfl (zr rfl) (zb rfl)) (sk xH) ?_
   refine draw_glen rfl (zP rfl rfl rfl) (fun hb=>zQ rfl rfl rfl rfl xa (zn (gk yV) hb) z0) (sk x8) ?_
   refine zx rfl (zP rfl rfl rfl) (fun hb=>zu rfl (zn (gk xl) hb) rfl rfl) (sk yq) ?_
   refine zx rfl rfl (fun hb=>zG rfl (zn (gk yS) hb) (gk yi) rfl (zN (fun ht=>gT2 hb ht))) (sk yy) ?_
   refine zq rfl rfl (zG rfl (gk yw) rfl (gk yl) (zZ (fun ht=>gF ht))) (sk yE) ?_
   refine zq rfl rfl (ze rfl (gk yC) (zb rfl)) (sk yG) ?_
   refine zx rfl rfl (fun hb=>zj rfl q8 yS rfl) (sk yN) ?_
   refine zx rfl rfl (fun hb=>zw rfl ty28 (zn (gk yM) hb) rfl (zr rfl) (zb rfl)) (sk yO) ?_
   refine zx rfl rfl (fun hb=>ze rfl yw (zb rfl)) (sk yT) ?_
   refine zx rfl rfl (fun hb=>zu rfl (zn (gk yQ) hb) rfl rfl) (sk yZ) ?_
   refine yn hF (fun v35 hv35 hF=>?_)
   refine ww rfl rfl (fun hb=>zE rfl rfl rfl (zo (zn (gk yL) hb) (zo (zn (gk yY) hb) zy)) (.cons (zb rfl) (.cons (zb rfl) .nil))) (fun hb=>ih (hv35 hb)) (sk xd) ?_
   refine zx rfl rfl (fun hb=>xV rfl (zn (gk xb) hb) rfl) (sk xi) ?_
   refine zq rfl rfl (zG rfl (gk yr) rfl (gk xh) (zZ (fun ht=>gF ht))) (sk xA) ?_
   refine yo ?_
   refine zi ?_
   refine zH (gk xz) hF (fun hc36 hF=>?_) (fun hc36 hF=>?_)
   ·refine zk (zd ?_)
    refine zc rfl (zg rfl rfl (zb rfl)) yD ?_
    refine zf (zi (zJ (zA ?_)))
    refine zF ?_
    refine zA ?_
    refine yf ?_
    obtain rfl:=Option.some.inj hF
    replace hF:=hK1
    refine zF ?_
    refine zA ?_
    obtain rfl:=Option.some.inj hF
    refine zB rfl (zC yv zD) (zz (leV.refl _) rfl ?_)
    exact ⟨rfl,rfl⟩
   ·refine zI (zi (zk (zd ?_)))
    refine zc rfl (zg rfl rfl (zb rfl)) xK ?_
    refine zf (zi (zO ?_))
    refine ym (fun (n2:Nat) (s2:Unit)=>yB [2,3,4,8,9,10,11,12,13,14,15,16,17,18,19,20,21,22,23,24,25,26,27,28,29,30,31,32,33,34,35,36,37,38,39,40,41,42,43,44,45,46,47,48,49,50,51,52,53,54,55,56,57,58,59,60,61,62,63,64,65,66,67,68,69,70,71,72,73,74,75,76,77,78,79,80,81,82,83,84,85,86,87,88,89,90,91,92,93,94] [(7,.int .i64 (n2:Int))]) (fun s2=>h.ext [.cells [.str x1.name,.sl 9 (x1.leaves.map GLeaf.row),.sl 3 (x1.subs.map GNode.row)]] []) hF (fun _ _=>by simp only [yB,qw,List.set_cons_succ,List.set_cons_zero];try rfl) (wk.le (by exact (.eq (.eq (.drop (.drop (.drop (.eq (.eq (.cons (leV.of_eq rfl) (.d16 (.d16 (.d16 (.d16 (.d16 (.d4 (.drop (.drop (.drop leL.nil))))))))))))))))))) ?_
    intro n2 s2 hi2 hF
    refine zk (zk (zd ?_))
    refine zc rfl (ze rfl xn (zb rfl)) (sk xE) ?_
    refine zc rfl (zj rfl xX yS rfl) (sk xI) ?_
    refine zc rfl (zw rfl qk (gk xF) rfl (zr rfl) (zb rfl)) (sk xD) ?_
    refine z7 rfl (zQ rfl rfl rfl rfl wr (gk xu) z0) (sk xM) fun hn49=>?_
    replace hn49:=xg hn49
    refine zc rfl (zu rfl (gk xB) (gk xN) rfl) (sk wa) ?_
    refine zf (zi ?_)
    refine yJ (gk x9) hF (fun x2 o2 hl2 hx2 hF hK2=>?_) (fun hF=>?_)
    ·refine zI (zi (zk (zO (zk ?_))))
     refine yI [5] [] trivial mixed (by kernel_rfl) ?_
     refine zq rfl rfl (zj rfl xX yS rfl) (sk wn) ?_
     refine zq rfl rfl (zw rfl qk (gk wl) rfl (zr rfl) (zb rfl)) (sk wD) ?_
     refine zq rfl rfl (ze rfl xn (zb rfl)) (sk wC) ?_
     refine zq rfl rfl (yd rfl wr (gk wz) (gk wM) wd (yA hx2)) (sk wI) ?_
     refine zq rfl rfl (zY rfl ty58.choose_spec.1 (gk wL) (zL (cs':=[.int .u8 x2.typ,.int .i64 x2.n,.int .u64 x2.time,.int .u8 x2.dot.actor.rep,.int .u32 x2.dot.actor.inc,.int .u64 x2.dot.seq,.str x2.text,.sl 5 (x2.items.map GItem.row),.sl 3 (x2.tombs.map GDot.row)]) ty58.choose_spec.2 rfl rfl) (zb rfl)) (sk wH) ?_
     refine zS hF (fun v50 hv50 hF=>?_)
     refine yW rfl rfl (fun _=>zE rfl rfl rfl (zo (gk wy) zy) (.cons (zb rfl) .nil)) (by rintro _ ⟨B2,T2,rfl,hk2⟩;exact ok95 hv50) (sk wP) ?_
     refine zq rfl rfl (xV rfl (gk wT) rfl) (sk wO) ?_
     refine zq rfl rfl (ze rfl (gk wK) (zb rfl)) (sk wN) ?_
     refine zx rfl rfl (fun hb=>ze rfl xn (zb rfl)) (sk wG) ?_
     refine zx rfl rfl (fun hb=>zu rfl (zn (gk wu) hb) rfl rfl) (sk wF) ?_
     refine zx rfl rfl (fun hb=>ze rfl (zn (gk wJ) hb) (zb rfl)) (sk wZ) ?_
     refine zx rfl (zP rfl rfl rfl) (fun hb=>zj rfl xX yS rfl) (sk wY) ?_
     refine zx rfl (zP rfl rfl rfl) (fun hb=>zw rfl qk (zn (gk w5) hb) rfl (zr rfl) (zb rfl)) (sk (sk qP)) ?_
     refine zx rfl (zP rfl rfl rfl) (fun hb=>ze rfl xn (zb rfl)) (sk (sk qI)) ?_
     refine zx rfl (zP rfl rfl rfl) (fun hb=>zu rfl (zn (gk (gk yw)) hb) rfl rfl) (sk (sk yH)) ?_
     refine xG hF (fun hg51 hF=>?_)
     refine zx rfl (zP rfl rfl rfl) (fun hb=>yK default rfl wr (zn (gk (gk yg)) hb) (zn (gk (gk yz)) hb) wd (hg51 hb)) (sk (sk xS)) ?_
     refine zx rfl (zP rfl rfl rfl) (fun hb=>zj rfl wU (zn (gk (gk yX)) hb) rfl) (sk (sk yD)) ?_
     refine zx rfl (zP rfl rfl rfl) (fun hb=>zY rfl vb (zn (gk (gk yv)) hb) (zr rfl) (zb rfl)) (sk (sk xw)) ?_
     refine zx rfl (zP rfl rfl rfl) (fun hb=>zj rfl xX yS rfl) (sk (sk xp)) ?_
     refine zx rfl (zP rfl rfl rfl) (fun hb=>zw rfl qk (zn (gk (gk yS)) hb) rfl (zr rfl) (zb rfl)) (sk (sk xK)) ?_
     refine zx rfl (zP rfl rfl rfl) (fun hb=>ze rfl xn (zb rfl)) (sk (sk xH)) ?_
     refine xG hF (fun hg52 hF=>?_)
     refine zx rfl (zP rfl rfl rfl) (fun hb=>yK default rfl wr (zn (gk (gk xn)) hb) (zn (gk (gk yV)) hb) wd (hg52 hb)) (sk (sk x8)) ?_
     refine zx rfl (zP rfl rfl rfl) (fun hb=>zj rfl wU (zn (gk (gk xl)) hb) rfl) (sk (sk yq)) ?_
     refine zx rfl (zP rfl rfl rfl) (fun hb=>zY rfl vb (zn (gk (gk yi)) hb) (zr rfl) (zb rfl)) (sk (sk yy)) ?_
     refine zx rfl (zP rfl rfl rfl) (fun hb=>zu rfl (zn (gk (gk yP)) hb) (zn (gk (gk yl)) hb) rfl) (sk (sk yE)) ?_
     refine zx rfl rfl (fun hb=>zG rfl (zn (gk w6) hb) (gk (gk yC)) rfl (zN (fun ht=>gT2 hb ht))) (sk (sk yG)) ?_
     refine zq rfl rfl (zG rfl (gk wS) rfl (gk (gk yr)) (zZ (fun ht=>gF ht))) (sk (sk yN)) ?_
     refine yo ?_
     refine zi ?_
     refine zH (gk (gk yM)) hF (fun hc53 hF=>?_) (fun hc53 hF=>?_)
     ·refine zk (zd ?_)
      refine zc rfl (zg rfl rfl (zb rfl)) yD ?_
      refine zf (zi (zJ ?_))
      refine zF ?_
      refine zA ?_
      refine yf ?_
      obtain rfl:=Option.some.inj hF
      replace hF:=hK2
      refine zF ?_
      refine zF ?_
      refine zA ?_
      refine yf ?_
      obtain rfl:=Option.some.inj hF
      replace hF:=hK1
      refine zF ?_
      refine zA ?_
      obtain rfl:=Option.some.inj hF
      refine zB rfl (zC yv zD) (zz (leV.refl _) rfl ?_)
      exact ⟨rfl,rfl⟩
     ·refine zI (yb (zi (zd ?_)))
      refine zc rfl (ze rfl xn (zb rfl)) (sk wi) ?_
      refine zc rfl (zu rfl (gk wh) rfl rfl) (sk wj) ?_
      refine zc rfl (zg rfl (gk wm) (zb rfl)) xK ?_
      refine zf (yu ?_)
      obtain rfl:=Option.some.inj hF
      exact ⟨(),hl2,hK2,wk.le (by exact (.eq (.eq (.drop (.drop (.drop (.eq (.eq (.cons (leV.of_eq (wx (by omega) (by omega))) (.d16 (.d16 (.d16 (.d16 (.d16 (.d4 (.drop (.drop (.drop leL.nil))))))))))))))))))⟩
    ·refine yF ?_
     refine zX ?_
     refine zU ?_
     refine zV ?_
     refine yb (zi (zd ?_))
     refine zc rfl (ze rfl yP (zb rfl)) yE ?_
     refine zc rfl (zu rfl yC rfl rfl) yG ?_
     refine zc rfl (zg rfl yr (zb rfl)) xw ?_
     refine zf (yu ?_)
     obtain rfl:=Option.some.inj hF
     exact ⟨(),hl1,hK1,wk.trans (wk.le (by exact (.eq (.eq (.drop (.drop (.drop (.cons (leV.of_eq (wx (by omega) (by omega))) (.d16 (.d16 (.d16 (.d16 (.d16 (.d4 (.d4 (.drop leL.nil)))))))))))))))) (xY (by simp [yj,AV.low]) rfl rfl (by simp [Blk.low,yj,AV.low]))⟩
  ·refine yF ?_
   refine zX ?_
   refine zU ?_
   refine zV ?_
   refine zi (zk (zd ?_))
   refine zc rfl (zg rfl rfl (zb rfl)) yD ?_
   refine zf (zi (zJ ?_))
   obtain rfl:=Option.some.inj hF
   refine zB rfl (zC yv zD) (zz (leV.refl _) rfl ?_)
   exact ⟨rfl,rfl⟩
theorem ok51 {t0:(List GNode)} {deep1:Int} {res:Bool} {h:AH}  (hF:ref07Xmay t0 deep1=some res):Spec Tryz.prog 51 [.sl 3 (t0.map GNode.row),.int .i64 deep1] h (fun rr hh=>rr=.bool res∧hh=h):=by
 obtain ⟨n,hn⟩:=anyN_is hF
 exact ok51N n  hn
/-! varve/varveref07.May -/
theorem ok25 {t0:(List GNode)} {res:Bool} {h:AH}  (hF:ref07May t0=some res):Spec Tryz.prog 25 [.sl 3 (t0.map GNode.row)] h (fun rr hh=>rr=.bool res∧hh=h):=by
 unfold ref07May at hF
 refine zt Tryz.func25 rfl (by kernel_rfl) (env:=[.sl 3 (t0.map GNode.row),za,za,za,za]) (by rfl) ?_
 refine zk (zd ?_)
 refine zc rfl (zg rfl rfl (zb rfl)) yH ?_
 refine zf (zi (zk (zd ?_)))
 refine zc rfl (ze rfl yg (zb rfl)) xS ?_
 refine zS hF (fun v1 hv1 hF=>?_)
 refine zM rfl (zE rfl rfl rfl (zo yX (zo rfl zy)) (.cons (zb rfl) (.cons (zb rfl) .nil))) (ok51 hv1) yD ?_
 refine zc rfl (zg rfl yv (zb rfl)) yH ?_
 refine zf (zi (zJ ?_))
 obtain rfl:=Option.some.inj hF
 refine zB rfl (zC yz zD) (zz (leV.refl _) rfl ?_)
 exact ⟨rfl,rfl⟩
/-! varve/varveref07.Rows -/
theorem ok52N (n:Nat):∀ {t0:(List GNode)} {ahead1:(List zR)} {res:(List GVarveref07Row)} {h:AH} , qq n t0 ahead1=some res→Spec Tryz.prog 52 [.sl 3 (t0.map GNode.row),.sl 1 (ahead1.map zK)] h (fun rr hh=>rr=.sl 10 (res.map GVarveref07Row.row)∧hh=h):=by
 induction n with
 | zero=>intro t0 ahead1 res h  hF;simp [qq] at hF
 | succ n ih =>
  intro t0 ahead1 res h  hF
  unfold qq at hF
  refine zt Tryz.func52 rfl (by kernel_rfl) (env:=[.sl 3 (t0.map GNode.row),.sl 1 (ahead1.map zK),za,za,za,za,za,za,za,za,za,za,za,za,za,za,za,za,za,za,za,za,za,za,za,za,za,za,za,za,za,za,za,za,za,za,za,za,za,za,za,za,za,za,za,za,za,za,za,za,za,za,za,za,za,za,za,za]) (by rfl) ?_
  refine zk (zd ?_)
  refine zc rfl (zg rfl rfl (xq el88)) yD ?_
  refine zf (zi (zk (zd ?_)))
  refine zc rfl (zg rfl rfl (xq el88)) xw ?_
  refine zf (zi (zk (zk (zd ?_))))
  refine zc rfl (zg rfl rfl (zb rfl)) xp ?_
  refine zf (zi (zO ?_))
  refine ym (fun (n1:Nat) (s1:(List GVarveref07Row))=>yB [2,3,4,7,8,9,10,11,12,13,14,15,16,17,18,19,20,21,22,23,24,25,26,27,28,29,30,31,32,33,34,35,36,37,38,39,40,41,42,43,44,45,46,47,48,49,50,51,52,53,54,55,56,57] [(5,.osl (some (h.toks.length+0)) 10 (s1.map GVarveref07Row.row)),(6,.int .i64 (n1:Int))]) (fun s1=>h.ext [] [(s1).length]) hF (fun _ _=>by simp only [yB,qw,List.set_cons_succ,List.set_cons_zero];try rfl) (wk.trans (wk_tok yP rfl xw rfl) (wk.le (by exact (.eq (.eq (.drop (.drop (.drop (.cons (leV.of_eq rfl) (.cons (leV.of_eq rfl) (.d16 (.d16 (.d16 (.drop (.drop (.drop leL.nil)))))))))))))))) ?_
  intro n1 s1 hi1 hF
  refine zk (zk (zd ?_))
  refine zc rfl (ze rfl yS (zb rfl)) x8 ?_
  refine zc rfl (ze rfl yg (zb rfl)) yq ?_
  refine z7 rfl (zQ rfl rfl rfl rfl xa yi z0) yy fun hn32=>?_
  replace hn32:=xg hn32
  refine zc rfl (zu rfl xl yl rfl) yE ?_
  refine zf (zi ?_)
  refine yJ yC hF (fun x1 o1 hl1 hx1 hF hK1=>?_) (fun hF=>?_)
  ·refine zI (zi (zk (zO (zk ?_))))
   refine yI [] [] trivial mixed (by kernel_rfl) ?_
   refine zq rfl rfl (yh (es:=([]:List zR).map zK) rfl xc ze9 rfl rfl ye .nil rfl rfl rfl) yO ?_
   refine zq rfl rfl (ze rfl yw (zb rfl)) yT ?_
   refine xG hF (fun hm33 hF=>?_)
   refine vi rfl FOk.nil (by rfl) rfl (e_appN (m:=1) (T':=[(s1).length,((([]:List zR)++ahead1)).length]) rfl rfl rfl rfl xc xc yL yQ (zb rfl) (zb rfl) vY hm33 rfl rfl) yZ ?_
   refine zq rfl rfl (ze rfl yg (zb rfl)) xd ?_
   refine zq rfl rfl (ze rfl yS (zb rfl)) xi ?_
   refine zq rfl rfl (xO rfl xa xb xh wd (yA hx1) (GNode.row_eq _)) xA ?_
   refine zq rfl rfl (zj rfl q9 xz rfl) xE ?_
   refine zq rfl rfl (zY rfl vt xB (zr rfl) (zb rfl)) xI ?_
   refine zq rfl rfl (yh (es:=([x1.name]:List zR).map zK) rfl xc ze9 rfl rfl (zT xF ye) (.cons (zb rfl) .nil) rfl rfl rfl) xD ?_
   refine xG hF (fun hm34 hF=>?_)
   refine vi rfl FOk.nil (by rfl) rfl (wv (j:=1) (T':=[(s1).length,(((([]:List zR)++ahead1)++([x1.name]:List zR))).length]) rfl rfl rfl rfl xc xc yY xu (zb rfl) (zb rfl) wo hm34 rfl rfl) xM ?_
   refine zq rfl rfl (zg rfl xN (zb rfl)) xK ?_
   refine yo ?_
   refine zi (zk (zk (zd ?_)))
   refine zc rfl (zg rfl rfl (zb rfl)) xH ?_
   refine zf (zi (zO ?_))
   refine ym (fun (n2:Nat) (s2:(List GVarveref07Row))=>yB [2,3,4,9,10,11,12,13,14,15,16,17,18,19,20,21,22,23,24,25,26,27,28,29,30,31,32,33,34,35,36,37,38,39,40,41,42,43,44,45,46,47,48,49,50,51,52,53,54,55,56,57] [(5,.osl (some (h.toks.length+0)) 10 (s2.map GVarveref07Row.row)),(8,.int .i64 (n2:Int))]) (fun s2=>h.ext [] [(s2).length,(((([]:List zR)++ahead1)++([x1.name]:List zR))).length]) hF (fun _ _=>by simp only [yB,qw,List.set_cons_succ,List.set_cons_zero];try rfl) (wk.le (by exact (.eq (.eq (.drop (.drop (.drop (.cons (leV.of_eq rfl) (.eq (.eq (.cons (leV.of_eq rfl) (.d16 (.d16 (.d16 (.drop leL.nil))))))))))))))) ?_
   intro n2 s2 hi2 hF
   refine zk (zk (zd ?_))
   refine zc rfl (ze rfl yV (zb rfl)) wa ?_
   refine zc rfl (ze rfl yg (zb rfl)) wi ?_
   refine zc rfl (ze rfl yS (zb rfl)) wj ?_
   refine zc rfl (xO rfl xa wh wm wd (yA hx1) (GNode.row_eq _)) wn ?_
   refine zc rfl (zj rfl xX wl rfl) wD ?_
   refine zc rfl (zY rfl qk wz (zr rfl) (zb rfl)) wC ?_
   refine z7 rfl (zQ rfl rfl rfl rfl wr wM z0) wI fun hn42=>?_
   replace hn42:=xg hn42
   refine zc rfl (zu rfl x9 wL rfl) wH ?_
   refine zf (zi ?_)
   refine yJ wy hF (fun x2 o2 hl2 hx2 hF hK2=>?_) (fun hF=>?_)
   ·refine zI (zi (zk (zO (zd ?_))))
    refine zc rfl (ze rfl yP (zb rfl)) wN ?_
    refine zc rfl (ze rfl xn (zb rfl)) wG ?_
    refine zc rfl (ze rfl yg (zb rfl)) wF ?_
    refine zc rfl (ze rfl yS (zb rfl)) wZ ?_
    refine zc rfl (xO rfl xa wJ w6 wd (yA hx1) (GNode.row_eq _)) wY ?_
    refine zc rfl (zj rfl xX w5 rfl) (sk qP) ?_
    refine zc rfl (zY rfl qk (gk yg) (zr rfl) (zb rfl)) (sk qI) ?_
    refine zc rfl (ze rfl yV (zb rfl)) (sk yH) ?_
    refine zc rfl (yd rfl wr (gk yw) (gk yz) wd (yA hx2)) (sk xS) ?_
    refine zc rfl (zY rfl ty58.choose_spec.1 (gk yX) (zL (cs':=[.int .u8 x2.typ,.int .i64 x2.n,.int .u64 x2.time,.int .u8 x2.dot.actor.rep,.int .u32 x2.dot.actor.inc,.int .u64 x2.dot.seq,.str x2.text,.sl 5 (x2.items.map GItem.row),.sl 3 (x2.tombs.map GDot.row)]) ty58.choose_spec.2 rfl rfl) (zb rfl)) (sk yD) ?_
    refine zc rfl (wR (cs':=[.osl (some (h.toks.length+1)) 1 (((([]:List zR)++ahead1)++([x1.name]:List zR)).map zK),.int .u8 x2.typ,.int .i64 x2.n,.int .u64 x2.time,.int .u8 x2.dot.actor.rep,.int .u32 x2.dot.actor.inc,.int .u64 x2.dot.seq,.str x2.text,.sl 5 (x2.items.map GItem.row),.sl 3 (x2.tombs.map GDot.row)]) rfl su91 ze91 pl91 (zT wu (zT (gk yv) ye)) (.cons (zb rfl) (.cons (zb rfl) .nil)) rfl rfl) (sk xw) ?_
    refine zc rfl (yh (es:=([(GVarveref07Row.mk ((([]:List zR)++ahead1)++([x1.name]:List zR)) x2)]:List GVarveref07Row).map GVarveref07Row.row) rfl el88 ze91 rfl rfl (zT (gk yP) ye) (.cons (zb rfl) .nil) rfl rfl rfl) (sk xp) ?_
    refine xG hF (fun hm43 hF=>?_)
    refine zc rfl (wv (j:=0) (T':=[((s2++([(GVarveref07Row.mk ((([]:List zR)++ahead1)++([x1.name]:List zR)) x2)]:List GVarveref07Row))).length,(((([]:List zR)++ahead1)++([x1.name]:List zR))).length]) rfl rfl rfl rfl el88 el88 wS (gk yS) (zb rfl) (zb rfl) wo hm43 rfl rfl) (sk xK) ?_
    refine zc rfl (zg rfl (gk xn) (zb rfl)) xw ?_
    refine zf (yb (zi (zd ?_)))
    refine zc rfl (ze rfl yV (zb rfl)) wP ?_
    refine zc rfl (zu rfl wT rfl rfl) wO ?_
    refine zc rfl (zg rfl wK (zb rfl)) xH ?_
    refine zf (yu ?_)
    obtain rfl:=Option.some.inj hF
    exact ⟨(s2++([(GVarveref07Row.mk ((([]:List zR)++ahead1)++([x1.name]:List zR)) x2)]:List GVarveref07Row)),hl2,hK2,wk.le (by exact (.eq (.eq (.drop (.drop (.drop (.cons (leV.of_eq rfl) (.eq (.eq (.cons (leV.of_eq (wx (by omega) (by omega))) (.d16 (.d16 (.d16 (.drop leL.nil))))))))))))))⟩
   ·refine yF ?_
    refine zX ?_
    refine zU ?_
    refine zV ?_
    refine zi (zd ?_)
    refine zc rfl (ze rfl yP (zb rfl)) (sk xH) ?_
    refine zc rfl (ze rfl yg (zb rfl)) (sk x8) ?_
    refine zc rfl (ze rfl yS (zb rfl)) (sk yq) ?_
    refine zc rfl (xO rfl xa (gk xl) (gk yi) wd (yA hx1) (GNode.row_eq _)) (sk yy) ?_
    refine zc rfl (zj rfl q8 (gk yl) rfl) (sk yE) ?_
    refine zc rfl (zY rfl ty28 (gk yC) (zr rfl) (zb rfl)) (sk yG) ?_
    refine zc rfl (ze rfl xn (zb rfl)) (sk yN) ?_
    refine zS hF (fun v44 hv44 hF=>?_)
    refine zM rfl (zE rfl rfl rfl (zo (gk yr) (zo (gk yM) zy)) (.cons (zb rfl) (.cons (zb rfl) .nil))) ((ih hv44).le (.eq (.cons (leV.osl _ _ _) leL.nil))) (sk yO) ?_
    refine xG hF (fun hm45 hF=>?_)
    refine zc rfl (wv (j:=0) (T':=[((s2++v44)).length,(((([]:List zR)++ahead1)++([x1.name]:List zR))).length]) rfl rfl rfl rfl el88 el88 (gk yV) (gk yL) (zb rfl) (zb rfl) vY hm45 rfl rfl) (sk yT) ?_
    refine zc rfl (zg rfl (gk yQ) (zb rfl)) xw ?_
    refine zf (yb (zi (zd ?_)))
    refine zc rfl (ze rfl yS (zb rfl)) yG ?_
    refine zc rfl (zu rfl yr rfl rfl) yN ?_
    refine zc rfl (zg rfl yM (zb rfl)) xp ?_
    refine zf (yu ?_)
    obtain rfl:=Option.some.inj hF
    exact ⟨(s2++v44),hl1,hK1,wk.trans (wk.le (by exact (.eq (.eq (.drop (.drop (.drop (.cons (leV.of_eq rfl) (.cons (leV.of_eq (wx (by omega) (by omega))) (.d16 (.d16 (.d16 (.drop (.drop (.drop leL.nil))))))))))))))) (xY (by simp [yj,AV.low]) rfl rfl (by simp [Blk.low,yj,AV.low]))⟩
  ·refine yF ?_
   refine zX ?_
   refine zU ?_
   refine zV ?_
   refine zi (zk (zd ?_))
   refine zc rfl (ze rfl yP (zb rfl)) (sk yZ) ?_
   refine zc rfl (zg rfl (gk yY) (zb rfl)) yD ?_
   refine zf (zi (zJ ?_))
   obtain rfl:=Option.some.inj hF
   refine zB rfl (zC yv zD) (zz (leV.osl _ _ _) rfl ?_)
   exact ⟨rfl,rfl⟩
theorem ok52 {t0:(List GNode)} {ahead1:(List zR)} {res:(List GVarveref07Row)} {h:AH}  (hF:ref07Rows t0 ahead1=some res):Spec Tryz.prog 52 [.sl 3 (t0.map GNode.row),.sl 1 (ahead1.map zK)] h (fun rr hh=>rr=.sl 10 (res.map GVarveref07Row.row)∧hh=h):=by
 obtain ⟨n,hn⟩:=anyN_is hF
 exact ok52N n  hn
/-! varve/varveref30.Rows -/
theorem ok26 {t0:(List GNode)} {res:(List GRow)} {h:AH}  (hF:ref30Rows t0=some res):Spec Tryz.prog 26 [.sl 3 (t0.map GNode.row)] h (fun rr hh=>rr=.sl 10 (res.map GRow.row)∧hh=h):=by
 unfold ref30Rows at hF
 refine zt Tryz.func26 rfl (by kernel_rfl) (env:=[.sl 3 (t0.map GNode.row),za,za,za,za,za,za,za,za,za,za,za,za,za,za,za,za,za,za,za,za,za,za,za,za,za,za,za,za,za,za,za,za]) (by rfl) ?_
 refine zk (zd ?_)
 refine zc rfl (zg rfl rfl (xq el48)) yH ?_
 refine zf (zi (zk (zd ?_)))
 refine zc rfl (zg rfl rfl (xq el48)) xS ?_
 refine zf (zi (zk (zk (zd ?_))))
 refine zc rfl (ze rfl yg (zb rfl)) xp ?_
 refine zS hF (fun v1 hv1 hF=>?_)
 refine zM rfl (zE rfl rfl rfl (zo yS zy) (.cons (zb rfl) .nil)) (ok25 hv1) xK ?_
 refine zc rfl (xV rfl xn rfl) xH ?_
 refine zf (zi ?_)
 refine zH yV hF (fun hc2 hF=>?_) (fun hc2 hF=>?_)
 ·refine zk (zd ?_)
  refine zc rfl (ze rfl yX (zb rfl)) x8 ?_
  refine zc rfl (zg rfl xl (zb rfl)) yH ?_
  refine zf (zi (zJ (zA ?_)))
  obtain rfl:=Option.some.inj hF
  refine zB rfl (zC yz zD) (zz (leV.osl _ _ _) rfl ?_)
  exact ⟨rfl,rfl⟩
 ·refine zI (zi (zk (zd ?_)))
  refine zc rfl (ze rfl yg (zb rfl)) yq ?_
  refine zS hF (fun v3 hv3 hF=>?_)
  refine zM rfl (zE rfl rfl rfl (zo yi (zo rfl zy)) (.cons (zb rfl) (.cons (xq xc) .nil))) ((ok52 hv3).le (.eq (.cons (leV.osl _ _ _) leL.nil))) yy ?_
  refine zc rfl (zg rfl yl (zb rfl)) yD ?_
  refine zf (zi (zk (zk (zd ?_))))
  refine zc rfl (zg rfl rfl (zb rfl)) xw ?_
  refine zf (zi (zO ?_))
  refine ym (fun (n1:Nat) (s1:(List GRow))=>yB [0,1,2,6,7,8,9,10,11,12,13,14,15,16,17,18,19,20,21,22,23,24,25,26,27,28,29,30,31,32] [(3,.osl (some (h.toks.length+0)) 10 (s1.map GRow.row)),(5,.int .i64 (n1:Int))]) (fun s1=>h.ext [] [(s1).length]) hF (fun _ _=>by simp only [yB,qw,List.set_cons_succ,List.set_cons_zero];try rfl) (wk.trans (wk_tok yX rfl xS rfl) (wk.le (by exact (.drop (.drop (.drop (.cons (leV.of_eq rfl) (.eq (.cons (leV.of_eq rfl) (.d16 (.d4 (.d4 (.drop (.drop (.drop leL.nil))))))))))))))) ?_
  intro n1 s1 hi1 hF
  refine zk (zk (zd ?_))
  refine zc rfl (ze rfl yP (zb rfl)) yE ?_
  refine zc rfl (ze rfl yv (zb rfl)) yG ?_
  refine z7 rfl (zQ rfl rfl rfl rfl el88 yr z0) yN fun hn12=>?_
  replace hn12:=xg hn12
  refine zc rfl (zu rfl yC yM rfl) yO ?_
  refine zf (zi ?_)
  refine yJ yL hF (fun x1 o1 hl1 hx1 hF hK1=>?_) (fun hF=>?_)
  ·refine zI (zi (zk (zO ?_)))
   refine yI [] [] trivial mixed (by kernel_rfl) ?_
   refine zq rfl rfl (ze rfl yX (zb rfl)) xd ?_
   refine zq rfl rfl (ze rfl yv (zb rfl)) xi ?_
   refine zq rfl rfl (ze rfl yP (zb rfl)) xA ?_
   refine zq rfl rfl (yd rfl el88 xh xz wd (yA hx1)) xE ?_
   refine zq rfl rfl (zj rfl fo91x0 xB rfl) xI ?_
   refine zq rfl rfl (zY rfl ty23 xF (zr rfl) (zb rfl)) xD ?_
   refine zq rfl rfl (ze rfl yv (zb rfl)) xM ?_
   refine zq rfl rfl (ze rfl yP (zb rfl)) wa ?_
   refine zq rfl rfl (yd rfl el88 xN x9 wd (yA hx1)) wi ?_
   refine zq rfl rfl (zj rfl fo91x1 wh rfl) wj ?_
   refine zq rfl rfl (zY rfl ty58.choose_spec.1 wm (zL (cs':=[.int .u8 x1.l.typ,.int .i64 x1.l.n,.int .u64 x1.l.time,.int .u8 x1.l.dot.actor.rep,.int .u32 x1.l.dot.actor.inc,.int .u64 x1.l.dot.seq,.str x1.l.text,.sl 5 (x1.l.items.map GItem.row),.sl 3 (x1.l.tombs.map GDot.row)]) ty58.choose_spec.2 rfl rfl) (zb rfl)) wn ?_
   refine zq rfl rfl (wR (cs':=[.sl 1 (x1.path.map zK),.int .u8 x1.l.typ,.int .i64 x1.l.n,.int .u64 x1.l.time,.int .u8 x1.l.dot.actor.rep,.int .u32 x1.l.dot.actor.inc,.int .u64 x1.l.dot.seq,.str x1.l.text,.sl 5 (x1.l.items.map GItem.row),.sl 3 (x1.l.tombs.map GDot.row)]) rfl su60 ze60 pl60 (zT xu (zT wl ye)) (.cons (zb rfl) (.cons (zb rfl) .nil)) rfl rfl) wD ?_
   refine zq rfl rfl (yh (es:=([(GRow.mk x1.path x1.l)]:List GRow).map GRow.row) rfl el48 ze60 rfl rfl (zT wz ye) (.cons (zb rfl) .nil) rfl rfl rfl) wC ?_
   refine xG hF (fun hm13 hF=>?_)
   refine vi rfl FOk.nil (by rfl) rfl (wv (j:=0) (T':=[((s1++([(GRow.mk x1.path x1.l)]:List GRow))).length]) rfl rfl rfl rfl el48 el48 xb wM (zb rfl) (zb rfl) wo hm13 rfl rfl) wI ?_
   refine zq rfl rfl (zg rfl wL (zb rfl)) xS ?_
   refine yo ?_
   refine yb (zi (zd ?_))
   refine zc rfl (ze rfl yP (zb rfl)) yT ?_
   refine zc rfl (zu rfl yQ rfl rfl) yZ ?_
   refine zc rfl (zg rfl yY (zb rfl)) xw ?_
   refine zf (yu ?_)
   obtain rfl:=Option.some.inj hF
   exact ⟨(s1++([(GRow.mk x1.path x1.l)]:List GRow)),hl1,hK1,wk.le (by exact (.drop (.drop (.drop (.cons (leV.of_eq rfl) (.eq (.cons (leV.of_eq (wx (by omega) (by omega))) (.d16 (.d4 (.d4 (.drop (.drop (.drop leL.nil)))))))))))))⟩
  ·refine yF ?_
   refine zX ?_
   refine zU ?_
   refine zV ?_
   refine zi (zk (zd ?_))
   refine zc rfl (ze rfl yX (zb rfl)) wH ?_
   refine zc rfl (zg rfl wy (zb rfl)) yH ?_
   refine zf (zi (zJ ?_))
   obtain rfl:=Option.some.inj hF
   refine zB rfl (zC yz zD) (zz (leV.osl _ _ _) rfl ?_)
   exact ⟨rfl,rfl⟩
/-! varve/varveref07.Lay -/
theorem ok53N (n:Nat):∀ {t0:(List GNode)} {path1:(List zR)} {l2:GLeaf} {res:(List GNode)} {h:AH} , vl n t0 path1 l2=some res→Spec Tryz.prog 53 [.sl 3 (t0.map GNode.row),.sl 1 (path1.map zK),.agg [.int .u8 l2.typ,.int .i64 l2.n,.int .u64 l2.time,.int .u8 l2.dot.actor.rep,.int .u32 l2.dot.actor.inc,.int .u64 l2.dot.seq,.str l2.text,.sl 5 (l2.items.map GItem.row),.sl 3 (l2.tombs.map GDot.row)]] h (fun rr hh=>rr=.sl 3 (res.map GNode.row)∧hh=h):=by
 induction n with
 | zero=>intro t0 path1 l2 res h  hF;simp [vl] at hF
 | succ n ih =>
  intro t0 path1 l2 res h  hF
  unfold vl at hF
  refine zt Tryz.func53 rfl (by kernel_rfl) (env:=[.sl 3 (t0.map GNode.row),.sl 1 (path1.map zK),.agg [.int .u8 l2.typ,.int .i64 l2.n,.int .u64 l2.time,.int .u8 l2.dot.actor.rep,.int .u32 l2.dot.actor.inc,.int .u64 l2.dot.seq,.str l2.text,.sl 5 (l2.items.map GItem.row),.sl 3 (l2.tombs.map GDot.row)],za,za,za,za,za,za,za,za,za,za,za,za,za,za,za,za,za,za,za,za,za,za,za,za,za,za,za,za,za,za,za,za,za,za,za,za,za,za,za,za,za,za,za,za,za,za,za,za,za,za,za,za,za,za,za,za,za,za,za,za,za,za,za,za,za,za,za,za,za,za,za,za,za,za,za,za,za,za,za,za,za,za,za,za,za,za,za,za,za,za,za,za,za,za,za,za,za,za,za,za,za,za,za,za,za,za,za,za,za,za,za,za,za,za,za,za,za,za,za,za,za,za,za,za,za,za,za,za,za,za]) (by rfl) ?_
  refine zk (zd ?_)
  refine zc rfl (xy (n:=0) rfl yz (zb rfl) rfl rfl) xw ?_
  refine zc rfl (zg rfl rfl (xq xa)) xp ?_
  refine zf (zi (zk (zd ?_)))
  refine zc rfl (zg rfl rfl (xq xa)) xK ?_
  refine zf (zi (zk (zd ?_)))
  refine zc rfl (zg rfl rfl (zb rfl)) xH ?_
  refine zf (zi (zk (zO ?_)))
  refine qd (fun (s1:(List GNode)×Int)=>yB [2,3,4,6,9,10,11,12,13,14,15,16,17,18,19,20,21,22,23,24,25,26,27,28,29,30,31,32,33,34,35,36,37,38,39,40,41,42,43,44,45,46,47,48,49,50,51,52,53,54,55,56,57,58,59,60,61,62,63,64,65,66,67,68,69,70,71,72,73,74,75,76,77,78,79,80,81,82,83,84,85,86,87,88,89,90,91,92,93,94,95,96,97,98,99,100,101,102,103,104,105,106,107,108,109,110,111,112,113,114,115,116,117,118,119,120,121,122,123,124,125,126,127,128,129,130,131,132] [(7,.osl (some (h.toks.length+0)) 3 (s1.1.map GNode.row)),(8,.int .i64 s1.2)]) (fun s1=>h.ext [.cells [.int .u8 l2.typ,.int .i64 l2.n,.int .u64 l2.time,.int .u8 l2.dot.actor.rep,.int .u32 l2.dot.actor.inc,.int .u64 l2.dot.seq,.str l2.text,.sl 5 (l2.items.map GItem.row),.sl 3 (l2.tombs.map GDot.row)]] [(s1.1).length]) hF (fun _=>by simp only [yB,qw,List.set_cons_succ,List.set_cons_zero];try rfl) (wk.trans (wk_tok xn rfl xK rfl) (wk.le (by exact (.eq (.eq (.drop (.drop (.drop (.eq (.drop (.cons (leV.of_eq rfl) (.cons (leV.of_eq rfl) (.d16 (.d16 (.d16 (.d16 (.d16 (.d16 (.d16 (.d4 (.d4 (.d4 leL.nil)))))))))))))))))))))) ?_
  intro n1 s1 o1 hF hK1
  refine zk (zk ?_)
  refine yI [] [] trivial mixed (by kernel_rfl) ?_
  refine zq rfl rfl (ze rfl yV (zb rfl)) yE ?_
  refine zq rfl rfl (ze rfl yg (zb rfl)) yG ?_
  refine draw_len rfl rfl (zQ rfl rfl rfl rfl xa yr z0) yN ?_
  refine zq rfl rfl (zu rfl yC yM rfl) yO ?_
  refine zq rfl rfl (ze rfl yL (zb rfl)) yT ?_
  refine zx rfl rfl (fun hb=>ze rfl yg (zb rfl)) yZ ?_
  refine zx rfl rfl (fun hb=>ze rfl yV (zb rfl)) xd ?_
  refine xG hF (fun hg19 hF=>?_)
  refine zx rfl rfl (fun hb=>qm default rfl xa (zn yY hb) (zn xb hb) wd (hg19 hb) (GNode.row_eq _)) xi ?_
  refine zx rfl rfl (fun hb=>zj rfl q9 (zn xh hb) rfl) xA ?_
  refine zx rfl rfl (fun hb=>zY rfl vt (zn xz hb) (zr rfl) (zb rfl)) xE ?_
  refine zx rfl rfl (fun hb=>ze rfl yw (zb rfl)) xI ?_
  refine xG hF (fun hg20 hF=>?_)
  refine zx rfl rfl (fun hb=>yK default rfl xc (zn xF hb) rfl wd (hg20 hb)) xD ?_
  refine zx rfl rfl (fun hb=>zY rfl vt (zn xu hb) (zr rfl) (zb rfl)) xM ?_
  refine zx rfl rfl (fun hb=>zu rfl (zn xB hb) (zn xN hb) rfl) wa ?_
  refine zq rfl rfl (zG rfl yQ x9 rfl (zN (fun ht=>gT ht))) wi ?_
  refine yo ?_
  refine zi ?_
  refine zH wh hF (fun hc21 hF=>?_) (fun hc21 hF=>?_)
  ·refine zI (zi (zO (zk (zd ?_))))
   refine zc rfl (ze rfl xn (zb rfl)) wj ?_
   refine zc rfl (ze rfl yg (zb rfl)) wn ?_
   refine zc rfl (ze rfl yV (zb rfl)) wD ?_
   refine zS hF (fun y22 hy22 hF=>?_)
   refine zc rfl (xO rfl xa wl wz wd hy22 (GNode.row_eq _)) wC ?_
   refine zc rfl (zY rfl ty74.choose_spec.1 wM (zL (cs':=[.str y22.name,.sl 9 (y22.leaves.map GLeaf.row),.sl 3 (y22.subs.map GNode.row)]) ty74.choose_spec.2 rfl rfl) (zb rfl)) wI ?_
   refine zc rfl (yh (es:=([y22]:List GNode).map GNode.row) rfl xa ze74 rfl rfl (zT wL ye) (.cons (zb rfl) .nil) rfl rfl (by simp only [List.map_cons,List.map_nil,GNode.row_eq];rfl)) wH ?_
   refine xG hF (fun hm23 hF=>?_)
   refine zc rfl (wv (j:=0) (T':=[((s1.1++([y22]:List GNode))).length]) rfl rfl rfl rfl xa xa wm wy (zb rfl) (zb rfl) wo hm23 rfl rfl) wP ?_
   refine zc rfl (zg rfl wT (zb rfl)) xK ?_
   refine zf (zi (zd ?_))
   refine zc rfl (ze rfl yV (zb rfl)) wO ?_
   refine zc rfl (zu rfl wK rfl rfl) wN ?_
   refine zc rfl (zg rfl wS (zb rfl)) xH ?_
   refine zf (yb (yu ?_))
   obtain rfl:=Option.some.inj hF
   exact ⟨((s1.1++([y22]:List GNode)),(IntKind.wrap .i64 (s1.2+(1:Int)))),hK1,wk.le (by exact (.eq (.eq (.drop (.drop (.drop (.eq (.drop (.cons (leV.of_eq rfl) (.cons (leV.of_eq rfl) (.d16 (.d16 (.d16 (.d16 (.d16 (.d16 (.d16 (.d4 (.d4 (.d4 leL.nil))))))))))))))))))))⟩
  ·refine yF ?_
   refine zX ?_
   refine zU ?_
   obtain rfl:=Option.some.inj hF
   replace hF:=hK1
   refine zV ?_
   refine zi (zk (zd ?_))
   refine zc rfl (ze rfl yw (zb rfl)) wG ?_
   refine zS hF (fun y98 hy98 hF=>?_)
   refine zc rfl (yd rfl xc wu rfl wd hy98) wF ?_
   refine zc rfl (zY rfl vt wJ (zr rfl) (zb rfl)) wZ ?_
   refine zc rfl (wR (cs':=[.str y98,.osl none 9 (([]:List GLeaf).map GLeaf.row),.osl none 3 (([]:List GNode).map GNode.row)]) rfl su74 ze74 pl74 (zT w6 ye) (.cons (zb rfl) .nil) rfl rfl) wY ?_
   refine zc rfl (xf (n:=1) rfl ze74 rfl) x8 ?_
   refine zc rfl (yk (cs':=[.str y98,.osl none 9 (([]:List GLeaf).map GLeaf.row),.osl none 3 (([]:List GNode).map GNode.row)]) rfl ty74.choose_spec.1 xl w5 (zb rfl) rfl rfl rfl rfl rfl) rfl ?_
   refine zf (zi ?_)
   refine r_join (fun (s2:Int×zR×(List GLeaf)×(List GNode))=>yB [2,3,4,6,10,11,12,13,14,15,16,17,18,19,20,21,22,23,24,25,26,27,28,29,30,31,32,33,34,35,36,37,38,39,40,41,42,43,44,45,46,47,48,49,50,51,52,53,54,55,56,57,58,59,60,61,62,63,64,65,66,67,68,69,70,71,72,73,74,75,76,77,78,79,80,81,82,83,84,85,86,87,88,89,90,91,92,93,94,95,96,97,98,99,100,101,102,103,104,105,106,107,108,109,110,111,112,113,114,115,116,117,118,119,120,121,122,123,124,125,126,127,128,129,130,131,132] [(8,.int .i64 s2.1)]) (fun s2=>h.ext [.cells [.int .u8 l2.typ,.int .i64 l2.n,.int .u64 l2.time,.int .u8 l2.dot.actor.rep,.int .u32 l2.dot.actor.inc,.int .u64 l2.dot.seq,.str l2.text,.sl 5 (l2.items.map GItem.row),.sl 3 (l2.tombs.map GDot.row)],.cells [.str s2.2.1,.sl 9 (s2.2.2.1.map GLeaf.row),.sl 3 (s2.2.2.2.map GNode.row)]] [(s1.1).length]) hF (fun _=>by simp only [yB,qw,List.set_cons_succ,List.set_cons_zero];try rfl) (fun o2 hF hK2=>?_) (fun s2 hF=>?_)
   ·refine zk ?_
    refine yI [] [] trivial mixed (by kernel_rfl) ?_
    refine zq rfl rfl (ze rfl yV (zb rfl)) (sk qP) ?_
    refine zq rfl rfl (ze rfl yg (zb rfl)) (sk qI) ?_
    refine draw_len rfl rfl (zQ rfl rfl rfl rfl xa (gk yw) z0) (sk yH) ?_
    refine zq rfl rfl (zu rfl (gk yg) (gk yz) rfl) (sk xS) ?_
    refine zq rfl rfl (ze rfl (gk yX) (zb rfl)) (sk yD) ?_
    refine zx rfl rfl (fun hb=>ze rfl yg (zb rfl)) (sk xw) ?_
    refine zx rfl rfl (fun hb=>ze rfl yV (zb rfl)) (sk xp) ?_
    refine xG hF (fun hg105 hF=>?_)
    refine zx rfl rfl (fun hb=>qm default rfl xa (zn (gk yP) hb) (zn (gk yS) hb) wd (hg105 hb) (GNode.row_eq _)) (sk xK) ?_
    refine zx rfl rfl (fun hb=>zj rfl q9 (zn (gk xn) hb) rfl) (sk xH) ?_
    refine zx rfl rfl (fun hb=>zY rfl vt (zn (gk yV) hb) (zr rfl) (zb rfl)) (sk x8) ?_
    refine zx rfl rfl (fun hb=>ze rfl yw (zb rfl)) (sk yq) ?_
    refine xG hF (fun hg106 hF=>?_)
    refine zx rfl rfl (fun hb=>yK default rfl xc (zn (gk yi) hb) rfl wd (hg106 hb)) (sk yy) ?_
    refine zx rfl rfl (fun hb=>zY rfl vt (zn (gk yl) hb) (zr rfl) (zb rfl)) (sk yE) ?_
    refine zx rfl rfl (fun hb=>zu rfl (zn (gk xl) hb) (zn (gk yC) hb) rfl) (sk yG) ?_
    refine zq rfl rfl (zG rfl (gk yv) (gk yr) rfl (zN (fun ht=>gT ht))) (sk yN) ?_
    refine yo ?_
    refine zi ?_
    refine zH (gk yM) hF (fun hc107 hF=>?_) (fun hc107 hF=>?_)
    ·refine zk (zd ?_)
     refine zc rfl (ze rfl yg (zb rfl)) (sk yO) ?_
     refine zc rfl (ze rfl yV (zb rfl)) (sk yT) ?_
     refine zS hF (fun y108 hy108 hF=>?_)
     refine zc rfl (xO rfl xa (gk yL) (gk yQ) wd hy108 (GNode.row_eq _)) (sk yZ) ?_
     refine zc rfl (zY rfl ty74.choose_spec.1 (gk yY) (zL (cs':=[.str y108.name,.sl 9 (y108.leaves.map GLeaf.row),.sl 3 (y108.subs.map GNode.row)]) ty74.choose_spec.2 rfl rfl) (zb rfl)) (sk xd) ?_
     refine zc rfl (yk (cs':=[.str y108.name,.sl 9 (y108.leaves.map GLeaf.row),.sl 3 (y108.subs.map GNode.row)]) rfl ty74.choose_spec.1 xl (gk xb) (zb rfl) rfl rfl rfl rfl rfl) rfl ?_
     refine zf (zi (zd ?_))
     refine zc rfl (ze rfl yV (zb rfl)) (sk xi) ?_
     refine zc rfl (zu rfl (gk xh) rfl rfl) (sk xA) ?_
     refine zc rfl (zg rfl (gk xz) (zb rfl)) xH ?_
     refine zf (q_join ?_)
     obtain rfl:=Option.some.inj hF
     exact ⟨((IntKind.wrap .i64 (s1.2+(1:Int))),y108.name,y108.leaves,y108.subs),hK2,wk.le (by exact (.eq (.eq (.drop (.drop (.drop (.eq (.drop (.eq (.cons (leV.of_eq rfl) (.eq (.d16 (.d16 (.d16 (.d16 (.d16 (.d16 (.d16 (.d4 (.d4 (.drop (.drop (.drop leL.nil)))))))))))))))))))))))⟩
    ·refine zI (q_join ?_)
     obtain rfl:=Option.some.inj hF
     exact ⟨(s1.2,y98,([]:List GLeaf),([]:List GNode)),hK2,wk.trans (wk_leB (j:=1) rfl (by exact (.eq (.cons (leV.osl _ _ _) (.cons (leV.osl _ _ _) leL.nil)))) rfl rfl) (wk.le (by exact (.eq (.eq (.drop (.drop (.drop (.eq (.drop (.eq (.cons (leV.of_eq rfl) (.eq (.d16 (.d16 (.d16 (.d16 (.d16 (.d16 (.d16 (.d4 (.d4 (.drop (.drop (.drop leL.nil))))))))))))))))))))))))⟩
   ·refine zk (zk (zd ?_))
    refine zc rfl (ze rfl yw (zb rfl)) (sk xE) ?_
    refine z7 rfl (zQ rfl rfl rfl rfl xc (gk xB) z0) (sk xI) fun hn109=>?_
    replace hn109:=xg hn109
    refine zc rfl (zu rfl (gk xF) rfl rfl) (sk xD) ?_
    refine zf (zi ?_)
    refine zH (gk xu) hF (fun hc110 hF=>?_) (fun hc110 hF=>?_)
    ·refine yI [5] [] trivial mixed (by kernel_rfl) ?_
     refine zq rfl rfl (zj rfl q8 xl rfl) (sk xM) ?_
     refine zq rfl rfl (zw rfl ty28 (gk xN) rfl (zr rfl) (zb rfl)) (sk wa) ?_
     refine zq rfl rfl (ze rfl yw (zb rfl)) (sk wi) ?_
     refine zS hF (fun m111 hm111 hF=>?_)
     refine zq rfl rfl (vu rfl xc (gk wh) (.inl rfl) (.some rfl) .none hm111) (sk wj) ?_
     refine zq rfl rfl (zw rfl ty58.choose_spec.1 yP rfl (zL (cs':=[.int .u8 l2.typ,.int .i64 l2.n,.int .u64 l2.time,.int .u8 l2.dot.actor.rep,.int .u32 l2.dot.actor.inc,.int .u64 l2.dot.seq,.str l2.text,.sl 5 (l2.items.map GItem.row),.sl 3 (l2.tombs.map GDot.row)]) ty58.choose_spec.2 rfl rfl) (zb rfl)) (sk wn) ?_
     refine zS hF (fun v112 hv112 hF=>?_)
     refine yW rfl rfl (fun _=>zE rfl rfl rfl (zo (gk x9) (zo (gk wm) (zo (gk wl) zy))) (.cons (zb rfl) (.cons (zb rfl) (.cons (zb rfl) .nil)))) (by rintro _ ⟨B2,T2,rfl,hk2⟩;exact ih hv112) (sk wD) ?_
     refine zq rfl rfl (zj rfl q8 xl rfl) (sk wC) ?_
     refine wq rfl (FOk.cons (.inr (keepB trivial)) FOk.nil) (by kernel_rfl) rfl (yk (cs':=[.str s2.2.1,.sl 9 (s2.2.2.1.map GLeaf.row),.sl 3 (v112.map GNode.row)]) rfl ty28 (gk wM) (gk wz) (zb rfl) rfl rfl rfl rfl rfl) rfl ?_
     refine yo ?_
     refine zi (zk ?_)
     refine yI [] [] trivial mixed (by kernel_rfl) ?_
     refine zq rfl rfl (ze rfl xn (zb rfl)) (sk (sk (sk xw))) ?_
     refine zq rfl rfl (zw rfl ty74.choose_spec.1 xl rfl (zL (cs':=[.str s2.2.1,.sl 9 (s2.2.2.1.map GLeaf.row),.sl 3 (v112.map GNode.row)]) ty74.choose_spec.2 rfl rfl) (zb rfl)) (sk (sk (sk xp))) ?_
     refine zq rfl rfl (yh (es:=([(GNode.mk s2.2.1 s2.2.2.1 v112)]:List GNode).map GNode.row) rfl xa ze74 rfl rfl (zT (gk (gk (gk yS))) ye) (.cons (zb rfl) .nil) rfl rfl (by simp only [List.map_cons,List.map_nil,GNode.row_eq];rfl)) (sk (sk (sk xK))) ?_
     refine xG hF (fun hm113 hF=>?_)
     refine vi rfl FOk.nil (by rfl) rfl (wv (j:=0) (T':=[((s1.1++([(GNode.mk s2.2.1 s2.2.2.1 v112)]:List GNode))).length]) rfl rfl rfl rfl xa xa (gk (gk (gk yP))) (gk (gk (gk xn))) (zb rfl) (zb rfl) wo hm113 rfl rfl) (sk (sk (sk xH))) ?_
     refine zq rfl rfl (ze rfl yg (zb rfl)) (sk (sk (sk x8))) ?_
     refine zq rfl rfl (ze rfl yV (zb rfl)) (sk (sk (sk yq))) ?_
     refine zS hF (fun m114 hm114 hF=>?_)
     refine zq rfl rfl (vu rfl xa (gk (gk (gk xl))) (.inl rfl) (.some (gk (gk (gk yi)))) .none hm114) (sk (sk (sk yy))) ?_
     refine xG hF (fun hm115 hF=>?_)
     refine vi rfl FOk.nil (by rfl) rfl (wv (j:=0) (T':=[(((s1.1++([(GNode.mk s2.2.1 s2.2.2.1 v112)]:List GNode))++m114)).length]) rfl rfl rfl rfl xa xa (gk (gk (gk yV))) (gk (gk (gk yl))) (zb rfl) (zb rfl) vY hm115 rfl rfl) (sk (sk (sk yE))) ?_
     refine zq rfl rfl (zg rfl (gk (gk (gk yC))) (zb rfl)) xp ?_
     refine yo ?_
     refine zi (zJ ?_)
     obtain rfl:=Option.some.inj hF
     refine zB rfl (zC yS zD) (zz (leV.osl _ _ _) rfl ?_)
     exact ⟨rfl,rfl⟩
    ·refine zk (zd ?_)
     refine zc rfl (zg rfl rfl (xq wr)) yq ?_
     refine zf (zi (zk (zd ?_)))
     refine zc rfl (zg rfl rfl (zb rfl)) yy ?_
     refine zf (zi (zk (zO ?_)))
     refine qd (fun (s3:(List GLeaf)×Int)=>yB [1,2,3,4,6,12,13,14,15,16,17,18,19,20,21,22,23,24,25,26,27,28,29,30,31,32,33,34,35,36,37,38,39,40,41,42,43,44,45,46,47,48,49,50,51,52,53,54,55,56,57,58,59,60,61,62,63,64,65,66,67,68,69,70,71,72,73,74,75,76,77,78,79,80,81,82,83,84,85,86,87,88,89,90,91,92,93,94,95,96,97,98,99,100,101,102,103,104,105,106,107,108,109,110,111,112,113,114,115,116,117,118,119,120,121,122,123,124,125,126,127,128,129,130,131,132] [(10,.osl (some (h.toks.length+1)) 9 (s3.1.map GLeaf.row)),(11,.int .i64 s3.2)]) (fun s3=>h.ext [.cells [.int .u8 l2.typ,.int .i64 l2.n,.int .u64 l2.time,.int .u8 l2.dot.actor.rep,.int .u32 l2.dot.actor.inc,.int .u64 l2.dot.seq,.str l2.text,.sl 5 (l2.items.map GItem.row),.sl 3 (l2.tombs.map GDot.row)],.cells [.str s2.2.1,.sl 9 (s2.2.2.1.map GLeaf.row),.sl 3 (s2.2.2.2.map GNode.row)]] [(s1.1).length,(s3.1).length]) hF (fun _=>by simp only [yB,qw,List.set_cons_succ,List.set_cons_zero];try rfl) (wk.trans (wk_tok yi rfl yq rfl) (wk.le (by exact (.eq (.d4 (.eq (.drop (.eq (.eq (.eq (.cons (leV.of_eq rfl) (.cons (leV.of_eq rfl) (.d16 (.d16 (.d16 (.d16 (.d16 (.d16 (.d16 (.d4 (.d4 (.drop leL.nil)))))))))))))))))))))) ?_
     intro n3 s3 o3 hF hK3
     refine zk (zk ?_)
     refine yI [] [] trivial mixed (by kernel_rfl) ?_
     refine zq rfl rfl (ze rfl yl (zb rfl)) (sk wI) ?_
     refine zq rfl rfl (zj rfl xX xl rfl) (sk wH) ?_
     refine zq rfl rfl (zw rfl qk (gk wy) rfl (zr rfl) (zb rfl)) (sk wP) ?_
     refine draw_len rfl rfl (zQ rfl rfl rfl rfl wr (gk wT) z0) (sk wO) ?_
     refine zq rfl rfl (zu rfl (gk wL) (gk wK) rfl) (sk wN) ?_
     refine zq rfl rfl (ze rfl (gk wS) (zb rfl)) (sk wG) ?_
     refine zx rfl rfl (fun hb=>zj rfl xX xl rfl) (sk wF) ?_
     refine zx rfl rfl (fun hb=>zw rfl qk (zn (gk wJ) hb) rfl (zr rfl) (zb rfl)) (sk wZ) ?_
     refine zx rfl rfl (fun hb=>ze rfl yl (zb rfl)) (sk wY) ?_
     refine xG hF (fun hg136 hF=>?_)
     refine zx rfl rfl (fun hb=>yK default rfl wr (zn (gk w6) hb) (zn (gk w5) hb) wd (hg136 hb)) (sk (sk qP)) ?_
     refine zx rfl rfl (fun hb=>zj rfl wU (zn (gk (gk yg)) hb) rfl) (sk (sk qI)) ?_
     refine zx rfl rfl (fun hb=>zY rfl vb (zn (gk (gk yw)) hb) (zr rfl) (zb rfl)) (sk (sk yH)) ?_
     refine zx rfl rfl (fun hb=>zj rfl wU yP rfl) (sk (sk xS)) ?_
     refine zx rfl rfl (fun hb=>zw rfl vb (zn (gk (gk yX)) hb) rfl (zr rfl) (zb rfl)) (sk (sk yD)) ?_
     refine zx rfl rfl (fun hb=>zu rfl (zn (gk (gk yz)) hb) (zn (gk (gk yv)) hb) rfl) (sk (sk xw)) ?_
     refine zq rfl rfl (zG rfl (gk wu) (gk (gk yP)) rfl (zN (fun ht=>gT ht))) (sk (sk xp)) ?_
     refine yo ?_
     refine zi ?_
     refine zH (gk (gk yS)) hF (fun hc137 hF=>?_) (fun hc137 hF=>?_)
     ·refine zI (zi (zO (zk (zd ?_))))
      refine zc rfl (ze rfl yi (zb rfl)) (sk (sk xK)) ?_
      refine zc rfl (zj rfl xX xl rfl) (sk (sk xH)) ?_
      refine zc rfl (zw rfl qk (gk (gk yV)) rfl (zr rfl) (zb rfl)) (sk (sk x8)) ?_
      refine zc rfl (ze rfl yl (zb rfl)) (sk (sk yq)) ?_
      refine zS hF (fun y138 hy138 hF=>?_)
      refine zc rfl (yd rfl wr (gk (gk xl)) (gk (gk yi)) wd hy138) (sk (sk yy)) ?_
      refine zc rfl (zY rfl ty58.choose_spec.1 (gk (gk yl)) (zL (cs':=[.int .u8 y138.typ,.int .i64 y138.n,.int .u64 y138.time,.int .u8 y138.dot.actor.rep,.int .u32 y138.dot.actor.inc,.int .u64 y138.dot.seq,.str y138.text,.sl 5 (y138.items.map GItem.row),.sl 3 (y138.tombs.map GDot.row)]) ty58.choose_spec.2 rfl rfl) (zb rfl)) (sk (sk yE)) ?_
      refine zc rfl (yh (es:=([y138]:List GLeaf).map GLeaf.row) rfl wr ze58 rfl rfl (zT (gk (gk yC)) ye) (.cons (zb rfl) .nil) rfl rfl rfl) (sk (sk yG)) ?_
      refine xG hF (fun hm139 hF=>?_)
      refine zc rfl (wv (j:=1) (T':=[(s1.1).length,((s3.1++([y138]:List GLeaf))).length]) rfl rfl rfl rfl wr wr (gk (gk xn)) (gk (gk yr)) (zb rfl) (zb rfl) wo hm139 rfl rfl) (sk (sk yN)) ?_
      refine zc rfl (zg rfl (gk (gk yM)) (zb rfl)) yq ?_
      refine zf (zi (zd ?_))
      refine zc rfl (ze rfl yl (zb rfl)) (sk (sk yO)) ?_
      refine zc rfl (zu rfl (gk (gk yL)) rfl rfl) (sk (sk yT)) ?_
      refine zc rfl (zg rfl (gk (gk yQ)) (zb rfl)) yy ?_
      refine zf (yb (yu ?_))
      obtain rfl:=Option.some.inj hF
      exact ⟨((s3.1++([y138]:List GLeaf)),(IntKind.wrap .i64 (s3.2+(1:Int)))),hK3,wk.le (by exact (.eq (.d4 (.eq (.drop (.eq (.eq (.eq (.cons (leV.of_eq rfl) (.cons (leV.of_eq rfl) (.d16 (.d16 (.d16 (.d16 (.d16 (.d16 (.d16 (.d4 (.d4 (.drop leL.nil))))))))))))))))))))⟩
     ·refine yF ?_
      refine zX ?_
      refine zU ?_
      obtain rfl:=Option.some.inj hF
      replace hF:=hK3
      refine zV ?_
      refine zi (zk (zk ?_))
      refine yI [] [] trivial mixed (by kernel_rfl) ?_
      refine zq rfl rfl (ze rfl yl (zb rfl)) (sk (sk yZ)) ?_
      refine zq rfl rfl (zj rfl xX xl rfl) (sk (sk xd)) ?_
      refine zq rfl rfl (zw rfl qk (gk (gk xb)) rfl (zr rfl) (zb rfl)) (sk (sk xi)) ?_
      refine draw_len rfl rfl (zQ rfl rfl rfl rfl wr (gk (gk xh)) z0) (sk (sk xA)) ?_
      refine zq rfl rfl (zu rfl (gk (gk yY)) (gk (gk xz)) rfl) (sk (sk xE)) ?_
      refine zq rfl rfl (ze rfl (gk (gk xB)) (zb rfl)) (sk (sk xI)) ?_
      refine zx rfl rfl (fun hb=>zj rfl xX xl rfl) (sk (sk xD)) ?_
      refine zx rfl rfl (fun hb=>zw rfl qk (zn (gk (gk xu)) hb) rfl (zr rfl) (zb rfl)) (sk (sk xM)) ?_
      refine zx rfl rfl (fun hb=>ze rfl yl (zb rfl)) (sk (sk wa)) ?_
      refine xG hF (fun hg156 hF=>?_)
      refine zx rfl rfl (fun hb=>yK default rfl wr (zn (gk (gk xN)) hb) (zn (gk (gk x9)) hb) wd (hg156 hb)) (sk (sk wi)) ?_
      refine zx rfl rfl (fun hb=>zj rfl wU (zn (gk (gk wh)) hb) rfl) (sk (sk wj)) ?_
      refine zx rfl rfl (fun hb=>zY rfl vb (zn (gk (gk wm)) hb) (zr rfl) (zb rfl)) (sk (sk wn)) ?_
      refine zx rfl rfl (fun hb=>zj rfl wU yP rfl) (sk (sk wD)) ?_
      refine zx rfl rfl (fun hb=>zw rfl vb (zn (gk (gk wz)) hb) rfl (zr rfl) (zb rfl)) (sk (sk wC)) ?_
      refine zx rfl rfl (fun hb=>zu rfl (zn (gk (gk wl)) hb) (zn (gk (gk wM)) hb) rfl) (sk (sk wI)) ?_
      refine zq rfl rfl (zG rfl (gk (gk xF)) (gk (gk wL)) rfl (zN (fun ht=>gT ht))) (sk (sk wH)) ?_
      refine yo ?_
      refine zi ?_
      refine zH (gk (gk wy)) hF (fun hc157 hF=>?_) (fun hc157 hF=>?_)
      ·refine zd ?_
       refine zc rfl (ze rfl yl (zb rfl)) (sk (sk wP)) ?_
       refine zc rfl (zu rfl (gk (gk wT)) rfl rfl) (sk (sk wO)) ?_
       refine zc rfl (zg rfl (gk (gk wK)) (zb rfl)) yy ?_
       refine zf (zi ?_)
       refine yI [] [] trivial mixed (by kernel_rfl) ?_
       refine zq rfl rfl (ze rfl yi (zb rfl)) (sk (sk wN)) ?_
       refine zq rfl rfl (zw rfl ty58.choose_spec.1 yP rfl (zL (cs':=[.int .u8 l2.typ,.int .i64 l2.n,.int .u64 l2.time,.int .u8 l2.dot.actor.rep,.int .u32 l2.dot.actor.inc,.int .u64 l2.dot.seq,.str l2.text,.sl 5 (l2.items.map GItem.row),.sl 3 (l2.tombs.map GDot.row)]) ty58.choose_spec.2 rfl rfl) (zb rfl)) (sk (sk wG)) ?_
       refine zq rfl rfl (yh (es:=([l2]:List GLeaf).map GLeaf.row) rfl wr ze58 rfl rfl (zT (gk (gk wu)) ye) (.cons (zb rfl) .nil) rfl rfl rfl) (sk (sk wF)) ?_
       refine xG hF (fun hm158 hF=>?_)
       refine vi rfl FOk.nil (by rfl) rfl (wv (j:=1) (T':=[(s1.1).length,((s3.1++([l2]:List GLeaf))).length]) rfl rfl rfl rfl wr wr (gk (gk wS)) (gk (gk wJ)) (zb rfl) (zb rfl) wo hm158 rfl rfl) (sk (sk wZ)) ?_
       refine zq rfl rfl (zj rfl xX xl rfl) (sk (sk wY)) ?_
       refine zq rfl rfl (zw rfl qk (gk (gk w5)) rfl (zr rfl) (zb rfl)) (sk (sk (sk qP))) ?_
       refine zq rfl rfl (ze rfl yl (zb rfl)) (sk (sk (sk qI))) ?_
       refine zS hF (fun m159 hm159 hF=>?_)
       refine zq rfl rfl (vu rfl wr (gk (gk (gk yg))) (.inl rfl) (.some (gk (gk (gk yw)))) .none hm159) (sk (sk (sk yH))) ?_
       refine xG hF (fun hm160 hF=>?_)
       refine vi rfl FOk.nil (by rfl) rfl (wv (j:=1) (T':=[(s1.1).length,(((s3.1++([l2]:List GLeaf))++m159)).length]) rfl rfl rfl rfl wr wr (gk (gk w6)) (gk (gk (gk yz))) (zb rfl) (zb rfl) vY hm160 rfl rfl) (sk (sk (sk xS))) ?_
       refine zq rfl rfl (zj rfl xX xl rfl) (sk (sk (sk yD))) ?_
       refine wq rfl FOk.nil (by kernel_rfl) rfl (yk (cs':=[.str s2.2.1,.osl (some (h.toks.length+1)) 9 (((s3.1++([l2]:List GLeaf))++m159).map GLeaf.row),.sl 3 (s2.2.2.2.map GNode.row)]) rfl qk (gk (gk (gk yv))) (gk (gk (gk yX))) (zb rfl) rfl rfl rfl rfl rfl) rfl ?_
       refine yo ?_
       refine zi (zk ?_)
       refine yI [] [] trivial mixed (by kernel_rfl) ?_
       refine zq rfl rfl (ze rfl xn (zb rfl)) (sk (sk (sk xw))) ?_
       refine zq rfl rfl (zw rfl ty74.choose_spec.1 xl rfl (zL (cs':=[.str s2.2.1,.osl (some (h.toks.length+1)) 9 (((s3.1++([l2]:List GLeaf))++m159).map GLeaf.row),.sl 3 (s2.2.2.2.map GNode.row)]) ty74.choose_spec.2 rfl rfl) (zb rfl)) (sk (sk (sk xp))) ?_
       refine zq rfl rfl (yh (es:=([(GNode.mk s2.2.1 ((s3.1++([l2]:List GLeaf))++m159) s2.2.2.2)]:List GNode).map GNode.row) rfl xa ze74 rfl rfl (zT (gk (gk (gk yS))) ye) (.cons (zb rfl) .nil) rfl rfl (by simp only [List.map_cons,List.map_nil,GNode.row_eq];rfl)) (sk (sk (sk xK))) ?_
       refine xG hF (fun hm161 hF=>?_)
       refine vi rfl FOk.nil (by rfl) rfl (wv (j:=0) (T':=[((s1.1++([(GNode.mk s2.2.1 ((s3.1++([l2]:List GLeaf))++m159) s2.2.2.2)]:List GNode))).length,(((s3.1++([l2]:List GLeaf))++m159)).length]) rfl rfl rfl rfl xa xa (gk (gk (gk yP))) (gk (gk (gk xn))) (zb rfl) (zb rfl) wo hm161 rfl rfl) (sk (sk (sk xH))) ?_
       refine zq rfl rfl (ze rfl yg (zb rfl)) (sk (sk (sk x8))) ?_
       refine zq rfl rfl (ze rfl yV (zb rfl)) (sk (sk (sk yq))) ?_
       refine zS hF (fun m162 hm162 hF=>?_)
       refine zq rfl rfl (vu rfl xa (gk (gk (gk xl))) (.inl rfl) (.some (gk (gk (gk yi)))) .none hm162) (sk (sk (sk yy))) ?_
       refine xG hF (fun hm163 hF=>?_)
       refine vi rfl FOk.nil (by rfl) rfl (wv (j:=0) (T':=[(((s1.1++([(GNode.mk s2.2.1 ((s3.1++([l2]:List GLeaf))++m159) s2.2.2.2)]:List GNode))++m162)).length,(((s3.1++([l2]:List GLeaf))++m159)).length]) rfl rfl rfl rfl xa xa (gk (gk (gk yV))) (gk (gk (gk yl))) (zb rfl) (zb rfl) vY hm163 rfl rfl) (sk (sk (sk yE))) ?_
       refine zq rfl rfl (zg rfl (gk (gk (gk yC))) (zb rfl)) xp ?_
       refine yo ?_
       refine zi (zJ ?_)
       obtain rfl:=Option.some.inj hF
       refine zB rfl (zC yS zD) (zz (leV.osl _ _ _) rfl ?_)
       exact ⟨rfl,rfl⟩
      ·refine zI (zi ?_)
       refine yI [] [] trivial mixed (by kernel_rfl) ?_
       refine zq rfl rfl (ze rfl yi (zb rfl)) (sk (sk wN)) ?_
       refine zq rfl rfl (zw rfl ty58.choose_spec.1 yP rfl (zL (cs':=[.int .u8 l2.typ,.int .i64 l2.n,.int .u64 l2.time,.int .u8 l2.dot.actor.rep,.int .u32 l2.dot.actor.inc,.int .u64 l2.dot.seq,.str l2.text,.sl 5 (l2.items.map GItem.row),.sl 3 (l2.tombs.map GDot.row)]) ty58.choose_spec.2 rfl rfl) (zb rfl)) (sk (sk wG)) ?_
       refine zq rfl rfl (yh (es:=([l2]:List GLeaf).map GLeaf.row) rfl wr ze58 rfl rfl (zT (gk (gk wu)) ye) (.cons (zb rfl) .nil) rfl rfl rfl) (sk (sk wF)) ?_
       refine xG hF (fun hm164 hF=>?_)
       refine vi rfl FOk.nil (by rfl) rfl (wv (j:=1) (T':=[(s1.1).length,((s3.1++([l2]:List GLeaf))).length]) rfl rfl rfl rfl wr wr (gk (gk wS)) (gk (gk wJ)) (zb rfl) (zb rfl) wo hm164 rfl rfl) (sk (sk wZ)) ?_
       refine zq rfl rfl (zj rfl xX xl rfl) (sk (sk wY)) ?_
       refine zq rfl rfl (zw rfl qk (gk (gk w5)) rfl (zr rfl) (zb rfl)) (sk (sk (sk qP))) ?_
       refine zq rfl rfl (ze rfl yl (zb rfl)) (sk (sk (sk qI))) ?_
       refine zS hF (fun m165 hm165 hF=>?_)
       refine zq rfl rfl (vu rfl wr (gk (gk (gk yg))) (.inl rfl) (.some (gk (gk (gk yw)))) .none hm165) (sk (sk (sk yH))) ?_
       refine xG hF (fun hm166 hF=>?_)
       refine vi rfl FOk.nil (by rfl) rfl (wv (j:=1) (T':=[(s1.1).length,(((s3.1++([l2]:List GLeaf))++m165)).length]) rfl rfl rfl rfl wr wr (gk (gk w6)) (gk (gk (gk yz))) (zb rfl) (zb rfl) vY hm166 rfl rfl) (sk (sk (sk xS))) ?_
       refine zq rfl rfl (zj rfl xX xl rfl) (sk (sk (sk yD))) ?_
       refine wq rfl FOk.nil (by kernel_rfl) rfl (yk (cs':=[.str s2.2.1,.osl (some (h.toks.length+1)) 9 (((s3.1++([l2]:List GLeaf))++m165).map GLeaf.row),.sl 3 (s2.2.2.2.map GNode.row)]) rfl qk (gk (gk (gk yv))) (gk (gk (gk yX))) (zb rfl) rfl rfl rfl rfl rfl) rfl ?_
       refine yo ?_
       refine zi (zk ?_)
       refine yI [] [] trivial mixed (by kernel_rfl) ?_
       refine zq rfl rfl (ze rfl xn (zb rfl)) (sk (sk (sk xw))) ?_
       refine zq rfl rfl (zw rfl ty74.choose_spec.1 xl rfl (zL (cs':=[.str s2.2.1,.osl (some (h.toks.length+1)) 9 (((s3.1++([l2]:List GLeaf))++m165).map GLeaf.row),.sl 3 (s2.2.2.2.map GNode.row)]) ty74.choose_spec.2 rfl rfl) (zb rfl)) (sk (sk (sk xp))) ?_
       refine zq rfl rfl (yh (es:=([(GNode.mk s2.2.1 ((s3.1++([l2]:List GLeaf))++m165) s2.2.2.2)]:List GNode).map GNode.row) rfl xa ze74 rfl rfl (zT (gk (gk (gk yS))) ye) (.cons (zb rfl) .nil) rfl rfl (by simp only [List.map_cons,List.map_nil,GNode.row_eq];rfl)) (sk (sk (sk xK))) ?_
       refine xG hF (fun hm167 hF=>?_)
       refine vi rfl FOk.nil (by rfl) rfl (wv (j:=0) (T':=[((s1.1++([(GNode.mk s2.2.1 ((s3.1++([l2]:List GLeaf))++m165) s2.2.2.2)]:List GNode))).length,(((s3.1++([l2]:List GLeaf))++m165)).length]) rfl rfl rfl rfl xa xa (gk (gk (gk yP))) (gk (gk (gk xn))) (zb rfl) (zb rfl) wo hm167 rfl rfl) (sk (sk (sk xH))) ?_
       refine zq rfl rfl (ze rfl yg (zb rfl)) (sk (sk (sk x8))) ?_
       refine zq rfl rfl (ze rfl yV (zb rfl)) (sk (sk (sk yq))) ?_
       refine zS hF (fun m168 hm168 hF=>?_)
       refine zq rfl rfl (vu rfl xa (gk (gk (gk xl))) (.inl rfl) (.some (gk (gk (gk yi)))) .none hm168) (sk (sk (sk yy))) ?_
       refine xG hF (fun hm169 hF=>?_)
       refine vi rfl FOk.nil (by rfl) rfl (wv (j:=0) (T':=[(((s1.1++([(GNode.mk s2.2.1 ((s3.1++([l2]:List GLeaf))++m165) s2.2.2.2)]:List GNode))++m168)).length,(((s3.1++([l2]:List GLeaf))++m165)).length]) rfl rfl rfl rfl xa xa (gk (gk (gk yV))) (gk (gk (gk yl))) (zb rfl) (zb rfl) vY hm169 rfl rfl) (sk (sk (sk yE))) ?_
       refine zq rfl rfl (zg rfl (gk (gk (gk yC))) (zb rfl)) xp ?_
       refine yo ?_
       refine zi (zJ ?_)
       obtain rfl:=Option.some.inj hF
       refine zB rfl (zC yS zD) (zz (leV.osl _ _ _) rfl ?_)
       exact ⟨rfl,rfl⟩
theorem ok53 {t0:(List GNode)} {path1:(List zR)} {l2:GLeaf} {res:(List GNode)} {h:AH}  (hF:ref07Lay t0 path1 l2=some res):Spec Tryz.prog 53 [.sl 3 (t0.map GNode.row),.sl 1 (path1.map zK),.agg [.int .u8 l2.typ,.int .i64 l2.n,.int .u64 l2.time,.int .u8 l2.dot.actor.rep,.int .u32 l2.dot.actor.inc,.int .u64 l2.dot.seq,.str l2.text,.sl 5 (l2.items.map GItem.row),.sl 3 (l2.tombs.map GDot.row)]] h (fun rr hh=>rr=.sl 3 (res.map GNode.row)∧hh=h):=by
 obtain ⟨n,hn⟩:=anyN_is hF
 exact ok53N n  hn
/-! varve/varveref30.Made -/
theorem ok27 {l0:(List GRow)} {res:(List GNode)} {h:AH}  (hF:ref30Made l0=some res):Spec Tryz.prog 27 [.sl 10 (l0.map GRow.row)] h (fun rr hh=>rr=.sl 3 (res.map GNode.row)∧hh=h):=by
 unfold ref30Made at hF
 refine zt Tryz.func27 rfl (by kernel_rfl) (env:=[.sl 10 (l0.map GRow.row),za,za,za,za,za,za,za,za,za,za,za,za,za,za,za,za,za,za,za,za,za,za,za]) (by rfl) ?_
 refine zk (zd ?_)
 refine zc rfl (zg rfl rfl (xq xa)) yH ?_
 refine zf (zi (zk (zd ?_)))
 refine zc rfl (zg rfl rfl (xq xa)) xS ?_
 refine zf (zi (zk (zk (zd ?_))))
 refine zc rfl (zg rfl rfl (zb rfl)) yD ?_
 refine zf (zi (zO ?_))
 refine ym (fun (n1:Nat) (s1:(List GNode))=>yB [1,2,5,6,7,8,9,10,11,12,13,14,15,16,17,18,19,20,21,22,23] [(3,.sl 3 (s1.map GNode.row)),(4,.int .i64 (n1:Int))]) (fun s1=>h.ext [] []) hF (fun _ _=>by simp only [yB,qw,List.set_cons_succ,List.set_cons_zero];try rfl) (wk.le (by exact (.eq (.drop (.drop (.cons (leV.osl _ _ _) (.cons (leV.of_eq rfl) (.d16 (.drop (.drop (.drop leL.nil))))))))))) ?_
 intro n1 s1 hi1 hF
 refine zk (zk (zd ?_))
 refine zc rfl (ze rfl yv (zb rfl)) xw ?_
 refine zc rfl (ze rfl yg (zb rfl)) xp ?_
 refine z7 rfl (zQ rfl rfl rfl rfl el48 yS z0) xK fun hn9=>?_
 replace hn9:=xg hn9
 refine zc rfl (zu rfl yP xn rfl) xH ?_
 refine zf (zi ?_)
 refine yJ yV hF (fun x1 o1 hl1 hx1 hF hK1=>?_) (fun hF=>?_)
 ·refine zI (zi (zk (zO ?_)))
  refine yI [11] [] trivial mixed (by kernel_rfl) ?_
  refine zq rfl rfl (ze rfl yX (zb rfl)) yy ?_
  refine zq rfl rfl (ze rfl yg (zb rfl)) yE ?_
  refine zq rfl rfl (ze rfl yv (zb rfl)) yG ?_
  refine zq rfl rfl (yd rfl el48 yC yr wd (yA hx1)) yN ?_
  refine zq rfl rfl (zj rfl fo60x0 yM rfl) yO ?_
  refine zq rfl rfl (zY rfl ty23 yL (zr rfl) (zb rfl)) yT ?_
  refine zq rfl rfl (ze rfl yg (zb rfl)) yZ ?_
  refine zq rfl rfl (ze rfl yv (zb rfl)) xd ?_
  refine zq rfl rfl (yd rfl el48 yY xb wd (yA hx1)) xi ?_
  refine zq rfl rfl (zj rfl fo60x1 xh rfl) xA ?_
  refine zq rfl rfl (zY rfl ty58.choose_spec.1 xz (zL (cs':=[.int .u8 x1.leaf.typ,.int .i64 x1.leaf.n,.int .u64 x1.leaf.time,.int .u8 x1.leaf.dot.actor.rep,.int .u32 x1.leaf.dot.actor.inc,.int .u64 x1.leaf.dot.seq,.str x1.leaf.text,.sl 5 (x1.leaf.items.map GItem.row),.sl 3 (x1.leaf.tombs.map GDot.row)]) ty58.choose_spec.2 rfl rfl) (zb rfl)) xE ?_
  refine zS hF (fun v10 hv10 hF=>?_)
  refine yW rfl rfl (fun _=>zE rfl rfl rfl (zo yl (zo yQ (zo xB zy))) (.cons (zb rfl) (.cons (zb rfl) (.cons (zb rfl) .nil)))) (by rintro _ ⟨B2,T2,rfl,hk2⟩;exact ok53 hv10) xI ?_
  refine zq rfl rfl (zg rfl xF (zb rfl)) xS ?_
  refine yo ?_
  refine yb (zi (zd ?_))
  refine zc rfl (ze rfl yv (zb rfl)) x8 ?_
  refine zc rfl (zu rfl xl rfl rfl) yq ?_
  refine zc rfl (zg rfl yi (zb rfl)) yD ?_
  refine zf (yu ?_)
  obtain rfl:=Option.some.inj hF
  exact ⟨v10,hl1,hK1,wk.le (by exact (.eq (.drop (.drop (.cons (leV.of_eq rfl) (.cons (leV.of_eq (wx (by omega) (by omega))) (.d16 (.drop (.drop (.drop leL.nil))))))))))⟩
 ·refine yF ?_
  refine zX ?_
  refine zU ?_
  refine zV ?_
  refine zi (zk (zd ?_))
  refine zc rfl (ze rfl yX (zb rfl)) xD ?_
  refine zc rfl (zg rfl xu (zb rfl)) yH ?_
  refine zf (zi (zJ ?_))
  obtain rfl:=Option.some.inj hF
  refine zB rfl (zC yz zD) (zz (leV.refl _) rfl ?_)
  exact ⟨rfl,rfl⟩
/-! varve/varveref42.View -/
theorem ok8 {l0:(List GRule)} {rep1:Int} {t2:(List GNode)} {res:((List GNode)×Int)} {h:AH}  (hF:ref42View l0 rep1 t2=some res):Spec Tryz.prog 8 [.sl 5 (l0.map GRule.row),.int .u8 rep1,.sl 3 (t2.map GNode.row)] h (fun rr hh=>rr=.tup [.sl 3 (res.1.map GNode.row),.int .i64 res.2]∧hh=h):=by
 unfold ref42View at hF
 refine zt Tryz.func8 rfl (by kernel_rfl) (env:=[.sl 5 (l0.map GRule.row),.int .u8 rep1,.sl 3 (t2.map GNode.row),za,za,za,za,za,za,za,za,za,za,za,za,za,za,za,za,za,za,za,za,za,za,za,za,za,za,za,za,za,za,za,za,za,za,za,za,za,za,za,za,za]) (by rfl) ?_
 refine zk (zd ?_)
 refine zc rfl (zg rfl rfl (xq xa)) xp ?_
 refine zc rfl (zg rfl rfl (zb rfl)) xK ?_
 refine zf (zi (zk (zk (zd ?_))))
 refine zc rfl (ze rfl yg (zb rfl)) yy ?_
 refine zS hF (fun v1 hv1 hF=>?_)
 refine zM rfl (zE rfl rfl rfl (zo yl zy) (.cons (zb rfl) .nil)) (ok11 hv1) yE ?_
 refine zc rfl (xV rfl yC rfl) yG ?_
 refine zc rfl (ze rfl yr (zb rfl)) yN ?_
 refine zp rfl (fun hb=>ze rfl yz (zb rfl)) yO ?_
 refine yn hF (fun v2 hv2 hF=>?_)
 refine z8 rfl (fun hb=>zE rfl rfl rfl (zo (zn yL hb) zy) (.cons (zb rfl) .nil)) (fun hb=>ok25 (hv2 hb)) yT ?_
 refine zp rfl (fun hb=>xV rfl (zn yQ hb) rfl) yZ ?_
 refine zc rfl (zG rfl yM rfl yY (zZ (fun ht=>gF ht))) xd ?_
 refine zf (zi ?_)
 refine zH xb hF (fun hc3 hF=>?_) (fun hc3 hF=>?_)
 ·refine zk (zd ?_)
  refine zc rfl (zg rfl rfl (xq xa)) xp ?_
  refine zc rfl (zg rfl rfl (zb rfl)) xK ?_
  refine zf (zi (zJ (zA ?_)))
  obtain rfl:=Option.some.inj hF
  refine qe rfl (zC yS (zC xn zD)) (zz (leV.tup (.cons (leV.osl _ _ _) (.eq leL.nil))) rfl ?_)
  exact ⟨rfl,rfl⟩
 ·refine zI (zi (zk (zd ?_)))
  refine zc rfl (ze rfl yz (zb rfl)) xi ?_
  refine zS hF (fun v4 hv4 hF=>?_)
  refine zM rfl (zE rfl rfl rfl (zo xh zy) (.cons (zb rfl) .nil)) (ok26 hv4) xA ?_
  refine zc rfl (zg rfl xz (zb rfl)) xH ?_
  refine zf (zi (zk (zd ?_)))
  refine zc rfl (zg rfl rfl (xq el48)) x8 ?_
  refine zf (zi (zk (zk (zd ?_))))
  refine zc rfl (zg rfl rfl (zb rfl)) yq ?_
  refine zf (zi (zO ?_))
  refine ym (fun (n1:Nat) (s1:(List GRow))=>yB [2,3,4,5,6,7,11,12,13,14,15,16,17,18,19,20,21,22,23,24,25,26,27,28,29,30,31,32,33,34,35,36,37,38,39,40,41,42,43] [(9,.osl (some (h.toks.length+0)) 10 (s1.map GRow.row)),(10,.int .i64 (n1:Int))]) (fun s1=>h.ext [] [(s1).length]) hF (fun _ _=>by simp only [yB,qw,List.set_cons_succ,List.set_cons_zero];try rfl) (wk.trans (wk_tok xl rfl x8 rfl) (wk.le (by exact (.eq (.eq (.d4 (.drop (.drop (.eq (.cons (leV.of_eq rfl) (.cons (leV.of_eq rfl) (.d16 (.d16 (.drop leL.nil)))))))))))))) ?_
  intro n1 s1 hi1 hF
  refine zk (zk (zd ?_))
  refine zc rfl (ze rfl yi (zb rfl)) xE ?_
  refine zc rfl (ze rfl yV (zb rfl)) xI ?_
  refine z7 rfl (zQ rfl rfl rfl rfl el48 xF z0) xD fun hn15=>?_
  replace hn15:=xg hn15
  refine zc rfl (zu rfl xB xu rfl) xM ?_
  refine zf (zi ?_)
  refine yJ xN hF (fun x1 o1 hl1 hx1 hF hK1=>?_) (fun hF=>?_)
  ·refine zI (zi (zk (zO (zk (zd ?_)))))
   refine zc rfl (ze rfl yg (zb rfl)) wj ?_
   refine zc rfl (ze rfl yw (zb rfl)) wn ?_
   refine zc rfl (ze rfl yV (zb rfl)) wD ?_
   refine zc rfl (ze rfl yi (zb rfl)) wC ?_
   refine zc rfl (yd rfl el48 wz wM wd (yA hx1)) wI ?_
   refine zc rfl (zj rfl fo60x0 wL rfl) wH ?_
   refine zc rfl (zY rfl ty23 wy (zr rfl) (zb rfl)) wP ?_
   refine zS hF (fun v16 hv16 hF=>?_)
   refine zM rfl (zE rfl rfl rfl (zo wm (zo wl (zo wT zy))) (.cons (zb rfl) (.cons (zb rfl) (.cons (zb rfl) .nil)))) (ok15 hv16) wO ?_
   refine zf (zi ?_)
   refine zH wK hF (fun hc17 hF=>?_) (fun hc17 hF=>?_)
   ·refine zd ?_
    refine zc rfl (ze rfl xl (zb rfl)) wN ?_
    refine zc rfl (ze rfl yV (zb rfl)) wG ?_
    refine zc rfl (ze rfl yi (zb rfl)) wF ?_
    refine zc rfl (yd rfl el48 wu wJ wd (yA hx1)) wZ ?_
    refine zc rfl (zY rfl ty60.choose_spec.1 w6 (zL (cs':=[.sl 1 (x1.path.map zK),.int .u8 x1.leaf.typ,.int .i64 x1.leaf.n,.int .u64 x1.leaf.time,.int .u8 x1.leaf.dot.actor.rep,.int .u32 x1.leaf.dot.actor.inc,.int .u64 x1.leaf.dot.seq,.str x1.leaf.text,.sl 5 (x1.leaf.items.map GItem.row),.sl 3 (x1.leaf.tombs.map GDot.row)]) ty60.choose_spec.2 rfl rfl) (zb rfl)) wY ?_
    refine zc rfl (yh (es:=([x1]:List GRow).map GRow.row) rfl el48 ze60 rfl rfl (zT w5 ye) (.cons (zb rfl) .nil) rfl rfl rfl) (sk qP) ?_
    refine xG hF (fun hm18 hF=>?_)
    refine zc rfl (wv (j:=0) (T':=[((s1++([x1]:List GRow))).length]) rfl rfl rfl rfl el48 el48 wS (gk yg) (zb rfl) (zb rfl) wo hm18 rfl rfl) (sk qI) ?_
    refine zc rfl (zg rfl (gk yw) (zb rfl)) x8 ?_
    refine zf (yb (zi (zd ?_)))
    refine zc rfl (ze rfl yi (zb rfl)) wa ?_
    refine zc rfl (zu rfl x9 rfl rfl) wi ?_
    refine zc rfl (zg rfl wh (zb rfl)) yq ?_
    refine zf (yu ?_)
    obtain rfl:=Option.some.inj hF
    exact ⟨(s1++([x1]:List GRow)),hl1,hK1,wk.le (by exact (.eq (.eq (.d4 (.drop (.drop (.eq (.cons (leV.of_eq rfl) (.cons (leV.of_eq (wx (by omega) (by omega))) (.d16 (.d16 (.drop leL.nil))))))))))))⟩
   ·refine zI (yb (zi (zd ?_)))
    refine zc rfl (ze rfl yi (zb rfl)) wa ?_
    refine zc rfl (zu rfl x9 rfl rfl) wi ?_
    refine zc rfl (zg rfl wh (zb rfl)) yq ?_
    refine zf (yu ?_)
    obtain rfl:=Option.some.inj hF
    exact ⟨s1,hl1,hK1,wk.le (by exact (.eq (.eq (.d4 (.drop (.drop (.eq (.cons (leV.of_eq rfl) (.cons (leV.of_eq (wx (by omega) (by omega))) (.d16 (.d16 (.drop leL.nil))))))))))))⟩
  ·refine yF ?_
   refine zX ?_
   refine zU ?_
   refine zV ?_
   refine zi (zk (zd ?_))
   refine zc rfl (ze rfl xl (zb rfl)) (sk yH) ?_
   refine zS hF (fun v19 hv19 hF=>?_)
   refine zM rfl (zE rfl rfl rfl (zo (gk yz) zy) (.cons (zb rfl) .nil)) ((ok27 hv19).le (.cons (leV.osl _ _ _) leL.nil)) (sk xS) ?_
   refine zc rfl (zg rfl (gk yX) (zb rfl)) xp ?_
   refine zc rfl (zg rfl rfl (zb rfl)) xK ?_
   refine zf (zi (zJ ?_))
   obtain rfl:=Option.some.inj hF
   refine qe rfl (zC yS (zC xn zD)) (zz (leV.refl _) rfl ?_)
   exact ⟨rfl,rfl⟩
/-! varve/varveref04.Type -/
theorem ok54 {kind0:Int} {res:Int} {h:AH}  (hF:ref04Type kind0=some res):Spec Tryz.prog 54 [.int .u8 kind0] h (fun rr hh=>rr=.int .u8 res∧hh=h):=by
 unfold ref04Type at hF
 refine zt Tryz.func54 rfl (by kernel_rfl) (env:=[.int .u8 kind0,za,za,za,za,za,za,za,za,za,za,za,za]) (by rfl) ?_
 refine zk (zd ?_)
 refine zc rfl (zg rfl rfl (zb rfl)) yH ?_
 refine zf (zi (zk (zk (zd ?_))))
 refine zc rfl (ze rfl yg (zb rfl)) xS ?_
 refine zf (zi (zO (zk (zd ?_))))
 refine zc rfl (zu rfl yX rfl rfl) xw ?_
 refine zc rfl (zg rfl yP (zb rfl)) yD ?_
 refine zf (zi ?_)
 refine zH yv hF (fun hc1 hF=>?_) (fun hc1 hF=>?_)
 ·refine zk (zd ?_)
  refine zc rfl (zg rfl rfl (zb rfl)) yH ?_
  refine zf (zi (zJ ?_))
  refine zF ?_
  refine zA ?_
  obtain rfl:=Option.some.inj hF
  refine zB rfl (zC yz zD) (zz (leV.refl _) rfl ?_)
  exact ⟨rfl,rfl⟩
 ·refine zk (zd ?_)
  refine zc rfl (zu rfl yX rfl rfl) xK ?_
  refine zc rfl (zg rfl xn (zb rfl)) xp ?_
  refine zf (zi ?_)
  refine zH yS hF (fun hc2 hF=>?_) (fun hc2 hF=>?_)
  ·refine zk (zd ?_)
   refine zc rfl (zg rfl rfl (zb rfl)) yH ?_
   refine zf (zi (zJ ?_))
   refine zF ?_
   refine zA ?_
   obtain rfl:=Option.some.inj hF
   refine zB rfl (zC yz zD) (zz (leV.refl _) rfl ?_)
   exact ⟨rfl,rfl⟩
  ·refine zk (zk (zd ?_))
   refine zc rfl (zu rfl yX rfl rfl) x8 ?_
   refine zc rfl (zg rfl xl (zb rfl)) xH ?_
   refine zf (zi ?_)
   refine zH yV hF (fun hc3 hF=>?_) (fun hc3 hF=>?_)
   ·refine zI (zi ?_)
    refine zH yV hF (fun hc4 hF=>?_) (fun hc4 hF=>?_)
    ·refine zk (zd ?_)
     refine zc rfl (zg rfl rfl (zb rfl)) yH ?_
     refine zf (zi (zJ ?_))
     refine zF ?_
     refine zA ?_
     obtain rfl:=Option.some.inj hF
     refine zB rfl (zC yz zD) (zz (leV.refl _) rfl ?_)
     exact ⟨rfl,rfl⟩
    ·refine zk (zd ?_)
     refine zc rfl (zu rfl yX rfl rfl) yE ?_
     refine zc rfl (zg rfl yC (zb rfl)) yy ?_
     refine zf (zi ?_)
     refine zH yl hF (fun hc5 hF=>?_) (fun hc5 hF=>?_)
     ·refine zk (zd ?_)
      refine zc rfl (zg rfl rfl (zb rfl)) yH ?_
      refine zf (zi (zJ ?_))
      refine zF ?_
      refine zA ?_
      obtain rfl:=Option.some.inj hF
      refine zB rfl (zC yz zD) (zz (leV.refl _) rfl ?_)
      exact ⟨rfl,rfl⟩
     ·refine zI (yb (zi (zk (zd ?_))))
      refine zc rfl (zg rfl rfl (zb rfl)) yH ?_
      refine zf (zi (zJ ?_))
      obtain rfl:=Option.some.inj hF
      refine zB rfl (zC yz zD) (zz (leV.refl _) rfl ?_)
      exact ⟨rfl,rfl⟩
   ·refine zd ?_
    refine zc rfl (zu rfl yX rfl rfl) yq ?_
    refine zc rfl (zg rfl yi (zb rfl)) xH ?_
    refine zf (zi ?_)
    refine zH yV hF (fun hc6 hF=>?_) (fun hc6 hF=>?_)
    ·refine zk (zd ?_)
     refine zc rfl (zg rfl rfl (zb rfl)) yH ?_
     refine zf (zi (zJ ?_))
     refine zF ?_
     refine zA ?_
     obtain rfl:=Option.some.inj hF
     refine zB rfl (zC yz zD) (zz (leV.refl _) rfl ?_)
     exact ⟨rfl,rfl⟩
    ·refine zk (zd ?_)
     refine zc rfl (zu rfl yX rfl rfl) yE ?_
     refine zc rfl (zg rfl yC (zb rfl)) yy ?_
     refine zf (zi ?_)
     refine zH yl hF (fun hc7 hF=>?_) (fun hc7 hF=>?_)
     ·refine zk (zd ?_)
      refine zc rfl (zg rfl rfl (zb rfl)) yH ?_
      refine zf (zi (zJ ?_))
      refine zF ?_
      refine zA ?_
      obtain rfl:=Option.some.inj hF
      refine zB rfl (zC yz zD) (zz (leV.refl _) rfl ?_)
      exact ⟨rfl,rfl⟩
     ·refine zI (yb (zi (zk (zd ?_))))
      refine zc rfl (zg rfl rfl (zb rfl)) yH ?_
      refine zf (zi (zJ ?_))
      obtain rfl:=Option.some.inj hF
      refine zB rfl (zC yz zD) (zz (leV.refl _) rfl ?_)
      exact ⟨rfl,rfl⟩
/-! varve/varveref04.May -/
theorem ok28 {o0:GOp} {res:Bool} {h:AH}  (hF:ref04May o0=some res):Spec Tryz.prog 28 [.agg [.int .u8 o0.kind,.sl 1 (o0.path.map zK),.int .i64 o0.n,.str o0.text,.sl 3 (o0.dots.map GDot.row)]] h (fun rr hh=>rr=.bool res∧hh=h):=by
 unfold ref04May at hF
 refine zt Tryz.func28 rfl (by kernel_rfl) (env:=[.agg [.int .u8 o0.kind,.sl 1 (o0.path.map zK),.int .i64 o0.n,.str o0.text,.sl 3 (o0.dots.map GDot.row)],za,za,za,za,za,za,za,za,za,za,za,za,za,za,za,za,za,za,za,za,za,za,za,za,za,za,za,za,za,za,za,za,za,za,za,za,za,za,za,za,za,za,za,za,za,za,za,za,za,za,za,za,za,za,za,za,za,za,za,za,za,za,za,za,za,za,za,za,za,za,za,za,za,za,za,za,za,za,za,za,za,za,za,za,za,za,za,za,za,za,za,za,za,za]) (by rfl) ?_
 refine zk (zd ?_)
 refine zc rfl (xy (n:=0) rfl yg (zb rfl) rfl rfl) qI ?_
 refine zc rfl (zg rfl rfl (zb rfl)) yH ?_
 refine zf (zi (zk (zk (zd ?_))))
 refine zc rfl (zj rfl fo26x0 yw rfl) yD ?_
 refine zc rfl (zw rfl vb yv rfl (zr rfl) (zb rfl)) xw ?_
 refine zS hF (fun v1 hv1 hF=>?_)
 refine zM rfl (zE rfl rfl rfl (zo yP zy) (.cons (zb rfl) .nil)) (ok54 hv1) xp ?_
 refine zc rfl (zu rfl yS rfl rfl) xK ?_
 refine zc rfl (ze rfl xn (zb rfl)) xH ?_
 refine zp rfl (fun hb=>zj rfl fo26x1 yw rfl) x8 ?_
 refine zp rfl (fun hb=>zw rfl ty23 (zn xl hb) rfl (zr rfl) (zb rfl)) yq ?_
 refine yn hF (fun v2 hv2 hF=>?_)
 refine z8 rfl (fun hb=>zE rfl rfl rfl (zo (zn yi hb) zy) (.cons (zb rfl) .nil)) (fun hb=>ok55 (hv2 hb)) yy ?_
 refine zp rfl (fun hb=>xV rfl (zn yl hb) rfl) yE ?_
 refine zc rfl (zG rfl yV rfl yC (zZ (fun ht=>gF ht))) yG ?_
 refine zc rfl (ze rfl yr (zb rfl)) yN ?_
 refine zp rfl (fun hb=>zj rfl fo26x3 yw rfl) yO ?_
 refine zp rfl (fun hb=>zw rfl vt (zn yL hb) rfl (zr rfl) (zb rfl)) yT ?_
 refine xj rfl (fun hb=>vq rfl rfl rfl rfl vt (zn yQ hb)) yZ fun hn3=>?_
 refine zp rfl (fun hb=>zu rfl (zn yY hb) rfl rfl) xd ?_
 refine zc rfl (zG rfl yM rfl xb (zZ (fun ht=>gF ht))) xi ?_
 refine zc rfl (ze rfl xh (zb rfl)) xA ?_
 refine zp rfl (fun hb=>zj rfl fo26x4 yw rfl) xE ?_
 refine zp rfl (fun hb=>zw rfl qL (zn xB hb) rfl (zr rfl) (zb rfl)) xI ?_
 refine xj rfl (fun hb=>zQ rfl rfl rfl rfl qf (zn xF hb) z0) xD fun hn4=>?_
 refine zp rfl (fun hb=>zu rfl (zn xu hb) rfl rfl) xM ?_
 refine zc rfl (zG rfl xz rfl xN (zZ (fun ht=>gF ht))) wa ?_
 refine zf (zi ?_)
 refine zH x9 hF (fun hc5 hF=>?_) (fun hc5 hF=>?_)
 ·refine zk (zd ?_)
  refine zc rfl (zg rfl rfl (zb rfl)) yH ?_
  refine zf (zi (zJ (zA ?_)))
  obtain rfl:=Option.some.inj hF
  refine zB rfl (zC yz zD) (zz (leV.refl _) rfl ?_)
  exact ⟨rfl,rfl⟩
 ·refine zI (zi (zk (zk (zd ?_))))
  refine zc rfl (zj rfl fo26x0 yw rfl) wi ?_
  refine zc rfl (zw rfl vb wh rfl (zr rfl) (zb rfl)) wj ?_
  refine zc rfl (zu rfl wm rfl rfl) wn ?_
  refine zf (zi ?_)
  refine zH wl hF (fun hc6 hF=>?_) (fun hc6 hF=>?_)
  ·refine zk (zd ?_)
   refine zc rfl (zj rfl fo26x2 yw rfl) wD ?_
   refine zc rfl (zw rfl ty2 wz rfl (zr rfl) (zb rfl)) wC ?_
   refine zc rfl (zu rfl wM rfl rfl) wI ?_
   refine zc rfl (ze rfl wL (zb rfl)) wH ?_
   refine zp rfl (fun hb=>zj rfl fo26x2 yw rfl) wP ?_
   refine zp rfl (fun hb=>zw rfl ty2 (zn wT hb) rfl (zr rfl) (zb rfl)) wO ?_
   refine zp rfl (fun hb=>zu rfl (zn wK hb) rfl rfl) wN ?_
   refine zc rfl (zG rfl wy wS rfl (zN (fun ht=>gT ht))) wG ?_
   refine zc rfl (ze rfl wu (zb rfl)) wF ?_
   refine zp rfl (fun hb=>zj rfl fo26x3 yw rfl) wZ ?_
   refine zp rfl (fun hb=>zw rfl vt (zn w6 hb) rfl (zr rfl) (zb rfl)) wY ?_
   refine zp rfl (fun hb=>zu rfl (zn w5 hb) rfl rfl) (sk qP) ?_
   refine zc rfl (zG rfl wJ (gk yg) rfl (zN (fun ht=>gT ht))) (sk qI) ?_
   refine zc rfl (ze rfl (gk yw) (zb rfl)) (sk yH) ?_
   refine zp rfl (fun hb=>zj rfl fo26x4 yw rfl) (sk xS) ?_
   refine zp rfl (fun hb=>zw rfl qL (zn (gk yX) hb) rfl (zr rfl) (zb rfl)) (sk yD) ?_
   refine xj rfl (fun hb=>zQ rfl rfl rfl rfl qf (zn (gk yv) hb) z0) (sk xw) fun hn7=>?_
   refine zp rfl (fun hb=>zu rfl (zn (gk yP) hb) rfl rfl) (sk xp) ?_
   refine zc rfl (zG rfl (gk yz) (gk yS) rfl (zN (fun ht=>gT ht))) (sk xK) ?_
   refine zc rfl (zg rfl (gk xn) (zb rfl)) yH ?_
   refine zf (zi (zJ (zA ?_)))
   obtain rfl:=Option.some.inj hF
   refine zB rfl (zC yz zD) (zz (leV.refl _) rfl ?_)
   exact ⟨rfl,rfl⟩
  ·refine zI (zi (zk (zk (zd ?_))))
   refine zc rfl (zj rfl fo26x2 yw rfl) (sk xH) ?_
   refine zc rfl (zw rfl ty2 (gk yV) rfl (zr rfl) (zb rfl)) (sk x8) ?_
   refine zc rfl (zu rfl (gk xl) rfl rfl) (sk yq) ?_
   refine zc rfl (ze rfl (gk yi) (zb rfl)) (sk yy) ?_
   refine zp rfl (fun hb=>zj rfl fo26x0 yw rfl) (sk yE) ?_
   refine zp rfl (fun hb=>zw rfl vb (zn (gk yC) hb) rfl (zr rfl) (zb rfl)) (sk yG) ?_
   refine zp rfl (fun hb=>zu rfl (zn (gk yr) hb) rfl rfl) (sk yN) ?_
   refine zp rfl (fun hb=>ze rfl (zn (gk yM) hb) (zb rfl)) (sk yO) ?_
   refine zp (zP rfl rfl rfl) (fun hb=>zj rfl fo26x4 yw rfl) (sk yT) ?_
   refine zp (zP rfl rfl rfl) (fun hb=>zw rfl qL (zn (gk yQ) hb) rfl (zr rfl) (zb rfl)) (sk yZ) ?_
   refine xj (zP rfl rfl rfl) (fun hb=>zQ rfl rfl rfl rfl qf (zn (gk yY) hb) z0) (sk xd) fun hn8=>?_
   refine zp (zP rfl rfl rfl) (fun hb=>zu rfl (zn (gk xb) hb) rfl rfl) (sk xi) ?_
   refine zp rfl (fun hb=>zG rfl (zn (gk yL) hb) (gk xh) rfl (zN (fun ht=>gT2 hb ht))) (sk xA) ?_
   refine zc rfl (zG rfl (gk yl) rfl (gk xz) (zZ (fun ht=>gF ht))) (sk xE) ?_
   refine zf (zi ?_)
   refine zH (gk xB) hF (fun hc9 hF=>?_) (fun hc9 hF=>?_)
   ·refine zk (zd ?_)
    refine zc rfl (zg rfl rfl (zb rfl)) yH ?_
    refine zf (zi (zJ (zA ?_)))
    obtain rfl:=Option.some.inj hF
    refine zB rfl (zC yz zD) (zz (leV.refl _) rfl ?_)
    exact ⟨rfl,rfl⟩
   ·refine zI (zi (zk (zk (zd ?_))))
    refine zc rfl (zg rfl rfl (zb rfl)) xS ?_
    refine zf (zi (zO ?_))
    refine ym (fun (n1:Nat) (s1:Unit)=>yB [0,2,4,5,6,7,8,9,10,11,12,13,14,15,16,17,18,19,20,21,22,23,24,25,26,27,28,29,30,31,32,33,34,35,36,37,38,39,40,41,42,43,44,45,46,47,48,49,50,51,52,53,54,55,56,57,58,59,60,61,62,63,64,65,66,67,68,69,70,71,72,73,74,75,76,77,78,79,80,81,82,83,84,85,86,87,88,89,90,91,92,93,94] [(3,.int .i64 (n1:Int))]) (fun s1=>h.ext [.cells [.int .u8 o0.kind,.sl 1 (o0.path.map zK),.int .i64 o0.n,.str o0.text,.sl 3 (o0.dots.map GDot.row)]] []) hF (fun _ _=>by simp only [yB,qw,List.set_cons_succ,List.set_cons_zero];try rfl) (wk.le (by exact (.drop (.eq (.drop (.cons (leV.of_eq rfl) (.d16 (.d16 (.d16 (.d16 (.d16 (.d4 (.d4 (.drop (.drop (.drop leL.nil)))))))))))))))) ?_
    intro n1 s1 hi1 hF
    refine zk (zk (zd ?_))
    refine zc rfl (ze rfl yX (zb rfl)) (sk xI) ?_
    refine zc rfl (zj rfl fo26x4 yw rfl) (sk xD) ?_
    refine zc rfl (zw rfl qL (gk xu) rfl (zr rfl) (zb rfl)) (sk xM) ?_
    refine z7 rfl (zQ rfl rfl rfl rfl qf (gk xN) z0) (sk wa) fun hn25=>?_
    replace hn25:=xg hn25
    refine zc rfl (zu rfl (gk xF) (gk x9) rfl) (sk wi) ?_
    refine zf (zi ?_)
    refine yJ (gk wh) hF (fun x1 o1 hl1 hx1 hF hK1=>?_) (fun hF=>?_)
    ·refine zI (zi (zk (zO (zk ?_))))
     refine yI [5] [] trivial mixed (by kernel_rfl) ?_
     refine zq rfl rfl (zj rfl fo26x4 yw rfl) (sk wD) ?_
     refine zq rfl rfl (zw rfl qL (gk wz) rfl (zr rfl) (zb rfl)) (sk wC) ?_
     refine zq rfl rfl (ze rfl yX (zb rfl)) (sk wI) ?_
     refine zq rfl rfl (yd rfl qf (gk wM) (gk wL) wd (yA hx1)) (sk wH) ?_
     refine zq rfl rfl (zY rfl ty55.choose_spec.1 (gk wy) (zL (cs':=[.int .u8 x1.actor.rep,.int .u32 x1.actor.inc,.int .u64 x1.seq]) ty55.choose_spec.2 rfl rfl) (zb rfl)) (sk wP) ?_
     refine zS hF (fun v26 hv26 hF=>?_)
     refine yW rfl rfl (fun _=>zE rfl rfl rfl (zo (gk wT) zy) (.cons (zb rfl) .nil)) (by rintro _ ⟨B2,T2,rfl,hk2⟩;exact ok56 hv26) (sk wO) ?_
     refine zq rfl rfl (xV rfl (gk wK) rfl) (sk wN) ?_
     refine zq rfl rfl (ze rfl (gk wS) (zb rfl)) (sk wG) ?_
     refine zx rfl rfl (fun hb=>ze rfl yX (zb rfl)) (sk wF) ?_
     refine zx rfl rfl (fun hb=>zu rfl (zn (gk wJ) hb) rfl rfl) (sk wZ) ?_
     refine zx rfl rfl (fun hb=>ze rfl (zn (gk w6) hb) (zb rfl)) (sk wY) ?_
     refine zx rfl (zP rfl rfl rfl) (fun hb=>zj rfl fo26x4 yw rfl) (sk (sk qP)) ?_
     refine zx rfl (zP rfl rfl rfl) (fun hb=>zw rfl qL (zn (gk (gk yg)) hb) rfl (zr rfl) (zb rfl)) (sk (sk qI)) ?_
     refine zx rfl (zP rfl rfl rfl) (fun hb=>ze rfl yX (zb rfl)) (sk (sk yH)) ?_
     refine zx rfl (zP rfl rfl rfl) (fun hb=>zu rfl (zn (gk (gk yz)) hb) rfl rfl) (sk (sk xS)) ?_
     refine xG hF (fun hg27 hF=>?_)
     refine zx rfl (zP rfl rfl rfl) (fun hb=>yK default rfl qf (zn (gk (gk yw)) hb) (zn (gk (gk yX)) hb) wd (hg27 hb)) (sk (sk yD)) ?_
     refine zx rfl (zP rfl rfl rfl) (fun hb=>zY rfl ty55.choose_spec.1 (zn (gk (gk yv)) hb) (zL (cs':=[.int .u8 (((o0.dots).getD (IntKind.wrap .i64 ((n1:Int) - (1:Int))).toNat default).actor.rep),.int .u32 (((o0.dots).getD (IntKind.wrap .i64 ((n1:Int) - (1:Int))).toNat default).actor.inc),.int .u64 (((o0.dots).getD (IntKind.wrap .i64 ((n1:Int) - (1:Int))).toNat default).seq)]) ty55.choose_spec.2 rfl rfl) (zb rfl)) (sk (sk xw)) ?_
     refine zx rfl (zP rfl rfl rfl) (fun hb=>zj rfl fo26x4 yw rfl) (sk (sk xp)) ?_
     refine zx rfl (zP rfl rfl rfl) (fun hb=>zw rfl qL (zn (gk (gk yS)) hb) rfl (zr rfl) (zb rfl)) (sk (sk xK)) ?_
     refine zx rfl (zP rfl rfl rfl) (fun hb=>ze rfl yX (zb rfl)) (sk (sk xH)) ?_
     refine xG hF (fun hg28 hF=>?_)
     refine zx rfl (zP rfl rfl rfl) (fun hb=>yK default rfl qf (zn (gk (gk xn)) hb) (zn (gk (gk yV)) hb) wd (hg28 hb)) (sk (sk x8)) ?_
     refine zx rfl (zP rfl rfl rfl) (fun hb=>zY rfl ty55.choose_spec.1 (zn (gk (gk xl)) hb) (zL (cs':=[.int .u8 (((o0.dots).getD (n1:Int).toNat default).actor.rep),.int .u32 (((o0.dots).getD (n1:Int).toNat default).actor.inc),.int .u64 (((o0.dots).getD (n1:Int).toNat default).seq)]) ty55.choose_spec.2 rfl rfl) (zb rfl)) (sk (sk yq)) ?_
     refine yn hF (fun v29 hv29 hF=>?_)
     refine ww rfl (zP rfl rfl rfl) (fun hb=>zE rfl rfl rfl (zo (zn (gk (gk yP)) hb) (zo (zn (gk (gk yi)) hb) zy)) (.cons (zb rfl) (.cons (zb rfl) .nil))) (fun hb=>ok57 (hv29 hb)) (sk (sk yy)) ?_
     refine zx rfl (zP rfl rfl rfl) (fun hb=>xV rfl (zn (gk (gk yl)) hb) rfl) (sk (sk yE)) ?_
     refine zx rfl rfl (fun hb=>zG rfl (zn (gk w5) hb) (gk (gk yC)) rfl (zN (fun ht=>gT2 hb ht))) (sk (sk yG)) ?_
     refine zq rfl rfl (zG rfl (gk wu) rfl (gk (gk yr)) (zZ (fun ht=>gF ht))) (sk (sk yN)) ?_
     refine yo ?_
     refine zi ?_
     refine zH (gk (gk yM)) hF (fun hc30 hF=>?_) (fun hc30 hF=>?_)
     ·refine zk (zd ?_)
      refine zc rfl (zg rfl rfl (zb rfl)) yH ?_
      refine zf (zi (zJ ?_))
      refine zF ?_
      refine zA ?_
      refine yf ?_
      obtain rfl:=Option.some.inj hF
      replace hF:=hK1
      refine zF ?_
      refine zA ?_
      obtain rfl:=Option.some.inj hF
      refine zB rfl (zC yz zD) (zz (leV.refl _) rfl ?_)
      exact ⟨rfl,rfl⟩
     ·refine zI (yb (zi (zd ?_)))
      refine zc rfl (ze rfl yX (zb rfl)) (sk wj) ?_
      refine zc rfl (zu rfl (gk wm) rfl rfl) (sk wn) ?_
      refine zc rfl (zg rfl (gk wl) (zb rfl)) xS ?_
      refine zf (yu ?_)
      obtain rfl:=Option.some.inj hF
      exact ⟨(),hl1,hK1,wk.le (by exact (.drop (.eq (.drop (.cons (leV.of_eq (wx (by omega) (by omega))) (.d16 (.d16 (.d16 (.d16 (.d16 (.d4 (.d4 (.drop (.drop (.drop leL.nil)))))))))))))))⟩
    ·refine yF ?_
     refine zX ?_
     refine zU ?_
     refine zV ?_
     refine zi (zk (zd ?_))
     refine zc rfl (zg rfl rfl (zb rfl)) yH ?_
     refine zf (zi (zJ ?_))
     obtain rfl:=Option.some.inj hF
     refine zB rfl (zC yz zD) (zz (leV.refl _) rfl ?_)
     exact ⟨rfl,rfl⟩
/-! varve/varveref42.Why -/
theorem ok9 {l0:(List GRule)} {rep1:Int} {o2:GOp} {res:Int} {h:AH}  (hF:ref42Why l0 rep1 o2=some res):Spec Tryz.prog 9 [.sl 5 (l0.map GRule.row),.int .u8 rep1,.agg [.int .u8 o2.kind,.sl 1 (o2.path.map zK),.int .i64 o2.n,.str o2.text,.sl 3 (o2.dots.map GDot.row)]] h (fun rr hh=>rr=.int .i64 res∧hh=h):=by
 unfold ref42Why at hF
 refine zt Tryz.func9 rfl (by kernel_rfl) (env:=[.sl 5 (l0.map GRule.row),.int .u8 rep1,.agg [.int .u8 o2.kind,.sl 1 (o2.path.map zK),.int .i64 o2.n,.str o2.text,.sl 3 (o2.dots.map GDot.row)],za,za,za,za,za,za,za,za,za,za,za,za,za,za,za,za,za,za,za,za,za,za,za,za,za,za,za,za,za,za,za,za,za,za,za,za,za,za,za,za,za,za,za,za,za,za,za,za,za,za,za]) (by rfl) ?_
 refine zk (zd ?_)
 refine zc rfl (xy (n:=0) rfl yz (zb rfl) rfl rfl) xw ?_
 refine zc rfl (zg rfl rfl (zb rfl)) xp ?_
 refine zf (zi (zk (zd ?_)))
 refine zc rfl (zg rfl rfl (zb rfl)) xK ?_
 refine zf (zi (zk (zk (zd ?_))))
 refine zc rfl (ze rfl yg (zb rfl)) yq ?_
 refine zS hF (fun v1 hv1 hF=>?_)
 refine zM rfl (zE rfl rfl rfl (zo yi zy) (.cons (zb rfl) .nil)) (ok11 hv1) yy ?_
 refine zc rfl (xV rfl yl rfl) yE ?_
 refine zc rfl (ze rfl yC (zb rfl)) yG ?_
 refine zp rfl (fun hb=>zw rfl ty26.choose_spec.1 yP rfl (zL (cs':=[.int .u8 o2.kind,.sl 1 (o2.path.map zK),.int .i64 o2.n,.str o2.text,.sl 3 (o2.dots.map GDot.row)]) ty26.choose_spec.2 rfl rfl) (zb rfl)) yN ?_
 refine yn hF (fun v2 hv2 hF=>?_)
 refine z8 rfl (fun hb=>zE rfl rfl rfl (zo (zn yM hb) zy) (.cons (zb rfl) .nil)) (fun hb=>ok28 (hv2 hb)) yO ?_
 refine zp rfl (fun hb=>xV rfl (zn yL hb) rfl) yT ?_
 refine zc rfl (zG rfl yr rfl yQ (zZ (fun ht=>gF ht))) yZ ?_
 refine zf (zi ?_)
 refine zH yY hF (fun hc3 hF=>?_) (fun hc3 hF=>?_)
 ·refine zk (zd ?_)
  refine zc rfl (ze rfl xn (zb rfl)) xd ?_
  refine zc rfl (zg rfl xb (zb rfl)) xp ?_
  refine zf (zi (zJ (zA ?_)))
  obtain rfl:=Option.some.inj hF
  refine zB rfl (zC yS zD) (zz (leV.refl _) rfl ?_)
  exact ⟨rfl,rfl⟩
 ·refine zI (zi (zk (zk (zd ?_))))
  refine zc rfl (zg rfl rfl (zb rfl)) xH ?_
  refine zf (zi (zO ?_))
  refine ym (fun (n1:Nat) (s1:Int)=>yB [2,3,4,6,9,10,11,12,13,14,15,16,17,18,19,20,21,22,23,24,25,26,27,28,29,30,31,32,33,34,35,36,37,38,39,40,41,42,43,44,45,46,47,48,49,50,51,52,53] [(7,.int .i64 s1),(8,.int .i64 (n1:Int))]) (fun s1=>h.ext [.cells [.int .u8 o2.kind,.sl 1 (o2.path.map zK),.int .i64 o2.n,.str o2.text,.sl 3 (o2.dots.map GDot.row)]] []) hF (fun _ _=>by simp only [yB,qw,List.set_cons_succ,List.set_cons_zero];try rfl) (wk.le (by exact (.eq (.eq (.drop (.drop (.drop (.eq (.drop (.cons (leV.of_eq rfl) (.cons (leV.of_eq rfl) (.d16 (.d16 (.d4 (.d4 (.d4 (.drop leL.nil))))))))))))))))) ?_
  intro n1 s1 hi1 hF
  refine zk (zk (zd ?_))
  refine zc rfl (ze rfl yV (zb rfl)) xi ?_
  refine zc rfl (ze rfl yg (zb rfl)) xA ?_
  refine z7 rfl (zQ rfl rfl rfl rfl el22 xz z0) xE fun hn18=>?_
  replace hn18:=xg hn18
  refine zc rfl (zu rfl xh xB rfl) xI ?_
  refine zf (zi ?_)
  refine yJ xF hF (fun x1 o1 hl1 hx1 hF hK1=>?_) (fun hF=>?_)
  ·refine zI (zi (zk (zO (zk (zd ?_)))))
   refine zc rfl (ze rfl yg (zb rfl)) wa ?_
   refine zc rfl (ze rfl yV (zb rfl)) wi ?_
   refine zc rfl (yd rfl el22 x9 wh wd (yA hx1)) wj ?_
   refine zc rfl (zY rfl ty39.choose_spec.1 wm (zL (cs':=[.int .u8 x1.rep,.sl 1 (x1.path.map zK),.int .u8 x1.kinds,.bool x1.allow,.bool x1.read]) ty39.choose_spec.2 rfl rfl) (zb rfl)) wn ?_
   refine zc rfl (xf (n:=1) rfl ze39 rfl) x8 ?_
   refine zc rfl (yk (cs':=[.int .u8 x1.rep,.sl 1 (x1.path.map zK),.int .u8 x1.kinds,.bool x1.allow,.bool x1.read]) rfl ty39.choose_spec.1 xl wl (zb rfl) rfl rfl rfl rfl rfl) rfl ?_
   refine zf (zi (zk (zd ?_)))
   refine zc rfl (zj rfl qr xl rfl) wD ?_
   refine zc rfl (zw rfl vb wz rfl (zr rfl) (zb rfl)) wC ?_
   refine zc rfl (zu rfl wM rfl rfl) wI ?_
   refine zc rfl (ze rfl wL (zb rfl)) wH ?_
   refine zp rfl (fun hb=>zj rfl qr xl rfl) wP ?_
   refine zp rfl (fun hb=>zw rfl vb (zn wT hb) rfl (zr rfl) (zb rfl)) wO ?_
   refine zp rfl (fun hb=>ze rfl yw (zb rfl)) wN ?_
   refine zp rfl (fun hb=>zu rfl (zn wK hb) (zn wS hb) rfl) wG ?_
   refine zc rfl (zG rfl wy rfl wu (zZ (fun ht=>gF ht))) wF ?_
   refine zc rfl (ze rfl wJ (zb rfl)) wZ ?_
   refine zp rfl (fun hb=>zj rfl fo39x1 xl rfl) wY ?_
   refine zp rfl (fun hb=>zw rfl ty23 (zn w5 hb) rfl (zr rfl) (zb rfl)) (sk qP) ?_
   refine zp rfl (fun hb=>zj rfl fo26x1 yP rfl) (sk qI) ?_
   refine zp rfl (fun hb=>zw rfl ty23 (zn (gk yw) hb) rfl (zr rfl) (zb rfl)) (sk yH) ?_
   refine yn hF (fun v19 hv19 hF=>?_)
   refine z8 rfl (fun hb=>zE rfl rfl rfl (zo (zn (gk yg) hb) (zo (zn (gk yz) hb) zy)) (.cons (zb rfl) (.cons (zb rfl) .nil))) (fun hb=>ok29 (hv19 hb)) (sk xS) ?_
   refine zc rfl (zG rfl w6 (gk yX) rfl (zN (fun ht=>gT ht))) (sk yD) ?_
   refine zc rfl (ze rfl (gk yv) (zb rfl)) (sk xw) ?_
   refine zp rfl (fun hb=>zj rfl fo39x2 xl rfl) (sk xp) ?_
   refine zp rfl (fun hb=>zw rfl vb (zn (gk yS) hb) rfl (zr rfl) (zb rfl)) (sk xK) ?_
   refine zp rfl (fun hb=>zj rfl fo26x0 yP rfl) (sk xH) ?_
   refine zp rfl (fun hb=>zw rfl vb (zn (gk yV) hb) rfl (zr rfl) (zb rfl)) (sk x8) ?_
   refine yn hF (fun v20 hv20 hF=>?_)
   refine z8 rfl (fun hb=>zE rfl rfl rfl (zo (zn (gk xn) hb) (zo (zn (gk xl) hb) zy)) (.cons (zb rfl) (.cons (zb rfl) .nil))) (fun hb=>ok30 (hv20 hb)) (sk yq) ?_
   refine zc rfl (zG rfl (gk yP) (gk yi) rfl (zN (fun ht=>gT ht))) (sk yy) ?_
   refine zf (zi ?_)
   refine zH (gk yl) hF (fun hc21 hF=>?_) (fun hc21 hF=>?_)
   ·refine zd ?_
    refine zc rfl (ze rfl yV (zb rfl)) (sk yE) ?_
    refine zc rfl (zg rfl (gk yC) (zb rfl)) xK ?_
    refine zf (yb (zi (zd ?_)))
    refine zc rfl (ze rfl yV (zb rfl)) xD ?_
    refine zc rfl (zu rfl xu rfl rfl) xM ?_
    refine zc rfl (zg rfl xN (zb rfl)) xH ?_
    refine zf (yu ?_)
    obtain rfl:=Option.some.inj hF
    exact ⟨(n1:Int),hl1,hK1,wk.trans (wk.le (by exact (.eq (.eq (.drop (.drop (.drop (.eq (.drop (.cons (leV.of_eq rfl) (.cons (leV.of_eq (wx (by omega) (by omega))) (.d16 (.d16 (.d4 (.d4 (.d4 (.drop leL.nil))))))))))))))))) (xY (by simp [yj,AV.low]) rfl rfl (by simp [Blk.low,yj,AV.low]))⟩
   ·refine zI (yb (zi (zd ?_)))
    refine zc rfl (ze rfl yV (zb rfl)) xD ?_
    refine zc rfl (zu rfl xu rfl rfl) xM ?_
    refine zc rfl (zg rfl xN (zb rfl)) xH ?_
    refine zf (yu ?_)
    obtain rfl:=Option.some.inj hF
    exact ⟨s1,hl1,hK1,wk.trans (wk.le (by exact (.eq (.eq (.drop (.drop (.drop (.eq (.drop (.cons (leV.of_eq rfl) (.cons (leV.of_eq (wx (by omega) (by omega))) (.d16 (.d16 (.d4 (.d4 (.d4 (.drop leL.nil))))))))))))))))) (xY (by simp [yj,AV.low]) rfl rfl (by simp [Blk.low,yj,AV.low]))⟩
  ·refine yF ?_
   refine zX ?_
   refine zU ?_
   refine zV ?_
   refine zi (zk (zd ?_))
   refine zc rfl (ze rfl xn (zb rfl)) (sk yG) ?_
   refine zc rfl (zg rfl (gk yr) (zb rfl)) xp ?_
   refine zf (zi (zJ ?_))
   obtain rfl:=Option.some.inj hF
   refine zB rfl (zC yS zD) (zz (leV.refl _) rfl ?_)
   exact ⟨rfl,rfl⟩
/-! varve/varveref05.Same -/
theorem ok39 {a0:GLeaf} {b1:GLeaf} {res:Bool} {h:AH}  (hF:ref05Same a0 b1=some res):Spec Tryz.prog 39 [.agg [.int .u8 a0.typ,.int .i64 a0.n,.int .u64 a0.time,.int .u8 a0.dot.actor.rep,.int .u32 a0.dot.actor.inc,.int .u64 a0.dot.seq,.str a0.text,.sl 5 (a0.items.map GItem.row),.sl 3 (a0.tombs.map GDot.row)],.agg [.int .u8 b1.typ,.int .i64 b1.n,.int .u64 b1.time,.int .u8 b1.dot.actor.rep,.int .u32 b1.dot.actor.inc,.int .u64 b1.dot.seq,.str b1.text,.sl 5 (b1.items.map GItem.row),.sl 3 (b1.tombs.map GDot.row)]] h (fun rr hh=>rr=.bool res∧hh=h):=by
 unfold ref05Same at hF
 refine zt Tryz.func39 rfl (by kernel_rfl) (env:=[.agg [.int .u8 a0.typ,.int .i64 a0.n,.int .u64 a0.time,.int .u8 a0.dot.actor.rep,.int .u32 a0.dot.actor.inc,.int .u64 a0.dot.seq,.str a0.text,.sl 5 (a0.items.map GItem.row),.sl 3 (a0.tombs.map GDot.row)],.agg [.int .u8 b1.typ,.int .i64 b1.n,.int .u64 b1.time,.int .u8 b1.dot.actor.rep,.int .u32 b1.dot.actor.inc,.int .u64 b1.dot.seq,.str b1.text,.sl 5 (b1.items.map GItem.row),.sl 3 (b1.tombs.map GDot.row)],za,za,za,za,za,za,za,za,za,za,za,za,za,za,za,za,za,za,za,za,za,za,za,za,za,za,za,za,za,za,za,za,za,za,za,za,za,za,za,za,za,za,za,za,za,za,za,za,za,za,za,za,za,za,za,za,za,za,za,za,za,za,za,za,za,za,za,za,za,za,za,za,za,za,za,za,za,za,za,za,za,za,za,za,za,za,za,za,za,za,za,za]) (by rfl) ?_
 refine zk (zd ?_)
 refine zc rfl (xy (n:=0) rfl yg (zb rfl) rfl rfl) yH ?_
 refine zc rfl (xy (n:=1) rfl yw (zb rfl) rfl rfl) xS ?_
 refine zc rfl (zg rfl rfl (zb rfl)) yD ?_
 refine zf (zi (zk (zk (zd ?_))))
 refine zc rfl (zj rfl wU yz rfl) xK ?_
 refine zc rfl (zw rfl vb xn rfl (zr rfl) (zb rfl)) xH ?_
 refine zc rfl (zj rfl wU yX rfl) x8 ?_
 refine zc rfl (zw rfl vb xl rfl (zr rfl) (zb rfl)) yq ?_
 refine zc rfl (zu rfl yV yi rfl) yy ?_
 refine zc rfl (ze rfl yl (zb rfl)) yE ?_
 refine zp rfl (fun hb=>zj rfl fo58x1 yz rfl) yG ?_
 refine zp rfl (fun hb=>zw rfl ty2 (zn yr hb) rfl (zr rfl) (zb rfl)) yN ?_
 refine zp rfl (fun hb=>zj rfl fo58x1 yX rfl) yO ?_
 refine zp rfl (fun hb=>zw rfl ty2 (zn yL hb) rfl (zr rfl) (zb rfl)) yT ?_
 refine zp rfl (fun hb=>zu rfl (zn yM hb) (zn yQ hb) rfl) yZ ?_
 refine zc rfl (zG rfl yC rfl yY (zZ (fun ht=>gF ht))) xd ?_
 refine zc rfl (ze rfl xb (zb rfl)) xi ?_
 refine zp rfl (fun hb=>zj rfl fo58x2 yz rfl) xA ?_
 refine zp rfl (fun hb=>zw rfl qK (zn xz hb) rfl (zr rfl) (zb rfl)) xE ?_
 refine zp rfl (fun hb=>zj rfl fo58x2 yX rfl) xI ?_
 refine zp rfl (fun hb=>zw rfl qK (zn xF hb) rfl (zr rfl) (zb rfl)) xD ?_
 refine zp rfl (fun hb=>zu rfl (zn xB hb) (zn xu hb) rfl) xM ?_
 refine zc rfl (zG rfl xh rfl xN (zZ (fun ht=>gF ht))) wa ?_
 refine zc rfl (ze rfl x9 (zb rfl)) wi ?_
 refine zp rfl (fun hb=>zj rfl fo58x3 yz rfl) wj ?_
 refine zp rfl (fun hb=>zw rfl ty55.choose_spec.1 (zn wm hb) rfl (zL (cs':=[.int .u8 a0.dot.actor.rep,.int .u32 a0.dot.actor.inc,.int .u64 a0.dot.seq]) ty55.choose_spec.2 rfl rfl) (zb rfl)) wn ?_
 refine zp rfl (fun hb=>zj rfl fo58x3 yX rfl) wD ?_
 refine zp rfl (fun hb=>zw rfl ty55.choose_spec.1 (zn wz hb) rfl (zL (cs':=[.int .u8 b1.dot.actor.rep,.int .u32 b1.dot.actor.inc,.int .u64 b1.dot.seq]) ty55.choose_spec.2 rfl rfl) (zb rfl)) wC ?_
 refine zp rfl (fun hb=>zu rfl (zn wl hb) (zn wM hb) (bin_ne pk55 rfl)) wI ?_
 refine zc rfl (zG rfl wh rfl wL (zZ (fun ht=>gF ht))) wH ?_
 refine zc rfl (ze rfl wy (zb rfl)) wP ?_
 refine zp rfl (fun hb=>zj rfl fo58x4 yz rfl) wO ?_
 refine zp rfl (fun hb=>zw rfl vt (zn wK hb) rfl (zr rfl) (zb rfl)) wN ?_
 refine zp rfl (fun hb=>zj rfl fo58x4 yX rfl) wG ?_
 refine zp rfl (fun hb=>zw rfl vt (zn wu hb) rfl (zr rfl) (zb rfl)) wF ?_
 refine zp rfl (fun hb=>zu rfl (zn wS hb) (zn wJ hb) rfl) wZ ?_
 refine zc rfl (zG rfl wT rfl w6 (zZ (fun ht=>gF ht))) wY ?_
 refine zc rfl (ze rfl w5 (zb rfl)) (sk qP) ?_
 refine zp rfl (fun hb=>zj rfl w7 yz rfl) (sk qI) ?_
 refine zp rfl (fun hb=>zw rfl ty56 (zn (gk yw) hb) rfl (zr rfl) (zb rfl)) (sk yH) ?_
 refine xj rfl (fun hb=>zQ rfl rfl rfl rfl el56 (zn (gk yz) hb) z0) (sk xS) fun hn1=>?_
 refine zp rfl (fun hb=>zj rfl w7 yX rfl) (sk yD) ?_
 refine zp rfl (fun hb=>zw rfl ty56 (zn (gk yv) hb) rfl (zr rfl) (zb rfl)) (sk xw) ?_
 refine xj rfl (fun hb=>zQ rfl rfl rfl rfl el56 (zn (gk yP) hb) z0) (sk xp) fun hn2=>?_
 refine zp rfl (fun hb=>zu rfl (zn (gk yX) hb) (zn (gk yS) hb) rfl) (sk xK) ?_
 refine zc rfl (zG rfl (gk yg) rfl (gk xn) (zZ (fun ht=>gF ht))) (sk xH) ?_
 refine zc rfl (ze rfl (gk yV) (zb rfl)) (sk x8) ?_
 refine zp rfl (fun hb=>zj rfl vz yz rfl) (sk yq) ?_
 refine zp rfl (fun hb=>zw rfl qL (zn (gk yi) hb) rfl (zr rfl) (zb rfl)) (sk yy) ?_
 refine xj rfl (fun hb=>zQ rfl rfl rfl rfl qf (zn (gk yl) hb) z0) (sk yE) fun hn3=>?_
 refine zp rfl (fun hb=>zj rfl vz yX rfl) (sk yG) ?_
 refine zp rfl (fun hb=>zw rfl qL (zn (gk yr) hb) rfl (zr rfl) (zb rfl)) (sk yN) ?_
 refine xj rfl (fun hb=>zQ rfl rfl rfl rfl qf (zn (gk yM) hb) z0) (sk yO) fun hn4=>?_
 refine zp rfl (fun hb=>zu rfl (zn (gk yC) hb) (zn (gk yL) hb) rfl) (sk yT) ?_
 refine zc rfl (zG rfl (gk xl) rfl (gk yQ) (zZ (fun ht=>gF ht))) (sk yZ) ?_
 refine zf (zi ?_)
 refine zH (gk yY) hF (fun hc5 hF=>?_) (fun hc5 hF=>?_)
 ·refine zk (zd ?_)
  refine zc rfl (zg rfl rfl (zb rfl)) yD ?_
  refine zf (zi (zJ (zA ?_)))
  obtain rfl:=Option.some.inj hF
  refine zB rfl (zC yv zD) (zz (leV.refl _) rfl ?_)
  exact ⟨rfl,rfl⟩
 ·refine zI (zi (zk (zk (zd ?_))))
  refine zc rfl (zg rfl rfl (zb rfl)) xw ?_
  refine zf (zi (zO ?_))
  refine ym (fun (n1:Nat) (s1:Unit)=>yB [0,1,4,6,7,8,9,10,11,12,13,14,15,16,17,18,19,20,21,22,23,24,25,26,27,28,29,30,31,32,33,34,35,36,37,38,39,40,41,42,43,44,45,46,47,48,49,50,51,52,53,54,55,56,57,58,59,60,61,62,63,64,65,66,67,68,69,70,71,72,73,74,75,76,77,78,79,80,81,82,83,84,85,86,87,88,89,90,91,92,93] [(5,.int .i64 (n1:Int))]) (fun s1=>h.ext [.cells [.int .u8 a0.typ,.int .i64 a0.n,.int .u64 a0.time,.int .u8 a0.dot.actor.rep,.int .u32 a0.dot.actor.inc,.int .u64 a0.dot.seq,.str a0.text,.sl 5 (a0.items.map GItem.row),.sl 3 (a0.tombs.map GDot.row)],.cells [.int .u8 b1.typ,.int .i64 b1.n,.int .u64 b1.time,.int .u8 b1.dot.actor.rep,.int .u32 b1.dot.actor.inc,.int .u64 b1.dot.seq,.str b1.text,.sl 5 (b1.items.map GItem.row),.sl 3 (b1.tombs.map GDot.row)]] []) hF (fun _ _=>by simp only [yB,qw,List.set_cons_succ,List.set_cons_zero];try rfl) (wk.le (by exact (.drop (.drop (.eq (.eq (.drop (.cons (leV.of_eq rfl) (.d16 (.d16 (.d16 (.d16 (.d16 (.d4 (.d4 leL.nil))))))))))))))) ?_
  intro n1 s1 hi1 hF
  refine zk (zk (zd ?_))
  refine zc rfl (ze rfl yP (zb rfl)) (sk xd) ?_
  refine zc rfl (zj rfl w7 yz rfl) (sk xi) ?_
  refine zc rfl (zw rfl ty56 (gk xh) rfl (zr rfl) (zb rfl)) (sk xA) ?_
  refine z7 rfl (zQ rfl rfl rfl rfl el56 (gk xz) z0) (sk xE) fun hn31=>?_
  replace hn31:=xg hn31
  refine zc rfl (zu rfl (gk xb) (gk xB) rfl) (sk xI) ?_
  refine zf (zi ?_)
  refine yJ (gk xF) hF (fun x1 o1 hl1 hx1 hF hK1=>?_) (fun hF=>?_)
  ·refine zI (zi (zk (zO (zk ?_))))
   refine yI [] [] trivial mixed (by kernel_rfl) ?_
   refine zq rfl rfl (zj rfl w7 yz rfl) (sk wa) ?_
   refine zq rfl rfl (zw rfl ty56 (gk x9) rfl (zr rfl) (zb rfl)) (sk wi) ?_
   refine zq rfl rfl (ze rfl yP (zb rfl)) (sk wj) ?_
   refine zq rfl rfl (yd rfl el56 (gk wh) (gk wm) wd (yA hx1)) (sk wn) ?_
   refine zq rfl rfl (zY rfl ty77.choose_spec.1 (gk wl) (zL (cs':=[.int .u64 x1.time,.int .u8 x1.dot.actor.rep,.int .u32 x1.dot.actor.inc,.int .u64 x1.dot.seq,.str x1.text]) ty77.choose_spec.2 rfl rfl) (zb rfl)) (sk wD) ?_
   refine zq rfl rfl (zj rfl w7 yX rfl) (sk wC) ?_
   refine zq rfl rfl (zw rfl ty56 (gk wM) rfl (zr rfl) (zb rfl)) (sk wI) ?_
   refine zq rfl rfl (ze rfl yP (zb rfl)) (sk wH) ?_
   refine zS hF (fun y32 hy32 hF=>?_)
   refine zq rfl rfl (yd rfl el56 (gk wL) (gk wy) wd hy32) (sk wP) ?_
   refine zq rfl rfl (zY rfl ty77.choose_spec.1 (gk wT) (zL (cs':=[.int .u64 y32.time,.int .u8 y32.dot.actor.rep,.int .u32 y32.dot.actor.inc,.int .u64 y32.dot.seq,.str y32.text]) ty77.choose_spec.2 rfl rfl) (zb rfl)) (sk wO) ?_
   refine zq rfl rfl (zu rfl (gk wz) (gk wK) (bin_ne pk77 rfl)) (sk wN) ?_
   refine yo ?_
   refine zi ?_
   refine zH (gk wS) hF (fun hc33 hF=>?_) (fun hc33 hF=>?_)
   ·refine zk (zd ?_)
    refine zc rfl (zg rfl rfl (zb rfl)) yD ?_
    refine zf (zi (zJ ?_))
    refine zF ?_
    refine zA ?_
    refine yf ?_
    obtain rfl:=Option.some.inj hF
    replace hF:=hK1
    refine zF ?_
    refine zA ?_
    obtain rfl:=Option.some.inj hF
    refine zB rfl (zC yv zD) (zz (leV.refl _) rfl ?_)
    exact ⟨rfl,rfl⟩
   ·refine zI (yb (zi (zd ?_)))
    refine zc rfl (ze rfl yP (zb rfl)) (sk xD) ?_
    refine zc rfl (zu rfl (gk xu) rfl rfl) (sk xM) ?_
    refine zc rfl (zg rfl (gk xN) (zb rfl)) xw ?_
    refine zf (yu ?_)
    obtain rfl:=Option.some.inj hF
    exact ⟨(),hl1,hK1,wk.le (by exact (.drop (.drop (.eq (.eq (.drop (.cons (leV.of_eq (wx (by omega) (by omega))) (.d16 (.d16 (.d16 (.d16 (.d16 (.d4 (.d4 leL.nil))))))))))))))⟩
  ·refine yF ?_
   refine zX ?_
   refine zU ?_
   refine zV ?_
   refine zi (zk (zk (zd ?_)))
   refine zc rfl (zg rfl rfl (zb rfl)) xp ?_
   refine zf (zi (zO ?_))
   refine ym (fun (n2:Nat) (s2:Unit)=>yB [0,1,4,5,7,8,9,10,11,12,13,14,15,16,17,18,19,20,21,22,23,24,25,26,27,28,29,30,31,32,33,34,35,36,37,38,39,40,41,42,43,44,45,46,47,48,49,50,51,52,53,54,55,56,57,58,59,60,61,62,63,64,65,66,67,68,69,70,71,72,73,74,75,76,77,78,79,80,81,82,83,84,85,86,87,88,89,90,91,92,93] [(6,.int .i64 (n2:Int))]) (fun s2=>h.ext [.cells [.int .u8 a0.typ,.int .i64 a0.n,.int .u64 a0.time,.int .u8 a0.dot.actor.rep,.int .u32 a0.dot.actor.inc,.int .u64 a0.dot.seq,.str a0.text,.sl 5 (a0.items.map GItem.row),.sl 3 (a0.tombs.map GDot.row)],.cells [.int .u8 b1.typ,.int .i64 b1.n,.int .u64 b1.time,.int .u8 b1.dot.actor.rep,.int .u32 b1.dot.actor.inc,.int .u64 b1.dot.seq,.str b1.text,.sl 5 (b1.items.map GItem.row),.sl 3 (b1.tombs.map GDot.row)]] []) hF (fun _ _=>by simp only [yB,qw,List.set_cons_succ,List.set_cons_zero];try rfl) (wk.le (by exact (.drop (.drop (.eq (.eq (.drop (.drop (.cons (leV.of_eq rfl) (.d16 (.d16 (.d16 (.d16 (.d16 (.d4 (.drop (.drop (.drop leL.nil)))))))))))))))))) ?_
   intro n2 s2 hi2 hF
   refine zk (zk (zd ?_))
   refine zc rfl (ze rfl yS (zb rfl)) (sk wG) ?_
   refine zc rfl (zj rfl vz yz rfl) (sk wF) ?_
   refine zc rfl (zw rfl qL (gk wJ) rfl (zr rfl) (zb rfl)) (sk wZ) ?_
   refine z7 rfl (zQ rfl rfl rfl rfl qf (gk w6) z0) (sk wY) fun hn59=>?_
   replace hn59:=xg hn59
   refine zc rfl (zu rfl (gk wu) (gk w5) rfl) (sk (sk qP)) ?_
   refine zf (zi ?_)
   refine yJ (gk (gk yg)) hF (fun x2 o2 hl2 hx2 hF hK2=>?_) (fun hF=>?_)
   ·refine zI (zi (zk (zO (zk ?_))))
    refine yI [] [] trivial mixed (by kernel_rfl) ?_
    refine zq rfl rfl (zj rfl vz yz rfl) (sk (sk xS)) ?_
    refine zq rfl rfl (zw rfl qL (gk (gk yX)) rfl (zr rfl) (zb rfl)) (sk (sk yD)) ?_
    refine zq rfl rfl (ze rfl yS (zb rfl)) (sk (sk xw)) ?_
    refine zq rfl rfl (yd rfl qf (gk (gk yv)) (gk (gk yP)) wd (yA hx2)) (sk (sk xp)) ?_
    refine zq rfl rfl (zY rfl ty55.choose_spec.1 (gk (gk yS)) (zL (cs':=[.int .u8 x2.actor.rep,.int .u32 x2.actor.inc,.int .u64 x2.seq]) ty55.choose_spec.2 rfl rfl) (zb rfl)) (sk (sk xK)) ?_
    refine zq rfl rfl (zj rfl vz yX rfl) (sk (sk xH)) ?_
    refine zq rfl rfl (zw rfl qL (gk (gk yV)) rfl (zr rfl) (zb rfl)) (sk (sk x8)) ?_
    refine zq rfl rfl (ze rfl yS (zb rfl)) (sk (sk yq)) ?_
    refine zS hF (fun y60 hy60 hF=>?_)
    refine zq rfl rfl (yd rfl qf (gk (gk xl)) (gk (gk yi)) wd hy60) (sk (sk yy)) ?_
    refine zq rfl rfl (zY rfl ty55.choose_spec.1 (gk (gk yl)) (zL (cs':=[.int .u8 y60.actor.rep,.int .u32 y60.actor.inc,.int .u64 y60.seq]) ty55.choose_spec.2 rfl rfl) (zb rfl)) (sk (sk yE)) ?_
    refine zq rfl rfl (zu rfl (gk (gk xn)) (gk (gk yC)) (bin_ne pk55 rfl)) (sk (sk yG)) ?_
    refine yo ?_
    refine zi ?_
    refine zH (gk (gk yr)) hF (fun hc61 hF=>?_) (fun hc61 hF=>?_)
    ·refine zk (zd ?_)
     refine zc rfl (zg rfl rfl (zb rfl)) yD ?_
     refine zf (zi (zJ ?_))
     refine zF ?_
     refine zA ?_
     refine yf ?_
     obtain rfl:=Option.some.inj hF
     replace hF:=hK2
     refine zF ?_
     refine zA ?_
     obtain rfl:=Option.some.inj hF
     refine zB rfl (zC yv zD) (zz (leV.refl _) rfl ?_)
     exact ⟨rfl,rfl⟩
    ·refine zI (yb (zi (zd ?_)))
     refine zc rfl (ze rfl yS (zb rfl)) (sk (sk qI)) ?_
     refine zc rfl (zu rfl (gk (gk yw)) rfl rfl) (sk (sk yH)) ?_
     refine zc rfl (zg rfl (gk (gk yz)) (zb rfl)) xp ?_
     refine zf (yu ?_)
     obtain rfl:=Option.some.inj hF
     exact ⟨(),hl2,hK2,wk.le (by exact (.drop (.drop (.eq (.eq (.drop (.drop (.cons (leV.of_eq (wx (by omega) (by omega))) (.d16 (.d16 (.d16 (.d16 (.d16 (.d4 (.drop (.drop (.drop leL.nil)))))))))))))))))⟩
   ·refine yF ?_
    refine zX ?_
    refine zU ?_
    refine zV ?_
    refine zi (zk (zd ?_))
    refine zc rfl (zg rfl rfl (zb rfl)) yD ?_
    refine zf (zi (zJ ?_))
    obtain rfl:=Option.some.inj hF
    refine zB rfl (zC yv zD) (zz (leV.refl _) rfl ?_)
    exact ⟨rfl,rfl⟩
/-! varve/varveref07.Same -/
theorem ok16N (n:Nat):∀ {a0:(List GNode)} {b1:(List GNode)} {res:Bool} {h:AH} , ref07SameN n a0 b1=some res→Spec Tryz.prog 16 [.sl 3 (a0.map GNode.row),.sl 3 (b1.map GNode.row)] h (fun rr hh=>rr=.bool res∧hh=h):=by
 induction n with
 | zero=>intro a0 b1 res h  hF;simp [ref07SameN] at hF
 | succ n ih =>
  intro a0 b1 res h  hF
  unfold ref07SameN at hF
  refine zt Tryz.func16 rfl (by kernel_rfl) (env:=[.sl 3 (a0.map GNode.row),.sl 3 (b1.map GNode.row),za,za,za,za,za,za,za,za,za,za,za,za,za,za,za,za,za,za,za,za,za,za,za,za,za,za,za,za,za,za,za,za,za,za,za,za,za,za,za,za,za,za,za,za,za,za,za,za,za,za,za,za,za,za,za,za,za,za,za,za,za,za,za,za,za,za,za,za,za,za,za,za,za,za,za,za,za,za,za,za,za,za,za,za]) (by rfl) ?_
  refine zk (zd ?_)
  refine zc rfl (zg rfl rfl (zb rfl)) yD ?_
  refine zf (zi (zk (zk (zd ?_))))
  refine zc rfl (ze rfl yg (zb rfl)) xK ?_
  refine z7 rfl (zQ rfl rfl rfl rfl xa xn z0) xH fun hn1=>?_
  replace hn1:=xg hn1
  refine zc rfl (ze rfl yw (zb rfl)) x8 ?_
  refine z7 rfl (zQ rfl rfl rfl rfl xa xl z0) yq fun hn2=>?_
  replace hn2:=xg hn2
  refine zc rfl (zu rfl yV yi rfl) yy ?_
  refine zf (zi ?_)
  refine zH yl hF (fun hc3 hF=>?_) (fun hc3 hF=>?_)
  ·refine zk (zd ?_)
   refine zc rfl (zg rfl rfl (zb rfl)) yD ?_
   refine zf (zi (zJ (zA ?_)))
   obtain rfl:=Option.some.inj hF
   refine zB rfl (zC yv zD) (zz (leV.refl _) rfl ?_)
   exact ⟨rfl,rfl⟩
  ·refine zI (zi (zk (zk (zd ?_))))
   refine zc rfl (zg rfl rfl (zb rfl)) xw ?_
   refine zf (zi (zO ?_))
   refine ym (fun (n1:Nat) (s1:Unit)=>yB [2,3,4,6,7,8,9,10,11,12,13,14,15,16,17,18,19,20,21,22,23,24,25,26,27,28,29,30,31,32,33,34,35,36,37,38,39,40,41,42,43,44,45,46,47,48,49,50,51,52,53,54,55,56,57,58,59,60,61,62,63,64,65,66,67,68,69,70,71,72,73,74,75,76,77,78,79,80,81,82,83,84,85] [(5,.int .i64 (n1:Int))]) (fun s1=>h.ext [] []) hF (fun _ _=>by simp only [yB,qw,List.set_cons_succ,List.set_cons_zero];try rfl) (wk.le (by exact (.eq (.eq (.drop (.drop (.drop (.cons (leV.of_eq rfl) (.d16 (.d16 (.d16 (.d16 (.d16 leL.nil))))))))))))) ?_
   intro n1 s1 hi1 hF
   refine zk (zk (zd ?_))
   refine zc rfl (ze rfl yP (zb rfl)) yE ?_
   refine zc rfl (ze rfl yg (zb rfl)) yG ?_
   refine z7 rfl (zQ rfl rfl rfl rfl xa yr z0) yN fun hn40=>?_
   replace hn40:=xg hn40
   refine zc rfl (zu rfl yC yM rfl) yO ?_
   refine zf (zi ?_)
   refine yJ yL hF (fun x1 o1 hl1 hx1 hF hK1=>?_) (fun hF=>?_)
   ·refine zI (zi (zk (zO (zk (zk ?_)))))
    refine yI [] [] trivial mixed (by kernel_rfl) ?_
    refine zq rfl rfl (ze rfl yg (zb rfl)) xd ?_
    refine zq rfl rfl (ze rfl yP (zb rfl)) xi ?_
    refine zq rfl rfl (xO rfl xa xb xh wd (yA hx1) (GNode.row_eq _)) xA ?_
    refine zq rfl rfl (zj rfl q9 xz rfl) xE ?_
    refine zq rfl rfl (zY rfl vt xB (zr rfl) (zb rfl)) xI ?_
    refine zq rfl rfl (ze rfl yw (zb rfl)) xD ?_
    refine zq rfl rfl (ze rfl yP (zb rfl)) xM ?_
    refine zS hF (fun y41 hy41 hF=>?_)
    refine zq rfl rfl (xO rfl xa xu xN wd hy41 (GNode.row_eq _)) wa ?_
    refine zq rfl rfl (zj rfl q9 x9 rfl) wi ?_
    refine zq rfl rfl (zY rfl vt wh (zr rfl) (zb rfl)) wj ?_
    refine zq rfl rfl (zu rfl xF wm rfl) wn ?_
    refine zq rfl rfl (ze rfl wl (zb rfl)) wD ?_
    refine zx rfl rfl (fun hb=>ze rfl yg (zb rfl)) wC ?_
    refine zx rfl rfl (fun hb=>ze rfl yP (zb rfl)) wI ?_
    refine xG hF (fun hg42 hF=>?_)
    refine zx rfl rfl (fun hb=>qm default rfl xa (zn wM hb) (zn wL hb) wd (hg42 hb) (GNode.row_eq _)) wH ?_
    refine zx rfl rfl (fun hb=>zj rfl xX (zn wy hb) rfl) wP ?_
    refine zx rfl rfl (fun hb=>zY rfl qk (zn wT hb) (zr rfl) (zb rfl)) wO ?_
    refine draw_glen rfl rfl (fun hb=>zQ rfl rfl rfl rfl wr (zn wK hb) z0) wN ?_
    refine zx rfl rfl (fun hb=>ze rfl yw (zb rfl)) wG ?_
    refine zx rfl rfl (fun hb=>ze rfl yP (zb rfl)) wF ?_
    refine xG hF (fun hg44 hF=>?_)
    refine zx rfl rfl (fun hb=>qm default rfl xa (zn wu hb) (zn wJ hb) wd (hg44 hb) (GNode.row_eq _)) wZ ?_
    refine zx rfl rfl (fun hb=>zj rfl xX (zn w6 hb) rfl) wY ?_
    refine zx rfl rfl (fun hb=>zY rfl qk (zn w5 hb) (zr rfl) (zb rfl)) (sk qP) ?_
    refine draw_glen rfl rfl (fun hb=>zQ rfl rfl rfl rfl wr (zn (gk yg) hb) z0) (sk qI) ?_
    refine zx rfl rfl (fun hb=>zu rfl (zn wS hb) (zn (gk yw) hb) rfl) (sk yH) ?_
    refine zq rfl rfl (zG rfl wz rfl (gk yz) (zZ (fun ht=>gF ht))) (sk xS) ?_
    refine zq rfl rfl (ze rfl (gk yX) (zb rfl)) (sk yD) ?_
    refine zx rfl rfl (fun hb=>ze rfl yg (zb rfl)) (sk xw) ?_
    refine zx rfl rfl (fun hb=>ze rfl yP (zb rfl)) (sk xp) ?_
    refine xG hF (fun hg46 hF=>?_)
    refine zx rfl rfl (fun hb=>qm default rfl xa (zn (gk yP) hb) (zn (gk yS) hb) wd (hg46 hb) (GNode.row_eq _)) (sk xK) ?_
    refine zx rfl rfl (fun hb=>zj rfl q8 (zn (gk xn) hb) rfl) (sk xH) ?_
    refine zx rfl rfl (fun hb=>zY rfl ty28 (zn (gk yV) hb) (zr rfl) (zb rfl)) (sk x8) ?_
    refine zx rfl rfl (fun hb=>ze rfl yw (zb rfl)) (sk yq) ?_
    refine zx rfl rfl (fun hb=>ze rfl yP (zb rfl)) (sk yy) ?_
    refine xG hF (fun hg47 hF=>?_)
    refine zx rfl rfl (fun hb=>qm default rfl xa (zn (gk yi) hb) (zn (gk yl) hb) wd (hg47 hb) (GNode.row_eq _)) (sk yE) ?_
    refine zx rfl rfl (fun hb=>zj rfl q8 (zn (gk yC) hb) rfl) (sk yG) ?_
    refine zx rfl rfl (fun hb=>zY rfl ty28 (zn (gk yr) hb) (zr rfl) (zb rfl)) (sk yN) ?_
    refine yn hF (fun v48 hv48 hF=>?_)
    refine ww rfl rfl (fun hb=>zE rfl rfl rfl (zo (zn (gk xl) hb) (zo (zn (gk yM) hb) zy)) (.cons (zb rfl) (.cons (zb rfl) .nil))) (fun hb=>ih (hv48 hb)) (sk yO) ?_
    refine zx rfl rfl (fun hb=>xV rfl (zn (gk yL) hb) rfl) (sk yT) ?_
    refine zq rfl rfl (zG rfl (gk yv) rfl (gk yQ) (zZ (fun ht=>gF ht))) (sk yZ) ?_
    refine yo ?_
    refine zi ?_
    refine zH (gk yY) hF (fun hc49 hF=>?_) (fun hc49 hF=>?_)
    ·refine zk (zd ?_)
     refine zc rfl (zg rfl rfl (zb rfl)) yD ?_
     refine zf (zi (zJ (zA ?_)))
     refine zF ?_
     refine zA ?_
     refine yf ?_
     obtain rfl:=Option.some.inj hF
     replace hF:=hK1
     refine zF ?_
     refine zA ?_
     obtain rfl:=Option.some.inj hF
     refine zB rfl (zC yv zD) (zz (leV.refl _) rfl ?_)
     exact ⟨rfl,rfl⟩
    ·refine zI (zi (zk (zd ?_)))
     refine zc rfl (zg rfl rfl (zb rfl)) xp ?_
     refine zf (zi (zO ?_))
     refine ym (fun (n2:Nat) (s2:Unit)=>yB [2,3,4,7,8,9,10,11,12,13,14,15,16,17,18,19,20,21,22,23,24,25,26,27,28,29,30,31,32,33,34,35,36,37,38,39,40,41,42,43,44,45,46,47,48,49,50,51,52,53,54,55,56,57,58,59,60,61,62,63,64,65,66,67,68,69,70,71,72,73,74,75,76,77,78,79,80,81,82,83,84,85] [(6,.int .i64 (n2:Int))]) (fun s2=>h.ext [] []) hF (fun _ _=>by simp only [yB,qw,List.set_cons_succ,List.set_cons_zero];try rfl) (wk.le (by exact (.eq (.eq (.drop (.drop (.drop (.eq (.cons (leV.of_eq rfl) (.d16 (.d16 (.d16 (.d16 (.d4 (.d4 (.d4 (.drop (.drop (.drop leL.nil))))))))))))))))))) ?_
     intro n2 s2 hi2 hF
     refine zk (zk (zd ?_))
     refine zc rfl (ze rfl yS (zb rfl)) (sk xd) ?_
     refine zc rfl (ze rfl yg (zb rfl)) (sk xi) ?_
     refine zc rfl (ze rfl yP (zb rfl)) (sk xA) ?_
     refine zc rfl (xO rfl xa (gk xh) (gk xz) wd (yA hx1) (GNode.row_eq _)) (sk xE) ?_
     refine zc rfl (zj rfl xX (gk xB) rfl) (sk xI) ?_
     refine zc rfl (zY rfl qk (gk xF) (zr rfl) (zb rfl)) (sk xD) ?_
     refine z7 rfl (zQ rfl rfl rfl rfl wr (gk xu) z0) (sk xM) fun hn59=>?_
     replace hn59:=xg hn59
     refine zc rfl (zu rfl (gk xb) (gk xN) rfl) (sk wa) ?_
     refine zf (zi ?_)
     refine yJ (gk x9) hF (fun x2 o2 hl2 hx2 hF hK2=>?_) (fun hF=>?_)
     ·refine zI (zi (zk (zO (zk ?_))))
      refine yI [16] [] trivial mixed (by kernel_rfl) ?_
      refine zq rfl rfl (ze rfl yg (zb rfl)) (sk wn) ?_
      refine zq rfl rfl (ze rfl yP (zb rfl)) (sk wD) ?_
      refine zq rfl rfl (xO rfl xa (gk wl) (gk wz) wd (yA hx1) (GNode.row_eq _)) (sk wC) ?_
      refine zq rfl rfl (zj rfl xX (gk wM) rfl) (sk wI) ?_
      refine zq rfl rfl (zY rfl qk (gk wL) (zr rfl) (zb rfl)) (sk wH) ?_
      refine zq rfl rfl (ze rfl yS (zb rfl)) (sk wP) ?_
      refine zq rfl rfl (yd rfl wr (gk wy) (gk wT) wd (yA hx2)) (sk wO) ?_
      refine zq rfl rfl (zY rfl ty58.choose_spec.1 (gk wK) (zL (cs':=[.int .u8 x2.typ,.int .i64 x2.n,.int .u64 x2.time,.int .u8 x2.dot.actor.rep,.int .u32 x2.dot.actor.inc,.int .u64 x2.dot.seq,.str x2.text,.sl 5 (x2.items.map GItem.row),.sl 3 (x2.tombs.map GDot.row)]) ty58.choose_spec.2 rfl rfl) (zb rfl)) (sk wN) ?_
      refine zq rfl rfl (ze rfl yw (zb rfl)) (sk wG) ?_
      refine zq rfl rfl (ze rfl yP (zb rfl)) (sk wF) ?_
      refine zS hF (fun y60 hy60 hF=>?_)
      refine zq rfl rfl (xO rfl xa (gk wu) (gk wJ) wd hy60 (GNode.row_eq _)) (sk wZ) ?_
      refine zq rfl rfl (zj rfl xX (gk w6) rfl) (sk wY) ?_
      refine zq rfl rfl (zY rfl qk (gk w5) (zr rfl) (zb rfl)) (sk (sk qP)) ?_
      refine zq rfl rfl (ze rfl yS (zb rfl)) (sk (sk qI)) ?_
      refine zS hF (fun y61 hy61 hF=>?_)
      refine zq rfl rfl (yd rfl wr (gk (gk yg)) (gk (gk yw)) wd hy61) (sk (sk yH)) ?_
      refine zq rfl rfl (zY rfl ty58.choose_spec.1 (gk (gk yz)) (zL (cs':=[.int .u8 y61.typ,.int .i64 y61.n,.int .u64 y61.time,.int .u8 y61.dot.actor.rep,.int .u32 y61.dot.actor.inc,.int .u64 y61.dot.seq,.str y61.text,.sl 5 (y61.items.map GItem.row),.sl 3 (y61.tombs.map GDot.row)]) ty58.choose_spec.2 rfl rfl) (zb rfl)) (sk (sk xS)) ?_
      refine zS hF (fun v62 hv62 hF=>?_)
      refine yW rfl rfl (fun _=>zE rfl rfl rfl (zo (gk wS) (zo (gk (gk yX)) zy)) (.cons (zb rfl) (.cons (zb rfl) .nil))) (by rintro _ ⟨B2,T2,rfl,hk2⟩;exact ok39 hv62) (sk (sk yD)) ?_
      refine zq rfl rfl (xV rfl (gk (gk yv)) rfl) (sk (sk xw)) ?_
      refine yo ?_
      refine zi ?_
      refine zH (gk (gk yP)) hF (fun hc63 hF=>?_) (fun hc63 hF=>?_)
      ·refine zk (zd ?_)
       refine zc rfl (zg rfl rfl (zb rfl)) yD ?_
       refine zf (zi (zJ ?_))
       refine zF ?_
       refine zA ?_
       refine yf ?_
       obtain rfl:=Option.some.inj hF
       replace hF:=hK2
       refine zF ?_
       refine zF ?_
       refine zA ?_
       refine yf ?_
       obtain rfl:=Option.some.inj hF
       replace hF:=hK1
       refine zF ?_
       refine zA ?_
       obtain rfl:=Option.some.inj hF
       refine zB rfl (zC yv zD) (zz (leV.refl _) rfl ?_)
       exact ⟨rfl,rfl⟩
      ·refine zI (yb (zi (zd ?_)))
       refine zc rfl (ze rfl yS (zb rfl)) (sk wi) ?_
       refine zc rfl (zu rfl (gk wh) rfl rfl) (sk wj) ?_
       refine zc rfl (zg rfl (gk wm) (zb rfl)) xp ?_
       refine zf (yu ?_)
       obtain rfl:=Option.some.inj hF
       exact ⟨(),hl2,hK2,wk.le (by exact (.eq (.eq (.drop (.drop (.drop (.eq (.cons (leV.of_eq (wx (by omega) (by omega))) (.d16 (.d16 (.d16 (.d16 (.d4 (.d4 (.d4 (.drop (.drop (.drop leL.nil))))))))))))))))))⟩
     ·refine yF ?_
      refine zX ?_
      refine zU ?_
      refine zV ?_
      refine yb (zi (zd ?_))
      refine zc rfl (ze rfl yP (zb rfl)) yT ?_
      refine zc rfl (zu rfl yQ rfl rfl) yZ ?_
      refine zc rfl (zg rfl yY (zb rfl)) xw ?_
      refine zf (yu ?_)
      obtain rfl:=Option.some.inj hF
      exact ⟨(),hl1,hK1,wk.le (by exact (.eq (.eq (.drop (.drop (.drop (.cons (leV.of_eq (wx (by omega) (by omega))) (.d16 (.d16 (.d16 (.d16 (.d16 leL.nil))))))))))))⟩
   ·refine yF ?_
    refine zX ?_
    refine zU ?_
    refine zV ?_
    refine zi (zk (zd ?_))
    refine zc rfl (zg rfl rfl (zb rfl)) yD ?_
    refine zf (zi (zJ ?_))
    obtain rfl:=Option.some.inj hF
    refine zB rfl (zC yv zD) (zz (leV.refl _) rfl ?_)
    exact ⟨rfl,rfl⟩
theorem ok16 {a0:(List GNode)} {b1:(List GNode)} {res:Bool} {h:AH}  (hF:ref07Same a0 b1=some res):Spec Tryz.prog 16 [.sl 3 (a0.map GNode.row),.sl 3 (b1.map GNode.row)] h (fun rr hh=>rr=.bool res∧hh=h):=by
 obtain ⟨n,hn⟩:=anyN_is hF
 exact ok16N n  hn
end Go.Vv
