/- Each function that the law reaches computes what its reading says; printed by a program. -/
import Derived.Test.YtomfgjifjecioaaGreatW3
namespace Go.Vv
open Go Go.Proofs
set_option maxRecDepth 100000
set_option maxHeartbeats 1000000
set_option linter.unusedSimpArgs false
set_option linter.unusedVariables false
/-! varve/diff.Patch -/
theorem ok8 {t0:(List GNode)} {l1:(List GEdit)} {res:((List GNode)×Int)} {h:AH}  (hF:qS t0 l1=some res):Spec Tryz.prog 8 [.sl 3 (t0.map GNode.row),.sl 22 (l1.map GEdit.row)] h (fun rr hh=>rr=.tup [.sl 3 (res.1.map GNode.row),.int .i64 res.2]∧hh=h):=by
 unfold qS at hF
 refine zt Tryz.func8 rfl (by kernel_rfl) (env:=[.sl 3 (t0.map GNode.row),.sl 22 (l1.map GEdit.row),za,za,za,za,za,za,za,za,za,za,za,za,za,za,za,za,za,za,za,za,za,za,za,za,za,za,za,za,za,za,za,za,za,za,za,za,za,za,za,za,za,za,za,za,za,za,za,za,za,za,za,za,za,za,za,za,za,za,za,za,za,za,za,za,za]) (by rfl) ?_
 refine zk (zd ?_)
 refine zc rfl (zi rfl rfl (xk xn)) yz ?_
 refine zc rfl (zi rfl rfl (zb rfl)) xy ?_
 refine ze (zj (zk (zk (zd ?_))))
 refine zc rfl (zf rfl yr (zb rfl)) yS ?_
 refine zO hF (fun v1 hv1 hF=>?_)
 refine zL rfl (zC rfl rfl rfl (zo yP zw) (.cons (zb rfl) .nil)) (ok14 hv1) yV ?_
 refine zc rfl (xT rfl yD rfl) y4 ?_
 refine zc rfl (zf rfl yX (zb rfl)) y8 ?_
 refine zp rfl (fun hb=>zf rfl yE (zb rfl)) xg ?_
 refine yQ hF (fun v2 hv2 hF=>?_)
 refine yj rfl (fun hb=>zC rfl rfl rfl (zo (zn xf hb) zw) (.cons (zb rfl) .nil)) (fun hb=>ok10 (hv2 hb)) xr ?_
 refine zp rfl (fun hb=>xT rfl (zn xp hb) rfl) xD ?_
 refine zc rfl (zM rfl yT rfl xB (z8 (fun ht=>gF ht))) xK ?_
 refine ze (zj ?_)
 refine zN xI hF (fun hc3 hF=>?_) (fun hc3 hF=>?_)
 ·refine zk (zd ?_)
  refine zc rfl (zi rfl rfl (xk xn)) yz ?_
  refine zc rfl (zi rfl rfl (zb rfl)) xy ?_
  refine ze (zj (zJ (zx ?_)))
  obtain rfl:=Option.some.inj hF
  refine qX rfl (zD ym (zD yM zF)) (zA (leV.tup (.cons (leV.osl _ _ _) (.eq leL.nil))) rfl ?_)
  exact ⟨rfl,rfl⟩
 ·refine zK (zj (zk (zd ?_)))
  refine zc rfl (zf rfl yr (zb rfl)) x9 ?_
  refine zc rfl (yu (es:=([([42,42]:zH)]:List zH).map zP) rfl wA ze9 rfl rfl (yg rfl yl) (.cons (zb rfl) .nil) rfl rfl rfl) wl ?_
  refine zO hF (fun v4 hv4 hF=>?_)
  refine zL rfl (zC rfl rfl rfl (zo x6 (zo wi zw)) (.cons (zb rfl) (.cons (zb rfl) .nil))) ((ok19 hv4).le (.eq (.cons (leV.osl _ _ _) leL.nil))) x8 ?_
  refine zc rfl (zf rfl xX (zb rfl)) x4 ?_
  refine zc rfl (yG rfl x5 rfl (zb rfl)) we ?_
  refine zc rfl (yG rfl x5 rfl (zb rfl)) wo ?_
  refine zc rfl (zi rfl wa (zb rfl)) xF ?_
  refine zc rfl (zi rfl wm (zb rfl)) xJ ?_
  refine ze (zj (zk (zk (zd ?_))))
  refine zc rfl (zf rfl yE (zb rfl)) wK ?_
  refine ya rfl (zR rfl rfl rfl rfl el26 wI yb) wR fun hn5=>?_
  replace hn5:=xu hn5
  refine zc rfl (zf rfl rfl (zb rfl)) wQ ?_
  refine ze (zj (zQ ?_))
  refine yv (fun (n1:Nat) (s1:(List GNode))=>yO [1,2,3,4,5,7,8,9,10,11,12,13,14,15,16,17,18,19,20,21,22,23,24,25,29,30,31,32,33,34,35,36,37,38,39,40,41,42,43,44,45,46,47,48,49,50,51,52,53,54,55,56,57,58,59,60,61,62,63,64,65,66] [(6,.sl 3 (s1.map GNode.row)),(28,.int .i64 (n1:Int))]) (fun s1=>h.ext [] []) hF (fun _ _=>by simp only [yO,upd,List.set_cons_succ,List.set_cons_zero];try rfl) (wk.le (by exact (.eq (.d4 (.drop (.cons (leV.of_eq rfl) (.d16 (.drop (.drop (.drop (.eq (.eq (.cons (leV.of_eq rfl) (.d16 (.d16 (.d4 (.drop (.drop leL.nil)))))))))))))))))) ?_
  intro n1 s1 hi1 hF
  refine zk (zd ?_)
  refine zc rfl (zy rfl wN wV rfl) w9 ?_
  refine ze (zj (zk ?_))
  refine yK vb hF (fun x1 o1 hl1 hx1 hF hK1=>?_) (fun hF=>?_)
  ·refine zK (zj (zk (zQ (zk (zd ?_)))))
   refine zc rfl (yk rfl el26 wI wN wZ (yL hx1)) w8 ?_
   refine zc rfl (yf rfl ty51.choose_spec.1 vm (zI (cs':=[.sl 1 (x1.path.map zP),.int .u8 x1.typ,.bool x1.had,.bool x1.has,.int .u8 x1.was.typ,.int .i64 x1.was.n,.int .u64 x1.was.time,.int .u8 x1.was.dot.actor.rep,.int .u32 x1.was.dot.actor.inc,.int .u64 x1.was.dot.seq,.str x1.was.text,.sl 5 (x1.was.items.map GItem.row),.sl 3 (x1.was.tombs.map GDot.row),.int .u8 x1.is.typ,.int .i64 x1.is.n,.int .u64 x1.is.time,.int .u8 x1.is.dot.actor.rep,.int .u32 x1.is.dot.actor.inc,.int .u64 x1.is.dot.seq,.str x1.is.text,.sl 5 (x1.is.items.map GItem.row),.sl 3 (x1.is.tombs.map GDot.row)]) ty51.choose_spec.2 rfl rfl) (zb rfl)) vh ?_
   refine zc rfl (xc (n:=0) rfl ze51 rfl) ww ?_
   refine zc rfl (ye (cs':=[.sl 1 (x1.path.map zP),.int .u8 x1.typ,.bool x1.had,.bool x1.has,.int .u8 x1.was.typ,.int .i64 x1.was.n,.int .u64 x1.was.time,.int .u8 x1.was.dot.actor.rep,.int .u32 x1.was.dot.actor.inc,.int .u64 x1.was.dot.seq,.str x1.was.text,.sl 5 (x1.was.items.map GItem.row),.sl 3 (x1.was.tombs.map GDot.row),.int .u8 x1.is.typ,.int .i64 x1.is.n,.int .u64 x1.is.time,.int .u8 x1.is.dot.actor.rep,.int .u32 x1.is.dot.actor.inc,.int .u64 x1.is.dot.seq,.str x1.is.text,.sl 5 (x1.is.items.map GItem.row),.sl 3 (x1.is.tombs.map GDot.row)]) rfl ty51.choose_spec.1 xQ vl (zb rfl) rfl rfl rfl rfl rfl) rfl ?_
   refine ze (zj (zk (zd ?_)))
   refine zc rfl (zf rfl yr (zb rfl)) vw ?_
   refine zc rfl (zg rfl fo51x0 xQ rfl) vu ?_
   refine zc rfl (zu rfl ty49 vj rfl (zr rfl) (zb rfl)) vt ?_
   refine zc rfl (zg rfl fo51x1 xQ rfl) vg ?_
   refine zc rfl (zu rfl ty5 va rfl (zr rfl) (zb rfl)) vr ?_
   refine zO hF (fun v14 hv14 hF=>?_)
   refine zL rfl (zC rfl rfl rfl (zo vC (zo vB (zo vA zw))) (.cons (zb rfl) (.cons (zb rfl) (.cons (zb rfl) .nil)))) (ok20 hv14) vK ?_
   refine zc rfl (zf rfl vO (zb rfl)) vz ?_
   refine zc rfl (yG rfl vk rfl (zb rfl)) vJ ?_
   refine zc rfl (yG rfl vk rfl (zb rfl)) (sk st0) ?_
   refine zc rfl (xc (n:=1) rfl ze45 rfl) yI ?_
   refine zc rfl (ye (cs':=[.int .u8 v14.1.typ,.int .i64 v14.1.n,.int .u64 v14.1.time,.int .u8 v14.1.dot.actor.rep,.int .u32 v14.1.dot.actor.inc,.int .u64 v14.1.dot.seq,.str v14.1.text,.sl 5 (v14.1.items.map GItem.row),.sl 3 (v14.1.tombs.map GDot.row)]) rfl ty45.choose_spec.1 yB vG (zb rfl) rfl rfl rfl rfl rfl) rfl ?_
   refine zc rfl (zi rfl (gk yr) (zb rfl)) yN ?_
   refine ze (zj (zk (zk (zd ?_))))
   refine zc rfl (zf rfl yA (zb rfl)) (sk st1) ?_
   refine zc rfl (zg rfl fo51x2 xQ rfl) (sk xe) ?_
   refine zc rfl (zu rfl ty4 (gk yW) rfl (zr rfl) (zb rfl)) (sk wd) ?_
   refine zc rfl (zy rfl (gk yE) (gk xw) (bin_boolN ty4)) (sk yz) ?_
   refine zc rfl (zf rfl (gk ym) (zb rfl)) (sk xy) ?_
   refine zp rfl (fun hb=>zf rfl yA (zb rfl)) (sk xF) ?_
   refine zp rfl (fun hb=>zf rfl (zn (gk yU) hb) (zb rfl)) (sk xJ) ?_
   refine zp (z7 rfl rfl rfl) (fun hb=>zu rfl ty45.choose_spec.1 yB rfl (zI (cs':=[.int .u8 v14.1.typ,.int .i64 v14.1.n,.int .u64 v14.1.time,.int .u8 v14.1.dot.actor.rep,.int .u32 v14.1.dot.actor.inc,.int .u64 v14.1.dot.seq,.str v14.1.text,.sl 5 (v14.1.items.map GItem.row),.sl 3 (v14.1.tombs.map GDot.row)]) ty45.choose_spec.2 rfl rfl) (zb rfl)) (sk xP) ?_
   refine zp (z7 rfl rfl rfl) (fun hb=>zg rfl fo51x4 xQ rfl) (sk ww) ?_
   refine zp (z7 rfl rfl rfl) (fun hb=>zu rfl ty45.choose_spec.1 (zn (gk xQ) hb) rfl (zI (cs':=[.int .u8 x1.was.typ,.int .i64 x1.was.n,.int .u64 x1.was.time,.int .u8 x1.was.dot.actor.rep,.int .u32 x1.was.dot.actor.inc,.int .u64 x1.was.dot.seq,.str x1.was.text,.sl 5 (x1.was.items.map GItem.row),.sl 3 (x1.was.tombs.map GDot.row)]) ty45.choose_spec.2 rfl rfl) (zb rfl)) (sk yI) ?_
   refine yQ hF (fun v15 hv15 hF=>?_)
   refine yj (z7 rfl rfl rfl) (fun hb=>zC rfl rfl rfl (zo (zn (gk xl) hb) (zo (zn (gk yB) hb) zw)) (.cons (zb rfl) (.cons (zb rfl) .nil))) (fun hb=>ok21 (hv15 hb)) (sk yN) ?_
   refine zp (z7 rfl rfl rfl) (fun hb=>xT rfl (zn (gk yA) hb) rfl) (sk yS) ?_
   refine zp rfl (fun hb=>zM rfl (zn (gk xC) hb) (gk yP) rfl (zX (fun ht=>gT2 hb ht))) (sk yV) ?_
   refine zc rfl (zM rfl (gk yM) rfl (gk yD) (z8 (fun ht=>gF ht))) (sk y4) ?_
   refine ze (zj ?_)
   refine zN (gk yX) hF (fun hc16 hF=>?_) (fun hc16 hF=>?_)
   ·refine zk (zd ?_)
    refine zc rfl (zi rfl rfl (xk xn)) yz ?_
    refine zc rfl (zi rfl rfl (zb rfl)) xy ?_
    refine ze (zj (zJ (zx ?_)))
    refine zG ?_
    refine zx ?_
    refine yd ?_
    obtain rfl:=Option.some.inj hF
    replace hF:=hK1
    refine zG ?_
    refine zx ?_
    obtain rfl:=Option.some.inj hF
    refine qX rfl (zD ym (zD yM zF)) (zA (leV.tup (.cons (leV.osl _ _ _) (.eq leL.nil))) rfl ?_)
    exact ⟨rfl,rfl⟩
   ·refine zK (zj (zd ?_))
    refine zc rfl (zf rfl yU (zb rfl)) (sk y8) ?_
    refine zc rfl (zg rfl fo51x0 xQ rfl) (sk xg) ?_
    refine zc rfl (zu rfl ty49 (gk xf) rfl (zr rfl) (zb rfl)) (sk xr) ?_
    refine zc rfl (zg rfl fo51x1 xQ rfl) (sk xD) ?_
    refine zc rfl (zu rfl ty5 (gk xB) rfl (zr rfl) (zb rfl)) (sk xK) ?_
    refine zc rfl (zg rfl fo51x5 xQ rfl) (sk x4) ?_
    refine zc rfl (zu rfl ty45.choose_spec.1 (gk x5) rfl (zI (cs':=[.int .u8 x1.is.typ,.int .i64 x1.is.n,.int .u64 x1.is.time,.int .u8 x1.is.dot.actor.rep,.int .u32 x1.is.dot.actor.inc,.int .u64 x1.is.dot.seq,.str x1.is.text,.sl 5 (x1.is.items.map GItem.row),.sl 3 (x1.is.tombs.map GDot.row)]) ty45.choose_spec.2 rfl rfl) (zb rfl)) (sk x9) ?_
    refine zc rfl (zg rfl fo51x3 xQ rfl) (sk wl) ?_
    refine zc rfl (zu rfl ty4 (gk wi) rfl (zr rfl) (zb rfl)) (sk x8) ?_
    refine zO hF (fun v17 hv17 hF=>?_)
    refine zL rfl (zC rfl rfl rfl (zo (gk yT) (zo (gk xp) (zo (gk xI) (zo (gk x6) (zo (gk xX) zw))))) (.cons (zb rfl) (.cons (zb rfl) (.cons (zb rfl) (.cons (zb rfl) (.cons (zb rfl) .nil)))))) (ok22 hv17) (sk we) ?_
    refine zc rfl (zi rfl (gk wa) (zb rfl)) xF ?_
    refine ze (yh (zj (zd ?_)))
    refine zc rfl (zy rfl wN rfl rfl) (sk wo) ?_
    refine zc rfl (zf rfl (gk wm) (zb rfl)) wQ ?_
    refine ze (yH ?_)
    obtain rfl:=Option.some.inj hF
    exact ⟨v17,hl1,hK1,wk.trans (wk.le (by exact (.eq (.d4 (.drop (.cons (leV.of_eq rfl) (.d16 (.drop (.drop (.drop (.eq (.eq (.cons (leV.of_eq (vf (by omega) (by omega))) (.d16 (.d16 (.d4 (.drop (.drop leL.nil)))))))))))))))))) (xN (by simp [yi,AV.low]) rfl rfl (by simp [Blk.low,yi,AV.low]))⟩
  ·refine yR ?_
   refine zZ ?_
   refine zU ?_
   refine zV ?_
   refine zj (zk (zd ?_))
   refine zc rfl (zf rfl yU (zb rfl)) (sk wK) ?_
   refine zc rfl (zi rfl (gk wI) (zb rfl)) yz ?_
   refine zc rfl (zi rfl rfl (zb rfl)) xy ?_
   refine ze (zj (zJ ?_))
   obtain rfl:=Option.some.inj hF
   refine qX rfl (zD ym (zD yM zF)) (zA (leV.refl _) rfl ?_)
   exact ⟨rfl,rfl⟩
/-! varve/diff.Turn -/
theorem ok9 {l0:(List GEdit)} {res:(List GEdit)} {h:AH}  (hF:diffTurn l0=some res):Spec Tryz.prog 9 [.sl 22 (l0.map GEdit.row)] h (fun rr hh=>rr=.sl 22 (res.map GEdit.row)∧hh=h):=by
 unfold diffTurn at hF
 refine zt Tryz.func9 rfl (by kernel_rfl) (env:=[.sl 22 (l0.map GEdit.row),za,za,za,za,za,za,za,za,za,za,za,za,za,za,za,za,za,za,za,za,za,za,za,za,za,za,za,za,za,za]) (by rfl) ?_
 refine zk (zd ?_)
 refine zc rfl (zi rfl rfl (xk el26)) xe ?_
 refine ze (zj (zk (zk (zd ?_))))
 refine zc rfl (zf rfl yr (zb rfl)) xy ?_
 refine ya rfl (zR rfl rfl rfl rfl el26 yM yb) xF fun hn1=>?_
 replace hn1:=xu hn1
 refine zc rfl (zf rfl rfl (zb rfl)) xJ ?_
 refine ze (zj (zQ ?_))
 refine yv (fun (n1:Nat) (s1:(List GEdit))=>yO [0,1,3,4,8,9,10,11,12,13,14,15,16,17,18,19,20,21,22,23,24,25,26,27,28,29,30] [(2,.osl (some (h.toks.length+0)) 22 (s1.map GEdit.row)),(7,.int .i64 (n1:Int))]) (fun s1=>h.ext [] [(s1).length]) hF (fun _ _=>by simp only [yO,upd,List.set_cons_succ,List.set_cons_zero];try rfl) (wk.trans (wk_tok yW rfl xe rfl) (wk.le (by exact (.drop (.drop (.cons (leV.of_eq rfl) (.drop (.drop (.eq (.eq (.cons (leV.of_eq rfl) (.d16 (.d4 (.drop (.drop (.drop leL.nil)))))))))))))))) ?_
 intro n1 s1 hi1 hF
 refine zk (zd ?_)
 refine zc rfl (zy rfl xC yU rfl) xP ?_
 refine ze (zj (zk ?_))
 refine yK xl hF (fun x1 o1 hl1 hx1 hF hK1=>?_) (fun hF=>?_)
 ·refine zK (zj (zk (zQ (zk (zd ?_)))))
  refine zc rfl (yk rfl el26 yM xC wZ (yL hx1)) ww ?_
  refine zc rfl (yf rfl ty51.choose_spec.1 xQ (zI (cs':=[.sl 1 (x1.path.map zP),.int .u8 x1.typ,.bool x1.had,.bool x1.has,.int .u8 x1.was.typ,.int .i64 x1.was.n,.int .u64 x1.was.time,.int .u8 x1.was.dot.actor.rep,.int .u32 x1.was.dot.actor.inc,.int .u64 x1.was.dot.seq,.str x1.was.text,.sl 5 (x1.was.items.map GItem.row),.sl 3 (x1.was.tombs.map GDot.row),.int .u8 x1.is.typ,.int .i64 x1.is.n,.int .u64 x1.is.time,.int .u8 x1.is.dot.actor.rep,.int .u32 x1.is.dot.actor.inc,.int .u64 x1.is.dot.seq,.str x1.is.text,.sl 5 (x1.is.items.map GItem.row),.sl 3 (x1.is.tombs.map GDot.row)]) ty51.choose_spec.2 rfl rfl) (zb rfl)) yI ?_
  refine zc rfl (xc (n:=0) rfl ze51 rfl) yz ?_
  refine zc rfl (ye (cs':=[.sl 1 (x1.path.map zP),.int .u8 x1.typ,.bool x1.had,.bool x1.has,.int .u8 x1.was.typ,.int .i64 x1.was.n,.int .u64 x1.was.time,.int .u8 x1.was.dot.actor.rep,.int .u32 x1.was.dot.actor.inc,.int .u64 x1.was.dot.seq,.str x1.was.text,.sl 5 (x1.was.items.map GItem.row),.sl 3 (x1.was.tombs.map GDot.row),.int .u8 x1.is.typ,.int .i64 x1.is.n,.int .u64 x1.is.time,.int .u8 x1.is.dot.actor.rep,.int .u32 x1.is.dot.actor.inc,.int .u64 x1.is.dot.seq,.str x1.is.text,.sl 5 (x1.is.items.map GItem.row),.sl 3 (x1.is.tombs.map GDot.row)]) rfl ty51.choose_spec.1 ym yB (zb rfl) rfl rfl rfl rfl rfl) rfl ?_
  refine ze (zj (zk (zd ?_)))
  refine zc rfl (zu rfl ty51.choose_spec.1 ym rfl (zI (cs':=[.sl 1 (x1.path.map zP),.int .u8 x1.typ,.bool x1.had,.bool x1.has,.int .u8 x1.was.typ,.int .i64 x1.was.n,.int .u64 x1.was.time,.int .u8 x1.was.dot.actor.rep,.int .u32 x1.was.dot.actor.inc,.int .u64 x1.was.dot.seq,.str x1.was.text,.sl 5 (x1.was.items.map GItem.row),.sl 3 (x1.was.tombs.map GDot.row),.int .u8 x1.is.typ,.int .i64 x1.is.n,.int .u64 x1.is.time,.int .u8 x1.is.dot.actor.rep,.int .u32 x1.is.dot.actor.inc,.int .u64 x1.is.dot.seq,.str x1.is.text,.sl 5 (x1.is.items.map GItem.row),.sl 3 (x1.is.tombs.map GDot.row)]) ty51.choose_spec.2 rfl rfl) (zb rfl)) yN ?_
  refine zO hF (fun v8 hv8 hF=>?_)
  refine zL rfl (zC rfl rfl rfl (zo yA zw) (.cons (zb rfl) .nil)) (ok23 hv8) yS ?_
  refine zc rfl (ye (cs':=[.sl 1 (v8.path.map zP),.int .u8 v8.typ,.bool v8.had,.bool v8.has,.int .u8 v8.was.typ,.int .i64 v8.was.n,.int .u64 v8.was.time,.int .u8 v8.was.dot.actor.rep,.int .u32 v8.was.dot.actor.inc,.int .u64 v8.was.dot.seq,.str v8.was.text,.sl 5 (v8.was.items.map GItem.row),.sl 3 (v8.was.tombs.map GDot.row),.int .u8 v8.is.typ,.int .i64 v8.is.n,.int .u64 v8.is.time,.int .u8 v8.is.dot.actor.rep,.int .u32 v8.is.dot.actor.inc,.int .u64 v8.is.dot.seq,.str v8.is.text,.sl 5 (v8.is.items.map GItem.row),.sl 3 (v8.is.tombs.map GDot.row)]) rfl ty51.choose_spec.1 ym yP (zb rfl) rfl rfl rfl rfl rfl) rfl ?_
  refine ze (zj (zk (zd ?_)))
  refine zc rfl (zg rfl fo51x3 ym rfl) yV ?_
  refine zc rfl (zu rfl ty4 yD rfl (zr rfl) (zb rfl)) y4 ?_
  refine zc rfl (zg rfl fo51x2 ym rfl) y8 ?_
  refine zc rfl (zu rfl ty4 yT rfl (zr rfl) (zb rfl)) xg ?_
  refine zc rfl (zg rfl fo51x5 ym rfl) xr ?_
  refine zc rfl (zu rfl ty45.choose_spec.1 xp rfl (zI (cs':=[.int .u8 v8.is.typ,.int .i64 v8.is.n,.int .u64 v8.is.time,.int .u8 v8.is.dot.actor.rep,.int .u32 v8.is.dot.actor.inc,.int .u64 v8.is.dot.seq,.str v8.is.text,.sl 5 (v8.is.items.map GItem.row),.sl 3 (v8.is.tombs.map GDot.row)]) ty45.choose_spec.2 rfl rfl) (zb rfl)) xD ?_
  refine zc rfl (zg rfl fo51x4 ym rfl) xK ?_
  refine zc rfl (zu rfl ty45.choose_spec.1 xI rfl (zI (cs':=[.int .u8 v8.was.typ,.int .i64 v8.was.n,.int .u64 v8.was.time,.int .u8 v8.was.dot.actor.rep,.int .u32 v8.was.dot.actor.inc,.int .u64 v8.was.dot.seq,.str v8.was.text,.sl 5 (v8.was.items.map GItem.row),.sl 3 (v8.was.tombs.map GDot.row)]) ty45.choose_spec.2 rfl rfl) (zb rfl)) x4 ?_
  refine zc rfl (zg rfl fo51x2 ym rfl) x9 ?_
  refine zc rfl (ye (cs':=[.sl 1 (v8.path.map zP),.int .u8 v8.typ,.bool v8.has,.bool v8.has,.int .u8 v8.was.typ,.int .i64 v8.was.n,.int .u64 v8.was.time,.int .u8 v8.was.dot.actor.rep,.int .u32 v8.was.dot.actor.inc,.int .u64 v8.was.dot.seq,.str v8.was.text,.sl 5 (v8.was.items.map GItem.row),.sl 3 (v8.was.tombs.map GDot.row),.int .u8 v8.is.typ,.int .i64 v8.is.n,.int .u64 v8.is.time,.int .u8 v8.is.dot.actor.rep,.int .u32 v8.is.dot.actor.inc,.int .u64 v8.is.dot.seq,.str v8.is.text,.sl 5 (v8.is.items.map GItem.row),.sl 3 (v8.is.tombs.map GDot.row)]) rfl ty4 x6 yX (zb rfl) rfl rfl rfl rfl rfl) rfl ?_
  refine zc rfl (zg rfl fo51x3 ym rfl) wl ?_
  refine zc rfl (ye (cs':=[.sl 1 (v8.path.map zP),.int .u8 v8.typ,.bool v8.has,.bool v8.had,.int .u8 v8.was.typ,.int .i64 v8.was.n,.int .u64 v8.was.time,.int .u8 v8.was.dot.actor.rep,.int .u32 v8.was.dot.actor.inc,.int .u64 v8.was.dot.seq,.str v8.was.text,.sl 5 (v8.was.items.map GItem.row),.sl 3 (v8.was.tombs.map GDot.row),.int .u8 v8.is.typ,.int .i64 v8.is.n,.int .u64 v8.is.time,.int .u8 v8.is.dot.actor.rep,.int .u32 v8.is.dot.actor.inc,.int .u64 v8.is.dot.seq,.str v8.is.text,.sl 5 (v8.is.items.map GItem.row),.sl 3 (v8.is.tombs.map GDot.row)]) rfl ty4 wi xf (zb rfl) rfl rfl rfl rfl rfl) rfl ?_
  refine zc rfl (zg rfl fo51x4 ym rfl) x8 ?_
  refine zc rfl (ye (cs':=[.sl 1 (v8.path.map zP),.int .u8 v8.typ,.bool v8.has,.bool v8.had,.int .u8 v8.is.typ,.int .i64 v8.is.n,.int .u64 v8.is.time,.int .u8 v8.is.dot.actor.rep,.int .u32 v8.is.dot.actor.inc,.int .u64 v8.is.dot.seq,.str v8.is.text,.sl 5 (v8.is.items.map GItem.row),.sl 3 (v8.is.tombs.map GDot.row),.int .u8 v8.is.typ,.int .i64 v8.is.n,.int .u64 v8.is.time,.int .u8 v8.is.dot.actor.rep,.int .u32 v8.is.dot.actor.inc,.int .u64 v8.is.dot.seq,.str v8.is.text,.sl 5 (v8.is.items.map GItem.row),.sl 3 (v8.is.tombs.map GDot.row)]) rfl ty45.choose_spec.1 xX xB (zb rfl) rfl rfl rfl rfl rfl) rfl ?_
  refine zc rfl (zg rfl fo51x5 ym rfl) we ?_
  refine zc rfl (ye (cs':=[.sl 1 (v8.path.map zP),.int .u8 v8.typ,.bool v8.has,.bool v8.had,.int .u8 v8.is.typ,.int .i64 v8.is.n,.int .u64 v8.is.time,.int .u8 v8.is.dot.actor.rep,.int .u32 v8.is.dot.actor.inc,.int .u64 v8.is.dot.seq,.str v8.is.text,.sl 5 (v8.is.items.map GItem.row),.sl 3 (v8.is.tombs.map GDot.row),.int .u8 v8.was.typ,.int .i64 v8.was.n,.int .u64 v8.was.time,.int .u8 v8.was.dot.actor.rep,.int .u32 v8.was.dot.actor.inc,.int .u64 v8.was.dot.seq,.str v8.was.text,.sl 5 (v8.was.items.map GItem.row),.sl 3 (v8.was.tombs.map GDot.row)]) rfl ty45.choose_spec.1 wa x5 (zb rfl) rfl rfl rfl rfl rfl) rfl ?_
  refine ze (zj (zd ?_))
  refine zc rfl (zf rfl yW (zb rfl)) wo ?_
  refine zc rfl (zu rfl ty51.choose_spec.1 ym rfl (zI (cs':=[.sl 1 (v8.path.map zP),.int .u8 v8.typ,.bool v8.has,.bool v8.had,.int .u8 v8.is.typ,.int .i64 v8.is.n,.int .u64 v8.is.time,.int .u8 v8.is.dot.actor.rep,.int .u32 v8.is.dot.actor.inc,.int .u64 v8.is.dot.seq,.str v8.is.text,.sl 5 (v8.is.items.map GItem.row),.sl 3 (v8.is.tombs.map GDot.row),.int .u8 v8.was.typ,.int .i64 v8.was.n,.int .u64 v8.was.time,.int .u8 v8.was.dot.actor.rep,.int .u32 v8.was.dot.actor.inc,.int .u64 v8.was.dot.seq,.str v8.was.text,.sl 5 (v8.was.items.map GItem.row),.sl 3 (v8.was.tombs.map GDot.row)]) ty51.choose_spec.2 rfl rfl) (zb rfl)) wK ?_
  refine zc rfl (yu (es:=([(GEdit.mk v8.path v8.typ v8.has v8.had v8.is v8.was)]:List GEdit).map GEdit.row) rfl el26 ze51 rfl rfl (yg wI yl) (.cons (zb rfl) .nil) rfl rfl rfl) wR ?_
  refine wC hF (fun hm9 hF=>?_)
  refine zc rfl (e_appT (j:=0) (T':=[((s1++([(GEdit.mk v8.path v8.typ v8.has v8.had v8.is v8.was)]:List GEdit))).length]) rfl rfl rfl rfl el26 el26 wm wV (zb rfl) (zb rfl) qZ hm9 rfl rfl) wQ ?_
  refine zc rfl (zi rfl wN (zb rfl)) xe ?_
  refine ze (yh (zj (zd ?_)))
  refine zc rfl (zy rfl xC rfl rfl) w9 ?_
  refine zc rfl (zf rfl vb (zb rfl)) xJ ?_
  refine ze (yH ?_)
  obtain rfl:=Option.some.inj hF
  exact ⟨(s1++([(GEdit.mk v8.path v8.typ v8.has v8.had v8.is v8.was)]:List GEdit)),hl1,hK1,wk.trans (wk.le (by exact (.drop (.drop (.cons (leV.of_eq rfl) (.drop (.drop (.eq (.eq (.cons (leV.of_eq (vf (by omega) (by omega))) (.d16 (.d4 (.drop (.drop (.drop leL.nil))))))))))))))) (xN (by simp [yi,AV.low]) rfl rfl (by simp [Blk.low,yi,AV.low]))⟩
 ·refine yR ?_
  refine zZ ?_
  refine zU ?_
  refine zV ?_
  refine zj (zk (zd ?_))
  refine zc rfl (zf rfl yW (zb rfl)) w8 ?_
  refine zc rfl (zi rfl vm (zb rfl)) xe ?_
  refine ze (zj (zJ ?_))
  obtain rfl:=Option.some.inj hF
  refine zz rfl (zD yW zF) (zA (leV.osl _ _ _) rfl ?_)
  exact ⟨rfl,rfl⟩
/-! varve/varveref05.Same -/
theorem ok27 {a0:GLeaf} {b1:GLeaf} {res:Bool} {h:AH}  (hF:qm a0 b1=some res):Spec Tryz.prog 27 [.agg [.int .u8 a0.typ,.int .i64 a0.n,.int .u64 a0.time,.int .u8 a0.dot.actor.rep,.int .u32 a0.dot.actor.inc,.int .u64 a0.dot.seq,.str a0.text,.sl 5 (a0.items.map GItem.row),.sl 3 (a0.tombs.map GDot.row)],.agg [.int .u8 b1.typ,.int .i64 b1.n,.int .u64 b1.time,.int .u8 b1.dot.actor.rep,.int .u32 b1.dot.actor.inc,.int .u64 b1.dot.seq,.str b1.text,.sl 5 (b1.items.map GItem.row),.sl 3 (b1.tombs.map GDot.row)]] h (fun rr hh=>rr=.bool res∧hh=h):=by
 unfold qm at hF
 refine zt Tryz.func27 rfl (by kernel_rfl) (env:=[.agg [.int .u8 a0.typ,.int .i64 a0.n,.int .u64 a0.time,.int .u8 a0.dot.actor.rep,.int .u32 a0.dot.actor.inc,.int .u64 a0.dot.seq,.str a0.text,.sl 5 (a0.items.map GItem.row),.sl 3 (a0.tombs.map GDot.row)],.agg [.int .u8 b1.typ,.int .i64 b1.n,.int .u64 b1.time,.int .u8 b1.dot.actor.rep,.int .u32 b1.dot.actor.inc,.int .u64 b1.dot.seq,.str b1.text,.sl 5 (b1.items.map GItem.row),.sl 3 (b1.tombs.map GDot.row)],za,za,za,za,za,za,za,za,za,za,za,za,za,za,za,za,za,za,za,za,za,za,za,za,za,za,za,za,za,za,za,za,za,za,za,za,za,za,za,za,za,za,za,za,za,za,za,za,za,za,za,za,za,za,za,za,za,za,za,za,za,za,za,za,za,za,za,za,za,za,za,za,za,za,za,za,za,za,za,za,za,za,za,za,za,za,za,za,za,za,za,za]) (by rfl) ?_
 refine zk (zd ?_)
 refine zc rfl (xq (n:=0) rfl yr (zb rfl) rfl rfl) xe ?_
 refine zc rfl (xq (n:=1) rfl yE (zb rfl) rfl rfl) wd ?_
 refine zc rfl (zi rfl rfl (zb rfl)) yz ?_
 refine ze (zj (zk (zk (zd ?_))))
 refine zc rfl (zg rfl xV yW rfl) xJ ?_
 refine zc rfl (zu rfl ty5 xC rfl (zr rfl) (zb rfl)) xP ?_
 refine zc rfl (zg rfl xV xw rfl) ww ?_
 refine zc rfl (zu rfl ty5 xQ rfl (zr rfl) (zb rfl)) yI ?_
 refine zc rfl (zy rfl xl yB rfl) yN ?_
 refine zc rfl (zf rfl yA (zb rfl)) yS ?_
 refine zp rfl (fun hb=>zg rfl fo45x1 yW rfl) yV ?_
 refine zp rfl (fun hb=>zu rfl ty2 (zn yD hb) rfl (zr rfl) (zb rfl)) y4 ?_
 refine zp rfl (fun hb=>zg rfl fo45x1 xw rfl) y8 ?_
 refine zp rfl (fun hb=>zu rfl ty2 (zn yT hb) rfl (zr rfl) (zb rfl)) xg ?_
 refine zp rfl (fun hb=>zy rfl (zn yX hb) (zn xf hb) rfl) xr ?_
 refine zc rfl (zM rfl yP rfl xp (z8 (fun ht=>gF ht))) xD ?_
 refine zc rfl (zf rfl xB (zb rfl)) xK ?_
 refine zp rfl (fun hb=>zg rfl fo45x2 yW rfl) x4 ?_
 refine zp rfl (fun hb=>zu rfl qW (zn x5 hb) rfl (zr rfl) (zb rfl)) x9 ?_
 refine zp rfl (fun hb=>zg rfl fo45x2 xw rfl) wl ?_
 refine zp rfl (fun hb=>zu rfl qW (zn wi hb) rfl (zr rfl) (zb rfl)) x8 ?_
 refine zp rfl (fun hb=>zy rfl (zn x6 hb) (zn xX hb) rfl) we ?_
 refine zc rfl (zM rfl xI rfl wa (z8 (fun ht=>gF ht))) wo ?_
 refine zc rfl (zf rfl wm (zb rfl)) wK ?_
 refine zp rfl (fun hb=>zg rfl fo45x3 yW rfl) wR ?_
 refine zp rfl (fun hb=>zu rfl ty41.choose_spec.1 (zn wV hb) rfl (zI (cs':=[.int .u8 a0.dot.actor.rep,.int .u32 a0.dot.actor.inc,.int .u64 a0.dot.seq]) ty41.choose_spec.2 rfl rfl) (zb rfl)) wQ ?_
 refine zp rfl (fun hb=>zg rfl fo45x3 xw rfl) w9 ?_
 refine zp rfl (fun hb=>zu rfl ty41.choose_spec.1 (zn vb hb) rfl (zI (cs':=[.int .u8 b1.dot.actor.rep,.int .u32 b1.dot.actor.inc,.int .u64 b1.dot.seq]) ty41.choose_spec.2 rfl rfl) (zb rfl)) w8 ?_
 refine zp rfl (fun hb=>zy rfl (zn wN hb) (zn vm hb) (bin_ne pk41 rfl)) vh ?_
 refine zc rfl (zM rfl wI rfl vl (z8 (fun ht=>gF ht))) vz ?_
 refine zc rfl (zf rfl vk (zb rfl)) vw ?_
 refine zp rfl (fun hb=>zg rfl fo45x4 yW rfl) vu ?_
 refine zp rfl (fun hb=>zu rfl ty9 (zn vj hb) rfl (zr rfl) (zb rfl)) vt ?_
 refine zp rfl (fun hb=>zg rfl fo45x4 xw rfl) vg ?_
 refine zp rfl (fun hb=>zu rfl ty9 (zn va hb) rfl (zr rfl) (zb rfl)) vr ?_
 refine zp rfl (fun hb=>zy rfl (zn vB hb) (zn vA hb) rfl) vK ?_
 refine zc rfl (zM rfl vC rfl vO (z8 (fun ht=>gF ht))) vJ ?_
 refine zc rfl (zf rfl vG (zb rfl)) (sk st0) ?_
 refine zp rfl (fun hb=>zg rfl xO yW rfl) (sk st1) ?_
 refine zp rfl (fun hb=>zu rfl qU (zn (gk yE) hb) rfl (zr rfl) (zb rfl)) (sk xe) ?_
 refine xA rfl (fun hb=>zR rfl rfl rfl rfl vW (zn (gk yW) hb) yb) (sk wd) fun hn1=>?_
 refine zp rfl (fun hb=>zg rfl xO xw rfl) (sk yz) ?_
 refine zp rfl (fun hb=>zu rfl qU (zn (gk ym) hb) rfl (zr rfl) (zb rfl)) (sk xy) ?_
 refine xA rfl (fun hb=>zR rfl rfl rfl rfl vW (zn (gk yM) hb) yb) (sk xF) fun hn2=>?_
 refine zp rfl (fun hb=>zy rfl (zn (gk xw) hb) (zn (gk yU) hb) rfl) (sk xJ) ?_
 refine zc rfl (zM rfl (gk yr) rfl (gk xC) (z8 (fun ht=>gF ht))) (sk xP) ?_
 refine zc rfl (zf rfl (gk xl) (zb rfl)) (sk ww) ?_
 refine zp rfl (fun hb=>zg rfl wj yW rfl) (sk yI) ?_
 refine zp rfl (fun hb=>zu rfl ty43 (zn (gk yB) hb) rfl (zr rfl) (zb rfl)) (sk yN) ?_
 refine xA rfl (fun hb=>zR rfl rfl rfl rfl el43 (zn (gk yA) hb) yb) (sk yS) fun hn3=>?_
 refine zp rfl (fun hb=>zg rfl wj xw rfl) (sk yV) ?_
 refine zp rfl (fun hb=>zu rfl ty43 (zn (gk yD) hb) rfl (zr rfl) (zb rfl)) (sk y4) ?_
 refine xA rfl (fun hb=>zR rfl rfl rfl rfl el43 (zn (gk yX) hb) yb) (sk y8) fun hn4=>?_
 refine zp rfl (fun hb=>zy rfl (zn (gk yP) hb) (zn (gk yT) hb) rfl) (sk xg) ?_
 refine zc rfl (zM rfl (gk xQ) rfl (gk xf) (z8 (fun ht=>gF ht))) (sk xr) ?_
 refine ze (zj ?_)
 refine zN (gk xp) hF (fun hc5 hF=>?_) (fun hc5 hF=>?_)
 ·refine zk (zd ?_)
  refine zc rfl (zi rfl rfl (zb rfl)) yz ?_
  refine ze (zj (zJ (zx ?_)))
  obtain rfl:=Option.some.inj hF
  refine zz rfl (zD ym zF) (zA (leV.refl _) rfl ?_)
  exact ⟨rfl,rfl⟩
 ·refine zK (zj (zk (zk (zd ?_))))
  refine zc rfl (zi rfl rfl (zb rfl)) xy ?_
  refine ze (zj (zQ ?_))
  refine yv (fun (n1:Nat) (s1:Unit)=>yO [0,1,4,6,7,8,9,10,11,12,13,14,15,16,17,18,19,20,21,22,23,24,25,26,27,28,29,30,31,32,33,34,35,36,37,38,39,40,41,42,43,44,45,46,47,48,49,50,51,52,53,54,55,56,57,58,59,60,61,62,63,64,65,66,67,68,69,70,71,72,73,74,75,76,77,78,79,80,81,82,83,84,85,86,87,88,89,90,91,92,93] [(5,.int .i64 (n1:Int))]) (fun s1=>h.ext [.cells [.int .u8 a0.typ,.int .i64 a0.n,.int .u64 a0.time,.int .u8 a0.dot.actor.rep,.int .u32 a0.dot.actor.inc,.int .u64 a0.dot.seq,.str a0.text,.sl 5 (a0.items.map GItem.row),.sl 3 (a0.tombs.map GDot.row)],.cells [.int .u8 b1.typ,.int .i64 b1.n,.int .u64 b1.time,.int .u8 b1.dot.actor.rep,.int .u32 b1.dot.actor.inc,.int .u64 b1.dot.seq,.str b1.text,.sl 5 (b1.items.map GItem.row),.sl 3 (b1.tombs.map GDot.row)]] []) hF (fun _ _=>by simp only [yO,upd,List.set_cons_succ,List.set_cons_zero];try rfl) (wk.le (by exact (.drop (.drop (.eq (.eq (.drop (.cons (leV.of_eq rfl) (.d16 (.d16 (.d16 (.d16 (.d16 (.d4 (.d4 leL.nil))))))))))))))) ?_
  intro n1 s1 hi1 hF
  refine zk (zk (zd ?_))
  refine zc rfl (zf rfl yM (zb rfl)) (sk xD) ?_
  refine zc rfl (zg rfl xO yW rfl) (sk xK) ?_
  refine zc rfl (zu rfl qU (gk xI) rfl (zr rfl) (zb rfl)) (sk x4) ?_
  refine ya rfl (zR rfl rfl rfl rfl vW (gk x5) yb) (sk x9) fun hn31=>?_
  replace hn31:=xu hn31
  refine zc rfl (zy rfl (gk xB) (gk x6) rfl) (sk wl) ?_
  refine ze (zj ?_)
  refine yK (gk wi) hF (fun x1 o1 hl1 hx1 hF hK1=>?_) (fun hF=>?_)
  ·refine zK (zj (zk (zQ (zk ?_))))
   refine yJ [] [] trivial mixed (by kernel_rfl) ?_
   refine zq rfl rfl (zg rfl xO yW rfl) (sk wo) ?_
   refine zq rfl rfl (zu rfl qU (gk wm) rfl (zr rfl) (zb rfl)) (sk wK) ?_
   refine zq rfl rfl (zf rfl yM (zb rfl)) (sk wR) ?_
   refine zq rfl rfl (yk rfl vW (gk wI) (gk wV) wZ (yL hx1)) (sk wQ) ?_
   refine zq rfl rfl (yf rfl ty87.choose_spec.1 (gk wN) (zI (cs':=[.int .u64 x1.time,.int .u8 x1.dot.actor.rep,.int .u32 x1.dot.actor.inc,.int .u64 x1.dot.seq,.str x1.text]) ty87.choose_spec.2 rfl rfl) (zb rfl)) (sk w9) ?_
   refine zq rfl rfl (zg rfl xO xw rfl) (sk w8) ?_
   refine zq rfl rfl (zu rfl qU (gk vm) rfl (zr rfl) (zb rfl)) (sk vh) ?_
   refine zq rfl rfl (zf rfl yM (zb rfl)) (sk vz) ?_
   refine zO hF (fun y32 hy32 hF=>?_)
   refine zq rfl rfl (yk rfl vW (gk vl) (gk vk) wZ hy32) (sk vw) ?_
   refine zq rfl rfl (yf rfl ty87.choose_spec.1 (gk vC) (zI (cs':=[.int .u64 y32.time,.int .u8 y32.dot.actor.rep,.int .u32 y32.dot.actor.inc,.int .u64 y32.dot.seq,.str y32.text]) ty87.choose_spec.2 rfl rfl) (zb rfl)) (sk vu) ?_
   refine zq rfl rfl (zy rfl (gk vb) (gk vj) (bin_ne pk87 rfl)) (sk vt) ?_
   refine yo ?_
   refine zj ?_
   refine zN (gk vB) hF (fun hc33 hF=>?_) (fun hc33 hF=>?_)
   ·refine zk (zd ?_)
    refine zc rfl (zi rfl rfl (zb rfl)) yz ?_
    refine ze (zj (zJ ?_))
    refine zG ?_
    refine zx ?_
    refine yd ?_
    obtain rfl:=Option.some.inj hF
    replace hF:=hK1
    refine zG ?_
    refine zx ?_
    obtain rfl:=Option.some.inj hF
    refine zz rfl (zD ym zF) (zA (leV.refl _) rfl ?_)
    exact ⟨rfl,rfl⟩
   ·refine zK (yh (zj (zd ?_)))
    refine zc rfl (zf rfl yM (zb rfl)) (sk x8) ?_
    refine zc rfl (zy rfl (gk xX) rfl rfl) (sk we) ?_
    refine zc rfl (zi rfl (gk wa) (zb rfl)) xy ?_
    refine ze (yH ?_)
    obtain rfl:=Option.some.inj hF
    exact ⟨(),hl1,hK1,wk.le (by exact (.drop (.drop (.eq (.eq (.drop (.cons (leV.of_eq (vf (by omega) (by omega))) (.d16 (.d16 (.d16 (.d16 (.d16 (.d4 (.d4 leL.nil))))))))))))))⟩
  ·refine yR ?_
   refine zZ ?_
   refine zU ?_
   refine zV ?_
   refine zj (zk (zk (zd ?_)))
   refine zc rfl (zi rfl rfl (zb rfl)) xF ?_
   refine ze (zj (zQ ?_))
   refine yv (fun (n2:Nat) (s2:Unit)=>yO [0,1,4,5,7,8,9,10,11,12,13,14,15,16,17,18,19,20,21,22,23,24,25,26,27,28,29,30,31,32,33,34,35,36,37,38,39,40,41,42,43,44,45,46,47,48,49,50,51,52,53,54,55,56,57,58,59,60,61,62,63,64,65,66,67,68,69,70,71,72,73,74,75,76,77,78,79,80,81,82,83,84,85,86,87,88,89,90,91,92,93] [(6,.int .i64 (n2:Int))]) (fun s2=>h.ext [.cells [.int .u8 a0.typ,.int .i64 a0.n,.int .u64 a0.time,.int .u8 a0.dot.actor.rep,.int .u32 a0.dot.actor.inc,.int .u64 a0.dot.seq,.str a0.text,.sl 5 (a0.items.map GItem.row),.sl 3 (a0.tombs.map GDot.row)],.cells [.int .u8 b1.typ,.int .i64 b1.n,.int .u64 b1.time,.int .u8 b1.dot.actor.rep,.int .u32 b1.dot.actor.inc,.int .u64 b1.dot.seq,.str b1.text,.sl 5 (b1.items.map GItem.row),.sl 3 (b1.tombs.map GDot.row)]] []) hF (fun _ _=>by simp only [yO,upd,List.set_cons_succ,List.set_cons_zero];try rfl) (wk.le (by exact (.drop (.drop (.eq (.eq (.drop (.drop (.cons (leV.of_eq rfl) (.d16 (.d16 (.d16 (.d16 (.d16 (.d4 (.drop (.drop (.drop leL.nil)))))))))))))))))) ?_
   intro n2 s2 hi2 hF
   refine zk (zk (zd ?_))
   refine zc rfl (zf rfl yU (zb rfl)) (sk vg) ?_
   refine zc rfl (zg rfl wj yW rfl) (sk vr) ?_
   refine zc rfl (zu rfl ty43 (gk vA) rfl (zr rfl) (zb rfl)) (sk vK) ?_
   refine ya rfl (zR rfl rfl rfl rfl el43 (gk vO) yb) (sk vJ) fun hn59=>?_
   replace hn59:=xu hn59
   refine zc rfl (zy rfl (gk va) (gk vG) rfl) (sk (sk st0)) ?_
   refine ze (zj ?_)
   refine yK (gk (gk yr)) hF (fun x2 o2 hl2 hx2 hF hK2=>?_) (fun hF=>?_)
   ·refine zK (zj (zk (zQ (zk ?_))))
    refine yJ [] [] trivial mixed (by kernel_rfl) ?_
    refine zq rfl rfl (zg rfl wj yW rfl) (sk (sk wd)) ?_
    refine zq rfl rfl (zu rfl ty43 (gk (gk xw)) rfl (zr rfl) (zb rfl)) (sk (sk yz)) ?_
    refine zq rfl rfl (zf rfl yU (zb rfl)) (sk (sk xy)) ?_
    refine zq rfl rfl (yk rfl el43 (gk (gk ym)) (gk (gk yM)) wZ (yL hx2)) (sk (sk xF)) ?_
    refine zq rfl rfl (yf rfl ty41.choose_spec.1 (gk (gk yU)) (zI (cs':=[.int .u8 x2.actor.rep,.int .u32 x2.actor.inc,.int .u64 x2.seq]) ty41.choose_spec.2 rfl rfl) (zb rfl)) (sk (sk xJ)) ?_
    refine zq rfl rfl (zg rfl wj xw rfl) (sk (sk xP)) ?_
    refine zq rfl rfl (zu rfl ty43 (gk (gk xl)) rfl (zr rfl) (zb rfl)) (sk (sk ww)) ?_
    refine zq rfl rfl (zf rfl yU (zb rfl)) (sk (sk yI)) ?_
    refine zO hF (fun y60 hy60 hF=>?_)
    refine zq rfl rfl (yk rfl el43 (gk (gk xQ)) (gk (gk yB)) wZ hy60) (sk (sk yN)) ?_
    refine zq rfl rfl (yf rfl ty41.choose_spec.1 (gk (gk yA)) (zI (cs':=[.int .u8 y60.actor.rep,.int .u32 y60.actor.inc,.int .u64 y60.seq]) ty41.choose_spec.2 rfl rfl) (zb rfl)) (sk (sk yS)) ?_
    refine zq rfl rfl (zy rfl (gk (gk xC)) (gk (gk yP)) (bin_ne pk41 rfl)) (sk (sk yV)) ?_
    refine yo ?_
    refine zj ?_
    refine zN (gk (gk yD)) hF (fun hc61 hF=>?_) (fun hc61 hF=>?_)
    ·refine zk (zd ?_)
     refine zc rfl (zi rfl rfl (zb rfl)) yz ?_
     refine ze (zj (zJ ?_))
     refine zG ?_
     refine zx ?_
     refine yd ?_
     obtain rfl:=Option.some.inj hF
     replace hF:=hK2
     refine zG ?_
     refine zx ?_
     obtain rfl:=Option.some.inj hF
     refine zz rfl (zD ym zF) (zA (leV.refl _) rfl ?_)
     exact ⟨rfl,rfl⟩
    ·refine zK (yh (zj (zd ?_)))
     refine zc rfl (zf rfl yU (zb rfl)) (sk (sk st1)) ?_
     refine zc rfl (zy rfl (gk (gk yE)) rfl rfl) (sk (sk xe)) ?_
     refine zc rfl (zi rfl (gk (gk yW)) (zb rfl)) xF ?_
     refine ze (yH ?_)
     obtain rfl:=Option.some.inj hF
     exact ⟨(),hl2,hK2,wk.le (by exact (.drop (.drop (.eq (.eq (.drop (.drop (.cons (leV.of_eq (vf (by omega) (by omega))) (.d16 (.d16 (.d16 (.d16 (.d16 (.d4 (.drop (.drop (.drop leL.nil)))))))))))))))))⟩
   ·refine yR ?_
    refine zZ ?_
    refine zU ?_
    refine zV ?_
    refine zj (zk (zd ?_))
    refine zc rfl (zi rfl rfl (zb rfl)) yz ?_
    refine ze (zj (zJ ?_))
    obtain rfl:=Option.some.inj hF
    refine zz rfl (zD ym zF) (zA (leV.refl _) rfl ?_)
    exact ⟨rfl,rfl⟩
/-! varve/varveref07.Same -/
theorem ok11N (n:Nat):∀ {a0:(List GNode)} {b1:(List GNode)} {res:Bool} {h:AH} , wF n a0 b1=some res→Spec Tryz.prog 11 [.sl 3 (a0.map GNode.row),.sl 3 (b1.map GNode.row)] h (fun rr hh=>rr=.bool res∧hh=h):=by
 induction n with
 | zero=>intro a0 b1 res h  hF;simp [wF] at hF
 | succ n ih =>
  intro a0 b1 res h  hF
  unfold wF at hF
  refine zt Tryz.func11 rfl (by kernel_rfl) (env:=[.sl 3 (a0.map GNode.row),.sl 3 (b1.map GNode.row),za,za,za,za,za,za,za,za,za,za,za,za,za,za,za,za,za,za,za,za,za,za,za,za,za,za,za,za,za,za,za,za,za,za,za,za,za,za,za,za,za,za,za,za,za,za,za,za,za,za,za,za,za,za,za,za,za,za,za,za,za,za,za,za,za,za,za,za,za,za,za,za,za,za,za,za,za,za,za,za,za,za,za,za]) (by rfl) ?_
  refine zk (zd ?_)
  refine zc rfl (zi rfl rfl (zb rfl)) yz ?_
  refine ze (zj (zk (zk (zd ?_))))
  refine zc rfl (zf rfl yr (zb rfl)) xJ ?_
  refine ya rfl (zR rfl rfl rfl rfl xn xC yb) xP fun hn1=>?_
  replace hn1:=xu hn1
  refine zc rfl (zf rfl yE (zb rfl)) ww ?_
  refine ya rfl (zR rfl rfl rfl rfl xn xQ yb) yI fun hn2=>?_
  replace hn2:=xu hn2
  refine zc rfl (zy rfl xl yB rfl) yN ?_
  refine ze (zj ?_)
  refine zN yA hF (fun hc3 hF=>?_) (fun hc3 hF=>?_)
  ·refine zk (zd ?_)
   refine zc rfl (zi rfl rfl (zb rfl)) yz ?_
   refine ze (zj (zJ (zx ?_)))
   obtain rfl:=Option.some.inj hF
   refine zz rfl (zD ym zF) (zA (leV.refl _) rfl ?_)
   exact ⟨rfl,rfl⟩
  ·refine zK (zj (zk (zk (zd ?_))))
   refine zc rfl (zi rfl rfl (zb rfl)) xy ?_
   refine ze (zj (zQ ?_))
   refine yv (fun (n1:Nat) (s1:Unit)=>yO [2,3,4,6,7,8,9,10,11,12,13,14,15,16,17,18,19,20,21,22,23,24,25,26,27,28,29,30,31,32,33,34,35,36,37,38,39,40,41,42,43,44,45,46,47,48,49,50,51,52,53,54,55,56,57,58,59,60,61,62,63,64,65,66,67,68,69,70,71,72,73,74,75,76,77,78,79,80,81,82,83,84,85] [(5,.int .i64 (n1:Int))]) (fun s1=>h.ext [] []) hF (fun _ _=>by simp only [yO,upd,List.set_cons_succ,List.set_cons_zero];try rfl) (wk.le (by exact (.eq (.eq (.drop (.drop (.drop (.cons (leV.of_eq rfl) (.d16 (.d16 (.d16 (.d16 (.d16 leL.nil))))))))))))) ?_
   intro n1 s1 hi1 hF
   refine zk (zk (zd ?_))
   refine zc rfl (zf rfl yM (zb rfl)) yS ?_
   refine zc rfl (zf rfl yr (zb rfl)) yV ?_
   refine ya rfl (zR rfl rfl rfl rfl xn yD yb) y4 fun hn40=>?_
   replace hn40:=xu hn40
   refine zc rfl (zy rfl yP yX rfl) y8 ?_
   refine ze (zj ?_)
   refine yK yT hF (fun x1 o1 hl1 hx1 hF hK1=>?_) (fun hF=>?_)
   ·refine zK (zj (zk (zQ (zk (zk ?_)))))
    refine yJ [] [] trivial mixed (by kernel_rfl) ?_
    refine zq rfl rfl (zf rfl yr (zb rfl)) xD ?_
    refine zq rfl rfl (zf rfl yM (zb rfl)) xK ?_
    refine zq rfl rfl (xL rfl xn xB xI wZ (yL hx1) (GNode.row_eq _)) x4 ?_
    refine zq rfl rfl (zg rfl fo48x0 x5 rfl) x9 ?_
    refine zq rfl rfl (yf rfl ty9 x6 (zr rfl) (zb rfl)) wl ?_
    refine zq rfl rfl (zf rfl yE (zb rfl)) x8 ?_
    refine zq rfl rfl (zf rfl yM (zb rfl)) we ?_
    refine zO hF (fun y41 hy41 hF=>?_)
    refine zq rfl rfl (xL rfl xn xX wa wZ hy41 (GNode.row_eq _)) wo ?_
    refine zq rfl rfl (zg rfl fo48x0 wm rfl) wK ?_
    refine zq rfl rfl (yf rfl ty9 wI (zr rfl) (zb rfl)) wR ?_
    refine zq rfl rfl (zy rfl wi wV rfl) wQ ?_
    refine zq rfl rfl (zf rfl wN (zb rfl)) w9 ?_
    refine zB rfl rfl (fun hb=>zf rfl yr (zb rfl)) w8 ?_
    refine zB rfl rfl (fun hb=>zf rfl yM (zb rfl)) vh ?_
    refine wC hF (fun hg42 hF=>?_)
    refine zB rfl rfl (fun hb=>qF default rfl xn (zn vm hb) (zn vl hb) wZ (hg42 hb) (GNode.row_eq _)) vz ?_
    refine zB rfl rfl (fun hb=>zg rfl xY (zn vk hb) rfl) vw ?_
    refine zB rfl rfl (fun hb=>yf rfl ty46 (zn vC hb) (zr rfl) (zb rfl)) vu ?_
    refine draw_glen rfl rfl (fun hb=>zR rfl rfl rfl rfl wc (zn vj hb) yb) vt ?_
    refine zB rfl rfl (fun hb=>zf rfl yE (zb rfl)) vg ?_
    refine zB rfl rfl (fun hb=>zf rfl yM (zb rfl)) vr ?_
    refine wC hF (fun hg44 hF=>?_)
    refine zB rfl rfl (fun hb=>qF default rfl xn (zn va hb) (zn vA hb) wZ (hg44 hb) (GNode.row_eq _)) vK ?_
    refine zB rfl rfl (fun hb=>zg rfl xY (zn vO hb) rfl) vJ ?_
    refine zB rfl rfl (fun hb=>yf rfl ty46 (zn vG hb) (zr rfl) (zb rfl)) (sk st0) ?_
    refine draw_glen rfl rfl (fun hb=>zR rfl rfl rfl rfl wc (zn (gk yr) hb) yb) (sk st1) ?_
    refine zB rfl rfl (fun hb=>zy rfl (zn vB hb) (zn (gk yE) hb) rfl) (sk xe) ?_
    refine zq rfl rfl (zM rfl vb rfl (gk yW) (z8 (fun ht=>gF ht))) (sk wd) ?_
    refine zq rfl rfl (zf rfl (gk xw) (zb rfl)) (sk yz) ?_
    refine zB rfl rfl (fun hb=>zf rfl yr (zb rfl)) (sk xy) ?_
    refine zB rfl rfl (fun hb=>zf rfl yM (zb rfl)) (sk xF) ?_
    refine wC hF (fun hg46 hF=>?_)
    refine zB rfl rfl (fun hb=>qF default rfl xn (zn (gk yM) hb) (zn (gk yU) hb) wZ (hg46 hb) (GNode.row_eq _)) (sk xJ) ?_
    refine zB rfl rfl (fun hb=>zg rfl fo48x2 (zn (gk xC) hb) rfl) (sk xP) ?_
    refine zB rfl rfl (fun hb=>yf rfl ty23 (zn (gk xl) hb) (zr rfl) (zb rfl)) (sk ww) ?_
    refine zB rfl rfl (fun hb=>zf rfl yE (zb rfl)) (sk yI) ?_
    refine zB rfl rfl (fun hb=>zf rfl yM (zb rfl)) (sk yN) ?_
    refine wC hF (fun hg47 hF=>?_)
    refine zB rfl rfl (fun hb=>qF default rfl xn (zn (gk yB) hb) (zn (gk yA) hb) wZ (hg47 hb) (GNode.row_eq _)) (sk yS) ?_
    refine zB rfl rfl (fun hb=>zg rfl fo48x2 (zn (gk yP) hb) rfl) (sk yV) ?_
    refine zB rfl rfl (fun hb=>yf rfl ty23 (zn (gk yD) hb) (zr rfl) (zb rfl)) (sk y4) ?_
    refine yQ hF (fun v48 hv48 hF=>?_)
    refine w5 rfl rfl (fun hb=>zC rfl rfl rfl (zo (zn (gk xQ) hb) (zo (zn (gk yX) hb) zw)) (.cons (zb rfl) (.cons (zb rfl) .nil))) (fun hb=>ih (hv48 hb)) (sk y8) ?_
    refine zB rfl rfl (fun hb=>xT rfl (zn (gk yT) hb) rfl) (sk xg) ?_
    refine zq rfl rfl (zM rfl (gk ym) rfl (gk xf) (z8 (fun ht=>gF ht))) (sk xr) ?_
    refine yo ?_
    refine zj ?_
    refine zN (gk xp) hF (fun hc49 hF=>?_) (fun hc49 hF=>?_)
    ·refine zk (zd ?_)
     refine zc rfl (zi rfl rfl (zb rfl)) yz ?_
     refine ze (zj (zJ (zx ?_)))
     refine zG ?_
     refine zx ?_
     refine yd ?_
     obtain rfl:=Option.some.inj hF
     replace hF:=hK1
     refine zG ?_
     refine zx ?_
     obtain rfl:=Option.some.inj hF
     refine zz rfl (zD ym zF) (zA (leV.refl _) rfl ?_)
     exact ⟨rfl,rfl⟩
    ·refine zK (zj (zk (zd ?_)))
     refine zc rfl (zi rfl rfl (zb rfl)) xF ?_
     refine ze (zj (zQ ?_))
     refine yv (fun (n2:Nat) (s2:Unit)=>yO [2,3,4,7,8,9,10,11,12,13,14,15,16,17,18,19,20,21,22,23,24,25,26,27,28,29,30,31,32,33,34,35,36,37,38,39,40,41,42,43,44,45,46,47,48,49,50,51,52,53,54,55,56,57,58,59,60,61,62,63,64,65,66,67,68,69,70,71,72,73,74,75,76,77,78,79,80,81,82,83,84,85] [(6,.int .i64 (n2:Int))]) (fun s2=>h.ext [] []) hF (fun _ _=>by simp only [yO,upd,List.set_cons_succ,List.set_cons_zero];try rfl) (wk.le (by exact (.eq (.eq (.drop (.drop (.drop (.eq (.cons (leV.of_eq rfl) (.d16 (.d16 (.d16 (.d16 (.d4 (.d4 (.d4 (.drop (.drop (.drop leL.nil))))))))))))))))))) ?_
     intro n2 s2 hi2 hF
     refine zk (zk (zd ?_))
     refine zc rfl (zf rfl yU (zb rfl)) (sk xD) ?_
     refine zc rfl (zf rfl yr (zb rfl)) (sk xK) ?_
     refine zc rfl (zf rfl yM (zb rfl)) (sk x4) ?_
     refine zc rfl (xL rfl xn (gk xI) (gk x5) wZ (yL hx1) (GNode.row_eq _)) (sk x9) ?_
     refine zc rfl (zg rfl xY (gk x6) rfl) (sk wl) ?_
     refine zc rfl (yf rfl ty46 (gk wi) (zr rfl) (zb rfl)) (sk x8) ?_
     refine ya rfl (zR rfl rfl rfl rfl wc (gk xX) yb) (sk we) fun hn59=>?_
     replace hn59:=xu hn59
     refine zc rfl (zy rfl (gk xB) (gk wa) rfl) (sk wo) ?_
     refine ze (zj ?_)
     refine yK (gk wm) hF (fun x2 o2 hl2 hx2 hF hK2=>?_) (fun hF=>?_)
     ·refine zK (zj (zk (zQ (zk ?_))))
      refine yJ [16] [] trivial mixed (by kernel_rfl) ?_
      refine zq rfl rfl (zf rfl yr (zb rfl)) (sk wQ) ?_
      refine zq rfl rfl (zf rfl yM (zb rfl)) (sk w9) ?_
      refine zq rfl rfl (xL rfl xn (gk wN) (gk vb) wZ (yL hx1) (GNode.row_eq _)) (sk w8) ?_
      refine zq rfl rfl (zg rfl xY (gk vm) rfl) (sk vh) ?_
      refine zq rfl rfl (yf rfl ty46 (gk vl) (zr rfl) (zb rfl)) (sk vz) ?_
      refine zq rfl rfl (zf rfl yU (zb rfl)) (sk vw) ?_
      refine zq rfl rfl (yk rfl wc (gk vk) (gk vC) wZ (yL hx2)) (sk vu) ?_
      refine zq rfl rfl (yf rfl ty45.choose_spec.1 (gk vj) (zI (cs':=[.int .u8 x2.typ,.int .i64 x2.n,.int .u64 x2.time,.int .u8 x2.dot.actor.rep,.int .u32 x2.dot.actor.inc,.int .u64 x2.dot.seq,.str x2.text,.sl 5 (x2.items.map GItem.row),.sl 3 (x2.tombs.map GDot.row)]) ty45.choose_spec.2 rfl rfl) (zb rfl)) (sk vt) ?_
      refine zq rfl rfl (zf rfl yE (zb rfl)) (sk vg) ?_
      refine zq rfl rfl (zf rfl yM (zb rfl)) (sk vr) ?_
      refine zO hF (fun y60 hy60 hF=>?_)
      refine zq rfl rfl (xL rfl xn (gk va) (gk vA) wZ hy60 (GNode.row_eq _)) (sk vK) ?_
      refine zq rfl rfl (zg rfl xY (gk vO) rfl) (sk vJ) ?_
      refine zq rfl rfl (yf rfl ty46 (gk vG) (zr rfl) (zb rfl)) (sk (sk st0)) ?_
      refine zq rfl rfl (zf rfl yU (zb rfl)) (sk (sk st1)) ?_
      refine zO hF (fun y61 hy61 hF=>?_)
      refine zq rfl rfl (yk rfl wc (gk (gk yr)) (gk (gk yE)) wZ hy61) (sk (sk xe)) ?_
      refine zq rfl rfl (yf rfl ty45.choose_spec.1 (gk (gk yW)) (zI (cs':=[.int .u8 y61.typ,.int .i64 y61.n,.int .u64 y61.time,.int .u8 y61.dot.actor.rep,.int .u32 y61.dot.actor.inc,.int .u64 y61.dot.seq,.str y61.text,.sl 5 (y61.items.map GItem.row),.sl 3 (y61.tombs.map GDot.row)]) ty45.choose_spec.2 rfl rfl) (zb rfl)) (sk (sk wd)) ?_
      refine zO hF (fun v62 hv62 hF=>?_)
      refine yw rfl rfl (fun _=>zC rfl rfl rfl (zo (gk vB) (zo (gk (gk xw)) zw)) (.cons (zb rfl) (.cons (zb rfl) .nil))) (by rintro _ ⟨B2,T2,rfl,hk2⟩;exact ok27 hv62) (sk (sk yz)) ?_
      refine zq rfl rfl (xT rfl (gk (gk ym)) rfl) (sk (sk xy)) ?_
      refine yo ?_
      refine zj ?_
      refine zN (gk (gk yM)) hF (fun hc63 hF=>?_) (fun hc63 hF=>?_)
      ·refine zk (zd ?_)
       refine zc rfl (zi rfl rfl (zb rfl)) yz ?_
       refine ze (zj (zJ ?_))
       refine zG ?_
       refine zx ?_
       refine yd ?_
       obtain rfl:=Option.some.inj hF
       replace hF:=hK2
       refine zG ?_
       refine zG ?_
       refine zx ?_
       refine yd ?_
       obtain rfl:=Option.some.inj hF
       replace hF:=hK1
       refine zG ?_
       refine zx ?_
       obtain rfl:=Option.some.inj hF
       refine zz rfl (zD ym zF) (zA (leV.refl _) rfl ?_)
       exact ⟨rfl,rfl⟩
      ·refine zK (yh (zj (zd ?_)))
       refine zc rfl (zf rfl yU (zb rfl)) (sk wK) ?_
       refine zc rfl (zy rfl (gk wI) rfl rfl) (sk wR) ?_
       refine zc rfl (zi rfl (gk wV) (zb rfl)) xF ?_
       refine ze (yH ?_)
       obtain rfl:=Option.some.inj hF
       exact ⟨(),hl2,hK2,wk.le (by exact (.eq (.eq (.drop (.drop (.drop (.eq (.cons (leV.of_eq (vf (by omega) (by omega))) (.d16 (.d16 (.d16 (.d16 (.d4 (.d4 (.d4 (.drop (.drop (.drop leL.nil))))))))))))))))))⟩
     ·refine yR ?_
      refine zZ ?_
      refine zU ?_
      refine zV ?_
      refine yh (zj (zd ?_))
      refine zc rfl (zf rfl yM (zb rfl)) xg ?_
      refine zc rfl (zy rfl xf rfl rfl) xr ?_
      refine zc rfl (zi rfl xp (zb rfl)) xy ?_
      refine ze (yH ?_)
      obtain rfl:=Option.some.inj hF
      exact ⟨(),hl1,hK1,wk.le (by exact (.eq (.eq (.drop (.drop (.drop (.cons (leV.of_eq (vf (by omega) (by omega))) (.d16 (.d16 (.d16 (.d16 (.d16 leL.nil))))))))))))⟩
   ·refine yR ?_
    refine zZ ?_
    refine zU ?_
    refine zV ?_
    refine zj (zk (zd ?_))
    refine zc rfl (zi rfl rfl (zb rfl)) yz ?_
    refine ze (zj (zJ ?_))
    obtain rfl:=Option.some.inj hF
    refine zz rfl (zD ym zF) (zA (leV.refl _) rfl ?_)
    exact ⟨rfl,rfl⟩
theorem ok11 {a0:(List GNode)} {b1:(List GNode)} {res:Bool} {h:AH}  (hF:qM a0 b1=some res):Spec Tryz.prog 11 [.sl 3 (a0.map GNode.row),.sl 3 (b1.map GNode.row)] h (fun rr hh=>rr=.bool res∧hh=h):=by
 obtain ⟨n,hn⟩:=anyN_is hF
 exact ok11N n  hn
/-! varve/varvelaw31.DiffBack -/
theorem ok3 {a0:(List GNode)} {b1:(List GNode)} {res:Bool} {h:AH}  (hF:qy a0 b1=some res):Spec Tryz.prog 3 [.sl 3 (a0.map GNode.row),.sl 3 (b1.map GNode.row)] h (fun rr hh=>rr=.bool res∧hh=h):=by
 unfold qy at hF
 refine zt Tryz.func3 rfl (by kernel_rfl) (env:=[.sl 3 (a0.map GNode.row),.sl 3 (b1.map GNode.row),za,za,za,za,za,za,za,za,za,za,za,za,za,za,za,za,za,za,za,za,za,za,za,za,za,za,za,za,za,za,za,za,za,za,za,za,za,za,za,za,za,za,za,za,za,za,za,za,za,za,za,za,za,za,za,za,za,za,za,za,za,za,za,za,za,za,za,za,za,za,za,za,za,za,za,za,za,za,za,za,za,za,za,za,za,za,za]) (by rfl) ?_
 refine zk (zd ?_)
 refine zc rfl (zi rfl rfl (zb rfl)) yz ?_
 refine ze (zj (zk (zk (zd ?_))))
 refine zc rfl (zf rfl yr (zb rfl)) yN ?_
 refine zc rfl (zf rfl yE (zb rfl)) yS ?_
 refine zO hF (fun v1 hv1 hF=>?_)
 refine zL rfl (zC rfl rfl rfl (zo yA (zo yP (zo rfl (zo rfl (zo rfl zw))))) (.cons (zb rfl) (.cons (zb rfl) (.cons (xk xn) (.cons (xk el26) (.cons (xk el26) .nil)))))) ((ok4 hv1).le (.eq (.eq (.cons (leV.osl _ _ _) (.cons (leV.osl _ _ _) (.cons (leV.osl _ _ _) leL.nil)))))) yV ?_
 refine ze (zj ?_)
 refine zN yD hF (fun hc2 hF=>?_) (fun hc2 hF=>?_)
 ·refine zk (zd ?_)
  refine zO hF (fun v3 hv3 hF=>?_)
  refine zL rfl (zC rfl rfl rfl zw .nil) (ok5 hv3) y4 ?_
  refine zc rfl (zi rfl yX (zb rfl)) yz ?_
  refine ze (zj (zJ (zx ?_)))
  obtain rfl:=Option.some.inj hF
  refine zz rfl (zD ym zF) (zA (leV.refl _) rfl ?_)
  exact ⟨rfl,rfl⟩
 ·refine zK (zj (zk (zd ?_)))
  refine zc rfl (zf rfl yr (zb rfl)) xg ?_
  refine zc rfl (zf rfl yE (zb rfl)) xr ?_
  refine zO hF (fun v4 hv4 hF=>?_)
  refine zL rfl (zC rfl rfl rfl (zo xf (zo xp zw)) (.cons (zb rfl) (.cons (zb rfl) .nil))) (ok6 hv4) xD ?_
  refine zc rfl (zf rfl xB (zb rfl)) y8 ?_
  refine zc rfl (yG rfl yT rfl (zb rfl)) xK ?_
  refine zc rfl (yG rfl yT rfl (zb rfl)) x4 ?_
  refine zc rfl (zi rfl xI (zb rfl)) xy ?_
  refine zc rfl (zi rfl x5 (zb rfl)) xF ?_
  refine ze (zj (zk (zk (zd ?_))))
  refine zc rfl (zf rfl yr (zb rfl)) x9 ?_
  refine zO hF (fun v5 hv5 hF=>?_)
  refine zL rfl (zC rfl rfl rfl (zo x6 zw) (.cons (zb rfl) .nil)) (ok7 hv5) wl ?_
  refine zc rfl (xT rfl wi rfl) x8 ?_
  refine zc rfl (zf rfl xX (zb rfl)) we ?_
  refine zp rfl (fun hb=>zf rfl yE (zb rfl)) wo ?_
  refine yQ hF (fun v6 hv6 hF=>?_)
  refine yj rfl (fun hb=>zC rfl rfl rfl (zo (zn wm hb) zw) (.cons (zb rfl) .nil)) (fun hb=>ok7 (hv6 hb)) wK ?_
  refine zp rfl (fun hb=>xT rfl (zn wI hb) rfl) wR ?_
  refine zc rfl (zM rfl wa rfl wV (z8 (fun ht=>gF ht))) wQ ?_
  refine ze (zj ?_)
  refine zN wN hF (fun hc7 hF=>?_) (fun hc7 hF=>?_)
  ·refine zk (zd ?_)
   refine zc rfl (zf rfl yU (zb rfl)) w9 ?_
   refine zc rfl (zy rfl vb rfl rfl) w8 ?_
   refine zc rfl (zf rfl vm (zb rfl)) vh ?_
   refine zp rfl (fun hb=>zf rfl yM (zb rfl)) vz ?_
   refine xA rfl (fun hb=>zR rfl rfl rfl rfl el26 (zn vk hb) yb) vw fun hn8=>?_
   refine zp rfl (fun hb=>zy rfl (zn vC hb) rfl rfl) vu ?_
   refine zc rfl (zM rfl vl vj rfl (zX (fun ht=>gT ht))) vt ?_
   refine zc rfl (zf rfl vB (zb rfl)) vg ?_
   refine yQ hF (fun v9 hv9 hF=>?_)
   refine yj rfl (fun hb=>zC rfl rfl rfl zw .nil) (fun hb=>ok5 (hv9 hb)) vr ?_
   refine zc rfl (zM rfl va vA rfl (zX (fun ht=>gT ht))) vK ?_
   refine zc rfl (zi rfl vO (zb rfl)) yz ?_
   refine ze (zj (zJ (zx ?_)))
   obtain rfl:=Option.some.inj hF
   refine zz rfl (zD ym zF) (zA (leV.refl _) rfl ?_)
   exact ⟨rfl,rfl⟩
  ·refine zK (zj (zk (zd ?_)))
   refine zc rfl (zf rfl yr (zb rfl)) (sk st0) ?_
   refine zc rfl (zf rfl yM (zb rfl)) (sk st1) ?_
   refine zO hF (fun v10 hv10 hF=>?_)
   refine zL rfl (zC rfl rfl rfl (zo (gk yr) (zo (gk yE) zw)) (.cons (zb rfl) (.cons (zb rfl) .nil))) (ok8 hv10) (sk xe) ?_
   refine zc rfl (zf rfl (gk yW) (zb rfl)) vJ ?_
   refine zc rfl (yG rfl vG rfl (zb rfl)) (sk wd) ?_
   refine zc rfl (yG rfl vG rfl (zb rfl)) (sk yz) ?_
   refine zc rfl (zi rfl (gk xw) (zb rfl)) xJ ?_
   refine zc rfl (zi rfl (gk ym) (zb rfl)) xP ?_
   refine ze (zj (zk (zd ?_)))
   refine zc rfl (zf rfl yE (zb rfl)) (sk xF) ?_
   refine zc rfl (zf rfl yM (zb rfl)) (sk xJ) ?_
   refine zO hF (fun v11 hv11 hF=>?_)
   refine zL rfl (zC rfl rfl rfl (zo (gk xC) zw) (.cons (zb rfl) .nil)) (ok9 hv11) (sk xP) ?_
   refine zO hF (fun v12 hv12 hF=>?_)
   refine zL rfl (zC rfl rfl rfl (zo (gk yU) (zo (gk xl) zw)) (.cons (zb rfl) (.cons (zb rfl) .nil))) (ok8 hv12) (sk ww) ?_
   refine zc rfl (zf rfl (gk xQ) (zb rfl)) (sk xy) ?_
   refine zc rfl (yG rfl (gk yM) rfl (zb rfl)) (sk yI) ?_
   refine zc rfl (yG rfl (gk yM) rfl (zb rfl)) (sk yN) ?_
   refine zc rfl (zi rfl (gk yB) (zb rfl)) ww ?_
   refine zc rfl (zi rfl (gk yA) (zb rfl)) yI ?_
   refine ze (zj (zk (zk (zd ?_))))
   refine zc rfl (zf rfl yU (zb rfl)) (sk yS) ?_
   refine zc rfl (zy rfl (gk yP) rfl rfl) (sk yV) ?_
   refine zc rfl (zf rfl (gk yD) (zb rfl)) (sk y4) ?_
   refine zp rfl (fun hb=>zf rfl xl (zb rfl)) (sk y8) ?_
   refine zp rfl (fun hb=>zy rfl (zn (gk yT) hb) rfl rfl) (sk xg) ?_
   refine zc rfl (zM rfl (gk yX) rfl (gk xf) (z8 (fun ht=>gF ht))) (sk xr) ?_
   refine zc rfl (zf rfl (gk xp) (zb rfl)) (sk xD) ?_
   refine zp rfl (fun hb=>zf rfl yB (zb rfl)) (sk xK) ?_
   refine zp rfl (fun hb=>zy rfl (zn (gk xI) hb) rfl rfl) (sk x4) ?_
   refine zc rfl (zM rfl (gk xB) rfl (gk x5) (z8 (fun ht=>gF ht))) (sk x9) ?_
   refine zc rfl (zf rfl (gk x6) (zb rfl)) (sk wl) ?_
   refine zp rfl (fun hb=>zf rfl yM (zb rfl)) (sk x8) ?_
   refine yQ hF (fun v13 hv13 hF=>?_)
   refine yj rfl (fun hb=>zC rfl rfl rfl (zo (zn (gk xX) hb) zw) (.cons (zb rfl) .nil)) (fun hb=>ok10 (hv13 hb)) (sk we) ?_
   refine zp rfl (fun hb=>xT rfl (zn (gk wa) hb) rfl) (sk wo) ?_
   refine zc rfl (zM rfl (gk wi) rfl (gk wm) (z8 (fun ht=>gF ht))) (sk wK) ?_
   refine zc rfl (zf rfl (gk wI) (zb rfl)) (sk wR) ?_
   refine zp rfl (fun hb=>zf rfl xC (zb rfl)) (sk wQ) ?_
   refine zp rfl (fun hb=>zf rfl yE (zb rfl)) (sk w9) ?_
   refine yQ hF (fun v14 hv14 hF=>?_)
   refine yj rfl (fun hb=>zC rfl rfl rfl (zo (zn (gk wN) hb) (zo (zn (gk vb) hb) zw)) (.cons (zb rfl) (.cons (zb rfl) .nil))) (fun hb=>ok11 (hv14 hb)) (sk w8) ?_
   refine zp rfl (fun hb=>xT rfl (zn (gk vm) hb) rfl) (sk vh) ?_
   refine zc rfl (zM rfl (gk wV) rfl (gk vl) (z8 (fun ht=>gF ht))) (sk vz) ?_
   refine zc rfl (zf rfl (gk vk) (zb rfl)) (sk vw) ?_
   refine zp rfl (fun hb=>zf rfl xQ (zb rfl)) (sk vu) ?_
   refine zp rfl (fun hb=>zf rfl yr (zb rfl)) (sk vt) ?_
   refine yQ hF (fun v15 hv15 hF=>?_)
   refine yj rfl (fun hb=>zC rfl rfl rfl (zo (zn (gk vj) hb) (zo (zn (gk vB) hb) zw)) (.cons (zb rfl) (.cons (zb rfl) .nil))) (fun hb=>ok11 (hv15 hb)) (sk vg) ?_
   refine zp rfl (fun hb=>xT rfl (zn (gk va) hb) rfl) (sk vr) ?_
   refine zc rfl (zM rfl (gk vC) rfl (gk vA) (z8 (fun ht=>gF ht))) (sk vK) ?_
   refine ze (zj ?_)
   refine zN (gk vO) hF (fun hc16 hF=>?_) (fun hc16 hF=>?_)
   ·refine zk (zd ?_)
    refine zc rfl (zi rfl rfl (zb rfl)) yz ?_
    refine ze (zj (zJ (zx ?_)))
    obtain rfl:=Option.some.inj hF
    refine zz rfl (zD ym zF) (zA (leV.refl _) rfl ?_)
    exact ⟨rfl,rfl⟩
   ·refine zK (zj (zk (zd ?_)))
    refine zc rfl (zf rfl yM (zb rfl)) (sk vJ) ?_
    refine ya rfl (zR rfl rfl rfl rfl el26 (gk vG) yb) (sk (sk st0)) fun hn17=>?_
    replace hn17:=xu hn17
    refine zc rfl (zy rfl (gk (gk yr)) rfl rfl) (sk (sk st1)) ?_
    refine zc rfl (zf rfl yr (zb rfl)) (sk (sk xe)) ?_
    refine zc rfl (zf rfl yE (zb rfl)) (sk (sk wd)) ?_
    refine zO hF (fun v18 hv18 hF=>?_)
    refine zL rfl (zC rfl rfl rfl (zo (gk (gk yW)) (zo (gk (gk xw)) zw)) (.cons (zb rfl) (.cons (zb rfl) .nil))) (ok11 hv18) (sk (sk yz)) ?_
    refine zc rfl (zy rfl (gk (gk yE)) (gk (gk ym)) (bin_boolE ty4)) (sk (sk xy)) ?_
    refine zc rfl (zf rfl (gk (gk yM)) (zb rfl)) (sk (sk xF)) ?_
    refine yQ hF (fun v19 hv19 hF=>?_)
    refine yj rfl (fun hb=>zC rfl rfl rfl zw .nil) (fun hb=>ok5 (hv19 hb)) (sk (sk xJ)) ?_
    refine zc rfl (zM rfl (gk (gk yU)) (gk (gk xC)) rfl (zX (fun ht=>gT ht))) (sk (sk xP)) ?_
    refine zc rfl (zi rfl (gk (gk xl)) (zb rfl)) yz ?_
    refine ze (zj (zJ ?_))
    obtain rfl:=Option.some.inj hF
    refine zz rfl (zD ym zF) (zA (leV.refl _) rfl ?_)
    exact ⟨rfl,rfl⟩
end Go.Vv
