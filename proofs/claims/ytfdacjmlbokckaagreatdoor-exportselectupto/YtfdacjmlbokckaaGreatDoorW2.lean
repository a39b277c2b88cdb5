/- Each function that the law reaches computes what its reading says; printed by a program. -/
import Derived.Test.YtfdacjmlbokckaaGreatDoorW1
namespace Go.Vv
open Go Go.Proofs
set_option maxRecDepth 100000
set_option maxHeartbeats 1000000
set_option linter.unusedSimpArgs false
set_option linter.unusedVariables false
theorem ok45 {l0:(List GItem)} {timed1:Bool} {res:Bool} {h:AH}  (hF:qh l0 timed1=some res):Spec Tryz.prog 45 [.sl 5 (l0.map GItem.row),.bool timed1] h (fun rr hh=>rr=.bool res∧hh=h):=by
 unfold qh at hF
 refine zr Tryz.func45 rfl (by kernel_rfl) (env:=[.sl 5 (l0.map GItem.row),.bool timed1,za,za,za,za,za,za,za,za,za,za,za,za,za,za,za,za,za,za,za,za,za,za,za,za,za,za,za,za,za,za,za,za,za,za,za,za,za,za,za,za,za,za,za,za,za,za,za,za,za,za,za,za,za,za,za,za,za,za,za,za,za,za,za,za]) (by rfl) ?_
 refine zk (zd ?_)
 refine zc rfl (zi rfl rfl (zb rfl)) yF ?_
 refine ze (zj (zk (zk (zd ?_))))
 refine zc rfl (zg rfl yB (zb rfl)) wm ?_
 refine yc rfl (zY rfl rfl rfl rfl ve xN yh) wl fun hn1=>?_
 replace hn1:=xK hn1
 refine zc rfl (zg rfl rfl (zb rfl)) vi ?_
 refine ze (zj (zS ?_))
 refine yu (fun (n1:Nat) (s1:Unit)=>yS [2,3,4,5,6,10,11,12,13,14,15,16,17,18,19,20,21,22,23,24,25,26,27,28,29,30,31,32,33,34,35,36,37,38,39,40,41,42,43,44,45,46,47,48,49,50,51,52,53,54,55,56,57,58,59,60,61,62,63,64,65] [(9,.int .i64 (n1:Int))]) (fun s1=>h.ext [] []) hF (fun _ _=>by simp only [yS,upd,List.set_cons_succ,List.set_cons_zero];try rfl) (wk.le (by exact (.eq (.eq (.d4 (.drop (.eq (.eq (.cons (leV.of_eq rfl) (.d16 (.d16 (.d16 (.d4 (.d4 leL.nil)))))))))))))) ?_
 intro n1 s1 hi1 hF
 refine zk (zd ?_)
 refine zc rfl (zy rfl wE xu rfl) yN ?_
 refine ze (zj (zk ?_))
 refine yI yG hF (fun x1 o1 hl1 hx1 hF hK1=>?_) (fun hF=>?_)
 ·refine zO (zj (zk (zS (zk (zd ?_)))))
  refine zc rfl (zg rfl wE (zb rfl)) yR ?_
  refine zc rfl (yr rfl ve xN wE qZ (xc hx1)) yQ ?_
  refine zc rfl (yl rfl ty57.choose_spec.1 yO (zI (cs':=[.int .u64 x1.time,.int .u8 x1.dot.actor.rep,.int .u32 x1.dot.actor.inc,.int .u64 x1.dot.seq,.str x1.text]) ty57.choose_spec.2 rfl rfl) (zb rfl)) yU ?_
  refine zc rfl (y9 (n:=0) rfl ze57 rfl) xY ?_
  refine zc rfl (zi rfl yP (zb rfl)) xG ?_
  refine zc rfl (yx (cs':=[.int .u64 x1.time,.int .u8 x1.dot.actor.rep,.int .u32 x1.dot.actor.inc,.int .u64 x1.dot.seq,.str x1.text]) rfl ty57.choose_spec.1 yT yL (zb rfl) rfl rfl rfl rfl rfl) rfl ?_
  refine ze (zj (zk (zk (zd ?_))))
  refine zc rfl (zf rfl qk yT rfl) y3 ?_
  refine zc rfl (zu rfl ty38.choose_spec.1 y4 rfl (zI (cs':=[.int .u8 x1.dot.actor.rep,.int .u32 x1.dot.actor.inc,.int .u64 x1.dot.seq]) ty38.choose_spec.2 rfl rfl) (zb rfl)) y2 ?_
  refine zU hF (fun v13 hv13 hF=>?_)
  refine zN rfl (zC rfl rfl rfl (zo yW zw) (.cons (zb rfl) .nil)) (ok43 hv13) xf ?_
  refine zc rfl (wo rfl xd rfl) xA ?_
  refine zc rfl (zg rfl xC (zb rfl)) xR ?_
  refine zq rfl (fun hb=>zf rfl fo57x2 yT rfl) wa ?_
  refine zq rfl (fun hb=>zu rfl ty9 (zn wh hb) rfl (zt rfl) (zb rfl)) wJ ?_
  refine yZ hF (fun v14 hv14 hF=>?_)
  refine yA rfl (fun hb=>zC rfl rfl rfl (zo (zn wL hb) zw) (.cons (zb rfl) .nil)) (fun hb=>ok44 (hv14 hb)) wO ?_
  refine zq rfl (fun hb=>wo rfl (zn wK hb) rfl) vk ?_
  refine zc rfl (zL rfl xL rfl vm (yb (fun ht=>gF ht))) wN ?_
  refine zc rfl (zg rfl wy (zb rfl)) vj ?_
  refine zq rfl (fun hb=>zg rfl yw (zb rfl)) vC ?_
  refine zq rfl (fun hb=>zf rfl fo57x0 yT rfl) qx ?_
  refine zq rfl (fun hb=>zu rfl vh (zn qI hb) rfl (zt rfl) (zb rfl)) qw ?_
  refine yZ hF (fun v15 hv15 hF=>?_)
  refine yA rfl (fun hb=>zC rfl rfl rfl (zo (zn qj hb) zw) (.cons (zb rfl) .nil)) (fun hb=>ok42 (hv15 hb)) qU ?_
  refine zq rfl (fun hb=>zy rfl (zn vw hb) (zn qH hb) (bin_boolN ty4)) qv ?_
  refine zc rfl (zL rfl vl rfl qi (yb (fun ht=>gF ht))) q9 ?_
  refine zc rfl (zg rfl gt30 (zb rfl)) q8 ?_
  refine zq rfl (fun hb=>zg rfl yw (zb rfl)) st32 ?_
  refine zq rfl (fun hb=>wo rfl (zn gt32 hb) rfl) st33 ?_
  refine zq rfl (fun hb=>zg rfl (zn gt33 hb) (zb rfl)) st34 ?_
  refine zq (zQ rfl rfl rfl) (fun hb=>zf rfl fo57x0 yT rfl) st35 ?_
  refine zq (zQ rfl rfl rfl) (fun hb=>zu rfl vh (zn gt35 hb) rfl (zt rfl) (zb rfl)) qT ?_
  refine zq (zQ rfl rfl rfl) (fun hb=>zy rfl (zn qG hb) rfl rfl) qS ?_
  refine zq rfl (fun hb=>zL rfl (zn gt34 hb) qF rfl (zT (fun ht=>gT2 hb ht))) st38 ?_
  refine zc rfl (zL rfl gt31 rfl gt38 (yb (fun ht=>gF ht))) st39 ?_
  refine ze (zj ?_)
  refine zR gt39 hF (fun hc16 hF=>?_) (fun hc16 hF=>?_)
  ·refine zk (zd ?_)
   refine zc rfl (zi rfl rfl (zb rfl)) yF ?_
   refine ze (zj (zJ (zB ?_)))
   refine zG ?_
   refine zB ?_
   refine yj ?_
   obtain rfl:=Option.some.inj hF
   replace hF:=hK1
   refine zG ?_
   refine zB ?_
   obtain rfl:=Option.some.inj hF
   refine zz rfl (zF yH zD) (zA (leV.refl _) rfl ?_)
   exact ⟨rfl,rfl⟩
  ·refine zO (zj (zk ?_))
   refine yD [] [] trivial mixed (by kernel_rfl) ?_
   refine zp rfl rfl (zg rfl yY (zb rfl)) (sk st0) ?_
   refine zp rfl rfl (zy rfl (gk yB) rfl rfl) (sk st1) ?_
   refine zp rfl rfl (zg rfl (gk yw) (zb rfl)) (sk yM) ?_
   refine zx rfl rfl (fun hb=>zg rfl yB (zb rfl)) (sk wD) ?_
   refine zx rfl rfl (fun hb=>zg rfl yY (zb rfl)) (sk yF) ?_
   refine zx rfl rfl (fun hb=>zy rfl (zn (gk yH) hb) rfl rfl) (sk xG) ?_
   refine wt hF (fun hg17 hF=>?_)
   refine zx rfl rfl (fun hb=>xB default rfl ve (zn (gk xj) hb) (zn (gk yY) hb) qZ (hg17 hb)) (sk xY) ?_
   refine zx rfl rfl (fun hb=>zf rfl fo57x0 (zn (gk yT) hb) rfl) (sk wm) ?_
   refine zx rfl rfl (fun hb=>yl rfl vh (zn (gk xN) hb) (zt rfl) (zb rfl)) (sk wl) ?_
   refine zx rfl rfl (fun hb=>zg rfl yB (zb rfl)) (sk vi) ?_
   refine zx rfl rfl (fun hb=>zg rfl yY (zb rfl)) (sk yN) ?_
   refine zx rfl rfl (fun hb=>zy rfl (zn (gk yG) hb) rfl rfl) (sk yR) ?_
   refine wt hF (fun hg18 hF=>?_)
   refine zx rfl rfl (fun hb=>xB default rfl ve (zn (gk wE) hb) (zn (gk yP) hb) qZ (hg18 hb)) (sk yQ) ?_
   refine zx rfl rfl (fun hb=>zf rfl qk (zn (gk yO) hb) rfl) (sk yU) ?_
   refine zx rfl rfl (fun hb=>yl rfl ty38.choose_spec.1 (zn (gk yL) hb) (zI (cs':=[.int .u8 (((l0).getD (IntKind.wrap .i64 ((n1:Int) - (1:Int))).toNat default).dot.actor.rep),.int .u32 (((l0).getD (IntKind.wrap .i64 ((n1:Int) - (1:Int))).toNat default).dot.actor.inc),.int .u64 (((l0).getD (IntKind.wrap .i64 ((n1:Int) - (1:Int))).toNat default).dot.seq)]) ty38.choose_spec.2 rfl rfl) (zb rfl)) (sk y3) ?_
   refine zx rfl rfl (fun hb=>zf rfl fo57x0 yT rfl) (sk y2) ?_
   refine zx rfl rfl (fun hb=>zu rfl vh (zn (gk yW) hb) rfl (zt rfl) (zb rfl)) (sk xf) ?_
   refine zx rfl rfl (fun hb=>zf rfl qk yT rfl) (sk xA) ?_
   refine zx rfl rfl (fun hb=>zu rfl ty38.choose_spec.1 (zn (gk xC) hb) rfl (zI (cs':=[.int .u8 x1.dot.actor.rep,.int .u32 x1.dot.actor.inc,.int .u64 x1.dot.seq]) ty38.choose_spec.2 rfl rfl) (zb rfl)) (sk xR) ?_
   refine yZ hF (fun v19 hv19 hF=>?_)
   refine wW rfl rfl (fun hb=>zC rfl rfl rfl (zo (zn (gk xu) hb) (zo (zn (gk y4) hb) (zo (zn (gk xd) hb) (zo (zn (gk xL) hb) zw)))) (.cons (zb rfl) (.cons (zb rfl) (.cons (zb rfl) (.cons (zb rfl) .nil))))) (fun hb=>ok68 (hv19 hb)) (sk wa) ?_
   refine zx rfl rfl (fun hb=>wo rfl (zn (gk wh) hb) rfl) (sk wJ) ?_
   refine zp rfl rfl (zL rfl (gk yV) (gk wL) rfl (zT (fun ht=>gT ht))) (sk wO) ?_
   refine ym ?_
   refine zj ?_
   refine zR (gk wK) hF (fun hc20 hF=>?_) (fun hc20 hF=>?_)
   ·refine zk (zd ?_)
    refine zc rfl (zi rfl rfl (zb rfl)) yF ?_
    refine ze (zj (zJ ?_))
    refine zG ?_
    refine zB ?_
    refine yj ?_
    obtain rfl:=Option.some.inj hF
    replace hF:=hK1
    refine zG ?_
    refine zB ?_
    obtain rfl:=Option.some.inj hF
    refine zz rfl (zF yH zD) (zA (leV.refl _) rfl ?_)
    exact ⟨rfl,rfl⟩
   ·refine zO (yi (zj (zd ?_)))
    refine zc rfl (zy rfl wE rfl rfl) (sk vk) ?_
    refine zc rfl (zg rfl (gk vm) (zb rfl)) vi ?_
    refine ze (yK ?_)
    obtain rfl:=Option.some.inj hF
    exact ⟨(),hl1,hK1,wk.trans (wk.le (by exact (.eq (.eq (.d4 (.drop (.eq (.eq (.cons (leV.of_eq (vN (by omega) (by omega))) (.d16 (.d16 (.d16 (.d4 (.d4 leL.nil)))))))))))))) (xP (by simp [yf,AV.low]) rfl rfl (by simp [Blk.low,yf,AV.low]))⟩
 ·refine yX ?_
  refine z7 ?_
  refine zW ?_
  refine zX ?_
  refine zj (zk (zd ?_))
  refine zc rfl (zg rfl yB (zb rfl)) (sk wN) ?_
  refine zU hF (fun v21 hv21 hF=>?_)
  refine zN rfl (zC rfl rfl rfl (zo (gk wy) zw) (.cons (zb rfl) .nil)) (ok69 hv21) (sk vj) ?_
  refine zc rfl (wo rfl (gk vl) rfl) (sk vC) ?_
  refine zc rfl (zi rfl (gk vw) (zb rfl)) yF ?_
  refine ze (zj (zJ ?_))
  obtain rfl:=Option.some.inj hF
  refine zz rfl (zF yH zD) (zA (leV.refl _) rfl ?_)
  exact ⟨rfl,rfl⟩
theorem ok110 {s0:(List GItem)} {f1:(GItem→Option Bool)} {ff1:FuncId} {af1 kf1:List AV} {res:Int} {h:AH} (hf1:∀ x0 v (L:List Blk) (M:List Nat),f1 x0=some v→Spec Tryz.prog ff1 (af1++[.agg [.int .u64 x0.time,.int .u8 x0.dot.actor.rep,.int .u32 x0.dot.actor.inc,.int .u64 x0.dot.seq,.str x0.text]]++kf1) (h.ext L M) (fun rr hh=>rr=.bool v∧hh=h.ext L M)) (hF:x9 s0 f1=some res):Spec Tryz.prog 110 [.sl 5 (s0.map GItem.row),.fn (.func ff1) af1 kf1] h (fun rr hh=>rr=.int .i64 res∧hh=h):=by
 unfold x9 at hF
 refine yv Tryz.func110 rfl (by kernel_rfl) (env:=[.sl 5 (s0.map GItem.row),.fn (.func ff1) af1 kf1,za,za,za,za,za,za,za,za,za,za,za,za,za,za,za,za,za]) (by rfl) (fun hlow hC=>?_)
 simp only [yf,AV.low,Bool.and_eq_true,Bool.true_and,and_true] at hlow
 have hlaf1:∀ n m,h.blks.length≤n→h.toks.length≤m→yf n m af1=true:=fun n m h1 h2=>yJ h1 h2 _ (by simp [hlow])
 have hlkf1:∀ n m,h.blks.length≤n→h.toks.length≤m→yf n m kf1=true:=fun n m h1 h2=>yJ h1 h2 _ (by simp [hlow])
 refine zk (zd ?_)
 refine zc rfl (zi rfl rfl (zb rfl)) yF ?_
 refine ze (zj (zk (zk (zd ?_))))
 refine zc rfl (zg rfl yB (zb rfl)) xY ?_
 refine yc rfl (zY rfl rfl rfl rfl ve yT yh) wm fun hn1=>?_
 replace hn1:=xK hn1
 refine zc rfl (zg rfl rfl (zb rfl)) wl ?_
 refine ze (zj (zS ?_))
 refine yu (fun (n1:Nat) (s1:Unit)=>yS [2,3,4,5,6,9,10,11,12,13,14,15,16,17,18] [(8,.int .i64 (n1:Int))]) (fun s1=>h.ext [] []) hF (fun _ _=>by simp only [yS,upd,List.set_cons_succ,List.set_cons_zero];try rfl) (wk.le (by exact (.eq (.eq (.d4 (.drop (.eq (.cons (leV.of_eq rfl) (.d4 (.d4 (.drop (.drop leL.nil)))))))))))) ?_
 intro n1 s1 hi1 hF
 refine zk (zd ?_)
 refine zc rfl (zy rfl xu xN rfl) vi ?_
 refine ze (zj (zk ?_))
 refine yI wE hF (fun x1 o1 hl1 hx1 hF hK1=>?_) (fun hF=>?_)
 ·refine zO (zj (zk (zS (zk (zd ?_)))))
  refine zc rfl (zg rfl xu (zb rfl)) yN ?_
  refine zc rfl (zi rfl yG (zb rfl)) xG ?_
  refine ze (zj (zk (zd ?_)))
  refine zc rfl (zg rfl yw (zb rfl)) yR ?_
  refine zc rfl (zg rfl yB (zb rfl)) yQ ?_
  refine zc rfl (zg rfl yY (zb rfl)) yU ?_
  refine zc rfl (yr rfl ve yO yL qZ (xc hx1)) y3 ?_
  refine zc rfl (yl rfl ty57.choose_spec.1 y4 (zI (cs':=[.int .u64 x1.time,.int .u8 x1.dot.actor.rep,.int .u32 x1.dot.actor.inc,.int .u64 x1.dot.seq,.str x1.text]) ty57.choose_spec.2 rfl rfl) (zb rfl)) y2 ?_
  refine zU hF (fun v7 hv7 hF=>?_)
  refine zN rfl (s_callC rfl rfl yP (zo yW zw) (.cons (zb rfl) .nil) rfl) (hf1 _ _ _ _ hv7) xf ?_
  refine ze (zj ?_)
  refine zR xd hF (fun hc8 hF=>?_) (fun hc8 hF=>?_)
  ·refine zk (zd ?_)
   refine zc rfl (zg rfl yY (zb rfl)) xA ?_
   refine zc rfl (zi rfl xC (zb rfl)) yF ?_
   refine ze (zj (zJ ?_))
   refine zG ?_
   refine zB ?_
   refine yj ?_
   obtain rfl:=Option.some.inj hF
   replace hF:=hK1
   refine zG ?_
   refine zB ?_
   obtain rfl:=Option.some.inj hF
   refine zz rfl (zF yH zD) (zA (leV.refl _) rfl ?_)
   exact ⟨rfl,rfl⟩
  ·refine zO (yi (zj (zd ?_)))
   refine zc rfl (zy rfl xu rfl rfl) xR ?_
   refine zc rfl (zg rfl xL (zb rfl)) wl ?_
   refine ze (yK ?_)
   obtain rfl:=Option.some.inj hF
   exact ⟨(),hl1,hK1,wk.le (by exact (.eq (.eq (.d4 (.drop (.eq (.cons (leV.of_eq (vN (by omega) (by omega))) (.d4 (.d4 (.drop (.drop leL.nil)))))))))))⟩
 ·refine yX ?_
  refine z7 ?_
  refine zW ?_
  refine zX ?_
  refine zj (zk (zd ?_))
  refine zc rfl (zi rfl rfl (zb rfl)) yF ?_
  refine ze (zj (zJ ?_))
  obtain rfl:=Option.some.inj hF
  refine zz rfl (zF yH zD) (zA (leV.refl _) rfl ?_)
  exact ⟨rfl,rfl⟩
theorem ok93 {s0:(List GItem)} {f1:(GItem→Option Bool)} {ff1:FuncId} {af1 kf1:List AV} {res:Bool} {h:AH} (hf1:∀ x0 v (L:List Blk) (M:List Nat),f1 x0=some v→Spec Tryz.prog ff1 (af1++[.agg [.int .u64 x0.time,.int .u8 x0.dot.actor.rep,.int .u32 x0.dot.actor.inc,.int .u64 x0.dot.seq,.str x0.text]]++kf1) (h.ext L M) (fun rr hh=>rr=.bool v∧hh=h.ext L M)) (hF:y6 s0 f1=some res):Spec Tryz.prog 93 [.sl 5 (s0.map GItem.row),.fn (.func ff1) af1 kf1] h (fun rr hh=>rr=.bool res∧hh=h):=by
 unfold y6 at hF
 refine yv Tryz.func93 rfl (by kernel_rfl) (env:=[.sl 5 (s0.map GItem.row),.fn (.func ff1) af1 kf1,za,za,za,za,za,za,za]) (by rfl) (fun hlow hC=>?_)
 simp only [yf,AV.low,Bool.and_eq_true,Bool.true_and,and_true] at hlow
 have hlaf1:∀ n m,h.blks.length≤n→h.toks.length≤m→yf n m af1=true:=fun n m h1 h2=>yJ h1 h2 _ (by simp [hlow])
 have hlkf1:∀ n m,h.blks.length≤n→h.toks.length≤m→yf n m kf1=true:=fun n m h1 h2=>yJ h1 h2 _ (by simp [hlow])
 refine zk (zd ?_)
 refine zc rfl (zi rfl rfl (zb rfl)) yF ?_
 refine ze (zj (zk (zd ?_)))
 refine zc rfl (zg rfl yB (zb rfl)) xG ?_
 refine zc rfl (zg rfl yw (zb rfl)) xY ?_
 refine zU hF (fun v1 hv1 hF=>?_)
 refine zN rfl (zC rfl rfl rfl (zo yY (zo yT zw)) (.cons (zb rfl) (.cons (zb rfl) .nil))) (ok110 (fun x0 v L M hv=>by rw [wI];exact hf1 x0 v _ _ hv) hv1) wm ?_
 refine zc rfl (zy rfl xN rfl rfl) wl ?_
 refine zc rfl (zi rfl xu (zb rfl)) yF ?_
 refine ze (zj (zJ ?_))
 obtain rfl:=Option.some.inj hF
 refine zz rfl (zF yH zD) (zA (leV.refl _) rfl ?_)
 exact ⟨rfl,rfl⟩
theorem ok94 {x0:GItem} {c0:GDot} {i0:Nat} {res:Bool} {h:AH} (hb0:h.blk i0=some (.cells [.int .u8 c0.actor.rep,.int .u32 c0.actor.inc,.int .u64 c0.seq])) (hF:leafXhasC1 x0 c0=some res):Spec Tryz.prog 94 [.agg [.int .u64 x0.time,.int .u8 x0.dot.actor.rep,.int .u32 x0.dot.actor.inc,.int .u64 x0.dot.seq,.str x0.text],.ptr i0 0] h (fun rr hh=>rr=.bool res∧hh=h):=by
 unfold leafXhasC1 at hF
 refine zr Tryz.func94 rfl (by kernel_rfl) (env:=[.agg [.int .u64 x0.time,.int .u8 x0.dot.actor.rep,.int .u32 x0.dot.actor.inc,.int .u64 x0.dot.seq,.str x0.text],.ptr i0 0,za,za,za,za,za,za]) (by rfl) ?_
 refine zk (zd ?_)
 refine zc rfl (xb (n:=0) rfl yB (zb rfl) rfl rfl) yM ?_
 refine zc rfl (zi rfl rfl (zb rfl)) wD ?_
 refine ze (zj (zk (zd ?_)))
 refine zc rfl (zf rfl qk yV rfl) yF ?_
 refine zc rfl (zu rfl ty38.choose_spec.1 yH rfl (zI (cs':=[.int .u8 x0.dot.actor.rep,.int .u32 x0.dot.actor.inc,.int .u64 x0.dot.seq]) ty38.choose_spec.2 rfl rfl) (zb rfl)) xG ?_
 refine zc rfl (b_load rfl ty38.choose_spec.1 yw hb0 (zI (cs':=[.int .u8 c0.actor.rep,.int .u32 c0.actor.inc,.int .u64 c0.seq]) ty38.choose_spec.2 rfl rfl) (zb rfl)) xY ?_
 refine zc rfl (zy rfl yY yT (bin_eq pk38 rfl)) wm ?_
 refine zc rfl (zi rfl xN (zb rfl)) wD ?_
 refine ze (zj (zJ ?_))
 obtain rfl:=Option.some.inj hF
 refine zz rfl (zF xj zD) (zA (leV.refl _) rfl ?_)
 exact ⟨rfl,rfl⟩
theorem ok71 {l0:(List GItem)} {d1:GDot} {res:Bool} {h:AH}  (hF:leafXhas l0 d1=some res):Spec Tryz.prog 71 [.sl 5 (l0.map GItem.row),.agg [.int .u8 d1.actor.rep,.int .u32 d1.actor.inc,.int .u64 d1.seq]] h (fun rr hh=>rr=.bool res∧hh=h):=by
 unfold leafXhas at hF
 refine zr Tryz.func71 rfl (by kernel_rfl) (env:=[.sl 5 (l0.map GItem.row),.agg [.int .u8 d1.actor.rep,.int .u32 d1.actor.inc,.int .u64 d1.seq],za,za,za,za,za,za]) (by rfl) ?_
 refine zk (zd ?_)
 refine zc rfl (xb (n:=0) rfl yw (zb rfl) rfl rfl) wD ?_
 refine zc rfl (zi rfl rfl (zb rfl)) yF ?_
 refine ze (zj (zk (zd ?_)))
 refine zc rfl (zg rfl yB (zb rfl)) xG ?_
 refine zc rfl (s_makeFunc rfl rfl rfl) xY ?_
 refine zU hF (fun v1 hv1 hF=>?_)
 refine zN rfl (zC rfl rfl rfl (zo yY (zo yT zw)) (.cons (zb rfl) (.cons (zb rfl) .nil))) (ok93 (fun _ v L M hv=>ok94 (blk_ext2 (j:=0) rfl) hv) hv1) wm ?_
 refine zc rfl (zi rfl xN (zb rfl)) yF ?_
 refine ze (zj (zJ ?_))
 obtain rfl:=Option.some.inj hF
 refine zz rfl (zF yH zD) (zA (leV.refl _) rfl ?_)
 exact ⟨rfl,rfl⟩
theorem ok46 {l0:GLeaf} {res:Bool} {h:AH}  (hF:leafXtombs l0=some res):Spec Tryz.prog 46 [.agg [.int .u8 l0.typ,.int .i64 l0.n,.int .u64 l0.time,.int .u8 l0.dot.actor.rep,.int .u32 l0.dot.actor.inc,.int .u64 l0.dot.seq,.str l0.text,.sl 5 (l0.items.map GItem.row),.sl 3 (l0.tombs.map GDot.row)]] h (fun rr hh=>rr=.bool res∧hh=h):=by
 unfold leafXtombs at hF
 refine zr Tryz.func46 rfl (by kernel_rfl) (env:=[.agg [.int .u8 l0.typ,.int .i64 l0.n,.int .u64 l0.time,.int .u8 l0.dot.actor.rep,.int .u32 l0.dot.actor.inc,.int .u64 l0.dot.seq,.str l0.text,.sl 5 (l0.items.map GItem.row),.sl 3 (l0.tombs.map GDot.row)],za,za,za,za,za,za,za,za,za,za,za,za,za,za,za,za,za,za,za,za,za,za,za,za,za,za,za,za,za,za,za,za,za,za,za,za,za]) (by rfl) ?_
 refine zk (zd ?_)
 refine zc rfl (xb (n:=0) rfl yB (zb rfl) rfl rfl) st1 ?_
 refine zc rfl (zi rfl rfl (zb rfl)) yM ?_
 refine ze (zj (zk (zk (zd ?_))))
 refine zc rfl (zf rfl vn yw rfl) xG ?_
 refine zc rfl (zu rfl ty40 yY rfl (zt rfl) (zb rfl)) xY ?_
 refine yc rfl (zY rfl rfl rfl rfl qW yT yh) wm fun hn1=>?_
 replace hn1:=xK hn1
 refine zc rfl (zg rfl rfl (zb rfl)) wl ?_
 refine ze (zj (zS ?_))
 refine yu (fun (n1:Nat) (s1:Unit)=>yS [0,2,3,4,5,9,10,11,12,13,14,15,16,17,18,19,20,21,22,23,24,25,26,27,28,29,30,31,32,33,34,35,36,37] [(8,.int .i64 (n1:Int))]) (fun s1=>h.ext [.cells [.int .u8 l0.typ,.int .i64 l0.n,.int .u64 l0.time,.int .u8 l0.dot.actor.rep,.int .u32 l0.dot.actor.inc,.int .u64 l0.dot.seq,.str l0.text,.sl 5 (l0.items.map GItem.row),.sl 3 (l0.tombs.map GDot.row)]] []) hF (fun _ _=>by simp only [yS,upd,List.set_cons_succ,List.set_cons_zero];try rfl) (wk.le (by exact (.drop (.eq (.d4 (.eq (.eq (.cons (leV.of_eq rfl) (.d16 (.d4 (.d4 (.d4 (.drop leL.nil))))))))))))) ?_
 intro n1 s1 hi1 hF
 refine zk (zd ?_)
 refine zc rfl (zy rfl xu xN rfl) vi ?_
 refine ze (zj (zk ?_))
 refine yI wE hF (fun x1 o1 hl1 hx1 hF hK1=>?_) (fun hF=>?_)
 ·refine zO (zj (zk (zS (zk (zd ?_)))))
  refine zc rfl (zg rfl xu (zb rfl)) yN ?_
  refine zc rfl (yr rfl qW yT xu qZ (xc hx1)) yR ?_
  refine zc rfl (yl rfl ty38.choose_spec.1 yP (zI (cs':=[.int .u8 x1.actor.rep,.int .u32 x1.actor.inc,.int .u64 x1.seq]) ty38.choose_spec.2 rfl rfl) (zb rfl)) yQ ?_
  refine zc rfl (y9 (n:=1) rfl ze38 rfl) yF ?_
  refine zc rfl (zi rfl yG (zb rfl)) wD ?_
  refine zc rfl (yx (cs':=[.int .u8 x1.actor.rep,.int .u32 x1.actor.inc,.int .u64 x1.seq]) rfl ty38.choose_spec.1 yH yO (zb rfl) rfl rfl rfl rfl rfl) rfl ?_
  refine ze (zj (zk ?_))
  refine yD [1] [] trivial mixed (by kernel_rfl) ?_
  refine zp rfl rfl (zu rfl ty38.choose_spec.1 yH rfl (zI (cs':=[.int .u8 x1.actor.rep,.int .u32 x1.actor.inc,.int .u64 x1.seq]) ty38.choose_spec.2 rfl rfl) (zb rfl)) yU ?_
  refine zU hF (fun v19 hv19 hF=>?_)
  refine zZ rfl rfl (fun _=>zC rfl rfl rfl (zo yL zw) (.cons (zb rfl) .nil)) (by rintro _ ⟨B2,T2,rfl,hk2⟩;exact ok43 hv19) y3 ?_
  refine zp rfl rfl (wo rfl y4 rfl) y2 ?_
  refine zp rfl rfl (zg rfl yW (zb rfl)) xf ?_
  refine zx rfl rfl (fun hb=>zg rfl xj (zb rfl)) xA ?_
  refine zx rfl rfl (fun hb=>zy rfl (zn xC hb) rfl rfl) xR ?_
  refine zx rfl rfl (fun hb=>zg rfl (zn xL hb) (zb rfl)) wa ?_
  refine zx rfl (zQ rfl rfl rfl) (fun hb=>zf rfl vn yw rfl) wJ ?_
  refine zx rfl (zQ rfl rfl rfl) (fun hb=>zu rfl ty40 (zn wL hb) rfl (zt rfl) (zb rfl)) wO ?_
  refine zx rfl (zQ rfl rfl rfl) (fun hb=>zg rfl xj (zb rfl)) vk ?_
  refine zx rfl (zQ rfl rfl rfl) (fun hb=>zy rfl (zn vm hb) rfl rfl) wN ?_
  refine wt hF (fun hg20 hF=>?_)
  refine zx rfl (zQ rfl rfl rfl) (fun hb=>xB default rfl qW (zn wK hb) (zn wy hb) qZ (hg20 hb)) vj ?_
  refine zx rfl (zQ rfl rfl rfl) (fun hb=>yl rfl ty38.choose_spec.1 (zn vl hb) (zI (cs':=[.int .u8 (((l0.tombs).getD (IntKind.wrap .i64 ((n1:Int) - (1:Int))).toNat default).actor.rep),.int .u32 (((l0.tombs).getD (IntKind.wrap .i64 ((n1:Int) - (1:Int))).toNat default).actor.inc),.int .u64 (((l0.tombs).getD (IntKind.wrap .i64 ((n1:Int) - (1:Int))).toNat default).seq)]) ty38.choose_spec.2 rfl rfl) (zb rfl)) vC ?_
  refine zx rfl (zQ rfl rfl rfl) (fun hb=>zu rfl ty38.choose_spec.1 yH rfl (zI (cs':=[.int .u8 x1.actor.rep,.int .u32 x1.actor.inc,.int .u64 x1.seq]) ty38.choose_spec.2 rfl rfl) (zb rfl)) qx ?_
  refine yZ hF (fun v21 hv21 hF=>?_)
  refine wW rfl (zQ rfl rfl rfl) (fun hb=>zC rfl rfl rfl (zo (zn vw hb) (zo (zn qI hb) zw)) (.cons (zb rfl) (.cons (zb rfl) .nil))) (fun hb=>ok70 (hv21 hb)) qw ?_
  refine zx rfl (zQ rfl rfl rfl) (fun hb=>zy rfl (zn qj hb) rfl rfl) qU ?_
  refine zx rfl rfl (fun hb=>zL rfl (zn wh hb) qH rfl (zT (fun ht=>gT2 hb ht))) qv ?_
  refine zp rfl rfl (zL rfl xd rfl qi (yb (fun ht=>gF ht))) q9 ?_
  refine zp rfl rfl (zg rfl gt30 (zb rfl)) q8 ?_
  refine zx rfl rfl (fun hb=>zf rfl x6 yw rfl) st32 ?_
  refine zx rfl rfl (fun hb=>zu rfl ty39 (zn gt32 hb) rfl (zt rfl) (zb rfl)) st33 ?_
  refine zx rfl rfl (fun hb=>zu rfl ty38.choose_spec.1 yH rfl (zI (cs':=[.int .u8 x1.actor.rep,.int .u32 x1.actor.inc,.int .u64 x1.seq]) ty38.choose_spec.2 rfl rfl) (zb rfl)) st34 ?_
  refine yZ hF (fun v22 hv22 hF=>?_)
  refine wW rfl rfl (fun hb=>zC rfl rfl rfl (zo (zn gt33 hb) (zo (zn gt34 hb) zw)) (.cons (zb rfl) (.cons (zb rfl) .nil))) (fun hb=>ok71 (hv22 hb)) st35 ?_
  refine zp rfl rfl (zL rfl gt31 rfl gt35 (yb (fun ht=>gF ht))) qT ?_
  refine ym ?_
  refine zj ?_
  refine zR qG hF (fun hc23 hF=>?_) (fun hc23 hF=>?_)
  ·refine zk (zd ?_)
   refine zc rfl (zi rfl rfl (zb rfl)) yM ?_
   refine ze (zj (zJ ?_))
   refine zG ?_
   refine zB ?_
   refine yj ?_
   obtain rfl:=Option.some.inj hF
   replace hF:=hK1
   refine zG ?_
   refine zB ?_
   obtain rfl:=Option.some.inj hF
   refine zz rfl (zF yV zD) (zA (leV.refl _) rfl ?_)
   exact ⟨rfl,rfl⟩
  ·refine zO (yi (zj (zd ?_)))
   refine zc rfl (zy rfl xu rfl rfl) qS ?_
   refine zc rfl (zg rfl qF (zb rfl)) wl ?_
   refine ze (yK ?_)
   obtain rfl:=Option.some.inj hF
   exact ⟨(),hl1,hK1,wk.trans (wk.le (by exact (.drop (.eq (.d4 (.eq (.eq (.cons (leV.of_eq (vN (by omega) (by omega))) (.d16 (.d4 (.d4 (.d4 (.drop leL.nil))))))))))))) (xP (by simp [yf,AV.low]) rfl rfl (by simp [Blk.low,yf,AV.low]))⟩
 ·refine yX ?_
  refine z7 ?_
  refine zW ?_
  refine zX ?_
  refine zj (zk (zd ?_))
  refine zc rfl (zi rfl rfl (zb rfl)) yM ?_
  refine ze (zj (zJ ?_))
  obtain rfl:=Option.some.inj hF
  refine zz rfl (zF yV zD) (zA (leV.refl _) rfl ?_)
  exact ⟨rfl,rfl⟩
theorem ok72 {s10:(List GItem)} {s21:(List GItem)} {res:Bool} {h:AH}  (hF:ww s10 s21=some res):Spec Tryz.prog 72 [.sl 5 (s10.map GItem.row),.sl 5 (s21.map GItem.row)] h (fun rr hh=>rr=.bool res∧hh=h):=by
 unfold ww at hF
 refine zr Tryz.func72 rfl (by kernel_rfl) (env:=[.sl 5 (s10.map GItem.row),.sl 5 (s21.map GItem.row),za,za,za,za,za,za,za,za,za,za,za,za,za,za,za,za,za,za,za,za,za,za,za,za]) (by rfl) ?_
 refine zk (zd ?_)
 refine zc rfl (zi rfl rfl (zb rfl)) yF ?_
 refine ze (zj (zk (zk (zd ?_))))
 refine zc rfl (zg rfl yB (zb rfl)) xY ?_
 refine yc rfl (zY rfl rfl rfl rfl ve yT yh) wm fun hn1=>?_
 replace hn1:=xK hn1
 refine zc rfl (zg rfl yw (zb rfl)) wl ?_
 refine yc rfl (zY rfl rfl rfl rfl ve xu yh) vi fun hn2=>?_
 replace hn2:=xK hn2
 refine zc rfl (zy rfl xN wE rfl) yN ?_
 refine ze (zj ?_)
 refine zR yG hF (fun hc3 hF=>?_) (fun hc3 hF=>?_)
 ·refine zk (zd ?_)
  refine zc rfl (zi rfl rfl (zb rfl)) yF ?_
  refine ze (zj (zJ (zB ?_)))
  obtain rfl:=Option.some.inj hF
  refine zz rfl (zF yH zD) (zA (leV.refl _) rfl ?_)
  exact ⟨rfl,rfl⟩
 ·refine zO (zj (zk (zk (zd ?_))))
  refine zc rfl (zg rfl yB (zb rfl)) yR ?_
  refine yc rfl (zY rfl rfl rfl rfl ve yP yh) yQ fun hn4=>?_
  replace hn4:=xK hn4
  refine zc rfl (zg rfl rfl (zb rfl)) yU ?_
  refine ze (zj (zS ?_))
  refine yu (fun (n1:Nat) (s1:Unit)=>yS [2,3,4,5,6,7,8,9,10,11,14,15,16,17,18,19,20,21,22,23,24,25] [(13,.int .i64 (n1:Int))]) (fun s1=>h.ext [] []) hF (fun _ _=>by simp only [yS,upd,List.set_cons_succ,List.set_cons_zero];try rfl) (wk.le (by exact (.eq (.eq (.d4 (.d4 (.drop (.drop (.eq (.cons (leV.of_eq rfl) (.d4 (.d4 (.d4 leL.nil))))))))))))) ?_
  intro n1 s1 hi1 hF
  refine zk (zd ?_)
  refine zc rfl (zy rfl yL yO rfl) y3 ?_
  refine ze (zj (zk ?_))
  refine yI y4 hF (fun x1 o1 hl1 hx1 hF hK1=>?_) (fun hF=>?_)
  ·refine zO (zj (zk (zS (zk (zd ?_)))))
   refine zc rfl (zg rfl yL (zb rfl)) y2 ?_
   refine zc rfl (zi rfl yW (zb rfl)) xG ?_
   refine ze (zj (zk ?_))
   refine yD [] [] trivial mixed (by kernel_rfl) ?_
   refine zp rfl rfl (zg rfl yB (zb rfl)) xf ?_
   refine zp rfl rfl (zg rfl yY (zb rfl)) xA ?_
   refine zp rfl rfl (yr rfl ve xd xC qZ (xc hx1)) xR ?_
   refine zp rfl rfl (yl rfl ty57.choose_spec.1 xL (zI (cs':=[.int .u64 x1.time,.int .u8 x1.dot.actor.rep,.int .u32 x1.dot.actor.inc,.int .u64 x1.dot.seq,.str x1.text]) ty57.choose_spec.2 rfl rfl) (zb rfl)) wa ?_
   refine zp rfl rfl (zg rfl yw (zb rfl)) wJ ?_
   refine zp rfl rfl (zg rfl yY (zb rfl)) wO ?_
   refine zU hF (fun y10 hy10 hF=>?_)
   refine zp rfl rfl (yr rfl ve wL wK qZ hy10) vk ?_
   refine zp rfl rfl (yl rfl ty57.choose_spec.1 vm (zI (cs':=[.int .u64 y10.time,.int .u8 y10.dot.actor.rep,.int .u32 y10.dot.actor.inc,.int .u64 y10.dot.seq,.str y10.text]) ty57.choose_spec.2 rfl rfl) (zb rfl)) wN ?_
   refine zp rfl rfl (zy rfl wh wy (bin_ne pk57 rfl)) vj ?_
   refine ym ?_
   refine zj ?_
   refine zR vl hF (fun hc11 hF=>?_) (fun hc11 hF=>?_)
   ·refine zk (zd ?_)
    refine zc rfl (zi rfl rfl (zb rfl)) yF ?_
    refine ze (zj (zJ ?_))
    refine zG ?_
    refine zB ?_
    refine yj ?_
    obtain rfl:=Option.some.inj hF
    replace hF:=hK1
    refine zG ?_
    refine zB ?_
    obtain rfl:=Option.some.inj hF
    refine zz rfl (zF yH zD) (zA (leV.refl _) rfl ?_)
    exact ⟨rfl,rfl⟩
   ·refine zO (yi (zj (zd ?_)))
    refine zc rfl (zy rfl yL rfl rfl) vC ?_
    refine zc rfl (zg rfl vw (zb rfl)) yU ?_
    refine ze (yK ?_)
    obtain rfl:=Option.some.inj hF
    exact ⟨(),hl1,hK1,wk.le (by exact (.eq (.eq (.d4 (.d4 (.drop (.drop (.eq (.cons (leV.of_eq (vN (by omega) (by omega))) (.d4 (.d4 (.d4 leL.nil))))))))))))⟩
  ·refine yX ?_
   refine z7 ?_
   refine zW ?_
   refine zX ?_
   refine zj (zk (zd ?_))
   refine zc rfl (zi rfl rfl (zb rfl)) yF ?_
   refine ze (zj (zJ ?_))
   obtain rfl:=Option.some.inj hF
   refine zz rfl (zF yH zD) (zA (leV.refl _) rfl ?_)
   exact ⟨rfl,rfl⟩
theorem ok73 {s10:(List GDot)} {s21:(List GDot)} {res:Bool} {h:AH}  (hF:wP s10 s21=some res):Spec Tryz.prog 73 [.sl 3 (s10.map GDot.row),.sl 3 (s21.map GDot.row)] h (fun rr hh=>rr=.bool res∧hh=h):=by
 unfold wP at hF
 refine zr Tryz.func73 rfl (by kernel_rfl) (env:=[.sl 3 (s10.map GDot.row),.sl 3 (s21.map GDot.row),za,za,za,za,za,za,za,za,za,za,za,za,za,za,za,za,za,za,za,za,za,za,za,za]) (by rfl) ?_
 refine zk (zd ?_)
 refine zc rfl (zi rfl rfl (zb rfl)) yF ?_
 refine ze (zj (zk (zk (zd ?_))))
 refine zc rfl (zg rfl yB (zb rfl)) xY ?_
 refine yc rfl (zY rfl rfl rfl rfl qW yT yh) wm fun hn1=>?_
 replace hn1:=xK hn1
 refine zc rfl (zg rfl yw (zb rfl)) wl ?_
 refine yc rfl (zY rfl rfl rfl rfl qW xu yh) vi fun hn2=>?_
 replace hn2:=xK hn2
 refine zc rfl (zy rfl xN wE rfl) yN ?_
 refine ze (zj ?_)
 refine zR yG hF (fun hc3 hF=>?_) (fun hc3 hF=>?_)
 ·refine zk (zd ?_)
  refine zc rfl (zi rfl rfl (zb rfl)) yF ?_
  refine ze (zj (zJ (zB ?_)))
  obtain rfl:=Option.some.inj hF
  refine zz rfl (zF yH zD) (zA (leV.refl _) rfl ?_)
  exact ⟨rfl,rfl⟩
 ·refine zO (zj (zk (zk (zd ?_))))
  refine zc rfl (zg rfl yB (zb rfl)) yR ?_
  refine yc rfl (zY rfl rfl rfl rfl qW yP yh) yQ fun hn4=>?_
  replace hn4:=xK hn4
  refine zc rfl (zg rfl rfl (zb rfl)) yU ?_
  refine ze (zj (zS ?_))
  refine yu (fun (n1:Nat) (s1:Unit)=>yS [2,3,4,5,6,7,8,9,10,11,14,15,16,17,18,19,20,21,22,23,24,25] [(13,.int .i64 (n1:Int))]) (fun s1=>h.ext [] []) hF (fun _ _=>by simp only [yS,upd,List.set_cons_succ,List.set_cons_zero];try rfl) (wk.le (by exact (.eq (.eq (.d4 (.d4 (.drop (.drop (.eq (.cons (leV.of_eq rfl) (.d4 (.d4 (.d4 leL.nil))))))))))))) ?_
  intro n1 s1 hi1 hF
  refine zk (zd ?_)
  refine zc rfl (zy rfl yL yO rfl) y3 ?_
  refine ze (zj (zk ?_))
  refine yI y4 hF (fun x1 o1 hl1 hx1 hF hK1=>?_) (fun hF=>?_)
  ·refine zO (zj (zk (zS (zk (zd ?_)))))
   refine zc rfl (zg rfl yL (zb rfl)) y2 ?_
   refine zc rfl (zi rfl yW (zb rfl)) xG ?_
   refine ze (zj (zk ?_))
   refine yD [] [] trivial mixed (by kernel_rfl) ?_
   refine zp rfl rfl (zg rfl yB (zb rfl)) xf ?_
   refine zp rfl rfl (zg rfl yY (zb rfl)) xA ?_
   refine zp rfl rfl (yr rfl qW xd xC qZ (xc hx1)) xR ?_
   refine zp rfl rfl (yl rfl ty38.choose_spec.1 xL (zI (cs':=[.int .u8 x1.actor.rep,.int .u32 x1.actor.inc,.int .u64 x1.seq]) ty38.choose_spec.2 rfl rfl) (zb rfl)) wa ?_
   refine zp rfl rfl (zg rfl yw (zb rfl)) wJ ?_
   refine zp rfl rfl (zg rfl yY (zb rfl)) wO ?_
   refine zU hF (fun y10 hy10 hF=>?_)
   refine zp rfl rfl (yr rfl qW wL wK qZ hy10) vk ?_
   refine zp rfl rfl (yl rfl ty38.choose_spec.1 vm (zI (cs':=[.int .u8 y10.actor.rep,.int .u32 y10.actor.inc,.int .u64 y10.seq]) ty38.choose_spec.2 rfl rfl) (zb rfl)) wN ?_
   refine zp rfl rfl (zy rfl wh wy (bin_ne pk38 rfl)) vj ?_
   refine ym ?_
   refine zj ?_
   refine zR vl hF (fun hc11 hF=>?_) (fun hc11 hF=>?_)
   ·refine zk (zd ?_)
    refine zc rfl (zi rfl rfl (zb rfl)) yF ?_
    refine ze (zj (zJ ?_))
    refine zG ?_
    refine zB ?_
    refine yj ?_
    obtain rfl:=Option.some.inj hF
    replace hF:=hK1
    refine zG ?_
    refine zB ?_
    obtain rfl:=Option.some.inj hF
    refine zz rfl (zF yH zD) (zA (leV.refl _) rfl ?_)
    exact ⟨rfl,rfl⟩
   ·refine zO (yi (zj (zd ?_)))
    refine zc rfl (zy rfl yL rfl rfl) vC ?_
    refine zc rfl (zg rfl vw (zb rfl)) yU ?_
    refine ze (yK ?_)
    obtain rfl:=Option.some.inj hF
    exact ⟨(),hl1,hK1,wk.le (by exact (.eq (.eq (.d4 (.d4 (.drop (.drop (.eq (.cons (leV.of_eq (vN (by omega) (by omega))) (.d4 (.d4 (.d4 leL.nil))))))))))))⟩
  ·refine yX ?_
   refine z7 ?_
   refine zW ?_
   refine zX ?_
   refine zj (zk (zd ?_))
   refine zc rfl (zi rfl rfl (zb rfl)) yF ?_
   refine ze (zj (zJ ?_))
   obtain rfl:=Option.some.inj hF
   refine zz rfl (zF yH zD) (zA (leV.refl _) rfl ?_)
   exact ⟨rfl,rfl⟩
theorem ok47 {a0:GLeaf} {b1:GLeaf} {res:Bool} {h:AH}  (hF:qD a0 b1=some res):Spec Tryz.prog 47 [.agg [.int .u8 a0.typ,.int .i64 a0.n,.int .u64 a0.time,.int .u8 a0.dot.actor.rep,.int .u32 a0.dot.actor.inc,.int .u64 a0.dot.seq,.str a0.text,.sl 5 (a0.items.map GItem.row),.sl 3 (a0.tombs.map GDot.row)],.agg [.int .u8 b1.typ,.int .i64 b1.n,.int .u64 b1.time,.int .u8 b1.dot.actor.rep,.int .u32 b1.dot.actor.inc,.int .u64 b1.dot.seq,.str b1.text,.sl 5 (b1.items.map GItem.row),.sl 3 (b1.tombs.map GDot.row)]] h (fun rr hh=>rr=.bool res∧hh=h):=by
 unfold qD at hF
 refine zr Tryz.func47 rfl (by kernel_rfl) (env:=[.agg [.int .u8 a0.typ,.int .i64 a0.n,.int .u64 a0.time,.int .u8 a0.dot.actor.rep,.int .u32 a0.dot.actor.inc,.int .u64 a0.dot.seq,.str a0.text,.sl 5 (a0.items.map GItem.row),.sl 3 (a0.tombs.map GDot.row)],.agg [.int .u8 b1.typ,.int .i64 b1.n,.int .u64 b1.time,.int .u8 b1.dot.actor.rep,.int .u32 b1.dot.actor.inc,.int .u64 b1.dot.seq,.str b1.text,.sl 5 (b1.items.map GItem.row),.sl 3 (b1.tombs.map GDot.row)],za,za,za,za,za,za,za,za,za,za,za,za,za,za,za,za,za,za,za,za,za,za,za,za,za,za,za,za,za,za,za,za,za,za,za,za,za,za,za,za,za,za,za,za,za,za,za,za,za,za]) (by rfl) ?_
 refine zk (zd ?_)
 refine zc rfl (xb (n:=0) rfl yB (zb rfl) rfl rfl) yM ?_
 refine zc rfl (xb (n:=1) rfl yw (zb rfl) rfl rfl) wD ?_
 refine zc rfl (zi rfl rfl (zb rfl)) yF ?_
 refine ze (zj (zk (zd ?_)))
 refine zc rfl (zf rfl wU yV rfl) xG ?_
 refine zc rfl (zu rfl ty5 yY rfl (zt rfl) (zb rfl)) xY ?_
 refine zc rfl (zf rfl wU xj rfl) wm ?_
 refine zc rfl (zu rfl ty5 xN rfl (zt rfl) (zb rfl)) wl ?_
 refine zc rfl (zy rfl yT xu rfl) vi ?_
 refine zc rfl (zg rfl wE (zb rfl)) yN ?_
 refine zq rfl (fun hb=>zf rfl fo42x1 yV rfl) yR ?_
 refine zq rfl (fun hb=>zu rfl ty2 (zn yP hb) rfl (zt rfl) (zb rfl)) yQ ?_
 refine zq rfl (fun hb=>zf rfl fo42x1 xj rfl) yU ?_
 refine zq rfl (fun hb=>zu rfl ty2 (zn yL hb) rfl (zt rfl) (zb rfl)) y3 ?_
 refine zq rfl (fun hb=>zy rfl (zn yO hb) (zn y4 hb) rfl) y2 ?_
 refine zc rfl (zL rfl yG yW rfl (zT (fun ht=>gT ht))) xf ?_
 refine zc rfl (zg rfl xd (zb rfl)) xA ?_
 refine zq rfl (fun hb=>zf rfl qV yV rfl) xR ?_
 refine zq rfl (fun hb=>zu rfl vh (zn xL hb) rfl (zt rfl) (zb rfl)) wa ?_
 refine zq rfl (fun hb=>zf rfl qV xj rfl) wJ ?_
 refine zq rfl (fun hb=>zu rfl vh (zn wL hb) rfl (zt rfl) (zb rfl)) wO ?_
 refine zq rfl (fun hb=>zy rfl (zn wh hb) (zn wK hb) rfl) vk ?_
 refine zc rfl (zL rfl xC vm rfl (zT (fun ht=>gT ht))) wN ?_
 refine zc rfl (zg rfl wy (zb rfl)) vj ?_
 refine zq rfl (fun hb=>zf rfl fo42x3 yV rfl) vC ?_
 refine zq rfl (fun hb=>zu rfl ty38.choose_spec.1 (zn vw hb) rfl (zI (cs':=[.int .u8 a0.dot.actor.rep,.int .u32 a0.dot.actor.inc,.int .u64 a0.dot.seq]) ty38.choose_spec.2 rfl rfl) (zb rfl)) qx ?_
 refine zq rfl (fun hb=>zf rfl fo42x3 xj rfl) qw ?_
 refine zq rfl (fun hb=>zu rfl ty38.choose_spec.1 (zn qj hb) rfl (zI (cs':=[.int .u8 b1.dot.actor.rep,.int .u32 b1.dot.actor.inc,.int .u64 b1.dot.seq]) ty38.choose_spec.2 rfl rfl) (zb rfl)) qU ?_
 refine zq rfl (fun hb=>zy rfl (zn qI hb) (zn qH hb) (bin_eq pk38 rfl)) qv ?_
 refine zc rfl (zL rfl vl qi rfl (zT (fun ht=>gT ht))) q9 ?_
 refine zc rfl (zg rfl gt30 (zb rfl)) q8 ?_
 refine zq rfl (fun hb=>zf rfl fo42x4 yV rfl) st32 ?_
 refine zq rfl (fun hb=>zu rfl ty9 (zn gt32 hb) rfl (zt rfl) (zb rfl)) st33 ?_
 refine zq rfl (fun hb=>zf rfl fo42x4 xj rfl) st34 ?_
 refine zq rfl (fun hb=>zu rfl ty9 (zn gt34 hb) rfl (zt rfl) (zb rfl)) st35 ?_
 refine zq rfl (fun hb=>zy rfl (zn gt33 hb) (zn gt35 hb) rfl) qT ?_
 refine zc rfl (zL rfl gt31 qG rfl (zT (fun ht=>gT ht))) qS ?_
 refine zc rfl (zg rfl qF (zb rfl)) st38 ?_
 refine zq rfl (fun hb=>zf rfl x6 yV rfl) st39 ?_
 refine zq rfl (fun hb=>zu rfl ty39 (zn gt39 hb) rfl (zt rfl) (zb rfl)) (sk st0) ?_
 refine zq rfl (fun hb=>zf rfl x6 xj rfl) (sk st1) ?_
 refine zq rfl (fun hb=>zu rfl ty39 (zn (gk yw) hb) rfl (zt rfl) (zb rfl)) (sk yM) ?_
 refine yZ hF (fun v1 hv1 hF=>?_)
 refine yA rfl (fun hb=>zC rfl rfl rfl (zo (zn (gk yB) hb) (zo (zn (gk yV) hb) zw)) (.cons (zb rfl) (.cons (zb rfl) .nil))) (fun hb=>ok72 (hv1 hb)) (sk wD) ?_
 refine zc rfl (zL rfl gt38 (gk xj) rfl (zT (fun ht=>gT ht))) (sk yF) ?_
 refine zc rfl (zg rfl (gk yH) (zb rfl)) (sk xG) ?_
 refine zq rfl (fun hb=>zf rfl vn yV rfl) (sk xY) ?_
 refine zq rfl (fun hb=>zu rfl ty40 (zn (gk yT) hb) rfl (zt rfl) (zb rfl)) (sk wm) ?_
 refine zq rfl (fun hb=>zf rfl vn xj rfl) (sk wl) ?_
 refine zq rfl (fun hb=>zu rfl ty40 (zn (gk xu) hb) rfl (zt rfl) (zb rfl)) (sk vi) ?_
 refine yZ hF (fun v2 hv2 hF=>?_)
 refine yA rfl (fun hb=>zC rfl rfl rfl (zo (zn (gk xN) hb) (zo (zn (gk wE) hb) zw)) (.cons (zb rfl) (.cons (zb rfl) .nil))) (fun hb=>ok73 (hv2 hb)) (sk yN) ?_
 refine zc rfl (zL rfl (gk yY) (gk yG) rfl (zT (fun ht=>gT ht))) (sk yR) ?_
 refine zc rfl (zi rfl (gk yP) (zb rfl)) yF ?_
 refine ze (zj (zJ ?_))
 obtain rfl:=Option.some.inj hF
 refine zz rfl (zF yH zD) (zA (leV.refl _) rfl ?_)
 exact ⟨rfl,rfl⟩
theorem ok26 {l0:GLeaf} {res:Bool} {h:AH}  (hF:leafMay l0=some res):Spec Tryz.prog 26 [.agg [.int .u8 l0.typ,.int .i64 l0.n,.int .u64 l0.time,.int .u8 l0.dot.actor.rep,.int .u32 l0.dot.actor.inc,.int .u64 l0.dot.seq,.str l0.text,.sl 5 (l0.items.map GItem.row),.sl 3 (l0.tombs.map GDot.row)]] h (fun rr hh=>rr=.bool res∧hh=h):=by
 unfold leafMay at hF
 refine zr Tryz.func26 rfl (by kernel_rfl) (env:=[.agg [.int .u8 l0.typ,.int .i64 l0.n,.int .u64 l0.time,.int .u8 l0.dot.actor.rep,.int .u32 l0.dot.actor.inc,.int .u64 l0.dot.seq,.str l0.text,.sl 5 (l0.items.map GItem.row),.sl 3 (l0.tombs.map GDot.row)],za,za,za,za,za,za,za,za,za,za,za,za,za,za,za,za,za,za,za,za,za,za,za,za,za,za,za,za,za,za,za,za,za,za,za,za,za,za,za,za,za,za,za,za,za,za,za,za,za,za,za,za,za,za,za,za,za,za,za,za,za,za,za,za,za,za,za,za,za,za,za,za,za,za,za,za,za,za,za,za,za,za,za,za,za,za,za,za]) (by rfl) ?_
 refine zk (zd ?_)
 refine zc rfl (xb (n:=0) rfl yB (zb rfl) rfl rfl) st1 ?_
 refine zc rfl (zi rfl rfl (zb rfl)) yM ?_
 refine ze (zj (zk (zd ?_)))
 refine zc rfl (zf rfl wU yw rfl) yF ?_
 refine zc rfl (zu rfl ty5 yH rfl (zt rfl) (zb rfl)) xG ?_
 refine zc rfl (xS (cs':=[.int .u8 l0.typ,.int .i64 (0:Int),.int .u64 (0:Int),.int .u8 (0:Int),.int .u32 (0:Int),.int .u64 (0:Int),.str ([]:zM),.osl none 5 (([]:List GItem).map GItem.row),.osl none 3 (([]:List GDot).map GDot.row)]) rfl su42 ze42 pl42 (zH yY zV) (.cons (zb rfl) .nil) rfl rfl) xY ?_
 refine zc rfl (y9 (n:=1) rfl ze42 rfl) wD ?_
 refine zc rfl (yx (cs':=[.int .u8 l0.typ,.int .i64 (0:Int),.int .u64 (0:Int),.int .u8 (0:Int),.int .u32 (0:Int),.int .u64 (0:Int),.str ([]:zM),.osl none 5 (([]:List GItem).map GItem.row),.osl none 3 (([]:List GDot).map GDot.row)]) rfl ty42.choose_spec.1 xj yT (zb rfl) rfl rfl rfl rfl rfl) rfl ?_
 refine ze (zj (zk (zk (zd ?_))))
 refine zc rfl (zf rfl wU yw rfl) wm ?_
 refine zc rfl (zu rfl ty5 xN rfl (zt rfl) (zb rfl)) wl ?_
 refine ze (zj (zS (zk (zd ?_))))
 refine zc rfl (zy rfl xu rfl rfl) yN ?_
 refine zc rfl (zi rfl yG (zb rfl)) vi ?_
 refine ze (zj ?_)
 refine zR wE hF (fun hc1 hF=>?_) (fun hc1 hF=>?_)
 ·refine zd ?_
  refine zc rfl (zf rfl fo42x1 yw rfl) yR ?_
  refine zc rfl (zu rfl ty2 yP rfl (zt rfl) (zb rfl)) yQ ?_
  refine zc rfl (zf rfl fo42x1 xj rfl) yU ?_
  refine zc rfl (yx (cs':=[.int .u8 l0.typ,.int .i64 l0.n,.int .u64 (0:Int),.int .u8 (0:Int),.int .u32 (0:Int),.int .u64 (0:Int),.str ([]:zM),.osl none 5 (([]:List GItem).map GItem.row),.osl none 3 (([]:List GDot).map GDot.row)]) rfl ty2 yL yO (zb rfl) rfl rfl rfl rfl rfl) rfl ?_
  refine ze (yi (zj (zk (zd ?_))))
  refine zc rfl (zu rfl ty42.choose_spec.1 yw rfl (zI (cs':=[.int .u8 l0.typ,.int .i64 l0.n,.int .u64 l0.time,.int .u8 l0.dot.actor.rep,.int .u32 l0.dot.actor.inc,.int .u64 l0.dot.seq,.str l0.text,.sl 5 (l0.items.map GItem.row),.sl 3 (l0.tombs.map GDot.row)]) ty42.choose_spec.2 rfl rfl) (zb rfl)) (sk (sk xY)) ?_
  refine zc rfl (zu rfl ty42.choose_spec.1 xj rfl (zI (cs':=[.int .u8 l0.typ,.int .i64 l0.n,.int .u64 (0:Int),.int .u8 (0:Int),.int .u32 (0:Int),.int .u64 (0:Int),.str ([]:zM),.osl none 5 (([]:List GItem).map GItem.row),.osl none 3 (([]:List GDot).map GDot.row)]) ty42.choose_spec.2 rfl rfl) (zb rfl)) (sk (sk wm)) ?_
  refine zU hF (fun v2 hv2 hF=>?_)
  refine zN rfl (zC rfl rfl rfl (zo (gk (gk yT)) (zo (gk (gk xN)) zw)) (.cons (zb rfl) (.cons (zb rfl) .nil))) ((ok47 hv2).le (.eq (.cons (leV.agg (.eq (.eq (.eq (.eq (.eq (.eq (.eq (.cons (leV.osl _ _ _) (.cons (leV.osl _ _ _) leL.nil))))))))) rfl) leL.nil))) (sk (sk wl)) ?_
  refine zc rfl (zi rfl (gk (gk xu)) (zb rfl)) yM ?_
  refine ze (zj (zJ ?_))
  obtain rfl:=Option.some.inj hF
  refine zz rfl (zF yV zD) (zA (leV.refl _) rfl ?_)
  exact ⟨rfl,rfl⟩
 ·refine zk (zd ?_)
  refine zc rfl (zy rfl xu rfl rfl) y2 ?_
  refine zc rfl (zi rfl yW (zb rfl)) y3 ?_
  refine ze (zj ?_)
  refine zR y4 hF (fun hc3 hF=>?_) (fun hc3 hF=>?_)
  ·refine zk ?_
   refine yD [3,5] [(3,[(0,.cells [.int .u8 l0.typ,.int .i64 l0.n,.int .u64 l0.time,.int .u8 l0.dot.actor.rep,.int .u32 l0.dot.actor.inc,.int .u64 l0.dot.seq,.str l0.text,.sl 5 (l0.items.map GItem.row),.sl 3 (l0.tombs.map GDot.row)])]),(5,[(0,.cells [.int .u8 l0.typ,.int .i64 l0.n,.int .u64 l0.time,.int .u8 l0.dot.actor.rep,.int .u32 l0.dot.actor.inc,.int .u64 l0.dot.seq,.str l0.text,.sl 5 (l0.items.map GItem.row),.sl 3 (l0.tombs.map GDot.row)])])] ⟨⟨rfl,trivial⟩,⟨rfl,trivial⟩,trivial⟩ mixed (by kernel_rfl) ?_
   refine zp rfl rfl (zf rfl qV yw rfl) xf ?_
   refine zp rfl rfl (zu rfl vh xd rfl (zt rfl) (zb rfl)) xA ?_
   refine zp rfl rfl (zf rfl fo42x3 yw rfl) xR ?_
   refine draw_okN rfl rfl (by rintro _ ⟨B2,T2,rfl,hk2⟩;exact zu rfl ty38.choose_spec.1 xL (keeps1 hk2) (zI (cs':=[.int .u8 l0.dot.actor.rep,.int .u32 l0.dot.actor.inc,.int .u64 l0.dot.seq]) ty38.choose_spec.2 rfl rfl) (zb rfl)) wa ?_
   refine zp rfl rfl (zf rfl fo42x4 yw rfl) wJ ?_
   refine draw_okN rfl rfl (by rintro _ ⟨B2,T2,rfl,hk2⟩;exact zu rfl ty9 wL (keeps1 hk2) (zt rfl) (zb rfl)) wO ?_
   refine zp rfl rfl (zf rfl qV xj rfl) vk ?_
   refine xX rfl (FOk.cons (.inr (xW ⟨rfl,trivial⟩)) (FOk.cons (.inr (xW ⟨rfl,trivial⟩)) FOk.nil)) (by kernel_rfl) rfl (yx (cs':=[.int .u8 l0.typ,.int .i64 (0:Int),.int .u64 l0.time,.int .u8 (0:Int),.int .u32 (0:Int),.int .u64 (0:Int),.str ([]:zM),.osl none 5 (([]:List GItem).map GItem.row),.osl none 3 (([]:List GDot).map GDot.row)]) rfl vh vm xC (zb rfl) rfl rfl rfl rfl rfl) rfl ?_
   refine zp rfl rfl (zf rfl fo42x3 xj rfl) wN ?_
   refine xX rfl (FOk.cons (.inr (xW ⟨rfl,trivial⟩)) (FOk.cons (.inr (xW ⟨rfl,trivial⟩)) FOk.nil)) (by kernel_rfl) rfl (yx (cs':=[.int .u8 l0.typ,.int .i64 (0:Int),.int .u64 l0.time,.int .u8 l0.dot.actor.rep,.int .u32 l0.dot.actor.inc,.int .u64 l0.dot.seq,.str ([]:zM),.osl none 5 (([]:List GItem).map GItem.row),.osl none 3 (([]:List GDot).map GDot.row)]) rfl ty38.choose_spec.1 wy wh (zb rfl) rfl rfl rfl rfl rfl) rfl ?_
   refine zp rfl rfl (zf rfl fo42x4 xj rfl) vj ?_
   refine xX rfl (FOk.cons (.inr (xW ⟨rfl,trivial⟩)) (FOk.cons (.inr (xW ⟨rfl,trivial⟩)) FOk.nil)) (by kernel_rfl) rfl (yx (cs':=[.int .u8 l0.typ,.int .i64 (0:Int),.int .u64 l0.time,.int .u8 l0.dot.actor.rep,.int .u32 l0.dot.actor.inc,.int .u64 l0.dot.seq,.str l0.text,.osl none 5 (([]:List GItem).map GItem.row),.osl none 3 (([]:List GDot).map GDot.row)]) rfl ty9 vl wK (zb rfl) rfl rfl rfl rfl rfl) rfl ?_
   refine ym ?_
   refine zj (zk (zd ?_))
   refine zc rfl (zf rfl qV yw rfl) vC ?_
   refine zc rfl (zu rfl vh vw rfl (zt rfl) (zb rfl)) qx ?_
   refine zc rfl (zy rfl qI rfl rfl) qw ?_
   refine zc rfl (zg rfl qj (zb rfl)) qU ?_
   refine zq rfl (fun hb=>zf rfl qV yw rfl) qv ?_
   refine zq rfl (fun hb=>zu rfl vh (zn qi hb) rfl (zt rfl) (zb rfl)) q9 ?_
   refine yZ hF (fun v4 hv4 hF=>?_)
   refine yA rfl (fun hb=>zC rfl rfl rfl (zo (zn gt30 hb) zw) (.cons (zb rfl) .nil)) (fun hb=>ok42 (hv4 hb)) q8 ?_
   refine zq rfl (fun hb=>zg rfl (zn gt31 hb) (zb rfl)) st32 ?_
   refine zq (zQ rfl rfl rfl) (fun hb=>zf rfl fo42x3 yw rfl) st33 ?_
   refine zq (zQ rfl rfl rfl) (fun hb=>zu rfl ty38.choose_spec.1 (zn gt33 hb) rfl (zI (cs':=[.int .u8 l0.dot.actor.rep,.int .u32 l0.dot.actor.inc,.int .u64 l0.dot.seq]) ty38.choose_spec.2 rfl rfl) (zb rfl)) st34 ?_
   refine yZ hF (fun v5 hv5 hF=>?_)
   refine yA (zQ rfl rfl rfl) (fun hb=>zC rfl rfl rfl (zo (zn gt34 hb) zw) (.cons (zb rfl) .nil)) (fun hb=>ok43 (hv5 hb)) st35 ?_
   refine zq rfl (fun hb=>zL rfl (zn gt32 hb) gt35 rfl (zT (fun ht=>gT2 hb ht))) qT ?_
   refine zq rfl (fun hb=>zg rfl (zn qG hb) (zb rfl)) qS ?_
   refine zq (zQ rfl rfl rfl) (fun hb=>zf rfl fo42x4 yw rfl) st38 ?_
   refine zq (zQ rfl rfl rfl) (fun hb=>zu rfl ty9 (zn gt38 hb) rfl (zt rfl) (zb rfl)) st39 ?_
   refine yZ hF (fun v6 hv6 hF=>?_)
   refine yA (zQ rfl rfl rfl) (fun hb=>zC rfl rfl rfl (zo (zn gt39 hb) zw) (.cons (zb rfl) .nil)) (fun hb=>ok44 (hv6 hb)) (sk st0) ?_
   refine zq rfl (fun hb=>zL rfl (zn qF hb) (gk yB) rfl (zT (fun ht=>gT2 hb ht))) (sk st1) ?_
   refine zq rfl (fun hb=>wo rfl (zn (gk yw) hb) rfl) (sk yM) ?_
   refine zc rfl (zL rfl qH (gk yV) rfl (zT (fun ht=>gT ht))) (sk wD) ?_
   refine zc rfl (zg rfl (gk xj) (zb rfl)) (sk yF) ?_
   refine zq rfl (fun hb=>zf rfl qV yw rfl) (sk xG) ?_
   refine zq rfl (fun hb=>zu rfl vh (zn (gk yY) hb) rfl (zt rfl) (zb rfl)) (sk xY) ?_
   refine zq rfl (fun hb=>zy rfl (zn (gk yT) hb) rfl rfl) (sk wm) ?_
   refine zq rfl (fun hb=>zg rfl (zn (gk xN) hb) (zb rfl)) (sk wl) ?_
   refine zq (zQ rfl rfl rfl) (fun hb=>zf rfl fo42x3 yw rfl) (sk vi) ?_
   refine zq (zQ rfl rfl rfl) (fun hb=>zu rfl ty38.choose_spec.1 (zn (gk wE) hb) rfl (zI (cs':=[.int .u8 l0.dot.actor.rep,.int .u32 l0.dot.actor.inc,.int .u64 l0.dot.seq]) ty38.choose_spec.2 rfl rfl) (zb rfl)) (sk yN) ?_
   refine zq (zQ rfl rfl rfl) (fun hb=>xS (cs':=[.int .u8 (0:Int),.int .u32 (0:Int),.int .u64 (0:Int)]) rfl su38 ze38 pl38 zV .nil rfl rfl) (sk yR) ?_
   refine zq (zQ rfl rfl rfl) (fun hb=>zy rfl (zn (gk yG) hb) (zn (gk yP) hb) (bin_ne pk38 rfl)) (sk yQ) ?_
   refine zq (zQ rfl rfl rfl) (fun hb=>zg rfl (zn (gk yO) hb) (zb rfl)) (sk yU) ?_
   refine zq (zQ rfl rfl rfl) (fun hb=>zf rfl fo42x4 yw rfl) (sk y3) ?_
   refine zq (zQ rfl rfl rfl) (fun hb=>zu rfl ty9 (zn (gk y4) hb) rfl (zt rfl) (zb rfl)) (sk y2) ?_
   refine zq (zQ rfl rfl rfl) (fun hb=>zy rfl (zn (gk yW) hb) rfl rfl) (sk xf) ?_
   refine zq (zQ rfl rfl rfl) (fun hb=>zL rfl (zn (gk yL) hb) rfl (gk xd) (yb (fun ht=>gF2 hb ht))) (sk xA) ?_
   refine zq rfl (fun hb=>zL rfl (zn (gk xu) hb) (gk xC) rfl (zT (fun ht=>gT2 hb ht))) (sk xR) ?_
   refine zc rfl (zL rfl (gk yH) rfl (gk xL) (yb (fun ht=>gF ht))) (sk wa) ?_
   refine ze (zj ?_)
   refine zR (gk wh) hF (fun hc7 hF=>?_) (fun hc7 hF=>?_)
   ·refine zk (zd ?_)
    refine zc rfl (zi rfl rfl (zb rfl)) yM ?_
    refine ze (zj (zJ ?_))
    refine zG ?_
    refine zB ?_
    obtain rfl:=Option.some.inj hF
    refine zz rfl (zF yV zD) (zA (leV.refl _) rfl ?_)
    exact ⟨rfl,rfl⟩
   ·refine zO (yi (zj (zk (zd ?_))))
    refine zc rfl (zu rfl ty42.choose_spec.1 yw rfl (zI (cs':=[.int .u8 l0.typ,.int .i64 l0.n,.int .u64 l0.time,.int .u8 l0.dot.actor.rep,.int .u32 l0.dot.actor.inc,.int .u64 l0.dot.seq,.str l0.text,.sl 5 (l0.items.map GItem.row),.sl 3 (l0.tombs.map GDot.row)]) ty42.choose_spec.2 rfl rfl) (zb rfl)) (sk (sk xY)) ?_
    refine zc rfl (zu rfl ty42.choose_spec.1 xj rfl (zI (cs':=[.int .u8 l0.typ,.int .i64 (0:Int),.int .u64 l0.time,.int .u8 l0.dot.actor.rep,.int .u32 l0.dot.actor.inc,.int .u64 l0.dot.seq,.str l0.text,.osl none 5 (([]:List GItem).map GItem.row),.osl none 3 (([]:List GDot).map GDot.row)]) ty42.choose_spec.2 rfl rfl) (zb rfl)) (sk (sk wm)) ?_
    refine zU hF (fun v8 hv8 hF=>?_)
    refine zN rfl (zC rfl rfl rfl (zo (gk (gk yT)) (zo (gk (gk xN)) zw)) (.cons (zb rfl) (.cons (zb rfl) .nil))) ((ok47 hv8).le (.eq (.cons (leV.agg (.eq (.eq (.eq (.eq (.eq (.eq (.eq (.cons (leV.osl _ _ _) (.cons (leV.osl _ _ _) leL.nil))))))))) rfl) leL.nil))) (sk (sk wl)) ?_
    refine zc rfl (zi rfl (gk (gk xu)) (zb rfl)) yM ?_
    refine ze (zj (zJ ?_))
    obtain rfl:=Option.some.inj hF
    refine zz rfl (zF yV zD) (zA (leV.refl _) rfl ?_)
    exact ⟨rfl,rfl⟩
  ·refine zk (zd ?_)
   refine zc rfl (zy rfl xu rfl rfl) (sk wO) ?_
   refine zc rfl (zi rfl (gk wK) (zb rfl)) (sk wJ) ?_
   refine ze (zj ?_)
   refine zR (gk wL) hF (fun hc9 hF=>?_) (fun hc9 hF=>?_)
   ·refine zk ?_
    refine yD [3] [(3,[(0,.cells [.int .u8 l0.typ,.int .i64 l0.n,.int .u64 l0.time,.int .u8 l0.dot.actor.rep,.int .u32 l0.dot.actor.inc,.int .u64 l0.dot.seq,.str l0.text,.sl 5 (l0.items.map GItem.row),.sl 3 (l0.tombs.map GDot.row)])])] ⟨⟨rfl,trivial⟩,trivial⟩ mixed (by kernel_rfl) ?_
    refine zp rfl rfl (zf rfl x6 yw rfl) (sk vk) ?_
    refine zp rfl rfl (zu rfl ty39 (gk vm) rfl (zt rfl) (zb rfl)) (sk wN) ?_
    refine zp rfl rfl (zf rfl vn yw rfl) (sk vj) ?_
    refine draw_okN rfl rfl (by rintro _ ⟨B2,T2,rfl,hk2⟩;exact zu rfl ty40 (gk vl) (keeps1 hk2) (zt rfl) (zb rfl)) (sk vC) ?_
    refine zp rfl rfl (zf rfl x6 xj rfl) (sk qx) ?_
    refine xX rfl (FOk.cons (.inr (xW ⟨rfl,trivial⟩)) FOk.nil) (by kernel_rfl) rfl (yx (cs':=[.int .u8 l0.typ,.int .i64 (0:Int),.int .u64 (0:Int),.int .u8 (0:Int),.int .u32 (0:Int),.int .u64 (0:Int),.str ([]:zM),.sl 5 (l0.items.map GItem.row),.osl none 3 (([]:List GDot).map GDot.row)]) rfl ty39 (gk qI) (gk wy) (zb rfl) rfl rfl rfl rfl rfl) rfl ?_
    refine zp rfl rfl (zf rfl vn xj rfl) (sk qw) ?_
    refine xX rfl (FOk.cons (.inr (xW ⟨rfl,trivial⟩)) FOk.nil) (by kernel_rfl) rfl (yx (cs':=[.int .u8 l0.typ,.int .i64 (0:Int),.int .u64 (0:Int),.int .u8 (0:Int),.int .u32 (0:Int),.int .u64 (0:Int),.str ([]:zM),.sl 5 (l0.items.map GItem.row),.sl 3 (l0.tombs.map GDot.row)]) rfl ty40 (gk qj) (gk vw) (zb rfl) rfl rfl rfl rfl rfl) rfl ?_
    refine ym ?_
    refine zj (zk (zd ?_))
    refine zc rfl (zf rfl x6 yw rfl) (sk qU) ?_
    refine zc rfl (zu rfl ty39 (gk qH) rfl (zt rfl) (zb rfl)) (sk qv) ?_
    refine zU hF (fun v10 hv10 hF=>?_)
    refine zN rfl (zC rfl rfl rfl (zo (gk qi) (zo rfl zw)) (.cons (zb rfl) (.cons (zb rfl) .nil))) (ok45 hv10) (sk q9) ?_
    refine zc rfl (wo rfl (gk gt30) rfl) (sk q8) ?_
    refine zc rfl (zg rfl (gk gt31) (zb rfl)) (sk st32) ?_
    refine zq rfl (fun hb=>zu rfl ty42.choose_spec.1 yw rfl (zI (cs':=[.int .u8 l0.typ,.int .i64 l0.n,.int .u64 l0.time,.int .u8 l0.dot.actor.rep,.int .u32 l0.dot.actor.inc,.int .u64 l0.dot.seq,.str l0.text,.sl 5 (l0.items.map GItem.row),.sl 3 (l0.tombs.map GDot.row)]) ty42.choose_spec.2 rfl rfl) (zb rfl)) (sk st33) ?_
    refine yZ hF (fun v11 hv11 hF=>?_)
    refine yA rfl (fun hb=>zC rfl rfl rfl (zo (zn (gk gt33) hb) zw) (.cons (zb rfl) .nil)) (fun hb=>ok46 (hv11 hb)) (sk st34) ?_
    refine zq rfl (fun hb=>wo rfl (zn (gk gt34) hb) rfl) (sk st35) ?_
    refine zc rfl (zL rfl (gk gt32) rfl (gk gt35) (yb (fun ht=>gF ht))) (sk qT) ?_
    refine ze (zj ?_)
    refine zR (gk qG) hF (fun hc12 hF=>?_) (fun hc12 hF=>?_)
    ·refine zk (zd ?_)
     refine zc rfl (zi rfl rfl (zb rfl)) yM ?_
     refine ze (zj (zJ ?_))
     refine zG ?_
     refine zB ?_
     obtain rfl:=Option.some.inj hF
     refine zz rfl (zF yV zD) (zA (leV.refl _) rfl ?_)
     exact ⟨rfl,rfl⟩
    ·refine zO (yi (zj (zk (zd ?_))))
     refine zc rfl (zu rfl ty42.choose_spec.1 yw rfl (zI (cs':=[.int .u8 l0.typ,.int .i64 l0.n,.int .u64 l0.time,.int .u8 l0.dot.actor.rep,.int .u32 l0.dot.actor.inc,.int .u64 l0.dot.seq,.str l0.text,.sl 5 (l0.items.map GItem.row),.sl 3 (l0.tombs.map GDot.row)]) ty42.choose_spec.2 rfl rfl) (zb rfl)) (sk (sk xY)) ?_
     refine zc rfl (zu rfl ty42.choose_spec.1 xj rfl (zI (cs':=[.int .u8 l0.typ,.int .i64 (0:Int),.int .u64 (0:Int),.int .u8 (0:Int),.int .u32 (0:Int),.int .u64 (0:Int),.str ([]:zM),.sl 5 (l0.items.map GItem.row),.sl 3 (l0.tombs.map GDot.row)]) ty42.choose_spec.2 rfl rfl) (zb rfl)) (sk (sk wm)) ?_
     refine zU hF (fun v13 hv13 hF=>?_)
     refine zN rfl (zC rfl rfl rfl (zo (gk (gk yT)) (zo (gk (gk xN)) zw)) (.cons (zb rfl) (.cons (zb rfl) .nil))) (ok47 hv13) (sk (sk wl)) ?_
     refine zc rfl (zi rfl (gk (gk xu)) (zb rfl)) yM ?_
     refine ze (zj (zJ ?_))
     obtain rfl:=Option.some.inj hF
     refine zz rfl (zF yV zD) (zA (leV.refl _) rfl ?_)
     exact ⟨rfl,rfl⟩
   ·refine zk (zd ?_)
    refine zc rfl (zy rfl xu rfl rfl) (sk st38) ?_
    refine zc rfl (zi rfl (gk gt38) (zb rfl)) (sk qS) ?_
    refine ze (zj ?_)
    refine zR (gk qF) hF (fun hc14 hF=>?_) (fun hc14 hF=>?_)
    ·refine zk (zd ?_)
     refine zc rfl (zf rfl x6 yw rfl) (sk st39) ?_
     refine zc rfl (zu rfl ty39 (gk gt39) rfl (zt rfl) (zb rfl)) (sk (sk st0)) ?_
     refine zc rfl (zf rfl x6 xj rfl) (sk (sk st1)) ?_
     refine zc rfl (yx (cs':=[.int .u8 l0.typ,.int .i64 (0:Int),.int .u64 (0:Int),.int .u8 (0:Int),.int .u32 (0:Int),.int .u64 (0:Int),.str ([]:zM),.sl 5 (l0.items.map GItem.row),.osl none 3 (([]:List GDot).map GDot.row)]) rfl ty39 (gk (gk yw)) (gk (gk yB)) (zb rfl) rfl rfl rfl rfl rfl) rfl ?_
     refine ze (zj (zk (zd ?_)))
     refine zc rfl (zf rfl x6 yw rfl) (sk (sk yM)) ?_
     refine zc rfl (zu rfl ty39 (gk (gk yV)) rfl (zt rfl) (zb rfl)) (sk (sk wD)) ?_
     refine zU hF (fun v15 hv15 hF=>?_)
     refine zN rfl (zC rfl rfl rfl (zo (gk (gk xj)) (zo rfl zw)) (.cons (zb rfl) (.cons (zb rfl) .nil))) (ok45 hv15) (sk (sk yF)) ?_
     refine zc rfl (wo rfl (gk (gk yH)) rfl) (sk (sk xG)) ?_
     refine ze (zj ?_)
     refine zR (gk (gk yY)) hF (fun hc16 hF=>?_) (fun hc16 hF=>?_)
     ·refine zk (zd ?_)
      refine zc rfl (zi rfl rfl (zb rfl)) yM ?_
      refine ze (zj (zJ ?_))
      refine zG ?_
      refine zB ?_
      obtain rfl:=Option.some.inj hF
      refine zz rfl (zF yV zD) (zA (leV.refl _) rfl ?_)
      exact ⟨rfl,rfl⟩
     ·refine zO (yi (zj (zk (zd ?_))))
      refine zc rfl (zu rfl ty42.choose_spec.1 yw rfl (zI (cs':=[.int .u8 l0.typ,.int .i64 l0.n,.int .u64 l0.time,.int .u8 l0.dot.actor.rep,.int .u32 l0.dot.actor.inc,.int .u64 l0.dot.seq,.str l0.text,.sl 5 (l0.items.map GItem.row),.sl 3 (l0.tombs.map GDot.row)]) ty42.choose_spec.2 rfl rfl) (zb rfl)) (sk (sk xY)) ?_
      refine zc rfl (zu rfl ty42.choose_spec.1 xj rfl (zI (cs':=[.int .u8 l0.typ,.int .i64 (0:Int),.int .u64 (0:Int),.int .u8 (0:Int),.int .u32 (0:Int),.int .u64 (0:Int),.str ([]:zM),.sl 5 (l0.items.map GItem.row),.osl none 3 (([]:List GDot).map GDot.row)]) ty42.choose_spec.2 rfl rfl) (zb rfl)) (sk (sk wm)) ?_
      refine zU hF (fun v17 hv17 hF=>?_)
      refine zN rfl (zC rfl rfl rfl (zo (gk (gk yT)) (zo (gk (gk xN)) zw)) (.cons (zb rfl) (.cons (zb rfl) .nil))) ((ok47 hv17).le (.eq (.cons (leV.agg (.eq (.eq (.eq (.eq (.eq (.eq (.eq (.eq (.cons (leV.osl _ _ _) leL.nil))))))))) rfl) leL.nil))) (sk (sk wl)) ?_
      refine zc rfl (zi rfl (gk (gk xu)) (zb rfl)) yM ?_
      refine ze (zj (zJ ?_))
      obtain rfl:=Option.some.inj hF
      refine zz rfl (zF yV zD) (zA (leV.refl _) rfl ?_)
      exact ⟨rfl,rfl⟩
    ·refine zk (zd ?_)
     refine zc rfl (zi rfl rfl (zb rfl)) yM ?_
     refine ze (zj (zJ ?_))
     refine zG ?_
     refine zB ?_
     obtain rfl:=Option.some.inj hF
     refine zz rfl (zF yV zD) (zA (leV.refl _) rfl ?_)
     exact ⟨rfl,rfl⟩
theorem ok49 {p0 p1:Int} {res:zM} {h:AH} (hF:qc p0 p1=some res):Spec Tryz.prog 49 [.int .i64 p0,.int .i64 p1] h (fun rr hh=>rr=.str res∧hh=h) :=
 spec_fmtI hF
theorem ok48 {l0:GLeaf} {res:(List zM)} {h:AH}  (hF:wV l0=some res):Spec Tryz.prog 48 [.agg [.int .u8 l0.typ,.int .i64 l0.n,.int .u64 l0.time,.int .u8 l0.dot.actor.rep,.int .u32 l0.dot.actor.inc,.int .u64 l0.dot.seq,.str l0.text,.sl 5 (l0.items.map GItem.row),.sl 3 (l0.tombs.map GDot.row)]] h (fun rr hh=>rr=.sl 1 (res.map zP)∧hh=h):=by
 unfold wV at hF
 refine zr Tryz.func48 rfl (by kernel_rfl) (env:=[.agg [.int .u8 l0.typ,.int .i64 l0.n,.int .u64 l0.time,.int .u8 l0.dot.actor.rep,.int .u32 l0.dot.actor.inc,.int .u64 l0.dot.seq,.str l0.text,.sl 5 (l0.items.map GItem.row),.sl 3 (l0.tombs.map GDot.row)],za,za,za,za,za,za]) (by rfl) ?_
 refine zk (zd ?_)
 refine zc rfl (xb (n:=0) rfl yB (zb rfl) rfl rfl) st1 ?_
 refine zc rfl (zi rfl rfl (xZ xl)) yM ?_
 refine ze (zj (zk (zd ?_)))
 refine zc rfl (zf rfl fo42x1 yw rfl) wD ?_
 refine zc rfl (zu rfl ty2 xj rfl (zt rfl) (zb rfl)) yF ?_
 refine zU hF (fun v1 hv1 hF=>?_)
 refine zN rfl (zC rfl rfl rfl (zo yH (zo rfl zw)) (.cons (zb rfl) (.cons (zb rfl) .nil))) (ok49 hv1) xG ?_
 refine zc rfl (ye (es:=([v1]:List zM).map zP) rfl xl ze9 rfl rfl (zH yY zV) (.cons (zb rfl) .nil) rfl rfl rfl) xY ?_
 refine zc rfl (zi rfl yT (zb rfl)) yM ?_
 refine ze (zj (zJ ?_))
 obtain rfl:=Option.some.inj hF
 refine zz rfl (zF yV zD) (zA (leV.osl _ _ _) rfl ?_)
 exact ⟨rfl,rfl⟩
theorem ok101 {p0 p1:Int} {res:zM} {h:AH} (hF:vR p0 p1=some res):Spec Tryz.prog 101 [.int .u64 p0,.int .i64 p1] h (fun rr hh=>rr=.str res∧hh=h) :=
 spec_fmtU hF
theorem ok76 {n0:Int} {res:zM} {h:AH}  (hF:xe n0=some res):Spec Tryz.prog 76 [.int .u64 n0] h (fun rr hh=>rr=.str res∧hh=h):=by
 unfold xe at hF
 refine zr Tryz.func76 rfl (by kernel_rfl) (env:=[.int .u64 n0,za,za,za,za]) (by rfl) ?_
 refine zk (zd ?_)
 refine zc rfl (zi rfl rfl (zb rfl)) yM ?_
 refine ze (zj (zk (zd ?_)))
 refine zc rfl (zg rfl yB (zb rfl)) wD ?_
 refine zU hF (fun v1 hv1 hF=>?_)
 refine zN rfl (zC rfl rfl rfl (zo xj (zo rfl zw)) (.cons (zb rfl) (.cons (zb rfl) .nil))) (ok101 hv1) yF ?_
 refine zc rfl (zi rfl yH (zb rfl)) yM ?_
 refine ze (zj (zJ ?_))
 obtain rfl:=Option.some.inj hF
 refine zz rfl (zF yV zD) (zA (leV.refl _) rfl ?_)
 exact ⟨rfl,rfl⟩
theorem ok77 {d0:GDot} {res:zM} {h:AH}  (hF:xk d0=some res):Spec Tryz.prog 77 [.agg [.int .u8 d0.actor.rep,.int .u32 d0.actor.inc,.int .u64 d0.seq]] h (fun rr hh=>rr=.str res∧hh=h):=by
 unfold xk at hF
 refine zr Tryz.func77 rfl (by kernel_rfl) (env:=[.agg [.int .u8 d0.actor.rep,.int .u32 d0.actor.inc,.int .u64 d0.seq],za,za,za,za,za,za,za,za,za,za,za,za,za,za,za,za,za,za,za]) (by rfl) ?_
 refine zk (zd ?_)
 refine zc rfl (xb (n:=0) rfl yB (zb rfl) rfl rfl) st1 ?_
 refine zc rfl (zi rfl rfl (zb rfl)) yM ?_
 refine ze (zj (zk ?_))
 refine yD [4,10,15] [] trivial mixed (by kernel_rfl) ?_
 refine zp rfl rfl (zf rfl vX yw rfl) wD ?_
 refine zp rfl rfl (zf rfl fo36x0 xj rfl) yF ?_
 refine zp rfl rfl (zu rfl ty5 yH rfl (zt rfl) (zb rfl)) xG ?_
 refine zp rfl rfl (s_convert rfl ty5 vh yY rfl) xY ?_
 refine zU hF (fun v1 hv1 hF=>?_)
 refine zZ rfl rfl (fun _=>zC rfl rfl rfl (zo yT zw) (.cons (zb rfl) .nil)) (by rintro _ ⟨B2,T2,rfl,hk2⟩;exact ok76 hv1) wm ?_
 refine wt hF (fun hm2 hF=>?_)
 refine zp rfl rfl (zy rfl xN rfl (if_pos hm2)) wl ?_
 refine zp rfl rfl (zf rfl vX yw rfl) vi ?_
 refine zp rfl rfl (zf rfl fo36x1 wE rfl) yN ?_
 refine zp rfl rfl (zu rfl ty34 yG rfl (zt rfl) (zb rfl)) yR ?_
 refine zp rfl rfl (s_convert rfl ty34 vh yP rfl) yQ ?_
 refine zU hF (fun v3 hv3 hF=>?_)
 refine zZ rfl rfl (fun _=>zC rfl rfl rfl (zo yO zw) (.cons (zb rfl) .nil)) (by rintro _ ⟨B2,T2,rfl,hk2⟩;exact ok76 hv3) yU ?_
 refine wt hF (fun hm4 hF=>?_)
 refine zp rfl rfl (zy rfl xu yL (if_pos hm4)) y3 ?_
 refine wt hF (fun hm5 hF=>?_)
 refine zp rfl rfl (zy rfl y4 rfl (if_pos hm5)) y2 ?_
 refine zp rfl rfl (zf rfl fo38x1 yw rfl) xf ?_
 refine zp rfl rfl (zu rfl vh xd rfl (zt rfl) (zb rfl)) xA ?_
 refine zU hF (fun v6 hv6 hF=>?_)
 refine zZ rfl rfl (fun _=>zC rfl rfl rfl (zo xC zw) (.cons (zb rfl) .nil)) (by rintro _ ⟨B2,T2,rfl,hk2⟩;exact ok76 hv6) xR ?_
 refine wt hF (fun hm7 hF=>?_)
 refine zp rfl rfl (zy rfl yW xL (if_pos hm7)) wa ?_
 refine zp rfl rfl (zi rfl wh (zb rfl)) yM ?_
 refine ym ?_
 refine zj (zJ ?_)
 obtain rfl:=Option.some.inj hF
 refine zz rfl (zF yV zD) (zA (leV.refl _) rfl ?_)
 exact ⟨rfl,rfl⟩
theorem ok78 {p0:zM} {res:zM} {h:AH} (hF:qn p0=some res):Spec Tryz.prog 78 [.str p0] h (fun rr hh=>rr=.str res∧hh=h) :=
 spec_hex hF
theorem ok51 {l0:GLeaf} {res:(List zM)} {h:AH}  (hF:xq l0=some res):Spec Tryz.prog 51 [.agg [.int .u8 l0.typ,.int .i64 l0.n,.int .u64 l0.time,.int .u8 l0.dot.actor.rep,.int .u32 l0.dot.actor.inc,.int .u64 l0.dot.seq,.str l0.text,.sl 5 (l0.items.map GItem.row),.sl 3 (l0.tombs.map GDot.row)]] h (fun rr hh=>rr=.sl 1 (res.map zP)∧hh=h):=by
 unfold xq at hF
 refine zr Tryz.func51 rfl (by kernel_rfl) (env:=[.agg [.int .u8 l0.typ,.int .i64 l0.n,.int .u64 l0.time,.int .u8 l0.dot.actor.rep,.int .u32 l0.dot.actor.inc,.int .u64 l0.dot.seq,.str l0.text,.sl 5 (l0.items.map GItem.row),.sl 3 (l0.tombs.map GDot.row)],za,za,za,za,za,za,za,za,za,za,za,za,za,za,za,za]) (by rfl) ?_
 refine zk (zd ?_)
 refine zc rfl (xb (n:=0) rfl yB (zb rfl) rfl rfl) st1 ?_
 refine zc rfl (zi rfl rfl (xZ xl)) yM ?_
 refine ze (zj (zk (zk (zd ?_))))
 refine zc rfl (zf rfl qV yw rfl) wD ?_
 refine zc rfl (zu rfl vh xj rfl (zt rfl) (zb rfl)) yF ?_
 refine zc rfl (zy rfl yH rfl rfl) xG ?_
 refine ze (zj ?_)
 refine zR yY hF (fun hc1 hF=>?_) (fun hc1 hF=>?_)
 ·refine zk (zd ?_)
  refine zc rfl (ye (es:=([([45]:zM)]:List zM).map zP) rfl xl ze9 rfl rfl (zH rfl zV) (.cons (zb rfl) .nil) rfl rfl rfl) xY ?_
  refine zc rfl (zi rfl yT (zb rfl)) yM ?_
  refine ze (zj (zJ (zB ?_)))
  obtain rfl:=Option.some.inj hF
  refine zz rfl (zF yV zD) (zA (leV.osl _ _ _) rfl ?_)
  exact ⟨rfl,rfl⟩
 ·refine zO (zj (zk ?_))
  refine yD [2,5,8] [] trivial mixed (by kernel_rfl) ?_
  refine zp rfl rfl (zf rfl qV yw rfl) wm ?_
  refine zp rfl rfl (zu rfl vh xN rfl (zt rfl) (zb rfl)) wl ?_
  refine zU hF (fun v2 hv2 hF=>?_)
  refine zZ rfl rfl (fun _=>zC rfl rfl rfl (zo xu zw) (.cons (zb rfl) .nil)) (by rintro _ ⟨B2,T2,rfl,hk2⟩;exact ok76 hv2) vi ?_
  refine zp rfl rfl (zf rfl fo42x3 yw rfl) yN ?_
  refine zp rfl rfl (zu rfl ty38.choose_spec.1 yG rfl (zI (cs':=[.int .u8 l0.dot.actor.rep,.int .u32 l0.dot.actor.inc,.int .u64 l0.dot.seq]) ty38.choose_spec.2 rfl rfl) (zb rfl)) yR ?_
  refine zU hF (fun v3 hv3 hF=>?_)
  refine zZ rfl rfl (fun _=>zC rfl rfl rfl (zo yP zw) (.cons (zb rfl) .nil)) (by rintro _ ⟨B2,T2,rfl,hk2⟩;exact ok77 hv3) yQ ?_
  refine zp rfl rfl (zf rfl fo42x4 yw rfl) yU ?_
  refine zp rfl rfl (zu rfl ty9 yL rfl (zt rfl) (zb rfl)) y3 ?_
  refine zU hF (fun v4 hv4 hF=>?_)
  refine zZ rfl rfl (fun _=>zC rfl rfl rfl (zo y4 zw) (.cons (zb rfl) .nil)) (by rintro _ ⟨B2,T2,rfl,hk2⟩;exact ok78 hv4) y2 ?_
  refine zp rfl rfl (ye (es:=([v2,v3,v4]:List zM).map zP) rfl xl ze9 rfl rfl (zH wE (zH yO (zH yW zV))) (.cons (zb rfl) (.cons (zb rfl) (.cons (zb rfl) .nil))) rfl rfl rfl) xf ?_
  refine zp rfl rfl (zi rfl xd (zb rfl)) yM ?_
  refine ym ?_
  refine zj (zJ ?_)
  obtain rfl:=Option.some.inj hF
  refine zz rfl (zF yV zD) (zA (leV.osl _ _ _) rfl ?_)
  exact ⟨rfl,rfl⟩
theorem ok53 {l0:GLeaf} {res:(List zM)} {h:AH}  (hF:exportXset l0=some res):Spec Tryz.prog 53 [.agg [.int .u8 l0.typ,.int .i64 l0.n,.int .u64 l0.time,.int .u8 l0.dot.actor.rep,.int .u32 l0.dot.actor.inc,.int .u64 l0.dot.seq,.str l0.text,.sl 5 (l0.items.map GItem.row),.sl 3 (l0.tombs.map GDot.row)]] h (fun rr hh=>rr=.sl 1 (res.map zP)∧hh=h):=by
 unfold exportXset at hF
 refine zr Tryz.func53 rfl (by kernel_rfl) (env:=[.agg [.int .u8 l0.typ,.int .i64 l0.n,.int .u64 l0.time,.int .u8 l0.dot.actor.rep,.int .u32 l0.dot.actor.inc,.int .u64 l0.dot.seq,.str l0.text,.sl 5 (l0.items.map GItem.row),.sl 3 (l0.tombs.map GDot.row)],za,za,za,za,za,za,za,za,za,za,za,za,za,za,za,za,za,za,za,za,za,za,za,za,za,za,za,za,za,za,za,za,za,za,za,za,za,za,za,za]) (by rfl) ?_
 refine zk (zd ?_)
 refine zc rfl (xb (n:=0) rfl yB (zb rfl) rfl rfl) st1 ?_
 refine zc rfl (zi rfl rfl (xZ xl)) yM ?_
 refine ze (zj (zk (zk (zd ?_))))
 refine zc rfl (zf rfl x6 yw rfl) wm ?_
 refine zc rfl (zu rfl ty39 xN rfl (zt rfl) (zb rfl)) wl ?_
 refine yc rfl (zY rfl rfl rfl rfl ve xu yh) vi fun hn1=>?_
 replace hn1:=xK hn1
 refine zc rfl (zg rfl rfl (zb rfl)) yN ?_
 refine ze (zj (zS ?_))
 refine yu (fun (n1:Nat) (s1:(List zM))=>yS [0,3,4,5,6,7,11,12,13,14,15,16,17,18,19,20,21,22,23,24,25,26,27,28,29,30,31,32,33,34,35,36,37,38,39,40] [(2,.osl (some (h.toks.length+0)) 1 (s1.map zP)),(10,.int .i64 (n1:Int))]) (fun s1=>h.ext [.cells [.int .u8 l0.typ,.int .i64 l0.n,.int .u64 l0.time,.int .u8 l0.dot.actor.rep,.int .u32 l0.dot.actor.inc,.int .u64 l0.dot.seq,.str l0.text,.sl 5 (l0.items.map GItem.row),.sl 3 (l0.tombs.map GDot.row)]] [(s1).length]) hF (fun _ _=>by simp only [yS,upd,List.set_cons_succ,List.set_cons_zero];try rfl) (wk.trans (wk_tok yV rfl yM rfl) (wk.le (by exact (.drop (.eq (.cons (leV.of_eq rfl) (.d4 (.drop (.eq (.eq (.cons (leV.of_eq rfl) (.d16 (.d4 (.d4 (.d4 (.drop (.drop leL.nil))))))))))))))))) ?_
 intro n1 s1 hi1 hF
 refine zk (zd ?_)
 refine zc rfl (zy rfl yG wE rfl) yR ?_
 refine ze (zj (zk ?_))
 refine yI yP hF (fun x1 o1 hl1 hx1 hF hK1=>?_) (fun hF=>?_)
 ·refine zO (zj (zk (zS (zk (zd ?_)))))
  refine zc rfl (yr rfl ve xu yG qZ (xc hx1)) yQ ?_
  refine zc rfl (yl rfl ty57.choose_spec.1 yO (zI (cs':=[.int .u64 x1.time,.int .u8 x1.dot.actor.rep,.int .u32 x1.dot.actor.inc,.int .u64 x1.dot.seq,.str x1.text]) ty57.choose_spec.2 rfl rfl) (zb rfl)) yU ?_
  refine zc rfl (y9 (n:=1) rfl ze57 rfl) yF ?_
  refine zc rfl (yx (cs':=[.int .u64 x1.time,.int .u8 x1.dot.actor.rep,.int .u32 x1.dot.actor.inc,.int .u64 x1.dot.seq,.str x1.text]) rfl ty57.choose_spec.1 yH yL (zb rfl) rfl rfl rfl rfl rfl) rfl ?_
  refine ze (zj ?_)
  refine yD [3,7] [] trivial mixed (by kernel_rfl) ?_
  refine zp rfl rfl (zg rfl yV (zb rfl)) y3 ?_
  refine zp rfl rfl (zf rfl qk yH rfl) y2 ?_
  refine zp rfl rfl (zu rfl ty38.choose_spec.1 yW rfl (zI (cs':=[.int .u8 x1.dot.actor.rep,.int .u32 x1.dot.actor.inc,.int .u64 x1.dot.seq]) ty38.choose_spec.2 rfl rfl) (zb rfl)) xf ?_
  refine zU hF (fun v20 hv20 hF=>?_)
  refine zZ rfl rfl (fun _=>zC rfl rfl rfl (zo xd zw) (.cons (zb rfl) .nil)) (by rintro _ ⟨B2,T2,rfl,hk2⟩;exact ok77 hv20) xA ?_
  refine wt hF (fun hm21 hF=>?_)
  refine zp rfl rfl (zy rfl xC rfl (if_pos hm21)) xR ?_
  refine zp rfl rfl (zf rfl fo57x2 yH rfl) wa ?_
  refine zp rfl rfl (zu rfl ty9 wh rfl (zt rfl) (zb rfl)) wJ ?_
  refine zU hF (fun v22 hv22 hF=>?_)
  refine zZ rfl rfl (fun _=>zC rfl rfl rfl (zo wL zw) (.cons (zb rfl) .nil)) (by rintro _ ⟨B2,T2,rfl,hk2⟩;exact ok78 hv22) wO ?_
  refine wt hF (fun hm23 hF=>?_)
  refine zp rfl rfl (zy rfl xL wK (if_pos hm23)) vk ?_
  refine zp rfl rfl (ye (es:=([((v20++([61]:zM))++v22)]:List zM).map zP) rfl xl ze9 rfl rfl (zH vm zV) (.cons (zb rfl) .nil) rfl rfl rfl) wN ?_
  refine wt hF (fun hm24 hF=>?_)
  refine draw_okH rfl (FOk.cons (.inr (xW trivial)) (FOk.cons (.inr (xW trivial)) FOk.nil)) (by rfl) rfl (e_appT (j:=0) (T':=[((s1++([((v20++([61]:zM))++v22)]:List zM))).length]) rfl rfl rfl rfl xl xl y4 wy (zb rfl) (zb rfl) qB hm24 rfl rfl) vj ?_
  refine zp rfl rfl (zi rfl vl (zb rfl)) yM ?_
  refine ym ?_
  refine yi (zj (zd ?_))
  refine zc rfl (zy rfl yG rfl rfl) vC ?_
  refine zc rfl (zg rfl vw (zb rfl)) yN ?_
  refine ze (yK ?_)
  obtain rfl:=Option.some.inj hF
  exact ⟨(s1++([((v20++([61]:zM))++v22)]:List zM)),hl1,hK1,wk.trans (wk.le (by exact (.drop (.eq (.cons (leV.of_eq rfl) (.d4 (.drop (.eq (.eq (.cons (leV.of_eq (vN (by omega) (by omega))) (.d16 (.d4 (.d4 (.d4 (.drop (.drop leL.nil)))))))))))))))) (xP (by simp [yf,AV.low]) rfl rfl (by simp [Blk.low,yf,AV.low]))⟩
 ·refine yX ?_
  refine z7 ?_
  refine zW ?_
  refine zX ?_
  refine zj (zk (zk (zd ?_)))
  refine zc rfl (zf rfl vn yw rfl) qx ?_
  refine zc rfl (zu rfl ty40 qI rfl (zt rfl) (zb rfl)) qw ?_
  refine yc rfl (zY rfl rfl rfl rfl qW qj yh) qU fun hn25=>?_
  replace hn25:=xK hn25
  refine zc rfl (zg rfl rfl (zb rfl)) qv ?_
  refine ze (zj (zS ?_))
  refine yu (fun (n2:Nat) (s2:(List zM))=>yS [0,1,3,4,5,6,7,8,9,10,11,12,13,14,15,16,17,18,19,20,21,22,23,24,25,26,30,31,32,33,34,35,36,37,38,39,40] [(2,.osl (some (h.toks.length+0)) 1 (s2.map zP)),(29,.int .i64 (n2:Int))]) (fun s2=>h.ext [.cells [.int .u8 l0.typ,.int .i64 l0.n,.int .u64 l0.time,.int .u8 l0.dot.actor.rep,.int .u32 l0.dot.actor.inc,.int .u64 l0.dot.seq,.str l0.text,.sl 5 (l0.items.map GItem.row),.sl 3 (l0.tombs.map GDot.row)]] [(s2).length]) hF (fun _ _=>by simp only [yS,upd,List.set_cons_succ,List.set_cons_zero];try rfl) (wk.le (by exact (.drop (.drop (.cons (leV.of_eq rfl) (.d16 (.d4 (.d4 (.eq (.eq (.cons (leV.of_eq rfl) (.d4 (.d4 (.drop (.drop (.drop leL.nil)))))))))))))))) ?_
  intro n2 s2 hi2 hF
  refine zk (zd ?_)
  refine zc rfl (zy rfl qi qH rfl) q9 ?_
  refine ze (zj (zk ?_))
  refine yI gt30 hF (fun x2 o2 hl2 hx2 hF hK2=>?_) (fun hF=>?_)
  ·refine zO (zj (zk (zS (zk (zd ?_)))))
   refine zc rfl (yr rfl qW qj qi qZ (xc hx2)) q8 ?_
   refine zc rfl (yl rfl ty38.choose_spec.1 gt31 (zI (cs':=[.int .u8 x2.actor.rep,.int .u32 x2.actor.inc,.int .u64 x2.seq]) ty38.choose_spec.2 rfl rfl) (zb rfl)) st32 ?_
   refine zc rfl (y9 (n:=1) rfl ze38 rfl) xY ?_
   refine zc rfl (yx (cs':=[.int .u8 x2.actor.rep,.int .u32 x2.actor.inc,.int .u64 x2.seq]) rfl ty38.choose_spec.1 yT gt32 (zb rfl) rfl rfl rfl rfl rfl) rfl ?_
   refine ze (zj (zd ?_))
   refine zc rfl (zg rfl yV (zb rfl)) st33 ?_
   refine zc rfl (zu rfl ty38.choose_spec.1 yT rfl (zI (cs':=[.int .u8 x2.actor.rep,.int .u32 x2.actor.inc,.int .u64 x2.seq]) ty38.choose_spec.2 rfl rfl) (zb rfl)) st34 ?_
   refine zU hF (fun v42 hv42 hF=>?_)
   refine zN rfl (zC rfl rfl rfl (zo gt34 zw) (.cons (zb rfl) .nil)) (ok77 hv42) st35 ?_
   refine wt hF (fun hm43 hF=>?_)
   refine zc rfl (zy rfl rfl gt35 (if_pos hm43)) qT ?_
   refine zc rfl (ye (es:=([(([33]:zM)++v42)]:List zM).map zP) rfl xl ze9 rfl rfl (zH qG zV) (.cons (zb rfl) .nil) rfl rfl rfl) qS ?_
   refine wt hF (fun hm44 hF=>?_)
   refine zc rfl (e_appT (j:=0) (T':=[((s2++([(([33]:zM)++v42)]:List zM))).length]) rfl rfl rfl rfl xl xl gt33 qF (zb rfl) (zb rfl) qB hm44 rfl rfl) st38 ?_
   refine zc rfl (zi rfl gt38 (zb rfl)) yM ?_
   refine ze (yi (zj (zd ?_)))
   refine zc rfl (zy rfl qi rfl rfl) st39 ?_
   refine zc rfl (zg rfl gt39 (zb rfl)) qv ?_
   refine ze (yK ?_)
   obtain rfl:=Option.some.inj hF
   exact ⟨(s2++([(([33]:zM)++v42)]:List zM)),hl2,hK2,wk.trans (wk.le (by exact (.drop (.drop (.cons (leV.of_eq rfl) (.d16 (.d4 (.d4 (.eq (.eq (.cons (leV.of_eq (vN (by omega) (by omega))) (.d4 (.d4 (.drop (.drop (.drop leL.nil)))))))))))))))) (xP (by simp [yf,AV.low]) rfl rfl (by simp [Blk.low,yf,AV.low]))⟩
  ·refine yX ?_
   refine z7 ?_
   refine zW ?_
   refine zX ?_
   refine zj (zk (zd ?_))
   refine zc rfl (zg rfl yV (zb rfl)) (sk st0) ?_
   refine zc rfl (zi rfl (gk yB) (zb rfl)) yM ?_
   refine ze (zj (zJ ?_))
   obtain rfl:=Option.some.inj hF
   refine zz rfl (zF yV zD) (zA (leV.osl _ _ _) rfl ?_)
   exact ⟨rfl,rfl⟩
theorem ok55 {l0:GLeaf} {res:(List zM)} {h:AH}  (hF:exportXlog l0=some res):Spec Tryz.prog 55 [.agg [.int .u8 l0.typ,.int .i64 l0.n,.int .u64 l0.time,.int .u8 l0.dot.actor.rep,.int .u32 l0.dot.actor.inc,.int .u64 l0.dot.seq,.str l0.text,.sl 5 (l0.items.map GItem.row),.sl 3 (l0.tombs.map GDot.row)]] h (fun rr hh=>rr=.sl 1 (res.map zP)∧hh=h):=by
 unfold exportXlog at hF
 refine zr Tryz.func55 rfl (by kernel_rfl) (env:=[.agg [.int .u8 l0.typ,.int .i64 l0.n,.int .u64 l0.time,.int .u8 l0.dot.actor.rep,.int .u32 l0.dot.actor.inc,.int .u64 l0.dot.seq,.str l0.text,.sl 5 (l0.items.map GItem.row),.sl 3 (l0.tombs.map GDot.row)],za,za,za,za,za,za,za,za,za,za,za,za,za,za,za,za,za,za,za,za,za,za,za,za,za,za,za,za,za]) (by rfl) ?_
 refine zk (zd ?_)
 refine zc rfl (xb (n:=0) rfl yB (zb rfl) rfl rfl) st1 ?_
 refine zc rfl (zi rfl rfl (xZ xl)) yM ?_
 refine ze (zj (zk (zk (zd ?_))))
 refine zc rfl (zf rfl x6 yw rfl) xG ?_
 refine zc rfl (zu rfl ty39 yY rfl (zt rfl) (zb rfl)) xY ?_
 refine yc rfl (zY rfl rfl rfl rfl ve yT yh) wm fun hn1=>?_
 replace hn1:=xK hn1
 refine zc rfl (zg rfl rfl (zb rfl)) wl ?_
 refine ze (zj (zS ?_))
 refine yu (fun (n1:Nat) (s1:(List zM))=>yS [0,1,3,4,5,9,10,11,12,13,14,15,16,17,18,19,20,21,22,23,24,25,26,27,28,29] [(2,.osl (some (h.toks.length+0)) 1 (s1.map zP)),(8,.int .i64 (n1:Int))]) (fun s1=>h.ext [.cells [.int .u8 l0.typ,.int .i64 l0.n,.int .u64 l0.time,.int .u8 l0.dot.actor.rep,.int .u32 l0.dot.actor.inc,.int .u64 l0.dot.seq,.str l0.text,.sl 5 (l0.items.map GItem.row),.sl 3 (l0.tombs.map GDot.row)]] [(s1).length]) hF (fun _ _=>by simp only [yS,upd,List.set_cons_succ,List.set_cons_zero];try rfl) (wk.trans (wk_tok yV rfl yM rfl) (wk.le (by exact (.drop (.drop (.cons (leV.of_eq rfl) (.drop (.drop (.drop (.eq (.eq (.cons (leV.of_eq rfl) (.d16 (.d4 (.drop leL.nil))))))))))))))) ?_
 intro n1 s1 hi1 hF
 refine zk (zd ?_)
 refine zc rfl (zy rfl xu xN rfl) vi ?_
 refine ze (zj (zk ?_))
 refine yI wE hF (fun x1 o1 hl1 hx1 hF hK1=>?_) (fun hF=>?_)
 ·refine zO (zj (zk (zS (zk (zd ?_)))))
  refine zc rfl (yr rfl ve yT xu qZ (xc hx1)) yN ?_
  refine zc rfl (yl rfl ty57.choose_spec.1 yG (zI (cs':=[.int .u64 x1.time,.int .u8 x1.dot.actor.rep,.int .u32 x1.dot.actor.inc,.int .u64 x1.dot.seq,.str x1.text]) ty57.choose_spec.2 rfl rfl) (zb rfl)) yR ?_
  refine zc rfl (y9 (n:=1) rfl ze57 rfl) yF ?_
  refine zc rfl (yx (cs':=[.int .u64 x1.time,.int .u8 x1.dot.actor.rep,.int .u32 x1.dot.actor.inc,.int .u64 x1.dot.seq,.str x1.text]) rfl ty57.choose_spec.1 yH yP (zb rfl) rfl rfl rfl rfl rfl) rfl ?_
  refine ze (zj ?_)
  refine yD [3,7,12] [] trivial mixed (by kernel_rfl) ?_
  refine zp rfl rfl (zg rfl yV (zb rfl)) yQ ?_
  refine zp rfl rfl (zf rfl fo57x0 yH rfl) yU ?_
  refine zp rfl rfl (zu rfl vh yL rfl (zt rfl) (zb rfl)) y3 ?_
  refine zU hF (fun v23 hv23 hF=>?_)
  refine zZ rfl rfl (fun _=>zC rfl rfl rfl (zo y4 zw) (.cons (zb rfl) .nil)) (by rintro _ ⟨B2,T2,rfl,hk2⟩;exact ok76 hv23) y2 ?_
  refine wt hF (fun hm24 hF=>?_)
  refine zp rfl rfl (zy rfl yW rfl (if_pos hm24)) xf ?_
  refine zp rfl rfl (zf rfl qk yH rfl) xA ?_
  refine zp rfl rfl (zu rfl ty38.choose_spec.1 xC rfl (zI (cs':=[.int .u8 x1.dot.actor.rep,.int .u32 x1.dot.actor.inc,.int .u64 x1.dot.seq]) ty38.choose_spec.2 rfl rfl) (zb rfl)) xR ?_
  refine zU hF (fun v25 hv25 hF=>?_)
  refine zZ rfl rfl (fun _=>zC rfl rfl rfl (zo xL zw) (.cons (zb rfl) .nil)) (by rintro _ ⟨B2,T2,rfl,hk2⟩;exact ok77 hv25) wa ?_
  refine wt hF (fun hm26 hF=>?_)
  refine zp rfl rfl (zy rfl xd wh (if_pos hm26)) wJ ?_
  refine wt hF (fun hm27 hF=>?_)
  refine zp rfl rfl (zy rfl wL rfl (if_pos hm27)) wO ?_
  refine zp rfl rfl (zf rfl fo57x2 yH rfl) vk ?_
  refine zp rfl rfl (zu rfl ty9 vm rfl (zt rfl) (zb rfl)) wN ?_
  refine zU hF (fun v28 hv28 hF=>?_)
  refine zZ rfl rfl (fun _=>zC rfl rfl rfl (zo wy zw) (.cons (zb rfl) .nil)) (by rintro _ ⟨B2,T2,rfl,hk2⟩;exact ok78 hv28) vj ?_
  refine wt hF (fun hm29 hF=>?_)
  refine zp rfl rfl (zy rfl wK vl (if_pos hm29)) vC ?_
  refine zp rfl rfl (ye (es:=([((((v23++([64]:zM))++v25)++([61]:zM))++v28)]:List zM).map zP) rfl xl ze9 rfl rfl (zH vw zV) (.cons (zb rfl) .nil) rfl rfl rfl) qx ?_
  refine wt hF (fun hm30 hF=>?_)
  refine draw_okH rfl (FOk.cons (.inr (xW trivial)) (FOk.cons (.inr (xW trivial)) (FOk.cons (.inr (xW trivial)) FOk.nil))) (by rfl) rfl (e_appT (j:=0) (T':=[((s1++([((((v23++([64]:zM))++v25)++([61]:zM))++v28)]:List zM))).length]) rfl rfl rfl rfl xl xl yO qI (zb rfl) (zb rfl) qB hm30 rfl rfl) qw ?_
  refine zp rfl rfl (zi rfl qj (zb rfl)) yM ?_
  refine ym ?_
  refine yi (zj (zd ?_))
  refine zc rfl (zy rfl xu rfl rfl) qU ?_
  refine zc rfl (zg rfl qH (zb rfl)) wl ?_
  refine ze (yK ?_)
  obtain rfl:=Option.some.inj hF
  exact ⟨(s1++([((((v23++([64]:zM))++v25)++([61]:zM))++v28)]:List zM)),hl1,hK1,wk.trans (wk.le (by exact (.drop (.drop (.cons (leV.of_eq rfl) (.drop (.drop (.drop (.eq (.eq (.cons (leV.of_eq (vN (by omega) (by omega))) (.d16 (.d4 (.drop leL.nil)))))))))))))) (xP (by simp [yf,AV.low]) rfl rfl (by simp [Blk.low,yf,AV.low]))⟩
 ·refine yX ?_
  refine z7 ?_
  refine zW ?_
  refine zX ?_
  refine zj (zk (zd ?_))
  refine zc rfl (zg rfl yV (zb rfl)) qv ?_
  refine zc rfl (zi rfl qi (zb rfl)) yM ?_
  refine ze (zj (zJ ?_))
  obtain rfl:=Option.some.inj hF
  refine zz rfl (zF yV zD) (zA (leV.osl _ _ _) rfl ?_)
  exact ⟨rfl,rfl⟩
theorem ok27  {res:(GExportKind×GExportKind×GExportKind×GExportKind×GExportKind)} {h:AH}  (hF:exportXkinds  = some res):Spec Tryz.prog 27 [] h (fun rr hh=>rr=.agg [.str res.1.word,vB res.1.parts,fvRead res.1.read,.str res.2.1.word,vB res.2.1.parts,fvRead res.2.1.read,.str res.2.2.1.word,vB res.2.2.1.parts,fvRead res.2.2.1.read,.str res.2.2.2.1.word,vB res.2.2.2.1.parts,fvRead res.2.2.2.1.read,.str res.2.2.2.2.word,vB res.2.2.2.2.parts,fvRead res.2.2.2.2.read]∧hh=h):=by
 unfold exportXkinds at hF
 refine zr Tryz.func27 rfl (by kernel_rfl) (env:=[za,za,za,za,za,za,za]) (by rfl) ?_
 refine zk (zd ?_)
 refine zc rfl (y9 (n:=0) rfl ze68 rfl) st0 ?_
 refine ze (zj (zk (zd ?_)))
 refine zc rfl (xS (cs':=[.str ([]:zM),.nilf,.nilf]) rfl su67 ze67 pl67 zV .nil rfl rfl) st1 ?_
 refine zc rfl (xS (cs':=[.str ([99,111,117,110,116,101,114]:zM),.fn (.func 48) [] [],.fn (.func 50) [] []]) rfl su67 ze67 pl67 (zH rfl (zH rfl (zH rfl zV))) (.cons (zb rfl) (.cons (zb rfl) (.cons (zb rfl) .nil))) rfl rfl) yM ?_
 refine zc rfl (xS (cs':=[.str ([114,101,103,105,115,116,101,114]:zM),.fn (.func 51) [] [],.fn (.func 52) [] []]) rfl su67 ze67 pl67 (zH rfl (zH rfl (zH rfl zV))) (.cons (zb rfl) (.cons (zb rfl) (.cons (zb rfl) .nil))) rfl rfl) wD ?_
 refine zc rfl (xS (cs':=[.str ([115,101,116]:zM),.fn (.func 53) [] [],.fn (.func 54) [] []]) rfl su67 ze67 pl67 (zH rfl (zH rfl (zH rfl zV))) (.cons (zb rfl) (.cons (zb rfl) (.cons (zb rfl) .nil))) rfl rfl) yF ?_
 refine zc rfl (xS (cs':=[.str ([108,111,103]:zM),.fn (.func 55) [] [],.fn (.func 56) [] []]) rfl su67 ze67 pl67 (zH rfl (zH rfl (zH rfl zV))) (.cons (zb rfl) (.cons (zb rfl) (.cons (zb rfl) .nil))) rfl rfl) xG ?_
 refine zc rfl (s_buildArr (cs':=[.str ([]:zM),.nilf,.nilf,.str ([99,111,117,110,116,101,114]:zM),.fn (.func 48) [] [],.fn (.func 50) [] [],.str ([114,101,103,105,115,116,101,114]:zM),.fn (.func 51) [] [],.fn (.func 52) [] [],.str ([115,101,116]:zM),.fn (.func 53) [] [],.fn (.func 54) [] [],.str ([108,111,103]:zM),.fn (.func 55) [] [],.fn (.func 56) [] []]) rfl ty68.u ze68 ty67.choose_spec.1 (zH yw (zH yV (zH xj (zH yH (zH yY zV))))) (.cons (zb rfl) (.cons (zb rfl) (.cons (zb rfl) (.cons (zb rfl) (.cons (zb rfl) .nil))))) rfl rfl) xY ?_
 refine zc rfl (yx (cs':=[.str ([]:zM),.nilf,.nilf,.str ([99,111,117,110,116,101,114]:zM),.fn (.func 48) [] [],.fn (.func 50) [] [],.str ([114,101,103,105,115,116,101,114]:zM),.fn (.func 51) [] [],.fn (.func 52) [] [],.str ([115,101,116]:zM),.fn (.func 53) [] [],.fn (.func 54) [] [],.str ([108,111,103]:zM),.fn (.func 55) [] [],.fn (.func 56) [] []]) rfl ty68 yB yT (zb rfl) rfl rfl rfl rfl rfl) rfl ?_
 refine ze (zj (zJ ?_))
 obtain rfl:=Option.some.inj hF
 refine zz rfl (rl_cell ty68 yB rfl (ldC_ag (cs':=[.str ([]:zM),.nilf,.nilf,.str ([99,111,117,110,116,101,114]:zM),.fn (.func 48) [] [],.fn (.func 50) [] [],.str ([114,101,103,105,115,116,101,114]:zM),.fn (.func 51) [] [],.fn (.func 52) [] [],.str ([115,101,116]:zM),.fn (.func 53) [] [],.fn (.func 54) [] [],.str ([108,111,103]:zM),.fn (.func 55) [] [],.fn (.func 56) [] []]) rfl rfl) (zb rfl) zD) (zA (leV.refl _) rfl ?_)
 exact ⟨rfl,rfl⟩
def joinTryzRen:Go.Shelf.Ren :=
  { f:=fun x=>match x with
      | 156=>28
      | 165=>57
      | 166=>29
      | 169=>30
      | 240=>58
      | 241=>85
      | 276=>86
      | 277=>106
      | n=>n
    t:=fun x=>match x with
      | 0=>0
      | 3=>3
      | 4=>4
      | 9=>9
      | 20=>20
      | 31=>24
      | 37=>72
      | 70=>71
      | 72=>74
      | 75=>76
      | 76=>77
      | 127=>96
      | 164=>128
      | 5=>5
      | 80=>79
      | n=>n
    g:=fun n=>n }
theorem joinTryzLays:Go.Proofs.Lays.n156 Tryz.prog joinTryzRen where
  mixed:=mixed
  f156:=Tryz.func28.trans (by kernel_rfl)
  f165:=Tryz.func57.trans (by kernel_rfl)
  f166:=Tryz.func29.trans (by kernel_rfl)
  f169:=Tryz.func30.trans (by kernel_rfl)
  f240:=Tryz.func58.trans (by kernel_rfl)
  f241:=Tryz.func85.trans (by kernel_rfl)
  f276:=Tryz.func86.trans (by kernel_rfl)
  f277:=Tryz.func106.trans (by kernel_rfl)
  t0:=Tryz.underlying0
  a0:=Tryz.isAgg0
  z0:=Tryz.sizeOf0
  v0:=Tryz.zeroValue0
  t3:=Tryz.underlying3
  a3:=Tryz.isAgg3
  z3:=Tryz.sizeOf3
  v3:=Tryz.zeroValue3
  t4:=Tryz.underlying4
  a4:=Tryz.isAgg4
  z4:=Tryz.sizeOf4
  v4:=Tryz.zeroValue4
  t9:=Tryz.underlying9
  a9:=Tryz.isAgg9
  z9:=Tryz.sizeOf9
  v9:=Tryz.zeroValue9
  t20:=Tryz.underlying20
  a20:=Tryz.isAgg20
  z20:=Tryz.sizeOf20
  v20:=Tryz.zeroValue20
  t31:=Tryz.underlying24
  a31:=Tryz.isAgg24
  z31:=Tryz.sizeOf24
  v31:=Tryz.zeroValue24
  t37:=Tryz.underlying72
  a37:=Tryz.isAgg72
  z37:=Tryz.sizeOf72
  v37:=Tryz.zeroValue72
  t70:=Tryz.underlying71
  a70:=Tryz.isAgg71
  z70:=Tryz.sizeOf71
  v70:=Tryz.zeroValue71
  t72:=Tryz.underlying74
  a72:=Tryz.isAgg74
  z72:=Tryz.sizeOf74
  v72:=Tryz.zeroValue74
  t75:=Tryz.underlying76
  a75:=Tryz.isAgg76
  z75:=Tryz.sizeOf76
  v75:=Tryz.zeroValue76
  t76:=Tryz.underlying77
  a76:=Tryz.isAgg77
  z76:=Tryz.sizeOf77
  v76:=Tryz.zeroValue77
  t127:=Tryz.underlying96
  a127:=Tryz.isAgg96
  z127:=Tryz.sizeOf96
  v127:=Tryz.zeroValue96
  t164:=Tryz.underlying128
  a164:=Tryz.isAgg128
  z164:=Tryz.sizeOf128
  v164:=Tryz.zeroValue128
theorem joinTryzExtra:Go.Proofs.Builder.Extra Tryz.prog joinTryzRen where
  sizeBuilder:=by kernel_rfl
  liesBuilder:=by kernel_rfl
  t5:=Tryz.underlying5
  a5:=Tryz.isAgg5
  z5:=Tryz.sizeOf5
  v5:=Tryz.zeroValue5
  infoByte:=by kernel_rfl
  cellsByte:=by kernel_rfl
  sizeByte:=by kernel_rfl
  neB5:=by decide
theorem ok28 {p0:List zM} {p1:zM} {res:zM} {h:AH} (hF:xQ p0 p1=some res):Spec Tryz.prog 28 [.sl 1 (p0.map zP),.str p1] h (fun rr hh=>rr=.str res∧hh=h) :=
 spec_join joinTryzLays joinTryzExtra hF
theorem fnPartsok {c:Nat} {x0:GLeaf} {v:(List zM)} (h:qq c x0=some v):vB c=.fn (.func (fnParts c)) [] []:=by
  unfold qq at h
  split at h <;> first | rfl | cases h
theorem okfvParts {c:Nat} {x0:GLeaf} {res:(List zM)} {h:AH} (hF:qq c x0=some res):Spec Tryz.prog (fnParts c) [.agg [.int .u8 x0.typ,.int .i64 x0.n,.int .u64 x0.time,.int .u8 x0.dot.actor.rep,.int .u32 x0.dot.actor.inc,.int .u64 x0.dot.seq,.str x0.text,.sl 5 (x0.items.map GItem.row),.sl 3 (x0.tombs.map GDot.row)]] h (fun rr hh=>rr=.sl 1 (res.map zP)∧hh=h):=by
 unfold qq at hF
 split at hF
 ·exact ok48 hF
 ·exact ok51 hF
 ·exact ok53 hF
 ·exact ok55 hF
 ·cases hF
theorem ok11 {r0:GRow} {res:zM} {h:AH}  (hF:y7 r0=some res):Spec Tryz.prog 11 [.agg [.sl 1 (r0.path.map zP),.int .u8 r0.leaf.typ,.int .i64 r0.leaf.n,.int .u64 r0.leaf.time,.int .u8 r0.leaf.dot.actor.rep,.int .u32 r0.leaf.dot.actor.inc,.int .u64 r0.leaf.dot.seq,.str r0.leaf.text,.sl 5 (r0.leaf.items.map GItem.row),.sl 3 (r0.leaf.tombs.map GDot.row)]] h (fun rr hh=>rr=.str res∧hh=h):=by
 unfold y7 at hF
 refine zr Tryz.func11 rfl (by kernel_rfl) (env:=[.agg [.sl 1 (r0.path.map zP),.int .u8 r0.leaf.typ,.int .i64 r0.leaf.n,.int .u64 r0.leaf.time,.int .u8 r0.leaf.dot.actor.rep,.int .u32 r0.leaf.dot.actor.inc,.int .u64 r0.leaf.dot.seq,.str r0.leaf.text,.sl 5 (r0.leaf.items.map GItem.row),.sl 3 (r0.leaf.tombs.map GDot.row)],za,za,za,za,za,za,za,za,za,za,za,za,za,za,za,za,za,za,za,za,za,za,za,za,za,za,za,za,za,za,za]) (by rfl) ?_
 refine zk (zd ?_)
 refine zc rfl (xb (n:=0) rfl yB (zb rfl) rfl rfl) st1 ?_
 refine zc rfl (zi rfl rfl (zb rfl)) yM ?_
 refine ze (zj (zk (zk (zd ?_))))
 refine zc rfl (zf rfl fo44x0 yw rfl) yF ?_
 refine zc rfl (zu rfl ty24 yH rfl (zt rfl) (zb rfl)) xG ?_
 refine zU hF (fun v1 hv1 hF=>?_)
 refine zN rfl (zC rfl rfl rfl (zo yY zw) (.cons (zb rfl) .nil)) (ok25 hv1) xY ?_
 refine zc rfl (wo rfl yT rfl) wm ?_
 refine zc rfl (zg rfl xN (zb rfl)) wl ?_
 refine zq rfl (fun hb=>zf rfl fo44x1 yw rfl) vi ?_
 refine zq rfl (fun hb=>zu rfl ty42.choose_spec.1 (zn wE hb) rfl (zI (cs':=[.int .u8 r0.leaf.typ,.int .i64 r0.leaf.n,.int .u64 r0.leaf.time,.int .u8 r0.leaf.dot.actor.rep,.int .u32 r0.leaf.dot.actor.inc,.int .u64 r0.leaf.dot.seq,.str r0.leaf.text,.sl 5 (r0.leaf.items.map GItem.row),.sl 3 (r0.leaf.tombs.map GDot.row)]) ty42.choose_spec.2 rfl rfl) (zb rfl)) yN ?_
 refine yZ hF (fun v2 hv2 hF=>?_)
 refine yA rfl (fun hb=>zC rfl rfl rfl (zo (zn yG hb) zw) (.cons (zb rfl) .nil)) (fun hb=>ok26 (hv2 hb)) yR ?_
 refine zq rfl (fun hb=>wo rfl (zn yP hb) rfl) yQ ?_
 refine zc rfl (zL rfl xu rfl yO (yb (fun ht=>gF ht))) yU ?_
 refine ze (zj ?_)
 refine zR yL hF (fun hc3 hF=>?_) (fun hc3 hF=>?_)
 ·refine zk (zd ?_)
  refine zc rfl (zi rfl rfl (zb rfl)) yM ?_
  refine ze (zj (zJ (zB ?_)))
  obtain rfl:=Option.some.inj hF
  refine zz rfl (zF yV zD) (zA (leV.refl _) rfl ?_)
  exact ⟨rfl,rfl⟩
 ·refine zO (zj (zk ?_))
  refine yD [0,3] [(3,[(0,.cells [.sl 1 (r0.path.map zP),.int .u8 r0.leaf.typ,.int .i64 r0.leaf.n,.int .u64 r0.leaf.time,.int .u8 r0.leaf.dot.actor.rep,.int .u32 r0.leaf.dot.actor.inc,.int .u64 r0.leaf.dot.seq,.str r0.leaf.text,.sl 5 (r0.leaf.items.map GItem.row),.sl 3 (r0.leaf.tombs.map GDot.row)])])] ⟨⟨rfl,trivial⟩,trivial⟩ mixed (by kernel_rfl) ?_
  refine zU hF (fun v4 hv4 hF=>?_)
  refine zZ rfl rfl (fun _=>zC rfl rfl rfl zw .nil) (by rintro _ ⟨B2,T2,rfl,hk2⟩;exact ok27 hv4) y3 ?_
  refine zp rfl rfl (zf rfl fo44x1 yw rfl) y2 ?_
  refine zp rfl rfl (zf rfl wU yW rfl) xf ?_
  refine draw_okN rfl rfl (by rintro _ ⟨B2,T2,rfl,hk2⟩;exact zu rfl ty5 xd (keeps1 hk2) (zt rfl) (zb rfl)) xA ?_
  refine zU hF (fun y5 hy5 hF=>?_)
  refine zp rfl rfl (s_idxAgg (row:=fun y5=>[.str y5.word,vB y5.parts,fvRead y5.read]) hy5 rfl ty68 ty67.choose_spec.1 ty67.choose_spec.2 y4 xC rfl (fun _ _=>rfl) rfl) xR ?_
  refine xX rfl (FOk.cons (.inr (xW trivial)) (FOk.cons (.inr (xW ⟨rfl,trivial⟩)) FOk.nil)) (by kernel_rfl) rfl (y9 (n:=1) rfl ze67 rfl) wD ?_
  refine xX rfl (FOk.cons (.inr (xW trivial)) (FOk.cons (.inr (xW ⟨rfl,trivial⟩)) FOk.nil)) (by kernel_rfl) rfl (yx (cs':=[.str y5.word,vB y5.parts,fvRead y5.read]) rfl ty67.choose_spec.1 xj xL (zb rfl) rfl rfl rfl rfl rfl) rfl ?_
  refine ym ?_
  refine zj (zk ?_)
  refine yD [2,12] [] trivial mixed (by kernel_rfl) ?_
  refine zp rfl rfl (zf rfl fo44x0 yw rfl) wa ?_
  refine zp rfl rfl (zu rfl ty24 wh rfl (zt rfl) (zb rfl)) wJ ?_
  refine zU hF (fun v6 hv6 hF=>?_)
  refine zZ rfl rfl (fun _=>zC rfl rfl rfl (zo wL (zo rfl zw)) (.cons (zb rfl) (.cons (zb rfl) .nil))) (by rintro _ ⟨B2,T2,rfl,hk2⟩;exact ok28 hv6) wO ?_
  refine zp rfl rfl (zf rfl fo67x0 xj rfl) vk ?_
  refine zp rfl rfl (zu rfl ty9 vm rfl (zt rfl) (zb rfl)) wN ?_
  refine zp rfl rfl (ye (es:=([v6,y5.word]:List zM).map zP) rfl xl ze9 rfl rfl (zH wK (zH wy zV)) (.cons (zb rfl) (.cons (zb rfl) .nil)) rfl rfl rfl) vj ?_
  refine zp rfl rfl (zf rfl fo67x1 xj rfl) vC ?_
  refine zp rfl rfl (zu rfl ty64 vw rfl (zt rfl) (fvtParts _ _ _)) qx ?_
  refine zp rfl rfl (zf rfl fo44x1 yw rfl) qw ?_
  refine zp rfl rfl (zu rfl ty42.choose_spec.1 qj rfl (zI (cs':=[.int .u8 r0.leaf.typ,.int .i64 r0.leaf.n,.int .u64 r0.leaf.time,.int .u8 r0.leaf.dot.actor.rep,.int .u32 r0.leaf.dot.actor.inc,.int .u64 r0.leaf.dot.seq,.str r0.leaf.text,.sl 5 (r0.leaf.items.map GItem.row),.sl 3 (r0.leaf.tombs.map GDot.row)]) ty42.choose_spec.2 rfl rfl) (zb rfl)) qU ?_
  refine zU hF (fun v7 hv7 hF=>?_)
  refine draw_call rfl rfl (zC rfl rfl (evo_eq qI (fnPartsok hv7)) (zo qH zw) (.cons (zb rfl) .nil)) (okfvParts hv7) qv ?_
  refine wt hF (fun hm8 hF=>?_)
  refine draw_okH rfl (FOk.cons (.inr (xW trivial)) (FOk.cons (.inr (xW trivial)) FOk.nil)) (by rfl) rfl (e_appN (m:=0) (T':=[((([v6,y5.word]:List zM)++v7)).length]) rfl rfl rfl rfl xl xl vl qi (zb rfl) (zb rfl) news_sl hm8 rfl rfl) q9 ?_
  refine zU hF (fun v9 hv9 hF=>?_)
  refine zZ rfl rfl (fun _=>zC rfl rfl rfl (zo gt30 (zo rfl zw)) (.cons (zb rfl) (.cons (zb rfl) .nil))) (by rintro _ ⟨B2,T2,rfl,hk2⟩;exact (ok28 hv9).le (.cons (leV.osl _ _ _) (.eq leL.nil))) q8 ?_
  refine zp rfl rfl (zi rfl gt31 (zb rfl)) yM ?_
  refine ym ?_
  refine zj (zJ ?_)
  obtain rfl:=Option.some.inj hF
  refine zz rfl (zF yV zD) (zA (leV.refl _) rfl ?_)
  exact ⟨rfl,rfl⟩
theorem ok19 {n0:Int} {res:GDot} {h:AH}  (hF:vt n0=some res):Spec Tryz.prog 19 [.int .u64 n0] h (fun rr hh=>rr=.agg [.int .u8 res.actor.rep,.int .u32 res.actor.inc,.int .u64 res.seq]∧hh=h):=by
 unfold vt at hF
 refine zr Tryz.func19 rfl (by kernel_rfl) (env:=[.int .u64 n0,za,za,za,za,za]) (by rfl) ?_
 refine zk (zd ?_)
 refine zc rfl (y9 (n:=0) rfl ze38 rfl) yM ?_
 refine ze (zj (zk (zd ?_)))
 refine zc rfl (xS (cs':=[.int .u8 (0:Int),.int .u32 (1:Int)]) rfl su36 ze36 pl36 (zH rfl zV) (.cons (zb rfl) .nil) rfl rfl) wD ?_
 refine zc rfl (zg rfl yB (zb rfl)) yF ?_
 refine zc rfl (xS (cs':=[.int .u8 (0:Int),.int .u32 (1:Int),.int .u64 n0]) rfl su38 ze38 pl38 (zH xj (zH yH zV)) (.cons (zb rfl) (.cons (zb rfl) .nil)) rfl rfl) xG ?_
 refine zc rfl (yx (cs':=[.int .u8 (0:Int),.int .u32 (1:Int),.int .u64 n0]) rfl ty38.choose_spec.1 yV yY (zb rfl) rfl rfl rfl rfl rfl) rfl ?_
 refine ze (zj (zJ ?_))
 obtain rfl:=Option.some.inj hF
 refine zz rfl (rl_cell ty38.choose_spec.1 yV rfl (zI (cs':=[.int .u8 (0:Int),.int .u32 (1:Int),.int .u64 n0]) ty38.choose_spec.2 rfl rfl) (zb rfl) zD) (zA (leV.refl _) rfl ?_)
 exact ⟨rfl,rfl⟩
theorem ok7  {res:Bool} {h:AH}  (hF:vL  = some res):Spec Tryz.prog 7 [] h (fun rr hh=>rr=.bool res∧hh=h):=by
 unfold vL at hF
 refine zr Tryz.func7 rfl (by kernel_rfl) (env:=[za,za,za,za,za,za,za,za,za,za,za,za,za,za,za,za,za,za,za,za,za,za,za,za,za]) (by rfl) ?_
 refine zk (zd ?_)
 refine zc rfl (zi rfl rfl (zb rfl)) st0 ?_
 refine ze (zj (zk (zd ?_)))
 refine zc rfl (zi rfl rfl (zb rfl)) st1 ?_
 refine ze (zj (zk (zd ?_)))
 refine zc rfl (ye (es:=([([97]:zM),([98]:zM)]:List zM).map zP) rfl xl ze9 rfl rfl (zH rfl (zH rfl zV)) (.cons (zb rfl) (.cons (zb rfl) .nil)) rfl rfl rfl) yF ?_
 refine zc rfl (xS (cs':=[.int .u8 (1:Int),.int .i64 (-5:Int),.int .u64 (0:Int),.int .u8 (0:Int),.int .u32 (0:Int),.int .u64 (0:Int),.str ([]:zM),.osl none 5 (([]:List GItem).map GItem.row),.osl none 3 (([]:List GDot).map GDot.row)]) rfl su42 ze42 pl42 (zH rfl (zH rfl zV)) (.cons (zb rfl) (.cons (zb rfl) .nil)) rfl rfl) xG ?_
 refine zc rfl (xS (cs':=[.osl none 1 (([([97]:zM),([98]:zM)]:List zM).map zP),.int .u8 (1:Int),.int .i64 (-5:Int),.int .u64 (0:Int),.int .u8 (0:Int),.int .u32 (0:Int),.int .u64 (0:Int),.str ([]:zM),.osl none 5 (([]:List GItem).map GItem.row),.osl none 3 (([]:List GDot).map GDot.row)]) rfl su44 ze44 pl44 (zH yH (zH yY zV)) (.cons (zb rfl) (.cons (zb rfl) .nil)) rfl rfl) xY ?_
 refine zU hF (fun v1 hv1 hF=>?_)
 refine zN rfl (zC rfl rfl rfl (zo yT zw) (.cons (zb rfl) .nil)) ((ok11 hv1).le (.cons (leV.agg (.cons (leV.osl _ _ _) (.eq (.eq (.eq (.eq (.eq (.eq (.eq (.cons (leV.osl _ _ _) (.cons (leV.osl _ _ _) leL.nil)))))))))) rfl) leL.nil)) wm ?_
 refine zc rfl (zi rfl xN (zb rfl)) yM ?_
 refine ze (zj (zk (zd ?_)))
 refine zc rfl (ye (es:=([([97]:zM)]:List zM).map zP) rfl xl ze9 rfl rfl (zH rfl zV) (.cons (zb rfl) .nil) rfl rfl rfl) wl ?_
 refine zc rfl (zg rfl yw (zb rfl)) vi ?_
 refine zU hF (fun v2 hv2 hF=>?_)
 refine zN rfl (zC rfl rfl wE (zo rfl zw) (.cons (zb rfl) .nil)) (ok19 hv2) yN ?_
 refine zc rfl (xS (cs':=[.int .u64 (0:Int),.int .u8 v2.actor.rep,.int .u32 v2.actor.inc,.int .u64 v2.seq,.str ([117]:zM)]) rfl su57 ze57 pl57 (zH yG (zH rfl zV)) (.cons (zb rfl) (.cons (zb rfl) .nil)) rfl rfl) yR ?_
 refine zc rfl (ye (es:=([(GItem.mk (0:Int) v2 ([117]:zM))]:List GItem).map GItem.row) rfl ve ze57 rfl rfl (zH yP zV) (.cons (zb rfl) .nil) rfl rfl rfl) yQ ?_
 refine zc rfl (zg rfl yw (zb rfl)) yU ?_
 refine zU hF (fun v3 hv3 hF=>?_)
 refine zN rfl (zC rfl rfl yL (zo rfl zw) (.cons (zb rfl) .nil)) (ok19 hv3) y3 ?_
 refine zc rfl (ye (es:=([v3]:List GDot).map GDot.row) rfl qW ze38 rfl rfl (zH y4 zV) (.cons (zb rfl) .nil) rfl rfl rfl) y2 ?_
 refine zc rfl (xS (cs':=[.int .u8 (3:Int),.int .i64 (0:Int),.int .u64 (0:Int),.int .u8 (0:Int),.int .u32 (0:Int),.int .u64 (0:Int),.str ([]:zM),.osl none 5 (([(GItem.mk (0:Int) v2 ([117]:zM))]:List GItem).map GItem.row),.osl none 3 (([v3]:List GDot).map GDot.row)]) rfl su42 ze42 pl42 (zH rfl (zH yO (zH yW zV))) (.cons (zb rfl) (.cons (zb rfl) (.cons (zb rfl) .nil))) rfl rfl) xf ?_
 refine zc rfl (xS (cs':=[.osl none 1 (([([97]:zM)]:List zM).map zP),.int .u8 (3:Int),.int .i64 (0:Int),.int .u64 (0:Int),.int .u8 (0:Int),.int .u32 (0:Int),.int .u64 (0:Int),.str ([]:zM),.osl none 5 (([(GItem.mk (0:Int) v2 ([117]:zM))]:List GItem).map GItem.row),.osl none 3 (([v3]:List GDot).map GDot.row)]) rfl su44 ze44 pl44 (zH xu (zH xd zV)) (.cons (zb rfl) (.cons (zb rfl) .nil)) rfl rfl) xA ?_
 refine zU hF (fun v4 hv4 hF=>?_)
 refine zN rfl (zC rfl rfl rfl (zo xC zw) (.cons (zb rfl) .nil)) ((ok11 hv4).le (.cons (leV.agg (.cons (leV.osl _ _ _) (.eq (.eq (.eq (.eq (.eq (.eq (.eq (.cons (leV.osl _ _ _) (.cons (leV.osl _ _ _) leL.nil)))))))))) rfl) leL.nil)) xR ?_
 refine zc rfl (zi rfl xL (zb rfl)) wD ?_
 refine ze (zj (zk (zd ?_)))
 refine zc rfl (zg rfl yV (zb rfl)) wa ?_
 refine zc rfl (zy rfl wh rfl rfl) wJ ?_
 refine zc rfl (zg rfl wL (zb rfl)) wO ?_
 refine zq rfl (fun hb=>zg rfl xj (zb rfl)) vk ?_
 refine zq rfl (fun hb=>zy rfl (zn vm hb) rfl rfl) wN ?_
 refine zc rfl (zL rfl wK wy rfl (zT (fun ht=>gT ht))) vj ?_
 refine zc rfl (zi rfl vl (zb rfl)) st0 ?_
 refine ze (zj (zJ ?_))
 obtain rfl:=Option.some.inj hF
 refine zz rfl (zF yB zD) (zA (leV.refl _) rfl ?_)
 exact ⟨rfl,rfl⟩
theorem ok36N (n:Nat):∀ {t0:(List GNode)} {deep1:Int} {res:Bool} {h:AH} , vH n t0 deep1=some res→Spec Tryz.prog 36 [.sl 3 (t0.map GNode.row),.int .i64 deep1] h (fun rr hh=>rr=.bool res∧hh=h):=by
 induction n with
 | zero=>intro t0 deep1 res h  hF;simp [vH] at hF
 | succ n ih =>
  intro t0 deep1 res h  hF
  unfold vH at hF
  refine zr Tryz.func36 rfl (by kernel_rfl) (env:=[.sl 3 (t0.map GNode.row),.int .i64 deep1,za,za,za,za,za,za,za,za,za,za,za,za,za,za,za,za,za,za,za,za,za,za,za,za,za,za,za,za,za,za,za,za,za,za,za,za,za,za,za,za,za,za,za,za,za,za,za,za,za,za,za,za,za,za,za,za,za,za,za,za,za,za,za,za,za,za,za,za,za,za,za,za,za,za,za,za,za,za,za,za,za,za,za,za,za,za,za]) (by rfl) ?_
  refine zk (zd ?_)
  refine zc rfl (zi rfl rfl (zb rfl)) yF ?_
  refine ze (zj (zk (zk (zd ?_))))
  refine zc rfl (zg rfl yB (zb rfl)) vi ?_
  refine yc rfl (zY rfl rfl rfl rfl qX wE yh) yN fun hn1=>?_
  replace hn1:=xK hn1
  refine zc rfl (zy rfl yG rfl rfl) yR ?_
  refine zc rfl (zg rfl yP (zb rfl)) yQ ?_
  refine zq rfl (fun hb=>zg rfl yw (zb rfl)) yU ?_
  refine zq rfl (fun hb=>zy rfl (zn yL hb) rfl rfl) y3 ?_
  refine zc rfl (zL rfl yO y4 rfl (zT (fun ht=>gT ht))) y2 ?_
  refine ze (zj ?_)
  refine zR yW hF (fun hc2 hF=>?_) (fun hc2 hF=>?_)
  ·refine zk (zd ?_)
   refine zc rfl (zi rfl rfl (zb rfl)) yF ?_
   refine ze (zj (zJ (zB ?_)))
   obtain rfl:=Option.some.inj hF
   refine zz rfl (zF yH zD) (zA (leV.refl _) rfl ?_)
   exact ⟨rfl,rfl⟩
  ·refine zO (zj (zk (zk (zd ?_))))
   refine zc rfl (zg rfl yB (zb rfl)) xf ?_
   refine yc rfl (zY rfl rfl rfl rfl qX xd yh) xA fun hn3=>?_
   replace hn3:=xK hn3
   refine zc rfl (zg rfl rfl (zb rfl)) xR ?_
   refine ze (zj (zS ?_))
   refine yu (fun (n1:Nat) (s1:Unit)=>yS [2,3,4,5,6,7,8,9,10,11,12,13,14,15,19,20,21,22,23,24,25,26,27,28,29,30,31,32,33,34,35,36,37,38,39,40,41,42,43,44,45,46,47,48,49,50,51,52,53,54,55,56,57,58,59,60,61,62,63,64,65,66,67,68,69,70,71,72,73,74,75,76,77,78,79,80,81,82,83,84,85,86,87,88] [(18,.int .i64 (n1:Int))]) (fun s1=>h.ext [] []) hF (fun _ _=>by simp only [yS,upd,List.set_cons_succ,List.set_cons_zero];try rfl) (wk.le (by exact (.eq (.eq (.d4 (.d4 (.d4 (.drop (.drop (.eq (.eq (.cons (leV.of_eq rfl) (.d16 (.d16 (.d16 (.d16 (.d4 (.drop (.drop leL.nil))))))))))))))))))) ?_
   intro n1 s1 hi1 hF
   refine zk (zd ?_)
   refine zc rfl (zy rfl xL xC rfl) wa ?_
   refine ze (zj (zk ?_))
   refine yI wh hF (fun x1 o1 hl1 hx1 hF hK1=>?_) (fun hF=>?_)
   ·refine zO (zj (zk (zS (zk (zd ?_)))))
    refine zc rfl (zg rfl xL (zb rfl)) wJ ?_
    refine zc rfl (vI rfl qX xd xL qZ (xc hx1) (GNode.row_eq _)) wO ?_
    refine zc rfl (yl rfl ty82.choose_spec.1 wK (zI (cs':=[.str x1.name,.sl 9 (x1.leaves.map GLeaf.row),.sl 3 (x1.subs.map GNode.row)]) ty82.choose_spec.2 rfl rfl) (zb rfl)) vk ?_
    refine zc rfl (y9 (n:=0) rfl ze82 rfl) xY ?_
    refine zc rfl (zi rfl wL (zb rfl)) xG ?_
    refine zc rfl (yx (cs':=[.str x1.name,.sl 9 (x1.leaves.map GLeaf.row),.sl 3 (x1.subs.map GNode.row)]) rfl ty82.choose_spec.1 yT vm (zb rfl) rfl rfl rfl rfl rfl) rfl ?_
    refine ze (zj (zk (zk ?_)))
    refine yD [2] [] trivial mixed (by kernel_rfl) ?_
    refine zp rfl rfl (zf rfl fo82x0 yT rfl) wN ?_
    refine zp rfl rfl (zu rfl ty9 wy rfl (zt rfl) (zb rfl)) vj ?_
    refine zU hF (fun v27 hv27 hF=>?_)
    refine zZ rfl rfl (fun _=>zC rfl rfl rfl (zo vl zw) (.cons (zb rfl) .nil)) (by rintro _ ⟨B2,T2,rfl,hk2⟩;exact ok17 hv27) vC ?_
    refine zp rfl rfl (wo rfl vw rfl) qx ?_
    refine zp rfl rfl (zg rfl qI (zb rfl)) qw ?_
    refine zx rfl rfl (fun hb=>zg rfl yY (zb rfl)) qU ?_
    refine zx rfl rfl (fun hb=>zy rfl (zn qH hb) rfl rfl) qv ?_
    refine zx rfl rfl (fun hb=>zg rfl (zn qi hb) (zb rfl)) q9 ?_
    refine zx rfl (zQ rfl rfl rfl) (fun hb=>zg rfl yB (zb rfl)) q8 ?_
    refine zx rfl (zQ rfl rfl rfl) (fun hb=>zg rfl yY (zb rfl)) st32 ?_
    refine zx rfl (zQ rfl rfl rfl) (fun hb=>zy rfl (zn gt32 hb) rfl rfl) st33 ?_
    refine wt hF (fun hg28 hF=>?_)
    refine zx rfl (zQ rfl rfl rfl) (fun hb=>s_gidxRowE default rfl qX (zn gt31 hb) (zn gt33 hb) qZ (hg28 hb) (GNode.row_eq _)) st34 ?_
    refine zx rfl (zQ rfl rfl rfl) (fun hb=>zf rfl fo82x0 (zn gt34 hb) rfl) st35 ?_
    refine zx rfl (zQ rfl rfl rfl) (fun hb=>yl rfl ty9 (zn gt35 hb) (zt rfl) (zb rfl)) qT ?_
    refine zx rfl (zQ rfl rfl rfl) (fun hb=>zf rfl fo82x0 yT rfl) qS ?_
    refine zx rfl (zQ rfl rfl rfl) (fun hb=>zu rfl ty9 (zn qF hb) rfl (zt rfl) (zb rfl)) st38 ?_
    refine zx rfl (zQ rfl rfl rfl) (fun hb=>zy rfl (zn qG hb) (zn gt38 hb) rfl) st39 ?_
    refine zx rfl rfl (fun hb=>zL rfl (zn gt30 hb) gt39 rfl (zT (fun ht=>gT2 hb ht))) (sk st0) ?_
    refine zp rfl rfl (zL rfl qj rfl (gk yB) (yb (fun ht=>gF ht))) (sk st1) ?_
    refine zp rfl rfl (zg rfl (gk yw) (zb rfl)) (sk yM) ?_
    refine zx rfl rfl (fun hb=>zf rfl vF yT rfl) (sk wD) ?_
    refine zx rfl rfl (fun hb=>zu rfl ty80 (zn (gk xj) hb) rfl (zt rfl) (zb rfl)) (sk yF) ?_
    refine draw_glen rfl rfl (fun hb=>zY rfl rfl rfl rfl el80 (zn (gk yH) hb) yh) (sk xG) ?_
    refine zx rfl rfl (fun hb=>zf rfl fo82x2 yT rfl) (sk xY) ?_
    refine zx rfl rfl (fun hb=>zu rfl ty23 (zn (gk yT) hb) rfl (zt rfl) (zb rfl)) (sk wm) ?_
    refine draw_glen rfl rfl (fun hb=>zY rfl rfl rfl rfl qX (zn (gk xN) hb) yh) (sk wl) ?_
    refine zx rfl rfl (fun hb=>zy rfl (zn (gk yY) hb) (zn (gk xu) hb) rfl) (sk vi) ?_
    refine zx rfl rfl (fun hb=>zy rfl (zn (gk wE) hb) rfl rfl) (sk yN) ?_
    refine zp rfl rfl (zL rfl (gk yV) rfl (gk yG) (yb (fun ht=>gF ht))) (sk yR) ?_
    refine zp rfl rfl (zg rfl (gk yP) (zb rfl)) (sk yQ) ?_
    refine zx rfl rfl (fun hb=>zf rfl fo82x2 yT rfl) (sk yU) ?_
    refine zx rfl rfl (fun hb=>zu rfl ty23 (zn (gk yL) hb) rfl (zt rfl) (zb rfl)) (sk y3) ?_
    refine zx rfl rfl (fun hb=>zg rfl yw (zb rfl)) (sk y2) ?_
    refine zx rfl rfl (fun hb=>zy rfl (zn (gk yW) hb) rfl rfl) (sk xf) ?_
    refine yZ hF (fun v31 hv31 hF=>?_)
    refine wW rfl rfl (fun hb=>zC rfl rfl rfl (zo (zn (gk y4) hb) (zo (zn (gk xd) hb) zw)) (.cons (zb rfl) (.cons (zb rfl) .nil))) (fun hb=>ih (hv31 hb)) (sk xA) ?_
    refine zx rfl rfl (fun hb=>wo rfl (zn (gk xC) hb) rfl) (sk xR) ?_
    refine zp rfl rfl (zL rfl (gk yO) rfl (gk xL) (yb (fun ht=>gF ht))) (sk wa) ?_
    refine ym ?_
    refine zj ?_
    refine zR (gk wh) hF (fun hc32 hF=>?_) (fun hc32 hF=>?_)
    ·refine zk (zd ?_)
     refine zc rfl (zi rfl rfl (zb rfl)) yF ?_
     refine ze (zj (zJ (zB ?_)))
     refine zG ?_
     refine zB ?_
     refine yj ?_
     obtain rfl:=Option.some.inj hF
     replace hF:=hK1
     refine zG ?_
     refine zB ?_
     obtain rfl:=Option.some.inj hF
     refine zz rfl (zF yH zD) (zA (leV.refl _) rfl ?_)
     exact ⟨rfl,rfl⟩
    ·refine zO (zj (zk (zd ?_)))
     refine zc rfl (zf rfl vF yT rfl) (sk wJ) ?_
     refine zc rfl (zu rfl ty80 (gk wL) rfl (zt rfl) (zb rfl)) (sk wO) ?_
     refine yc rfl (zY rfl rfl rfl rfl el80 (gk wK) yh) (sk vk) fun hn33=>?_
     replace hn33:=xK hn33
     refine zc rfl (zg rfl rfl (zb rfl)) (sk wN) ?_
     refine ze (zj (zS ?_))
     refine yu (fun (n2:Nat) (s2:Unit)=>yS [2,3,4,5,7,8,9,10,11,12,13,14,15,19,20,21,22,23,24,25,26,27,28,29,30,31,32,33,34,35,36,37,38,39,40,41,42,43,44,45,46,47,48,49,50,51,52,53,54,55,56,57,58,59,60,64,65,66,67,68,69,70,71,72,73,74,75,76,77,78,79,80,81,82,83,84,85,86,87,88] [(63,.int .i64 (n2:Int))]) (fun s2=>h.ext [.cells [.str x1.name,.sl 9 (x1.leaves.map GLeaf.row),.sl 3 (x1.subs.map GNode.row)]] []) hF (fun _ _=>by simp only [yS,upd,List.set_cons_succ,List.set_cons_zero];try rfl) (wk.le (by exact (.eq (.eq (.d4 (.eq (.d4 (.d4 (.drop (.eq (.eq (.eq (.d16 (.d16 (.d4 (.d4 (.drop (.drop (.eq (.eq (.cons (leV.of_eq rfl) (.d16 (.d4 (.d4 (.drop leL.nil))))))))))))))))))))))))) ?_
     intro n2 s2 hi2 hF
     refine zk (zd ?_)
     refine zc rfl (zy rfl (gk wy) (gk vm) rfl) (sk vj) ?_
     refine ze (zj (zk ?_))
     refine yI (gk vl) hF (fun x2 o2 hl2 hx2 hF hK2=>?_) (fun hF=>?_)
     ·refine zO (zj (zk (zS (zk (zd ?_)))))
      refine zc rfl (zg rfl (gk wy) (zb rfl)) (sk vC) ?_
      refine zc rfl (yr rfl el80 (gk wK) (gk wy) qZ (xc hx2)) (sk qx) ?_
      refine zc rfl (yl rfl ty42.choose_spec.1 (gk qI) (zI (cs':=[.int .u8 x2.typ,.int .i64 x2.n,.int .u64 x2.time,.int .u8 x2.dot.actor.rep,.int .u32 x2.dot.actor.inc,.int .u64 x2.dot.seq,.str x2.text,.sl 5 (x2.items.map GItem.row),.sl 3 (x2.tombs.map GDot.row)]) ty42.choose_spec.2 rfl rfl) (zb rfl)) (sk qw) ?_
      refine zc rfl (y9 (n:=1) rfl ze42 rfl) wl ?_
      refine zc rfl (zi rfl (gk vw) (zb rfl)) wm ?_
      refine zc rfl (yx (cs':=[.int .u8 x2.typ,.int .i64 x2.n,.int .u64 x2.time,.int .u8 x2.dot.actor.rep,.int .u32 x2.dot.actor.inc,.int .u64 x2.dot.seq,.str x2.text,.sl 5 (x2.items.map GItem.row),.sl 3 (x2.tombs.map GDot.row)]) rfl ty42.choose_spec.1 xu (gk qj) (zb rfl) rfl rfl rfl rfl rfl) rfl ?_
      refine ze (zj (zk ?_))
      refine yD [1] [] trivial mixed (by kernel_rfl) ?_
      refine zp rfl rfl (zu rfl ty42.choose_spec.1 xu rfl (zI (cs':=[.int .u8 x2.typ,.int .i64 x2.n,.int .u64 x2.time,.int .u8 x2.dot.actor.rep,.int .u32 x2.dot.actor.inc,.int .u64 x2.dot.seq,.str x2.text,.sl 5 (x2.items.map GItem.row),.sl 3 (x2.tombs.map GDot.row)]) ty42.choose_spec.2 rfl rfl) (zb rfl)) (sk qU) ?_
      refine zU hF (fun v43 hv43 hF=>?_)
      refine zZ rfl rfl (fun _=>zC rfl rfl rfl (zo (gk qH) zw) (.cons (zb rfl) .nil)) (by rintro _ ⟨B2,T2,rfl,hk2⟩;exact ok26 hv43) (sk qv) ?_
      refine zp rfl rfl (wo rfl (gk qi) rfl) (sk q9) ?_
      refine zp rfl rfl (zg rfl (gk gt30) (zb rfl)) (sk q8) ?_
      refine zx rfl rfl (fun hb=>zg rfl xN (zb rfl)) (sk st32) ?_
      refine zx rfl rfl (fun hb=>zy rfl (zn (gk gt32) hb) rfl rfl) (sk st33) ?_
      refine zx rfl rfl (fun hb=>zg rfl (zn (gk gt33) hb) (zb rfl)) (sk st34) ?_
      refine zx rfl (zQ rfl rfl rfl) (fun hb=>zf rfl vF yT rfl) (sk st35) ?_
      refine zx rfl (zQ rfl rfl rfl) (fun hb=>zu rfl ty80 (zn (gk gt35) hb) rfl (zt rfl) (zb rfl)) (sk qT) ?_
      refine zx rfl (zQ rfl rfl rfl) (fun hb=>zg rfl xN (zb rfl)) (sk qS) ?_
      refine zx rfl (zQ rfl rfl rfl) (fun hb=>zy rfl (zn (gk qF) hb) rfl rfl) (sk st38) ?_
      refine wt hF (fun hg44 hF=>?_)
      refine zx rfl (zQ rfl rfl rfl) (fun hb=>xB default rfl el80 (zn (gk qG) hb) (zn (gk gt38) hb) qZ (hg44 hb)) (sk st39) ?_
      refine zx rfl (zQ rfl rfl rfl) (fun hb=>zf rfl wU (zn (gk gt39) hb) rfl) (sk (sk st0)) ?_
      refine zx rfl (zQ rfl rfl rfl) (fun hb=>yl rfl ty5 (zn (gk (gk yB)) hb) (zt rfl) (zb rfl)) (sk (sk st1)) ?_
      refine zx rfl (zQ rfl rfl rfl) (fun hb=>zf rfl wU xu rfl) (sk (sk yM)) ?_
      refine zx rfl (zQ rfl rfl rfl) (fun hb=>zu rfl ty5 (zn (gk (gk yV)) hb) rfl (zt rfl) (zb rfl)) (sk (sk wD)) ?_
      refine zx rfl (zQ rfl rfl rfl) (fun hb=>zy rfl (zn (gk (gk yw)) hb) (zn (gk (gk xj)) hb) rfl) (sk (sk yF)) ?_
      refine zx rfl rfl (fun hb=>zL rfl (zn (gk gt34) hb) (gk (gk yH)) rfl (zT (fun ht=>gT2 hb ht))) (sk (sk xG)) ?_
      refine zp rfl rfl (zL rfl (gk gt31) rfl (gk (gk yY)) (yb (fun ht=>gF ht))) (sk (sk xY)) ?_
      refine ym ?_
      refine zj ?_
      refine zR (gk (gk yT)) hF (fun hc45 hF=>?_) (fun hc45 hF=>?_)
      ·refine zk (zd ?_)
       refine zc rfl (zi rfl rfl (zb rfl)) yF ?_
       refine ze (zj (zJ ?_))
       refine zG ?_
       refine zB ?_
       refine yj ?_
       obtain rfl:=Option.some.inj hF
       replace hF:=hK2
       refine zG ?_
       refine zG ?_
       refine zB ?_
       refine yj ?_
       obtain rfl:=Option.some.inj hF
       replace hF:=hK1
       refine zG ?_
       refine zB ?_
       obtain rfl:=Option.some.inj hF
       refine zz rfl (zF yH zD) (zA (leV.refl _) rfl ?_)
       exact ⟨rfl,rfl⟩
      ·refine zO (yi (zj (zd ?_)))
       refine zc rfl (zy rfl (gk wy) rfl rfl) (sk (sk wm)) ?_
       refine zc rfl (zg rfl (gk (gk xN)) (zb rfl)) (sk wN) ?_
       refine ze (yK ?_)
       obtain rfl:=Option.some.inj hF
       exact ⟨(),hl2,hK2,wk.trans (wk.le (by exact (.eq (.eq (.d4 (.eq (.d4 (.d4 (.drop (.eq (.eq (.eq (.d16 (.d16 (.d4 (.d4 (.drop (.drop (.eq (.eq (.cons (leV.of_eq (vN (by omega) (by omega))) (.d16 (.d4 (.d4 (.drop leL.nil))))))))))))))))))))))))) (xP (by simp [yf,AV.low]) rfl rfl (by simp [Blk.low,yf,AV.low]))⟩
     ·refine yX ?_
      refine z7 ?_
      refine zW ?_
      refine zX ?_
      refine yi (zj (zd ?_))
      refine zc rfl (zy rfl xL rfl rfl) (sk (sk wl)) ?_
      refine zc rfl (zg rfl (gk (gk xu)) (zb rfl)) xR ?_
      refine ze (yK ?_)
      obtain rfl:=Option.some.inj hF
      exact ⟨(),hl1,hK1,wk.trans (wk.le (by exact (.eq (.eq (.d4 (.d4 (.d4 (.drop (.drop (.eq (.eq (.cons (leV.of_eq (vN (by omega) (by omega))) (.d16 (.d16 (.d16 (.d16 (.d4 (.drop (.drop leL.nil))))))))))))))))))) (xP (by simp [yf,AV.low]) rfl rfl (by simp [Blk.low,yf,AV.low]))⟩
   ·refine yX ?_
    refine z7 ?_
    refine zW ?_
    refine zX ?_
    refine zj (zk (zd ?_))
    refine zc rfl (zi rfl rfl (zb rfl)) yF ?_
    refine ze (zj (zJ ?_))
    obtain rfl:=Option.some.inj hF
    refine zz rfl (zF yH zD) (zA (leV.refl _) rfl ?_)
    exact ⟨rfl,rfl⟩
theorem ok36 {t0:(List GNode)} {deep1:Int} {res:Bool} {h:AH}  (hF:treeXmay t0 deep1=some res):Spec Tryz.prog 36 [.sl 3 (t0.map GNode.row),.int .i64 deep1] h (fun rr hh=>rr=.bool res∧hh=h):=by
 obtain ⟨n,hn⟩:=anyN_is hF
 exact ok36N n  hn
theorem ok20 {t0:(List GNode)} {res:Bool} {h:AH}  (hF:treeMay t0=some res):Spec Tryz.prog 20 [.sl 3 (t0.map GNode.row)] h (fun rr hh=>rr=.bool res∧hh=h):=by
 unfold treeMay at hF
 refine zr Tryz.func20 rfl (by kernel_rfl) (env:=[.sl 3 (t0.map GNode.row),za,za,za,za]) (by rfl) ?_
 refine zk (zd ?_)
 refine zc rfl (zi rfl rfl (zb rfl)) yM ?_
 refine ze (zj (zk (zd ?_)))
 refine zc rfl (zg rfl yB (zb rfl)) wD ?_
 refine zU hF (fun v1 hv1 hF=>?_)
 refine zN rfl (zC rfl rfl rfl (zo xj (zo rfl zw)) (.cons (zb rfl) (.cons (zb rfl) .nil))) (ok36 hv1) yF ?_
 refine zc rfl (zi rfl yH (zb rfl)) yM ?_
 refine ze (zj (zJ ?_))
 obtain rfl:=Option.some.inj hF
 refine zz rfl (zF yV zD) (zA (leV.refl _) rfl ?_)
 exact ⟨rfl,rfl⟩
theorem ok37 {s0:(List zM)} {res:(List zM)} {h:AH}  (hF:xn s0=some res):Spec Tryz.prog 37 [.sl 1 (s0.map zP)] h (OwnK h 1 res.length (res.map zP)):=by
 unfold xn at hF
 refine zr Tryz.func37 rfl (by kernel_rfl) (env:=[.sl 1 (s0.map zP),za,za,za,za,za,za,za]) (by rfl) ?_
 refine zk (zd ?_)
 refine zc rfl (zi rfl rfl (xZ xl)) yM ?_
 refine ze (zj (zk (zk (zd ?_))))
 refine zc rfl (zg rfl yB (zb rfl)) wD ?_
 refine ops_nilqE rfl rfl xl xj qZ rfl (fun _=>yF) hF (fun b1 hb1 hF=>?_)
 refine ze (zj ?_)
 refine zR yH hF (fun hc2 hF=>?_) (fun hc2 hF=>?_)
 ·refine zk (zd ?_)
  refine zc rfl (zi rfl rfl (xZ xl)) yM ?_
  refine ze (zj (zJ (zB ?_)))
  obtain rfl:=Option.some.inj hF
  refine zz rfl (zF yV zD) (fin_own0 (row:=zP) (L:=([]:List zM)) ?_)
  exact ⟨rfl,rfl⟩
 ·refine zO (zj (zk (zd ?_)))
  refine zc rfl (ye (es:=([]:List zM).map zP) rfl xl ze9 rfl rfl zV .nil rfl rfl rfl) xG ?_
  refine zc rfl (zg rfl yB (zb rfl)) xY ?_
  refine wt hF (fun hm3 hF=>?_)
  refine zc rfl (e_appN (m:=0) (T':=[((([]:List zM)++s0)).length]) rfl rfl rfl rfl xl xl yY yT (zb rfl) (zb rfl) news_sl hm3 rfl rfl) wm ?_
  refine zc rfl (zi rfl xN (zb rfl)) yM ?_
  refine ze (zj (zJ ?_))
  obtain rfl:=Option.some.inj hF
  refine zz rfl (zF yV zD) (fin_own ?_)
  exact ⟨rfl,rfl⟩
theorem ok65 {s0:(List GItem)} {res:(List GItem)} {h:AH}  (hF:vA s0=some res):Spec Tryz.prog 65 [.sl 5 (s0.map GItem.row)] h (OwnK h 5 res.length (res.map GItem.row)):=by
 unfold vA at hF
 refine zr Tryz.func65 rfl (by kernel_rfl) (env:=[.sl 5 (s0.map GItem.row),za,za,za,za,za,za,za]) (by rfl) ?_
 refine zk (zd ?_)
 refine zc rfl (zi rfl rfl (xZ ve)) yM ?_
 refine ze (zj (zk (zk (zd ?_))))
 refine zc rfl (zg rfl yB (zb rfl)) wD ?_
 refine ops_nilqE rfl rfl ve xj qZ rfl (fun _=>yF) hF (fun b1 hb1 hF=>?_)
 refine ze (zj ?_)
 refine zR yH hF (fun hc2 hF=>?_) (fun hc2 hF=>?_)
 ·refine zk (zd ?_)
  refine zc rfl (zi rfl rfl (xZ ve)) yM ?_
  refine ze (zj (zJ (zB ?_)))
  obtain rfl:=Option.some.inj hF
  refine zz rfl (zF yV zD) (fin_own0 (row:=GItem.row) (L:=([]:List GItem)) ?_)
  exact ⟨rfl,rfl⟩
 ·refine zO (zj (zk (zd ?_)))
  refine zc rfl (ye (es:=([]:List GItem).map GItem.row) rfl ve ze57 rfl rfl zV .nil rfl rfl rfl) xG ?_
  refine zc rfl (zg rfl yB (zb rfl)) xY ?_
  refine wt hF (fun hm3 hF=>?_)
  refine zc rfl (e_appN (m:=0) (T':=[((([]:List GItem)++s0)).length]) rfl rfl rfl rfl ve ve yY yT (zb rfl) (zb rfl) news_sl hm3 rfl rfl) wm ?_
  refine zc rfl (zi rfl xN (zb rfl)) yM ?_
  refine ze (zj (zJ ?_))
  obtain rfl:=Option.some.inj hF
  refine zz rfl (zF yV zD) (fin_own ?_)
  exact ⟨rfl,rfl⟩
theorem ok66 {s0:(List GDot)} {res:(List GDot)} {h:AH}  (hF:vS s0=some res):Spec Tryz.prog 66 [.sl 3 (s0.map GDot.row)] h (OwnK h 3 res.length (res.map GDot.row)):=by
 unfold vS at hF
 refine zr Tryz.func66 rfl (by kernel_rfl) (env:=[.sl 3 (s0.map GDot.row),za,za,za,za,za,za,za]) (by rfl) ?_
 refine zk (zd ?_)
 refine zc rfl (zi rfl rfl (xZ qW)) yM ?_
 refine ze (zj (zk (zk (zd ?_))))
 refine zc rfl (zg rfl yB (zb rfl)) wD ?_
 refine ops_nilqE rfl rfl qW xj qZ rfl (fun _=>yF) hF (fun b1 hb1 hF=>?_)
 refine ze (zj ?_)
 refine zR yH hF (fun hc2 hF=>?_) (fun hc2 hF=>?_)
 ·refine zk (zd ?_)
  refine zc rfl (zi rfl rfl (xZ qW)) yM ?_
  refine ze (zj (zJ (zB ?_)))
  obtain rfl:=Option.some.inj hF
  refine zz rfl (zF yV zD) (fin_own0 (row:=GDot.row) (L:=([]:List GDot)) ?_)
  exact ⟨rfl,rfl⟩
 ·refine zO (zj (zk (zd ?_)))
  refine zc rfl (ye (es:=([]:List GDot).map GDot.row) rfl qW ze38 rfl rfl zV .nil rfl rfl rfl) xG ?_
  refine zc rfl (zg rfl yB (zb rfl)) xY ?_
  refine wt hF (fun hm3 hF=>?_)
  refine zc rfl (e_appN (m:=0) (T':=[((([]:List GDot)++s0)).length]) rfl rfl rfl rfl qW qW yY yT (zb rfl) (zb rfl) news_sl hm3 rfl rfl) wm ?_
  refine zc rfl (zi rfl xN (zb rfl)) yM ?_
  refine ze (zj (zJ ?_))
  obtain rfl:=Option.some.inj hF
  refine zz rfl (zF yV zD) (fin_own ?_)
  exact ⟨rfl,rfl⟩
theorem ok38 {l0:GLeaf} {res:GLeaf} {h:AH}  (hF:pathsXown l0=some res):Spec Tryz.prog 38 [.agg [.int .u8 l0.typ,.int .i64 l0.n,.int .u64 l0.time,.int .u8 l0.dot.actor.rep,.int .u32 l0.dot.actor.inc,.int .u64 l0.dot.seq,.str l0.text,.sl 5 (l0.items.map GItem.row),.sl 3 (l0.tombs.map GDot.row)]] h (fun rr hh=>rr=.agg [.int .u8 res.typ,.int .i64 res.n,.int .u64 res.time,.int .u8 res.dot.actor.rep,.int .u32 res.dot.actor.inc,.int .u64 res.dot.seq,.str res.text,.sl 5 (res.items.map GItem.row),.sl 3 (res.tombs.map GDot.row)]∧hh=h):=by
 unfold pathsXown at hF
 refine zr Tryz.func38 rfl (by kernel_rfl) (env:=[.agg [.int .u8 l0.typ,.int .i64 l0.n,.int .u64 l0.time,.int .u8 l0.dot.actor.rep,.int .u32 l0.dot.actor.inc,.int .u64 l0.dot.seq,.str l0.text,.sl 5 (l0.items.map GItem.row),.sl 3 (l0.tombs.map GDot.row)],za,za,za,za,za,za,za,za,za,za,za]) (by rfl) ?_
 refine zk (zd ?_)
 refine zc rfl (xb (n:=0) rfl yB (zb rfl) rfl rfl) st1 ?_
 refine zc rfl (y9 (n:=1) rfl ze42 rfl) yM ?_
 refine ze (zj (zk ?_))
 refine yD [] [] trivial mixed (by kernel_rfl) ?_
 refine zp rfl rfl (zf rfl x6 yw rfl) wD ?_
 refine zp rfl rfl (zu rfl ty39 xj rfl (zt rfl) (zb rfl)) yF ?_
 refine zU hF (fun v1 hv1 hF=>?_)
 refine draw_callH rfl FOk.nil (by rfl) rfl (zC rfl rfl rfl (zo yH zw) (.cons (zb rfl) .nil)) (own_ext (T':=[(v1).length]) (ok65 hv1) (m:=0) rfl rfl) xG ?_
 refine zp rfl rfl (zf rfl vn yw rfl) xY ?_
 refine zp rfl rfl (zu rfl ty40 yT rfl (zt rfl) (zb rfl)) wm ?_
 refine zU hF (fun v2 hv2 hF=>?_)
 refine draw_callH rfl FOk.nil (by rfl) rfl (zC rfl rfl rfl (zo xN zw) (.cons (zb rfl) .nil)) (own_ext (T':=[(v1).length,(v2).length]) (ok66 hv2) (m:=1) rfl rfl) wl ?_
 refine zp rfl rfl (zf rfl x6 yw rfl) vi ?_
 refine xX rfl FOk.nil (by kernel_rfl) rfl (yx (cs':=[.int .u8 l0.typ,.int .i64 l0.n,.int .u64 l0.time,.int .u8 l0.dot.actor.rep,.int .u32 l0.dot.actor.inc,.int .u64 l0.dot.seq,.str l0.text,.osl (some (h.toks.length+0)) 5 (v1.map GItem.row),.sl 3 (l0.tombs.map GDot.row)]) rfl ty39 wE yY (zb rfl) rfl rfl rfl rfl rfl) rfl ?_
 refine zp rfl rfl (zf rfl vn yw rfl) yN ?_
 refine xX rfl FOk.nil (by kernel_rfl) rfl (yx (cs':=[.int .u8 l0.typ,.int .i64 l0.n,.int .u64 l0.time,.int .u8 l0.dot.actor.rep,.int .u32 l0.dot.actor.inc,.int .u64 l0.dot.seq,.str l0.text,.osl (some (h.toks.length+0)) 5 (v1.map GItem.row),.osl (some (h.toks.length+1)) 3 (v2.map GDot.row)]) rfl ty40 yG xu (zb rfl) rfl rfl rfl rfl rfl) rfl ?_
 refine ym ?_
 refine zj (zk (zd ?_))
 refine zc rfl (zu rfl ty42.choose_spec.1 yw rfl (zI (cs':=[.int .u8 l0.typ,.int .i64 l0.n,.int .u64 l0.time,.int .u8 l0.dot.actor.rep,.int .u32 l0.dot.actor.inc,.int .u64 l0.dot.seq,.str l0.text,.osl (some (h.toks.length+0)) 5 (v1.map GItem.row),.osl (some (h.toks.length+1)) 3 (v2.map GDot.row)]) ty42.choose_spec.2 rfl rfl) (zb rfl)) yR ?_
 refine zc rfl (yx (cs':=[.int .u8 l0.typ,.int .i64 l0.n,.int .u64 l0.time,.int .u8 l0.dot.actor.rep,.int .u32 l0.dot.actor.inc,.int .u64 l0.dot.seq,.str l0.text,.osl (some (h.toks.length+0)) 5 (v1.map GItem.row),.osl (some (h.toks.length+1)) 3 (v2.map GDot.row)]) rfl ty42.choose_spec.1 yV yP (zb rfl) rfl rfl rfl rfl rfl) rfl ?_
 refine ze (zj (zJ ?_))
 obtain rfl:=Option.some.inj hF
 refine zz rfl (rl_cell ty42.choose_spec.1 yV rfl (zI (cs':=[.int .u8 l0.typ,.int .i64 l0.n,.int .u64 l0.time,.int .u8 l0.dot.actor.rep,.int .u32 l0.dot.actor.inc,.int .u64 l0.dot.seq,.str l0.text,.osl (some (h.toks.length+0)) 5 (v1.map GItem.row),.osl (some (h.toks.length+1)) 3 (v2.map GDot.row)]) ty42.choose_spec.2 rfl rfl) (zb rfl) zD) (zA (leV.agg (.eq (.eq (.eq (.eq (.eq (.eq (.eq (.cons (leV.osl _ _ _) (.cons (leV.osl _ _ _) leL.nil))))))))) rfl) rfl ?_)
 exact ⟨rfl,rfl⟩
theorem ok21N (n:Nat):∀ {t0:(List GNode)} {ahead1:(List zM)} {is2:((List zM)→Option Bool)} {fis2:FuncId} {ais2 kis2:List AV} {res:(List GNode)} {h:AH} (his2:∀ x0 v (L:List Blk) (M:List Nat),is2 x0=some v→Spec Tryz.prog fis2 (ais2++[.sl 1 (x0.map zP)]++kis2) (h.ext L M) (fun rr hh=>rr=.bool v∧hh=h.ext L M)),wT n t0 ahead1 is2=some res→Spec Tryz.prog 21 [.sl 3 (t0.map GNode.row),.sl 1 (ahead1.map zP),.fn (.func fis2) ais2 kis2] h (fun rr hh=>rr=.sl 3 (res.map GNode.row)∧hh=h):=by
 induction n with
 | zero=>intro t0 ahead1 is2 fis2 ais2 kis2 res h his2 hF;simp [wT] at hF
 | succ n ih =>
  intro t0 ahead1 is2 fis2 ais2 kis2 res h his2 hF
  unfold wT at hF
  refine yv Tryz.func21 rfl (by kernel_rfl) (env:=[.sl 3 (t0.map GNode.row),.sl 1 (ahead1.map zP),.fn (.func fis2) ais2 kis2,za,za,za,za,za,za,za,za,za,za,za,za,za,za,za,za,za,za,za,za,za,za,za,za,za,za,za,za,za,za,za,za,za,za,za,za,za,za,za,za,za,za,za,za,za,za,za,za,za,za,za,za,za,za,za,za,za,za,za,za,za,za]) (by rfl) (fun hlow hC=>?_)
  simp only [yf,AV.low,Bool.and_eq_true,Bool.true_and,and_true] at hlow
  have hlais2:∀ n m,h.blks.length≤n→h.toks.length≤m→yf n m ais2=true:=fun n m h1 h2=>yJ h1 h2 _ (by simp [hlow])
  have hlkis2:∀ n m,h.blks.length≤n→h.toks.length≤m→yf n m kis2=true:=fun n m h1 h2=>yJ h1 h2 _ (by simp [hlow])
  refine zk (zd ?_)
  refine zc rfl (zi rfl rfl (xZ qX)) xY ?_
  refine ze (zj (zk (zk (zd ?_))))
  refine zc rfl (zg rfl yB (zb rfl)) yU ?_
  refine yc rfl (zY rfl rfl rfl rfl qX yL yh) y3 fun hn1=>?_
  replace hn1:=xK hn1
  refine zc rfl (zg rfl rfl (zb rfl)) y2 ?_
  refine ze (zj (zS ?_))
  refine yu (fun (n1:Nat) (s1:(List GNode))=>yS [0,3,4,5,7,8,9,10,11,12,16,17,18,19,20,21,22,23,24,25,26,27,28,29,30,31,32,33,34,35,36,37,38,39,40,41,42,43,44,45,46,47,48,49,50,51,52,53,54,55,56,57,58,59,60,61,62,63,64] [(6,.osl (some (h.toks.length+0)) 3 (s1.map GNode.row)),(15,.int .i64 (n1:Int))]) (fun s1=>h.ext [] [(s1).length]) hF (fun _ _=>by simp only [yS,upd,List.set_cons_succ,List.set_cons_zero];try rfl) (wk.trans (wk_tok yT rfl xY rfl) (wk.le (by exact (.drop (.eq (.eq (.drop (.drop (.drop (.cons (leV.of_eq rfl) (.d4 (.drop (.drop (.eq (.eq (.cons (leV.of_eq rfl) (.d16 (.d16 (.d16 (.drop leL.nil)))))))))))))))))))) ?_
  intro n1 s1 hi1 hF
  refine zk (zd ?_)
  refine zc rfl (zy rfl yW y4 rfl) xf ?_
  refine ze (zj (zk ?_))
  refine yI xd hF (fun x1 o1 hl1 hx1 hF hK1=>?_) (fun hF=>?_)
  ·refine zO (zj (zk (zS (zk (zd ?_)))))
   refine zc rfl (vI rfl qX yL yW qZ (xc hx1) (GNode.row_eq _)) xA ?_
   refine zc rfl (yl rfl ty82.choose_spec.1 xC (zI (cs':=[.str x1.name,.sl 9 (x1.leaves.map GLeaf.row),.sl 3 (x1.subs.map GNode.row)]) ty82.choose_spec.2 rfl rfl) (zb rfl)) xR ?_
   refine zc rfl (y9 (n:=0) rfl ze82 rfl) wl ?_
   refine zc rfl (yx (cs':=[.str x1.name,.sl 9 (x1.leaves.map GLeaf.row),.sl 3 (x1.subs.map GNode.row)]) rfl ty82.choose_spec.1 xu xL (zb rfl) rfl rfl rfl rfl rfl) rfl ?_
   refine ze (zj (zk ?_))
   refine yD [] [] trivial mixed (by kernel_rfl) ?_
   refine zp rfl rfl (zg rfl yw (zb rfl)) wa ?_
   refine zU hF (fun v32 hv32 hF=>?_)
   refine draw_callH rfl FOk.nil (by rfl) rfl (zC rfl rfl rfl (zo wh zw) (.cons (zb rfl) .nil)) (own_ext (T':=[(s1).length,(v32).length]) (ok37 hv32) (m:=1) rfl rfl) wJ ?_
   refine zp rfl rfl (zf rfl fo82x0 xu rfl) wO ?_
   refine zp rfl rfl (zu rfl ty9 wK rfl (zt rfl) (zb rfl)) vk ?_
   refine zp rfl rfl (ye (es:=([x1.name]:List zM).map zP) rfl xl ze9 rfl rfl (zH vm zV) (.cons (zb rfl) .nil) rfl rfl rfl) wN ?_
   refine wt hF (fun hm33 hF=>?_)
   refine draw_okH rfl FOk.nil (by rfl) rfl (e_appT (j:=1) (T':=[(s1).length,((v32++([x1.name]:List zM))).length]) rfl rfl rfl rfl xl xl wL wy (zb rfl) (zb rfl) qB hm33 rfl rfl) vj ?_
   refine zp rfl rfl (zi rfl vl (zb rfl)) vi ?_
   refine ym ?_
   refine zj (zk ?_)
   refine yD [1,3,6] [(1,[(0,.cells [.str x1.name,.sl 9 (x1.leaves.map GLeaf.row),.sl 3 (x1.subs.map GNode.row)])]),(3,[(0,.cells [.str x1.name,.sl 9 (x1.leaves.map GLeaf.row),.sl 3 (x1.subs.map GNode.row)])])] ⟨⟨rfl,trivial⟩,⟨rfl,trivial⟩,trivial⟩ mixed (by kernel_rfl) ?_
   refine zp rfl rfl (zf rfl fo82x0 xu rfl) vC ?_
   refine draw_okN rfl rfl (by rintro _ ⟨B2,T2,rfl,hk2⟩;exact zu rfl ty9 vw (keeps1 hk2) (zt rfl) (zb rfl)) qx ?_
   refine zp rfl rfl (zf rfl fo82x2 xu rfl) qw ?_
   refine draw_okN rfl rfl (by rintro _ ⟨B2,T2,rfl,hk2⟩;exact zu rfl ty23 qj (keeps1 hk2) (zt rfl) (zb rfl)) qU ?_
   refine zp rfl rfl (zg rfl wE (zb rfl)) qv ?_
   refine zp rfl rfl (zg rfl yV (zb rfl)) q9 ?_
   refine zU hF (fun v34 hv34 hF=>?_)
   refine zZ rfl rfl (fun _=>zC rfl rfl rfl (zo qH (zo qi (zo gt30 zw))) (.cons (zb rfl) (.cons (zb rfl) (.cons (zb rfl) .nil)))) (by rintro _ ⟨B2,T2,rfl,hk2⟩;exact (ih (fun x0 v L M hv=>by rw [wI];exact his2 x0 v _ _ hv) hv34).le (.eq (.cons (leV.osl _ _ _) (.eq leL.nil)))) q8 ?_
   refine zp rfl rfl (xS (cs':=[.str x1.name,.osl none 9 (([]:List GLeaf).map GLeaf.row),.sl 3 (v34.map GNode.row)]) rfl su82 ze82 pl82 (zH qI (zH gt31 zV)) (.cons (zb rfl) (.cons (zb rfl) .nil)) rfl rfl) st32 ?_
   refine xX rfl (FOk.cons (.inr (xW ⟨rfl,trivial⟩)) (FOk.cons (.inr (xW ⟨rfl,trivial⟩)) (FOk.cons (.inr (xW trivial)) FOk.nil))) (by kernel_rfl) rfl (y9 (n:=1) rfl ze82 rfl) yN ?_
   refine xX rfl (FOk.cons (.inr (xW ⟨rfl,trivial⟩)) (FOk.cons (.inr (xW ⟨rfl,trivial⟩)) (FOk.cons (.inr (xW trivial)) FOk.nil))) (by kernel_rfl) rfl (yx (cs':=[.str x1.name,.osl none 9 (([]:List GLeaf).map GLeaf.row),.sl 3 (v34.map GNode.row)]) rfl ty82.choose_spec.1 yG gt32 (zb rfl) rfl rfl rfl rfl rfl) rfl ?_
   refine ym ?_
   refine zj (zk (zk (zd ?_)))
   refine zc rfl (zf rfl vF xu rfl) st33 ?_
   refine zc rfl (zu rfl ty80 gt33 rfl (zt rfl) (zb rfl)) st34 ?_
   refine yc rfl (zY rfl rfl rfl rfl el80 gt34 yh) st35 fun hn35=>?_
   replace hn35:=xK hn35
   refine zc rfl (zg rfl rfl (zb rfl)) qT ?_
   refine ze (zj (zS ?_))
   refine yu (fun (n2:Nat) (s2:(List GLeaf))=>yS [0,3,4,5,7,8,11,12,16,17,18,19,20,21,22,23,24,25,26,27,28,29,30,31,32,33,37,38,39,40,41,42,43,44,45,46,47,48,49,50,51,52,53,54,55,56,57,58,59,60,61,62,63,64] [(36,.int .i64 (n2:Int))]) (fun s2=>h.ext [.cells [.str x1.name,.sl 9 (x1.leaves.map GLeaf.row),.sl 3 (x1.subs.map GNode.row)],.cells [.str x1.name,.osl (some (h.toks.length+2)) 9 (s2.map GLeaf.row),.sl 3 (v34.map GNode.row)]] [(s1).length,((v32++([x1.name]:List zM))).length,(s2).length]) hF (fun _ _=>by simp only [yS,upd,List.set_cons_succ,List.set_cons_zero];try rfl) (wk.trans (wk_tokB (j:=1) rfl yw rfl st1 rfl rfl) (wk.le (by exact (.drop (.eq (.eq (.drop (.drop (.drop (.eq (.drop (.drop (.eq (.eq (.drop (.drop (.eq (.eq (.eq (.d16 (.drop (.drop (.eq (.eq (.cons (leV.of_eq rfl) (.d16 (.d4 (.d4 (.d4 leL.nil))))))))))))))))))))))))))))) ?_
   intro n2 s2 hi2 hF
   refine zk (zd ?_)
   refine zc rfl (zy rfl qG gt35 rfl) qS ?_
   refine ze (zj (zk ?_))
   refine yI qF hF (fun x2 o2 hl2 hx2 hF hK2=>?_) (fun hF=>?_)
   ·refine zO (zj (zk (zS (zk (zd ?_)))))
    refine zc rfl (yr rfl el80 gt34 qG qZ (xc hx2)) st38 ?_
    refine zc rfl (yl rfl ty42.choose_spec.1 gt38 (zI (cs':=[.int .u8 x2.typ,.int .i64 x2.n,.int .u64 x2.time,.int .u8 x2.dot.actor.rep,.int .u32 x2.dot.actor.inc,.int .u64 x2.dot.seq,.str x2.text,.sl 5 (x2.items.map GItem.row),.sl 3 (x2.tombs.map GDot.row)]) ty42.choose_spec.2 rfl rfl) (zb rfl)) st39 ?_
    refine zc rfl (y9 (n:=2) rfl ze42 rfl) yQ ?_
    refine zc rfl (yx (cs':=[.int .u8 x2.typ,.int .i64 x2.n,.int .u64 x2.time,.int .u8 x2.dot.actor.rep,.int .u32 x2.dot.actor.inc,.int .u64 x2.dot.seq,.str x2.text,.sl 5 (x2.items.map GItem.row),.sl 3 (x2.tombs.map GDot.row)]) rfl ty42.choose_spec.1 yO gt39 (zb rfl) rfl rfl rfl rfl rfl) rfl ?_
    refine ze (zj (zk (zd ?_)))
    refine zc rfl (zg rfl yV (zb rfl)) (sk st0) ?_
    refine zc rfl (zg rfl wE (zb rfl)) (sk st1) ?_
    refine zU hF (fun v49 hv49 hF=>?_)
    refine zN rfl (s_callC rfl rfl (gk yB) (zo (gk yw) zw) (.cons (zb rfl) .nil) rfl) ((his2 _ _ _ _ hv49).le (leL.app (leL.pre (.cons (leV.osl _ _ _) leL.nil)))) (sk yM) ?_
    refine ze (zj ?_)
    refine zR (gk yV) hF (fun hc50 hF=>?_) (fun hc50 hF=>?_)
    ·refine yD [3] [] trivial mixed (by kernel_rfl) ?_
     refine zp rfl rfl (zf rfl vF yG rfl) (sk wD) ?_
     refine zp rfl rfl (zu rfl ty80 (gk xj) rfl (zt rfl) (zb rfl)) (sk yF) ?_
     refine zp rfl rfl (zu rfl ty42.choose_spec.1 yO rfl (zI (cs':=[.int .u8 x2.typ,.int .i64 x2.n,.int .u64 x2.time,.int .u8 x2.dot.actor.rep,.int .u32 x2.dot.actor.inc,.int .u64 x2.dot.seq,.str x2.text,.sl 5 (x2.items.map GItem.row),.sl 3 (x2.tombs.map GDot.row)]) ty42.choose_spec.2 rfl rfl) (zb rfl)) (sk xG) ?_
     refine zU hF (fun v51 hv51 hF=>?_)
     refine zZ rfl rfl (fun _=>zC rfl rfl rfl (zo (gk yY) zw) (.cons (zb rfl) .nil)) (by rintro _ ⟨B2,T2,rfl,hk2⟩;exact ok38 hv51) (sk xY) ?_
     refine zp rfl rfl (ye (es:=([v51]:List GLeaf).map GLeaf.row) rfl el80 ze42 rfl rfl (zH (gk yT) zV) (.cons (zb rfl) .nil) rfl rfl rfl) (sk wm) ?_
     refine wt hF (fun hm52 hF=>?_)
     refine draw_okH rfl (FOk.cons (.inr (xW trivial)) FOk.nil) (by rfl) rfl (e_appT (j:=2) (T':=[(s1).length,((v32++([x1.name]:List zM))).length,((s2++([v51]:List GLeaf))).length]) rfl rfl rfl rfl el80 el80 (gk yH) (gk xN) (zb rfl) (zb rfl) qB hm52 rfl rfl) (sk wl) ?_
     refine zp rfl rfl (zf rfl vF yG rfl) (sk vi) ?_
     refine xX rfl (FOk.cons (.inr (xW trivial)) FOk.nil) (by kernel_rfl) rfl (yx (cs':=[.str x1.name,.osl (some (h.toks.length+2)) 9 ((s2++([v51]:List GLeaf)).map GLeaf.row),.sl 3 (v34.map GNode.row)]) rfl ty80 (gk wE) (gk xu) (zb rfl) rfl rfl rfl rfl rfl) rfl ?_
     refine ym ?_
     refine yi (zj (zd ?_))
     refine zc rfl (zy rfl qG rfl rfl) (sk yN) ?_
     refine zc rfl (zg rfl (gk yG) (zb rfl)) qT ?_
     refine ze (yK ?_)
     obtain rfl:=Option.some.inj hF
     exact ⟨(s2++([v51]:List GLeaf)),hl2,hK2,wk.trans (wk.le (by exact (.drop (.eq (.eq (.drop (.drop (.drop (.eq (.drop (.drop (.eq (.eq (.drop (.drop (.eq (.eq (.eq (.d16 (.drop (.drop (.eq (.eq (.cons (leV.of_eq (vN (by omega) (by omega))) (.d16 (.d4 (.d4 (.d4 leL.nil)))))))))))))))))))))))))))) (xP (by simp [yf,AV.low,hlais2,hlkis2]) rfl rfl (by simp [Blk.low,yf,AV.low,hlais2,hlkis2]))⟩
    ·refine zO (yi (zj (zd ?_)))
     refine zc rfl (zy rfl qG rfl rfl) (sk yN) ?_
     refine zc rfl (zg rfl (gk yG) (zb rfl)) qT ?_
     refine ze (yK ?_)
     obtain rfl:=Option.some.inj hF
     exact ⟨s2,hl2,hK2,wk.trans (wk.le (by exact (.drop (.eq (.eq (.drop (.drop (.drop (.eq (.drop (.drop (.eq (.eq (.drop (.drop (.eq (.eq (.eq (.d16 (.drop (.drop (.eq (.eq (.cons (leV.of_eq (vN (by omega) (by omega))) (.d16 (.d4 (.d4 (.d4 leL.nil)))))))))))))))))))))))))))) (xP (by simp [yf,AV.low,hlais2,hlkis2]) rfl rfl (by simp [Blk.low,yf,AV.low,hlais2,hlkis2]))⟩
   ·refine yX ?_
    refine z7 ?_
    refine zW ?_
    refine zX ?_
    refine zj (zk (zd ?_))
    refine zc rfl (zf rfl vF yG rfl) (sk yR) ?_
    refine zc rfl (zu rfl ty80 (gk yP) rfl (zt rfl) (zb rfl)) (sk yQ) ?_
    refine yc rfl (zY rfl rfl rfl rfl el80 (gk yO) lenMapO) (sk yU) fun hn53=>?_
    replace hn53:=xK hn53
    refine zc rfl (zf rfl fo82x2 yG rfl) (sk y3) ?_
    refine zc rfl (zu rfl ty23 (gk y4) rfl (zt rfl) (zb rfl)) (sk y2) ?_
    refine yc rfl (zY rfl rfl rfl rfl qX (gk yW) yh) (sk xf) fun hn54=>?_
    replace hn54:=xK hn54
    refine zc rfl (zy rfl (gk yL) (gk xd) rfl) (sk xA) ?_
    refine zc rfl (zy rfl (gk xC) rfl rfl) (sk xR) ?_
    refine ze (zj ?_)
    refine zR (gk xL) hF (fun hc55 hF=>?_) (fun hc55 hF=>?_)
    ·refine zd ?_
     refine zc rfl (zg rfl yT (zb rfl)) (sk wa) ?_
     refine zc rfl (zu rfl ty82.choose_spec.1 yG rfl (zI (cs':=[.str x1.name,.osl (some (h.toks.length+2)) 9 (s2.map GLeaf.row),.sl 3 (v34.map GNode.row)]) ty82.choose_spec.2 rfl rfl) (zb rfl)) (sk wJ) ?_
     refine zc rfl (ye (es:=([(GNode.mk x1.name s2 v34)]:List GNode).map GNode.row) rfl qX ze82 rfl rfl (zH (gk wL) zV) (.cons (zb rfl) .nil) rfl rfl (by simp only [List.map_cons,List.map_nil,GNode.row_eq];rfl)) (sk wO) ?_
     refine wt hF (fun hm56 hF=>?_)
     refine zc rfl (e_appT (j:=0) (T':=[((s1++([(GNode.mk x1.name s2 v34)]:List GNode))).length,((v32++([x1.name]:List zM))).length,(s2).length]) rfl rfl rfl rfl qX qX (gk wh) (gk wK) (zb rfl) (zb rfl) qB hm56 rfl rfl) (sk vk) ?_
     refine zc rfl (zi rfl (gk vm) (zb rfl)) xY ?_
     refine ze (yi (zj (zd ?_)))
     refine zc rfl (zy rfl yW rfl rfl) (sk wN) ?_
     refine zc rfl (zg rfl (gk wy) (zb rfl)) y2 ?_
     refine ze (yK ?_)
     obtain rfl:=Option.some.inj hF
     exact ⟨(s1++([(GNode.mk x1.name s2 v34)]:List GNode)),hl1,hK1,wk.trans (wk.le (by exact (.drop (.eq (.eq (.drop (.drop (.drop (.cons (leV.of_eq rfl) (.d4 (.drop (.drop (.eq (.eq (.cons (leV.of_eq (vN (by omega) (by omega))) (.d16 (.d16 (.d16 (.drop leL.nil))))))))))))))))))) (xP (by simp [yf,AV.low,hlais2,hlkis2]) rfl rfl (by simp [Blk.low,yf,AV.low,hlais2,hlkis2]))⟩
    ·refine zO (yi (zj (zd ?_)))
     refine zc rfl (zy rfl yW rfl rfl) (sk wN) ?_
     refine zc rfl (zg rfl (gk wy) (zb rfl)) y2 ?_
     refine ze (yK ?_)
     obtain rfl:=Option.some.inj hF
     exact ⟨s1,hl1,hK1,wk.trans (wk.le (by exact (.drop (.eq (.eq (.drop (.drop (.drop (.cons (leV.of_eq rfl) (.d4 (.drop (.drop (.eq (.eq (.cons (leV.of_eq (vN (by omega) (by omega))) (.d16 (.d16 (.d16 (.drop leL.nil))))))))))))))))))) (xP (by simp [yf,AV.low,hlais2,hlkis2]) rfl rfl (by simp [Blk.low,yf,AV.low,hlais2,hlkis2]))⟩
  ·refine yX ?_
   refine z7 ?_
   refine zW ?_
   refine zX ?_
   refine zj (zk (zd ?_))
   refine zc rfl (zg rfl yT (zb rfl)) (sk vj) ?_
   refine zc rfl (zi rfl (gk vl) (zb rfl)) xY ?_
   refine ze (zj (zJ ?_))
   obtain rfl:=Option.some.inj hF
   refine zz rfl (zF yT zD) (zA (leV.osl _ _ _) rfl ?_)
   exact ⟨rfl,rfl⟩
theorem ok21 {t0:(List GNode)} {ahead1:(List zM)} {is2:((List zM)→Option Bool)} {fis2:FuncId} {ais2 kis2:List AV} {res:(List GNode)} {h:AH} (his2:∀ x0 v (L:List Blk) (M:List Nat),is2 x0=some v→Spec Tryz.prog fis2 (ais2++[.sl 1 (x0.map zP)]++kis2) (h.ext L M) (fun rr hh=>rr=.bool v∧hh=h.ext L M)) (hF:pathsXkept t0 ahead1 is2=some res):Spec Tryz.prog 21 [.sl 3 (t0.map GNode.row),.sl 1 (ahead1.map zP),.fn (.func fis2) ais2 kis2] h (fun rr hh=>rr=.sl 3 (res.map GNode.row)∧hh=h):=by
 obtain ⟨n,hn⟩:=anyN_is hF
 exact ok21N n his2 hn
theorem ok10 {p0:(List zM)} {path1:(List zM)} {res:Bool} {h:AH}  (hF:vE p0 path1=some res):Spec Tryz.prog 10 [.sl 1 (p0.map zP),.sl 1 (path1.map zP)] h (fun rr hh=>rr=.bool res∧hh=h):=by
 unfold vE at hF
 refine zr Tryz.func10 rfl (by kernel_rfl) (env:=[.sl 1 (p0.map zP),.sl 1 (path1.map zP),za,za,za,za,za,za,za,za,za,za,za,za,za,za,za,za,za,za,za,za,za,za,za,za,za,za,za,za,za,za,za,za,za,za,za,za,za,za,za,za,za,za,za,za,za,za,za,za,za,za,za,za,za,za,za,za]) (by rfl) ?_
 refine zk (zd ?_)
 refine zc rfl (zi rfl rfl (zb rfl)) yF ?_
 refine ze (zj (zk (zd ?_)))
 refine zc rfl (zg rfl yB (zb rfl)) yN ?_
 refine zU hF (fun v1 hv1 hF=>?_)
 refine zN rfl (zC rfl rfl rfl (zo yG zw) (.cons (zb rfl) .nil)) (ok15 hv1) yR ?_
 refine zc rfl (zg rfl yP (zb rfl)) vi ?_
 refine zc rfl (wb rfl wE rfl (zb rfl)) yQ ?_
 refine zc rfl (wb rfl wE rfl (zb rfl)) yU ?_
 refine zc rfl (zi rfl yO (zb rfl)) xG ?_
 refine zc rfl (zi rfl yL (zb rfl)) xY ?_
 refine ze (zj (zk (zk (zd ?_))))
 refine zc rfl (zg rfl yB (zb rfl)) y3 ?_
 refine zU hF (fun v2 hv2 hF=>?_)
 refine zN rfl (zC rfl rfl rfl (zo y4 zw) (.cons (zb rfl) .nil)) (ok6 hv2) y2 ?_
 refine zc rfl (wo rfl yW rfl) xf ?_
 refine zc rfl (zg rfl xd (zb rfl)) xA ?_
 refine zq rfl (fun hb=>zg rfl yw (zb rfl)) xR ?_
 refine yZ hF (fun v3 hv3 hF=>?_)
 refine yA rfl (fun hb=>zC rfl rfl rfl (zo (zn xL hb) zw) (.cons (zb rfl) .nil)) (fun hb=>ok25 (hv3 hb)) wa ?_
 refine zq rfl (fun hb=>wo rfl (zn wh hb) rfl) wJ ?_
 refine zc rfl (zL rfl xC rfl wL (yb (fun ht=>gF ht))) wO ?_
 refine zc rfl (zg rfl wK (zb rfl)) vk ?_
 refine zq rfl (fun hb=>zg rfl yw (zb rfl)) wN ?_
 refine wd rfl (fun hb=>zY rfl rfl rfl rfl xl (zn wy hb) yh) vj fun hn4=>?_
 refine zq rfl (fun hb=>zg rfl yY (zb rfl)) vC ?_
 refine wd rfl (fun hb=>zY rfl rfl rfl rfl xl (zn vw hb) yh) qx fun hn5=>?_
 refine zq rfl (fun hb=>zy rfl (zn vl hb) (zn qI hb) rfl) qw ?_
 refine zc rfl (zL rfl vm rfl qj (yb (fun ht=>gF ht))) qU ?_
 refine zc rfl (zg rfl qH (zb rfl)) qv ?_
 refine zq rfl (fun hb=>zg rfl yw (zb rfl)) q9 ?_
 refine wd rfl (fun hb=>zY rfl rfl rfl rfl xl (zn gt30 hb) yh) q8 fun hn6=>?_
 refine zq rfl (fun hb=>zg rfl yY (zb rfl)) st32 ?_
 refine wd rfl (fun hb=>zY rfl rfl rfl rfl xl (zn gt32 hb) yh) st33 fun hn7=>?_
 refine zq rfl (fun hb=>zy rfl (zn gt31 hb) (zn gt33 hb) rfl) st34 ?_
 refine zq rfl (fun hb=>zg rfl (zn gt34 hb) (zb rfl)) st35 ?_
 refine zq (zQ rfl rfl rfl) (fun hb=>zg rfl yT (zb rfl)) qT ?_
 refine zq (zQ rfl rfl rfl) (fun hb=>wo rfl (zn qG hb) rfl) qS ?_
 refine zq rfl (fun hb=>zL rfl (zn gt35 hb) qF rfl (zT (fun ht=>gT2 hb ht))) st38 ?_
 refine zc rfl (zL rfl qi rfl gt38 (yb (fun ht=>gF ht))) st39 ?_
 refine ze (zj ?_)
 refine zR gt39 hF (fun hc8 hF=>?_) (fun hc8 hF=>?_)
 ·refine zk (zd ?_)
  refine zc rfl (zi rfl rfl (zb rfl)) yF ?_
  refine ze (zj (zJ (zB ?_)))
  obtain rfl:=Option.some.inj hF
  refine zz rfl (zF yH zD) (zA (leV.refl _) rfl ?_)
  exact ⟨rfl,rfl⟩
 ·refine zO (zj (zk (zk (zd ?_))))
  refine zc rfl (zg rfl yY (zb rfl)) (sk st0) ?_
  refine yc rfl (zY rfl rfl rfl rfl xl (gk yB) yh) (sk st1) fun hn9=>?_
  replace hn9:=xK hn9
  refine zc rfl (zg rfl rfl (zb rfl)) (sk yM) ?_
  refine ze (zj (zS ?_))
  refine yu (fun (n1:Nat) (s1:Unit)=>yS [0,2,3,4,5,6,7,8,9,10,11,12,13,14,15,16,17,18,19,20,21,22,23,24,25,26,27,28,29,30,31,32,33,34,35,36,37,38,39,43,44,45,46,47,48,49,50,51,52,53,54,55,56,57] [(42,.int .i64 (n1:Int))]) (fun s1=>h.ext [] []) hF (fun _ _=>by simp only [yS,upd,List.set_cons_succ,List.set_cons_zero];try rfl) (wk.le (by exact (.drop (.eq (.d16 (.d16 (.d4 (.drop (.drop (.eq (.eq (.cons (leV.of_eq rfl) (.d4 (.d4 (.d4 (.drop (.drop (.drop leL.nil)))))))))))))))))) ?_
  intro n1 s1 hi1 hF
  refine zk (zd ?_)
  refine zc rfl (zy rfl (gk yV) (gk yw) rfl) (sk wD) ?_
  refine ze (zj (zk ?_))
  refine yI (gk xj) hF (fun x1 o1 hl1 hx1 hF hK1=>?_) (fun hF=>?_)
  ·refine zO (zj (zk (zS (zk (zd ?_)))))
   refine zc rfl (zg rfl (gk yV) (zb rfl)) (sk yF) ?_
   refine zc rfl (yr rfl xl (gk yB) (gk yV) qZ (xc hx1)) (sk xG) ?_
   refine zc rfl (yl rfl ty9 (gk yY) (zt rfl) (zb rfl)) (sk xY) ?_
   refine zc rfl (zi rfl (gk yH) (zb rfl)) wm ?_
   refine zc rfl (zi rfl (gk yT) (zb rfl)) wl ?_
   refine ze (zj (zk (zd ?_)))
   refine zc rfl (zg rfl xu (zb rfl)) (sk wm) ?_
   refine zc rfl (zy rfl (gk xN) rfl rfl) (sk wl) ?_
   refine zc rfl (zg rfl (gk xu) (zb rfl)) (sk vi) ?_
   refine zq rfl (fun hb=>zg rfl xu (zb rfl)) (sk yN) ?_
   refine zq rfl (fun hb=>zg rfl yw (zb rfl)) (sk yR) ?_
   refine zq rfl (fun hb=>zg rfl xN (zb rfl)) (sk yQ) ?_
   refine wt hF (fun hg15 hF=>?_)
   refine zq rfl (fun hb=>xB default rfl xl (zn (gk yP) hb) (zn (gk yO) hb) qZ (hg15 hb)) (sk yU) ?_
   refine zq rfl (fun hb=>yl rfl ty9 (zn (gk yL) hb) (zt rfl) (zb rfl)) (sk y3) ?_
   refine zq rfl (fun hb=>zy rfl (zn (gk yG) hb) (zn (gk y4) hb) rfl) (sk y2) ?_
   refine zc rfl (zL rfl (gk wE) (gk yW) rfl (zT (fun ht=>gT ht))) (sk xf) ?_
   refine ze (zj ?_)
   refine zR (gk xd) hF (fun hc16 hF=>?_) (fun hc16 hF=>?_)
   ·refine zk (zd ?_)
    refine zc rfl (zi rfl rfl (zb rfl)) yF ?_
    refine ze (zj (zJ ?_))
    refine zG ?_
    refine zB ?_
    refine yj ?_
    obtain rfl:=Option.some.inj hF
    replace hF:=hK1
    refine zG ?_
    refine zB ?_
    obtain rfl:=Option.some.inj hF
    refine zz rfl (zF yH zD) (zA (leV.refl _) rfl ?_)
    exact ⟨rfl,rfl⟩
   ·refine zO (yi (zj (zd ?_)))
    refine zc rfl (zy rfl (gk yV) rfl rfl) (sk xA) ?_
    refine zc rfl (zg rfl (gk xC) (zb rfl)) (sk yM) ?_
    refine ze (yK ?_)
    obtain rfl:=Option.some.inj hF
    exact ⟨(),hl1,hK1,wk.le (by exact (.drop (.eq (.d16 (.d16 (.d4 (.drop (.drop (.eq (.eq (.cons (leV.of_eq (vN (by omega) (by omega))) (.d4 (.d4 (.d4 (.drop (.drop (.drop leL.nil)))))))))))))))))⟩
  ·refine yX ?_
   refine z7 ?_
   refine zW ?_
   refine zX ?_
   refine zj (zk (zd ?_))
   refine zc rfl (zi rfl rfl (zb rfl)) yF ?_
   refine ze (zj (zJ ?_))
   obtain rfl:=Option.some.inj hF
   refine zz rfl (zF yH zD) (zA (leV.refl _) rfl ?_)
   exact ⟨rfl,rfl⟩
theorem ok22 {path0:(List zM)} {c0:(List zM)} {i0:Nat} {res:Bool} {h:AH} (hb0:h.blk i0=some (.cells [.sl 1 (c0.map zP)])) (hF:qu path0 c0=some res):Spec Tryz.prog 22 [.sl 1 (path0.map zP),.ptr i0 0] h (fun rr hh=>rr=.bool res∧hh=h):=by
 unfold qu at hF
 refine zr Tryz.func22 rfl (by kernel_rfl) (env:=[.sl 1 (path0.map zP),.ptr i0 0,za,za,za,za,za]) (by rfl) ?_
 refine zk (zd ?_)
 refine zc rfl (zi rfl rfl (zb rfl)) wD ?_
 refine ze (zj (zk (zd ?_)))
 refine zc rfl (b_load rfl ty24 yw hb0 (zt rfl) (zb rfl)) yF ?_
 refine zc rfl (zg rfl yB (zb rfl)) xG ?_
 refine zU hF (fun v1 hv1 hF=>?_)
 refine zN rfl (zC rfl rfl rfl (zo yH (zo yY zw)) (.cons (zb rfl) (.cons (zb rfl) .nil))) (ok10 hv1) xY ?_
 refine zc rfl (zi rfl yT (zb rfl)) wD ?_
 refine ze (zj (zJ ?_))
 obtain rfl:=Option.some.inj hF
 refine zz rfl (zF xj zD) (zA (leV.refl _) rfl ?_)
 exact ⟨rfl,rfl⟩
theorem ok8 {t0:(List GNode)} {p1:(List zM)} {res:((List GNode)×Int)} {h:AH}  (hF:qA t0 p1=some res):Spec Tryz.prog 8 [.sl 3 (t0.map GNode.row),.sl 1 (p1.map zP)] h (fun rr hh=>rr=.tup [.sl 3 (res.1.map GNode.row),.int .i64 res.2]∧hh=h):=by
 unfold qA at hF
 refine zr Tryz.func8 rfl (by kernel_rfl) (env:=[.sl 3 (t0.map GNode.row),.sl 1 (p1.map zP),za,za,za,za,za,za,za,za,za,za,za,za,za,za,za]) (by rfl) ?_
 refine zk (zd ?_)
 refine zc rfl (xb (n:=0) rfl yw (zb rfl) rfl rfl) wD ?_
 refine zc rfl (zi rfl rfl (xZ qX)) yF ?_
 refine zc rfl (zi rfl rfl (zb rfl)) xG ?_
 refine ze (zj (zk (zk (zd ?_))))
 refine zc rfl (zg rfl yB (zb rfl)) xY ?_
 refine zU hF (fun v1 hv1 hF=>?_)
 refine zN rfl (zC rfl rfl rfl (zo yT zw) (.cons (zb rfl) .nil)) (ok20 hv1) wm ?_
 refine zc rfl (wo rfl xN rfl) wl ?_
 refine zc rfl (zg rfl xu (zb rfl)) vi ?_
 refine zq rfl (fun hb=>zu rfl ty24 xj rfl (zt rfl) (zb rfl)) yN ?_
 refine yZ hF (fun v2 hv2 hF=>?_)
 refine yA rfl (fun hb=>zC rfl rfl rfl (zo (zn yG hb) zw) (.cons (zb rfl) .nil)) (fun hb=>ok6 (hv2 hb)) yR ?_
 refine zq rfl (fun hb=>wo rfl (zn yP hb) rfl) yQ ?_
 refine zc rfl (zL rfl wE rfl yO (yb (fun ht=>gF ht))) yU ?_
 refine ze (zj ?_)
 refine zR yL hF (fun hc3 hF=>?_) (fun hc3 hF=>?_)
 ·refine zk (zd ?_)
  refine zc rfl (zi rfl rfl (xZ qX)) yF ?_
  refine zc rfl (zi rfl rfl (zb rfl)) xG ?_
  refine ze (zj (zJ (zB ?_)))
  obtain rfl:=Option.some.inj hF
  refine q_retL rfl (zF yH (zF yY zD)) (zA (leV.tup (.cons (leV.osl _ _ _) (.eq leL.nil))) rfl ?_)
  exact ⟨rfl,rfl⟩
 ·refine zO (zj (zk (zd ?_)))
  refine zc rfl (zg rfl yB (zb rfl)) y3 ?_
  refine zc rfl (s_makeFunc rfl rfl rfl) y2 ?_
  refine zU hF (fun v4 hv4 hF=>?_)
  refine zN rfl (zC rfl rfl rfl (zo y4 (zo rfl (zo yW zw))) (.cons (zb rfl) (.cons (xZ xl) (.cons (zb rfl) .nil)))) ((ok21 (fun _ v L M hv=>ok22 (blk_ext2 (j:=0) rfl) hv) hv4).le (.eq (.cons (leV.osl _ _ _) (.eq leL.nil)))) xf ?_
  refine zc rfl (zi rfl xd (zb rfl)) yF ?_
  refine zc rfl (zi rfl rfl (zb rfl)) xG ?_
  refine ze (zj (zJ ?_))
  obtain rfl:=Option.some.inj hF
  refine q_retL rfl (zF yH (zF yY zD)) (zA (leV.refl _) rfl ?_)
  exact ⟨rfl,rfl⟩
theorem ok24 {t0:(List GNode)} {ahead1:(List zM)} {res:((List GNode)×(List zM))} {h:AH}  (hF:qd t0 ahead1=some res):Spec Tryz.prog 24 [.sl 3 (t0.map GNode.row),.sl 1 (ahead1.map zP)] h (CloK h 40 [.cells [.sl 3 (res.1.map GNode.row)],.cells [.sl 1 (res.2.map zP)]]):=by
 unfold qd at hF
 refine zr Tryz.func24 rfl (by kernel_rfl) (env:=[.sl 3 (t0.map GNode.row),.sl 1 (ahead1.map zP),za,za,za,za]) (by rfl) ?_
 refine zk (zd ?_)
 refine zc rfl (xb (n:=0) rfl yB (zb rfl) rfl rfl) yM ?_
 refine zc rfl (xb (n:=1) rfl yw (zb rfl) rfl rfl) wD ?_
 refine zc rfl (zi rfl rfl (zb rfl)) yF ?_
 refine ze (zj (zk (zd ?_)))
 refine zc rfl (s_makeFunc rfl rfl rfl) xG ?_
 refine zc rfl (zi rfl yY (zb rfl)) yF ?_
 refine ze (zj (zJ ?_))
 obtain rfl:=Option.some.inj hF
 refine zz rfl (zF yH zD) (fin_clo (bs:=[.cells [.sl 3 (t0.map GNode.row)],.cells [.sl 1 (ahead1.map zP)]]) (by simp [AV.low,yf]) rfl (by simp [Blk.low,yf,AV.low]) ?_)
 exact ⟨rfl,rfl⟩
theorem ok40N (n:Nat):∀ {S:Type} {Hy:S→AH} {nb nt:Nat} {yield0:S→GRow→Option (Bool×S)} {idy:Nat} {c0:(List GNode)} {i0:Nat} {c1:(List zM)} {i1:Nat} {s0:S} {res:S} (hN:∀ s,(Hy s).blks.length=nb) (hNt:∀ s,(Hy s).toks.length=nt) (hC:∀ s,(Hy s).closed nb nt) (hly:idy < nb) (hy:∀ s x b s' L M,yield0 s x=some (b,s')→SpecY Tryz.prog idy [.agg [.sl 1 (x.path.map zP),.int .u8 x.leaf.typ,.int .i64 x.leaf.n,.int .u64 x.leaf.time,.int .u8 x.leaf.dot.actor.rep,.int .u32 x.leaf.dot.actor.inc,.int .u64 x.leaf.dot.seq,.str x.leaf.text,.sl 5 (x.leaf.items.map GItem.row),.sl 3 (x.leaf.tombs.map GDot.row)]] ((Hy s).ext L M) (fun rr hh=>rr=.bool b∧hh=(Hy s').ext L M)) (hb0:∀ s,(Hy s).blk i0=some (.cells [.sl 3 (c0.map GNode.row)])) (hb1:∀ s,(Hy s).blk i1=some (.cells [.sl 1 (c1.map zP)])),x4 n S yield0 c0 c1 s0=some res→Spec Tryz.prog 40 [.yld idy,.ptr i0 0,.ptr i1 0] (Hy s0) (fun rr hh=>rr=.tup []∧hh=Hy res):=by
 induction n with
 | zero=>intro S Hy nb nt yield0 idy c0 i0 c1 i1 s0 res hN hNt hC hly hy hb0 hb1 hF;simp [x4] at hF
 | succ n ih =>
  intro S Hy nb nt yield0 idy c0 i0 c1 i1 s0 res hN hNt hC hly hy hb0 hb1 hF
  unfold x4 at hF
  refine zr Tryz.func40 rfl (by kernel_rfl) (env:=[.yld idy,.ptr i0 0,.ptr i1 0,za,za,za,za,za,za,za,za,za,za,za,za,za,za,za,za,za,za,za,za,za,za,za,za,za,za,za,za,za,za,za,za,za,za,za,za,za,za,za,za,za,za,za,za,za]) (by rfl) ?_
  have hly2:∀ k,idy < nb+k:=fun k=>Nat.lt_of_lt_of_le hly (Nat.le_add_right _ _)
  have hli0:=blk_lt (hb0 s0) (hN s0)
  have hli0b:∀ k,i0 < nb+k:=fun k=>Nat.lt_of_lt_of_le hli0 (Nat.le_add_right _ _)
  have hli1:=blk_lt (hb1 s0) (hN s0)
  have hli1b:∀ k,i1 < nb+k:=fun k=>Nat.lt_of_lt_of_le hli1 (Nat.le_add_right _ _)
  refine zk (zd ?_)
  refine zc rfl (n_box (hN _) (n:=0) rfl yB (zb rfl) rfl rfl) wD ?_
  refine ze (zj (zk (zd ?_)))
  refine zc rfl (b_load rfl ty23 yw (hb0 _) (zt rfl) (zb rfl)) yN ?_
  refine yc rfl (zY rfl rfl rfl rfl qX yG yh) yR fun hn1=>?_
  replace hn1:=xK hn1
  refine zc rfl (zg rfl rfl (zb rfl)) yQ ?_
  refine ze (zj (zS ?_))
  refine yu (fun (n1:Nat) (s1:S)=>yS [0,1,4,5,6,7,8,9,13,14,15,16,17,18,19,20,21,22,23,24,25,26,27,28,29,30,31,32,33,34,35,36,37,38,39,40,41,42,43,44,45,46,47] [(12,.int .i64 (n1:Int))]) (fun s1=>(Hy s1).ext [.cells [.yld idy]] []) hF (fun _ _=>by simp only [yS,upd,List.set_cons_succ,List.set_cons_zero];try rfl) (wk.le (by exact (.drop (.drop (.eq (.eq (.d4 (.drop (.drop (.eq (.eq (.cons (leV.of_eq rfl) (.d16 (.d16 (.drop (.drop (.drop leL.nil))))))))))))))))) ?_
  intro n1 s1 hi1 hF
  refine zk (zd ?_)
  refine zc rfl (zy rfl yO yP rfl) yU ?_
  refine ze (zj (zk ?_))
  refine yI yL hF (fun x1 o1 hl1 hx1 hF hK1=>?_) (fun hF=>?_)
  ·refine zO (zj (zk (zS (zk (zd ?_)))))
   refine zc rfl (vI rfl qX yG yO qZ (xc hx1) (GNode.row_eq _)) y3 ?_
   refine zc rfl (yl rfl ty82.choose_spec.1 y4 (zI (cs':=[.str x1.name,.sl 9 (x1.leaves.map GLeaf.row),.sl 3 (x1.subs.map GNode.row)]) ty82.choose_spec.2 rfl rfl) (zb rfl)) y2 ?_
   refine zc rfl (n_alloc (hN _) (n:=1) rfl ze82 rfl) xG ?_
   refine zc rfl (n_store (hN _) (cs':=[.str x1.name,.sl 9 (x1.leaves.map GLeaf.row),.sl 3 (x1.subs.map GNode.row)]) rfl ty82.choose_spec.1 yY yW (zb rfl) rfl rfl rfl rfl rfl) rfl ?_
   refine ze (zj (zk ?_))
   refine yD [] [] trivial mixed (by kernel_rfl) ?_
   refine zp rfl rfl (b_load rfl ty24 yV (hb1 _) (zt rfl) (zb rfl)) xf ?_
   refine zU hF (fun v37 hv37 hF=>?_)
   refine draw_callH rfl FOk.nil (by rfl) rfl (zC rfl rfl rfl (zo xd zw) (.cons (zb rfl) .nil)) (n_own (hNt _) (T':=[(v37).length]) (ok37 hv37) (m:=0) rfl rfl) xA ?_
   refine zp rfl rfl (zf rfl fo82x0 yY rfl) xR ?_
   refine zp rfl rfl (n_load (hN _) rfl ty9 xL rfl (zt rfl) (zb rfl)) wa ?_
   refine zp rfl rfl (ye (es:=([x1.name]:List zM).map zP) rfl xl ze9 rfl rfl (zH wh zV) (.cons (zb rfl) .nil) rfl rfl rfl) wJ ?_
   refine wt hF (fun hm38 hF=>?_)
   refine draw_okH rfl FOk.nil (by rfl) rfl (n_appT (hNt _) (j:=0) (T':=[((v37++([x1.name]:List zM))).length]) rfl rfl rfl rfl xl xl xC wL (zb rfl) (zb rfl) qB hm38 rfl rfl) wO ?_
   refine zp rfl rfl (zi rfl wK (zb rfl)) xY ?_
   refine ym ?_
   refine zj (zk (zk (zd ?_)))
   refine zc rfl (zf rfl vF yY rfl) vk ?_
   refine zc rfl (n_load (hN _) rfl ty80 vm rfl (zt rfl) (zb rfl)) wN ?_
   refine yc rfl (zY rfl rfl rfl rfl el80 wy yh) vj fun hn39=>?_
   replace hn39:=xK hn39
   refine zc rfl (zg rfl rfl (zb rfl)) vC ?_
   refine ze (zj (zS ?_))
   refine yu (fun (n2:Nat) (s2:S)=>yS [0,1,4,7,8,9,13,14,15,16,17,18,19,20,21,22,26,27,28,29,30,31,32,33,34,35,36,37,38,39,40,41,42,43,44,45,46,47] [(25,.int .i64 (n2:Int))]) (fun s2=>(Hy s2).ext [.cells [.yld idy],.cells [.str x1.name,.sl 9 (x1.leaves.map GLeaf.row),.sl 3 (x1.subs.map GNode.row)]] [((v37++([x1.name]:List zM))).length]) hF (fun _ _=>by simp only [yS,upd,List.set_cons_succ,List.set_cons_zero];try rfl) (wk.le (by exact (.drop (.drop (.eq (.eq (.drop (.eq (.eq (.drop (.drop (.drop (.eq (.eq (.eq (.d4 (.d4 (.drop (.drop (.eq (.eq (.cons (leV.of_eq rfl) (.d16 (.d4 (.drop (.drop leL.nil)))))))))))))))))))))))))) ?_
   intro n2 s2 hi2 hF
   refine zk (zd ?_)
   refine zc rfl (zy rfl vw vl rfl) qx ?_
   refine ze (zj (zk ?_))
   refine yI qI hF (fun x2 o2 hl2 hx2 hF hK2=>?_) (fun hF=>?_)
   ·refine zO (zj (zk (zS (zk (zd ?_)))))
    refine zc rfl (yr rfl el80 wy vw qZ (xc hx2)) qw ?_
    refine zc rfl (yl rfl ty42.choose_spec.1 qj (zI (cs':=[.int .u8 x2.typ,.int .i64 x2.n,.int .u64 x2.time,.int .u8 x2.dot.actor.rep,.int .u32 x2.dot.actor.inc,.int .u64 x2.dot.seq,.str x2.text,.sl 5 (x2.items.map GItem.row),.sl 3 (x2.tombs.map GDot.row)]) ty42.choose_spec.2 rfl rfl) (zb rfl)) qU ?_
    refine zc rfl (n_alloc (hN _) (n:=2) rfl ze42 rfl) wl ?_
    refine zc rfl (n_store (hN _) (cs':=[.int .u8 x2.typ,.int .i64 x2.n,.int .u64 x2.time,.int .u8 x2.dot.actor.rep,.int .u32 x2.dot.actor.inc,.int .u64 x2.dot.seq,.str x2.text,.sl 5 (x2.items.map GItem.row),.sl 3 (x2.tombs.map GDot.row)]) rfl ty42.choose_spec.1 xu qH (zb rfl) rfl rfl rfl rfl rfl) rfl ?_
    refine ze (zj (zk ?_))
    refine yD [4] [] trivial mixed (by kernel_rfl) ?_
    refine zp rfl rfl (n_load (hN _) rfl ty89 xj rfl (zt rfl) (zb rfl)) qv ?_
    refine zp rfl rfl (zg rfl yT (zb rfl)) q9 ?_
    refine zU hF (fun v51 hv51 hF=>?_)
    refine draw_callH rfl (FOk.cons (.inr (xW trivial)) FOk.nil) (by rfl) rfl (zC rfl rfl rfl (zo gt30 zw) (.cons (zb rfl) .nil)) (n_own (hNt _) (T':=[((v37++([x1.name]:List zM))).length,(v51).length]) ((ok37 hv51).le (.cons (leV.osl _ _ _) leL.nil)) (m:=1) rfl rfl) q8 ?_
    refine zp rfl rfl (n_load (hN _) rfl ty42.choose_spec.1 xu rfl (zI (cs':=[.int .u8 x2.typ,.int .i64 x2.n,.int .u64 x2.time,.int .u8 x2.dot.actor.rep,.int .u32 x2.dot.actor.inc,.int .u64 x2.dot.seq,.str x2.text,.sl 5 (x2.items.map GItem.row),.sl 3 (x2.tombs.map GDot.row)]) ty42.choose_spec.2 rfl rfl) (zb rfl)) st32 ?_
    refine zU hF (fun v52 hv52 hF=>?_)
    refine zZ rfl rfl (fun _=>zC rfl rfl rfl (zo gt32 zw) (.cons (zb rfl) .nil)) (by rintro _ ⟨B2,T2,rfl,hk2⟩;exact ok38 hv52) st33 ?_
    refine zp rfl rfl (xS (cs':=[.osl (some (nt+1)) 1 (v51.map zP),.int .u8 v52.typ,.int .i64 v52.n,.int .u64 v52.time,.int .u8 v52.dot.actor.rep,.int .u32 v52.dot.actor.inc,.int .u64 v52.dot.seq,.str v52.text,.sl 5 (v52.items.map GItem.row),.sl 3 (v52.tombs.map GDot.row)]) rfl su44 ze44 pl44 (zH gt31 (zH gt33 zV)) (.cons (zb rfl) (.cons (zb rfl) .nil)) rfl rfl) st34 ?_
    refine zU hF (fun v53 hv53 hF=>?_)
    refine draw_round rfl (FOk.cons (.inl (by kernel_rfl)) FOk.nil) (by kernel_rfl) rfl (s_yield rfl rfl qi (zo gt34 zw) (.cons (zb rfl) .nil)) ((hy _ _ _ _ _ _ hv53).le (.cons (leV.agg (.cons (leV.osl _ _ _) (.eq (.eq (.eq (.eq (.eq (.eq (.eq (.eq (.eq leL.nil)))))))))) rfl) leL.nil)) st35 ?_
    refine zp rfl rfl (wo rfl gt35 rfl) qT ?_
    refine ym ?_
    refine zj ?_
    refine zR qG hF (fun hc54 hF=>?_) (fun hc54 hF=>?_)
    ·refine zJ ?_
     refine zG ?_
     refine zB ?_
     refine yj ?_
     obtain rfl:=Option.some.inj hF
     replace hF:=hK2
     refine zG ?_
     refine zB ?_
     refine zG ?_
     refine zB ?_
     refine yj ?_
     obtain rfl:=Option.some.inj hF
     replace hF:=hK1
     refine zG ?_
     obtain rfl:=Option.some.inj hF
     refine q_retL0 rfl zD (fin_exts (hN _) (hNt _) (hN _) (hNt _) (hC _) (leV.refl _) rfl ?_)
     exact ⟨rfl,rfl⟩
    ·refine zO (yi (zj (zd ?_)))
     refine zc rfl (zy rfl vw rfl rfl) qS ?_
     refine zc rfl (zg rfl qF (zb rfl)) vC ?_
     refine ze (yK ?_)
     obtain rfl:=Option.some.inj hF
     exact ⟨v53.2,hl2,hK2,wk.trans (wk.le (by exact (.drop (.drop (.eq (.eq (.drop (.eq (.eq (.drop (.drop (.drop (.eq (.eq (.eq (.d4 (.d4 (.drop (.drop (.eq (.eq (.cons (leV.of_eq (vN (by omega) (by omega))) (.d16 (.d4 (.drop (.drop leL.nil)))))))))))))))))))))))))) (wk_ext3s (hN _) (hNt _) (hN _) (hNt _) (hC _) (by simp [yf,AV.low,hly,hly2,hli0,hli0b,hli1,hli1b]) rfl rfl (by simp [Blk.low,yf,AV.low,hly,hly2,hli0,hli0b,hli1,hli1b]))⟩
   ·refine yX ?_
    refine z7 ?_
    refine zW ?_
    refine zX ?_
    refine zj (zk (zd ?_))
    refine zc rfl (zf rfl fo82x2 yY rfl) st38 ?_
    refine zc rfl (n_load (hN _) rfl ty23 gt38 rfl (zt rfl) (zb rfl)) st39 ?_
    refine zc rfl (zg rfl yT (zb rfl)) (sk st0) ?_
    refine zU hF (fun v55 hv55 hF=>?_)
    refine ops_callH rfl (zC rfl rfl rfl (zo gt39 (zo (gk yB) zw)) (.cons (zb rfl) (.cons (zb rfl) .nil))) (clo_ext (hN _) (n:=2) (B':=[.cells [.yld idy],.cells [.str x1.name,.sl 9 (x1.leaves.map GLeaf.row),.sl 3 (x1.subs.map GNode.row)],.cells [.sl 3 (v55.1.map GNode.row)],.cells [.sl 1 (v55.2.map zP)]]) (caps:=[.ptr (nb+2) 0,.ptr (nb+3) 0]) ((ok24 hv55).le (.eq (.cons (leV.osl _ _ _) leL.nil))) rfl rfl rfl) (sk st1) ?_
    refine ze (zj (zS ?_))
    refine r_range (fun (s3:S)=>(Hy s3)) (fun (s3:S)=>[.cells [.yld idy],.cells [.str x1.name,.sl 9 (x1.leaves.map GLeaf.row),.sl 3 (x1.subs.map GNode.row)],.cells [.sl 3 (v55.1.map GNode.row)],.cells [.sl 1 (v55.2.map zP)]]) (fun (s3:S)=>[((v37++([x1.name]:List zM))).length]) s2 hF (wk.le (by exact (.drop (.drop (.eq (.eq (.d4 (.drop (.drop (.eq (.eq (.eq (.d16 (.d4 (.d4 (.d4 (.eq (.d4 (.drop (.drop leL.nil)))))))))))))))))))) (fun _=>(hN _)) rfl rfl rfl (fun _=>rfl) rfl (gk yw) rfl (fun lp3 hlp3 r3 hr3q=>?_) (fun s3 H1 hH hF=>?_) (fun j3 s3 H1 hH hF=>?_)
    ·have hlowlp3:∀ q1 q2,(lp3 q1 q2).low (nb+5) (nt+1)=true:=by intro q1 q2;rw [hlp3];simp [Blk.low,yf,AV.low,hly,hly2,hli0,hli0b,hli1,hli1b]
     refine Spec.mono (ih (Hy:=(fam (fun (s3:S)=>(Hy s3)) (fun (s3:S)=>[.cells [.yld idy],.cells [.str x1.name,.sl 9 (x1.leaves.map GLeaf.row),.sl 3 (x1.subs.map GNode.row)],.cells [.sl 3 (v55.1.map GNode.row)],.cells [.sl 1 (v55.2.map zP)]]) (fun (s3:S)=>[((v37++([x1.name]:List zM))).length]) lp3)) (nb:=nb+5) (nt:=nt+1) (fun _=>by simp only [fam];rw [ext_len (hN _)];rfl) (fun _=>by simp only [fam];rw [ext_tlen (hNt _)];rfl) (fun _=>closed_ext (hC _) (Nat.le_add_right _ _) (Nat.le_add_right _ _) (by simp only [List.all_append,List.all_cons,List.all_nil,Bool.and_true,List.length_cons,List.length_nil,Nat.reduceAdd,Nat.zero_add,hlowlp3] <;> simp [Blk.low,yf,AV.low,hly,hly2,hli0,hli0b,hli1,hli1b])) (Nat.lt_succ_self _) (y_body hlp3 (xs:=fun (x:GRow)=>[.agg [.sl 1 (x.path.map zP),.int .u8 x.leaf.typ,.int .i64 x.leaf.n,.int .u64 x.leaf.time,.int .u8 x.leaf.dot.actor.rep,.int .u32 x.leaf.dot.actor.inc,.int .u64 x.leaf.dot.seq,.str x.leaf.text,.sl 5 (x.leaf.items.map GItem.row),.sl 3 (x.leaf.tombs.map GDot.row)]]) (fun _=>(hN _)) (fun _=>rfl) rfl (fun _=>rfl) (fun _=>by simp only [setL,List.set_cons_succ,List.set_cons_zero];try rfl) (fun s3 x3 o3 L3 M3 H1 hH hF=>?_)) (fun _=>by simp only [fam];exact n_blk (j:=2) (hN _) rfl) (fun _=>by simp only [fam];exact n_blk (j:=3) (hN _) rfl) hr3q) (fun _ _ h=>h.2)
     obtain rfl:H1=(((Hy s3).ext ([.cells [.yld idy],.cells [.str x1.name,.sl 9 (x1.leaves.map GLeaf.row),.sl 3 (x1.subs.map GNode.row)],.cells [.sl 3 (v55.1.map GNode.row)],.cells [.sl 1 (v55.2.map zP)]]++[lp3 .ready none]) [((v37++([x1.name]:List zM))).length]).ext L3 M3).ext [] []:=hH
     refine zd ?_
     refine zc rfl (n_alloc (qL (hN _) rfl) (n:=0) rfl ze44 rfl) vi ?_
     refine zc rfl (n_store (qL (hN _) rfl) (cs':=[.sl 1 (x3.path.map zP),.int .u8 x3.leaf.typ,.int .i64 x3.leaf.n,.int .u64 x3.leaf.time,.int .u8 x3.leaf.dot.actor.rep,.int .u32 x3.leaf.dot.actor.inc,.int .u64 x3.leaf.dot.seq,.str x3.leaf.text,.sl 5 (x3.leaf.items.map GItem.row),.sl 3 (x3.leaf.tombs.map GDot.row)]) rfl ty44.choose_spec.1 wE (gk yV) (zb rfl) rfl rfl rfl rfl rfl) rfl ?_
     refine ze ?_
     refine q_assign (hN _) rfl ?_
     refine zS (zk (zd ?_))
     refine zc rfl (d_load (hN _) rfl ty89 xj rfl (zt rfl) (zb rfl)) (sk wD) ?_
     refine zc rfl (n_load (qL (hN _) rfl) rfl ty44.choose_spec.1 wE rfl (zI (cs':=[.sl 1 (x3.path.map zP),.int .u8 x3.leaf.typ,.int .i64 x3.leaf.n,.int .u64 x3.leaf.time,.int .u8 x3.leaf.dot.actor.rep,.int .u32 x3.leaf.dot.actor.inc,.int .u64 x3.leaf.dot.seq,.str x3.leaf.text,.sl 5 (x3.leaf.items.map GItem.row),.sl 3 (x3.leaf.tombs.map GDot.row)]) ty44.choose_spec.2 rfl rfl) (zb rfl)) (sk yF) ?_
     refine zU hF (fun v64 hv64 hF=>?_)
     refine ops_round rfl (s_yield rfl rfl (gk xj) (zo (gk yH) zw) (.cons (zb rfl) .nil)) (SpecY.deep fun A B=>hy _ _ _ _ A B hv64) (sk xG) ?_
     refine zc rfl (wo rfl (gk yY) rfl) (sk xY) ?_
     refine ze (zj ?_)
     refine zR (gk yT) hF (fun hc65 hF=>?_) (fun hc65 hF=>?_)
     ·refine zJ ?_
      refine zG ?_
      obtain rfl:=Option.some.inj hF
      exact q_roundR (hC _) (hN _) (hNt _) (hN _) (hNt _) rfl rfl rfl rfl rfl rfl rfl (by simp only [List.all_append,List.all_cons,List.all_nil,Bool.and_true,List.length_cons,List.length_nil,Nat.reduceAdd,Nat.zero_add,hlowlp3] <;> simp [Blk.low,yf,AV.low,hly,hly2,hli0,hli0b,hli1,hli1b])
     ·refine zO (yi ?_)
      obtain rfl:=Option.some.inj hF
      exact q_roundN (hC _) (hN _) (hNt _) (hN _) (hNt _) rfl rfl rfl rfl rfl rfl rfl (by simp only [List.all_append,List.all_cons,List.all_nil,Bool.and_true,List.length_cons,List.length_nil,Nat.reduceAdd,Nat.zero_add,hlowlp3] <;> simp [Blk.low,yf,AV.low,hly,hly2,hli0,hli0b,hli1,hli1b])
    ·obtain rfl:H1=(Hy s3).ext [.cells [.yld idy],.cells [.str x1.name,.sl 9 (x1.leaves.map GLeaf.row),.sl 3 (x1.subs.map GNode.row)],.cells [.sl 3 (v55.1.map GNode.row)],.cells [.sl 1 (v55.2.map zP)],.dead] [((v37++([x1.name]:List zM))).length]:=hH
     refine yi (yi (zj (zd ?_)))
     refine zc rfl (zy rfl yO rfl rfl) (sk wm) ?_
     refine zc rfl (zg rfl (gk xN) (zb rfl)) yQ ?_
     refine ze (yK ?_)
     obtain rfl:=Option.some.inj hF
     exact ⟨s3,hl1,hK1,wk.trans (wk.le (by exact (.drop (.drop (.eq (.eq (.d4 (.drop (.drop (.eq (.eq (.cons (leV.of_eq (vN (by omega) (by omega))) (.d16 (.d16 (.drop (.drop (.drop leL.nil))))))))))))))))) (wk_ext3s (hN _) (hNt _) (hN _) (hNt _) (hC _) (by simp [yf,AV.low,hly,hly2,hli0,hli0b,hli1,hli1b]) rfl rfl (by simp [Blk.low,yf,AV.low,hly,hly2,hli0,hli0b,hli1,hli1b]))⟩
    ·obtain rfl:H1=(Hy s3).ext [.cells [.yld idy],.cells [.str x1.name,.sl 9 (x1.leaves.map GLeaf.row),.sl 3 (x1.subs.map GNode.row)],.cells [.sl 3 (v55.1.map GNode.row)],.cells [.sl 1 (v55.2.map zP)],.dead] [((v37++([x1.name]:List zM))).length]:=hH
     refine jmp1 (G:=fun j=>jumpQ _ j _ _) hF (fun hF=>?_)
     refine jmp_ret ?_
     refine zG ?_
     refine zG ?_
     refine zB ?_
     refine yj ?_
     obtain rfl:=Option.some.inj hF
     replace hF:=hK1
     refine zG ?_
     obtain rfl:=Option.some.inj hF
     refine q_retL0 rfl zD (fin_exts (hN _) (hNt _) (hN _) (hNt _) (hC _) (leV.refl _) rfl ?_)
     exact ⟨rfl,rfl⟩
  ·refine yX ?_
   refine z7 ?_
   refine zW ?_
   refine zX ?_
   refine q_end ?_
   obtain rfl:=Option.some.inj hF
   refine q_retL0 rfl zD (fin_exts (hN _) (hNt _) (hN _) (hNt _) (hC _) (leV.refl _) rfl ?_)
   exact ⟨rfl,rfl⟩
theorem ok40 {S:Type} {Hy:S→AH} {nb nt:Nat} {yield0:S→GRow→Option (Bool×S)} {idy:Nat} {c0:(List GNode)} {i0:Nat} {c1:(List zM)} {i1:Nat} {s0:S} {res:S} (hN:∀ s,(Hy s).blks.length=nb) (hNt:∀ s,(Hy s).toks.length=nt) (hC:∀ s,(Hy s).closed nb nt) (hly:idy < nb) (hy:∀ s x b s' L M,yield0 s x=some (b,s')→SpecY Tryz.prog idy [.agg [.sl 1 (x.path.map zP),.int .u8 x.leaf.typ,.int .i64 x.leaf.n,.int .u64 x.leaf.time,.int .u8 x.leaf.dot.actor.rep,.int .u32 x.leaf.dot.actor.inc,.int .u64 x.leaf.dot.seq,.str x.leaf.text,.sl 5 (x.leaf.items.map GItem.row),.sl 3 (x.leaf.tombs.map GDot.row)]] ((Hy s).ext L M) (fun rr hh=>rr=.bool b∧hh=(Hy s').ext L M)) (hb0:∀ s,(Hy s).blk i0=some (.cells [.sl 3 (c0.map GNode.row)])) (hb1:∀ s,(Hy s).blk i1=some (.cells [.sl 1 (c1.map zP)])) (hF:pathsXrowsC1 S yield0 c0 c1 s0=some res):Spec Tryz.prog 40 [.yld idy,.ptr i0 0,.ptr i1 0] (Hy s0) (fun rr hh=>rr=.tup []∧hh=Hy res):=by
 obtain ⟨n,hn⟩:=anyN_is hF
 exact ok40N n hN hNt hC hly hy hb0 hb1 hn
theorem ok39 {s0:(List GRow)} {seq1:(S:Type)→(S→GRow→Option (Bool×S))→S→Option S} {fseq1:FuncId} {aseq1 kseq1:List AV} {res:(List GRow)} {h:AH} (hseq1:∀ (S:Type) (Hy:S→AH) (nb nt:Nat),(∀ s,(Hy s).blks.length=nb)→(∀ s,(Hy s).toks.length=nt)→(∀ s,(Hy s).closed nb nt)→(∀ s,∃ L M,Hy s=h.ext L M)→∀ (y:S→GRow→Option (Bool×S)) (idy:Nat),idy < nb→(∀ s x b s' L M,y s x=some (b,s')→SpecY Tryz.prog idy [.agg [.sl 1 (x.path.map zP),.int .u8 x.leaf.typ,.int .i64 x.leaf.n,.int .u64 x.leaf.time,.int .u8 x.leaf.dot.actor.rep,.int .u32 x.leaf.dot.actor.inc,.int .u64 x.leaf.dot.seq,.str x.leaf.text,.sl 5 (x.leaf.items.map GItem.row),.sl 3 (x.leaf.tombs.map GDot.row)]] ((Hy s).ext L M) (fun rr hh=>rr=.bool b∧hh=(Hy s').ext L M))→∀ s s',seq1 S y s=some s'→Spec Tryz.prog fseq1 (aseq1++[.yld idy]++kseq1) (Hy s) (fun rr hh=>rr=.tup []∧hh=Hy s')) (hF:wn s0 seq1=some res):Spec Tryz.prog 39 [.osl none 10 (s0.map GRow.row),.fn (.func fseq1) aseq1 kseq1] h (fun rr hh=>rr=.sl 10 (res.map GRow.row)∧hh=h):=by
 unfold wn at hF
 refine yv Tryz.func39 rfl (by kernel_rfl) (env:=[.osl none 10 (s0.map GRow.row),.fn (.func fseq1) aseq1 kseq1,za,za,za,za,za,za,za,za,za,za,za]) (by rfl) (fun hlow hC=>?_)
 simp only [yf,AV.low,Bool.and_eq_true,Bool.true_and,and_true] at hlow
 have hlaseq1:∀ n m,h.blks.length≤n→h.toks.length≤m→yf n m aseq1=true:=fun n m h1 h2=>yJ h1 h2 _ (by simp [hlow])
 have hlkseq1:∀ n m,h.blks.length≤n→h.toks.length≤m→yf n m kseq1=true:=fun n m h1 h2=>yJ h1 h2 _ (by simp [hlow])
 refine zk (zd ?_)
 refine zc rfl (xb (n:=0) rfl yB (zb rfl) rfl rfl) yM ?_
 refine zc rfl (zi rfl rfl (xZ el31)) yF ?_
 refine ze (zj (zk (zk (zd ?_))))
 refine zc rfl (zg rfl yw (zb rfl)) xY ?_
 refine ze (zj (zS ?_))
 refine r_range (fun (s1:(List GRow))=>h) (fun (s1:(List GRow))=>[.cells [.osl (some (h.toks.length+0)) 10 (s1.map GRow.row)]]) (fun (s1:(List GRow))=>[(s1).length]) s0 hF (wk.trans (wk_tokB (j:=0) rfl yB rfl st0 rfl rfl) (wk.le (by exact (.drop (.drop (.eq (.drop (.drop (.drop (.eq (.d4 (.drop (.drop leL.nil))))))))))))) (fun _=>rfl) rfl rfl rfl (fun _=>rfl) rfl yT rfl (fun lp1 hlp1 r1 hr1q=>?_) (fun s1 H1 hH hF=>?_) (fun j1 s1 H1 hH hF=>?_)
 ·have hlowlp1:∀ q1 q2,(lp1 q1 q2).low (h.blks.length+2) (h.toks.length+1)=true:=by intro q1 q2;rw [hlp1];simp [Blk.low,yf,AV.low,hlaseq1,hlkseq1]
  refine Spec.mono (hseq1 _ (fam (fun (s1:(List GRow))=>h) (fun (s1:(List GRow))=>[.cells [.osl (some (h.toks.length+0)) 10 (s1.map GRow.row)]]) (fun (s1:(List GRow))=>[(s1).length]) lp1) (h.blks.length+2) (h.toks.length+1) (fun _=>by simp only [fam];rw [ext_len rfl];rfl) (fun _=>by simp only [fam];rw [ext_tlen rfl];rfl) (fun _=>closed_ext hC (Nat.le_add_right _ _) (Nat.le_add_right _ _) (by simp only [List.all_append,List.all_cons,List.all_nil,Bool.and_true,List.length_cons,List.length_nil,Nat.reduceAdd,Nat.zero_add,hlowlp1] <;> simp [Blk.low,yf,AV.low,hlaseq1,hlkseq1])) (fun _=>⟨_,_,rfl⟩) _ _ (Nat.lt_succ_self _) (y_body hlp1 (xs:=fun (x:GRow)=>[.agg [.sl 1 (x.path.map zP),.int .u8 x.leaf.typ,.int .i64 x.leaf.n,.int .u64 x.leaf.time,.int .u8 x.leaf.dot.actor.rep,.int .u32 x.leaf.dot.actor.inc,.int .u64 x.leaf.dot.seq,.str x.leaf.text,.sl 5 (x.leaf.items.map GItem.row),.sl 3 (x.leaf.tombs.map GDot.row)]]) (fun _=>rfl) (fun _=>rfl) rfl (fun _=>rfl) (fun _=>by simp only [setL,List.set_cons_succ,List.set_cons_zero];try rfl) (fun s1 x1 o1 L1 M1 H1 hH hF=>?_)) _ _ hr1q) (fun _ _ h=>h.2)
  obtain rfl:H1=((h.ext ([.cells [.osl (some (h.toks.length+0)) 10 (s1.map GRow.row)]]++[lp1 .ready none]) [(s1).length]).ext L1 M1).ext [] []:=hH
  refine zd ?_
  refine zc rfl (n_alloc (qL rfl rfl) (n:=0) rfl ze44 rfl) xG ?_
  refine zc rfl (n_store (qL rfl rfl) (cs':=[.sl 1 (x1.path.map zP),.int .u8 x1.leaf.typ,.int .i64 x1.leaf.n,.int .u64 x1.leaf.time,.int .u8 x1.leaf.dot.actor.rep,.int .u32 x1.leaf.dot.actor.inc,.int .u64 x1.leaf.dot.seq,.str x1.leaf.text,.sl 5 (x1.leaf.items.map GItem.row),.sl 3 (x1.leaf.tombs.map GDot.row)]) rfl ty44.choose_spec.1 yY xN (zb rfl) rfl rfl rfl rfl rfl) rfl ?_
  refine ze ?_
  refine q_assign rfl rfl ?_
  refine zS (zd ?_)
  refine zc rfl (d_load rfl rfl ty31 yV rfl (zt rfl) (zb rfl)) wl ?_
  refine zc rfl (n_load (qL rfl rfl) rfl ty44.choose_spec.1 yY rfl (zI (cs':=[.sl 1 (x1.path.map zP),.int .u8 x1.leaf.typ,.int .i64 x1.leaf.n,.int .u64 x1.leaf.time,.int .u8 x1.leaf.dot.actor.rep,.int .u32 x1.leaf.dot.actor.inc,.int .u64 x1.leaf.dot.seq,.str x1.leaf.text,.sl 5 (x1.leaf.items.map GItem.row),.sl 3 (x1.leaf.tombs.map GDot.row)]) ty44.choose_spec.2 rfl rfl) (zb rfl)) vi ?_
  refine zc rfl (ye (es:=([x1]:List GRow).map GRow.row) rfl el31 ze44 rfl rfl (zH wE zV) (.cons (zb rfl) .nil) rfl rfl rfl) yN ?_
  refine wt hF (fun hm3 hF=>?_)
  refine zc rfl (d_appT (j:=0) (T':=[((s1++([x1]:List GRow))).length]) rfl rfl rfl rfl rfl el31 el31 xu yG (zb rfl) (zb rfl) qB hm3 rfl rfl) yR ?_
  refine zc rfl (d_store (A':=[.cells [.osl (some (h.toks.length+0)) 10 ((s1++([x1]:List GRow)).map GRow.row)]]++[lp1 .busy none]) (cs':=[.osl (some (h.toks.length+0)) 10 ((s1++([x1]:List GRow)).map GRow.row)]) rfl rfl ty31 yV yP (zb rfl) rfl rfl rfl rfl rfl rfl) rfl ?_
  refine ze (yi ?_)
  obtain rfl:=Option.some.inj hF
  exact q_roundN hC rfl rfl rfl rfl rfl rfl rfl rfl rfl rfl rfl (by simp only [List.all_append,List.all_cons,List.all_nil,Bool.and_true,List.length_cons,List.length_nil,Nat.reduceAdd,Nat.zero_add,hlowlp1] <;> simp [Blk.low,yf,AV.low,hlaseq1,hlkseq1])
 ·obtain rfl:H1=h.ext [.cells [.osl (some (h.toks.length+0)) 10 (s1.map GRow.row)],.dead] [(s1).length]:=hH
  refine yi (zj (zk (zd ?_)))
  refine zc rfl (zu rfl ty31 yV rfl (zt rfl) (zb rfl)) yQ ?_
  refine zc rfl (zi rfl yO (zb rfl)) yF ?_
  refine ze (zj (zJ ?_))
  obtain rfl:=Option.some.inj hF
  refine zz rfl (zF yH zD) (zA (leV.osl _ _ _) rfl ?_)
  exact ⟨rfl,rfl⟩
 ·obtain rfl:H1=h.ext [.cells [.osl (some (h.toks.length+0)) 10 (s1.map GRow.row)],.dead] [(s1).length]:=hH
  cases hF
end Go.Vv
