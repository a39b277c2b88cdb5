/- Each function that the law reaches computes what its reading says; printed by a program. -/
import Derived.Test.YtcdmaamcnfhkbaaGreatW1
namespace Go.Vv
open Go Go.Proofs
set_option maxRecDepth 100000
set_option maxHeartbeats 1000000
set_option linter.unusedSimpArgs false
set_option linter.unusedVariables false
/-! cmp.Compare[uint8] -/
theorem ok61 {x0:Int} {y1:Int} {res:Int} {h:AH}  (hF:wA x0 y1=some res):Spec Tryz.prog 61 [.int .u8 x0,.int .u8 y1] h (fun rr hh=>rr=.int .i64 res∧hh=h):=by
 unfold wA at hF
 refine zt Tryz.func61 rfl (by kernel_rfl) (env:=[.int .u8 x0,.int .u8 y1,za,za,za,za,za,za,za,za,za,za,za,za,za,za,za,za,za,za]) (by rfl) ?_
 refine zk (zd ?_)
 refine zc rfl (zi rfl rfl (zb rfl)) yB ?_
 refine ze (zj (zk (zd ?_)))
 refine zc rfl (zf rfl yr (zb rfl)) xO ?_
 refine zR hF (fun v1 hv1 hF=>?_)
 refine zN rfl (zC rfl rfl rfl (zo xH zw) (.cons (zb rfl) .nil)) (ok89 hv1) xX ?_
 refine zc rfl (zi rfl xj (zb rfl)) xz ?_
 refine ze (zj (zk (zd ?_)))
 refine zc rfl (zf rfl yF (zb rfl)) wB ?_
 refine zR hF (fun v2 hv2 hF=>?_)
 refine zN rfl (zC rfl rfl rfl (zo xV zw) (.cons (zb rfl) .nil)) (ok89 hv2) yL ?_
 refine zc rfl (zi rfl yq (zb rfl)) xE ?_
 refine ze (zj (zk (zk (zd ?_))))
 refine zc rfl (zf rfl yS (zb rfl)) yP ?_
 refine ze (zj ?_)
 refine zO yA hF (fun hc3 hF=>?_) (fun hc3 hF=>?_)
 ·refine zk (zk (zd ?_))
  refine zc rfl (zf rfl yU (zb rfl)) yX ?_
  refine ze (zj ?_)
  refine zO yM hF (fun hc4 hF=>?_) (fun hc4 hF=>?_)
  ·refine zk (zd ?_)
   refine zc rfl (zi rfl rfl (zb rfl)) yB ?_
   refine ze (zj (zL (zx (zx ?_))))
   obtain rfl:=Option.some.inj hF
   refine zA rfl (zD yz zG) (zz (leV.refl _) rfl ?_)
   exact ⟨rfl,rfl⟩
  ·refine zK (zj (zk (zd ?_)))
   refine zc rfl (zi rfl rfl (zb rfl)) yB ?_
   refine ze (zj (zL (zx ?_)))
   obtain rfl:=Option.some.inj hF
   refine zA rfl (zD yz zG) (zz (leV.refl _) rfl ?_)
   exact ⟨rfl,rfl⟩
 ·refine zK (zj (zk (zk (zd ?_))))
  refine zc rfl (zf rfl yU (zb rfl)) yW ?_
  refine ze (zj ?_)
  refine zO yC hF (fun hc5 hF=>?_) (fun hc5 hF=>?_)
  ·refine zk (zd ?_)
   refine zc rfl (zi rfl rfl (zb rfl)) yB ?_
   refine ze (zj (zL (zx ?_)))
   obtain rfl:=Option.some.inj hF
   refine zA rfl (zD yz zG) (zz (leV.refl _) rfl ?_)
   exact ⟨rfl,rfl⟩
  ·refine zK (zj (zk (zk (zd ?_))))
   refine zc rfl (zf rfl yr (zb rfl)) y5 ?_
   refine zc rfl (zf rfl yF (zb rfl)) y6 ?_
   refine zc rfl (zy rfl yY yT rfl) xg ?_
   refine ze (zj ?_)
   refine zO xd hF (fun hc6 hF=>?_) (fun hc6 hF=>?_)
   ·refine zk (zd ?_)
    refine zc rfl (zi rfl rfl (zb rfl)) yB ?_
    refine ze (zj (zL (zx ?_)))
    obtain rfl:=Option.some.inj hF
    refine zA rfl (zD yz zG) (zz (leV.refl _) rfl ?_)
    exact ⟨rfl,rfl⟩
   ·refine zK (zj (zk (zk (zd ?_))))
    refine zc rfl (zf rfl yr (zb rfl)) xk ?_
    refine zc rfl (zf rfl yF (zb rfl)) xD ?_
    refine zc rfl (zy rfl xi xB rfl) xK ?_
    refine ze (zj ?_)
    refine zO xJ hF (fun hc7 hF=>?_) (fun hc7 hF=>?_)
    ·refine zk (zd ?_)
     refine zc rfl (zi rfl rfl (zb rfl)) yB ?_
     refine ze (zj (zL (zx ?_)))
     obtain rfl:=Option.some.inj hF
     refine zA rfl (zD yz zG) (zz (leV.refl _) rfl ?_)
     exact ⟨rfl,rfl⟩
    ·refine zK (zj (zk (zd ?_)))
     refine zc rfl (zi rfl rfl (zb rfl)) yB ?_
     refine ze (zj (zL ?_))
     obtain rfl:=Option.some.inj hF
     refine zA rfl (zD yz zG) (zz (leV.refl _) rfl ?_)
     exact ⟨rfl,rfl⟩
/-! cmp.Or[int] -/
theorem ok79 {vals0:(List Int)} {res:Int} {h:AH}  (hF:cmpOrInt vals0=some res):Spec Tryz.prog 79 [.sl 1 (vals0.map (intRow .i64))] h (fun rr hh=>rr=.int .i64 res∧hh=h):=by
 unfold cmpOrInt at hF
 refine zt Tryz.func79 rfl (by kernel_rfl) (env:=[.sl 1 (vals0.map (intRow .i64)),za,za,za,za,za,za,za,za,za,za,za,za,za,za,za,za,za]) (by rfl) ?_
 refine zk (zd ?_)
 refine zc rfl (zi rfl rfl (zb rfl)) xh ?_
 refine ze (zj (zk (zd ?_)))
 refine zc rfl (zi rfl rfl (zb rfl)) wo ?_
 refine ze (zj (zk (zk (zd ?_))))
 refine zc rfl (zf rfl yr (zb rfl)) xE ?_
 refine yb rfl (zS rfl rfl rfl rfl el151 yU yc) xO fun hn1=>?_
 replace hn1:=xl hn1
 refine zc rfl (zf rfl rfl (zb rfl)) xX ?_
 refine ze (zj (zQ ?_))
 refine yo (fun (n1:Nat) (s1:Unit)=>yO [0,1,2,4,5,9,10,11,12,13,14,15,16,17] [(8,.int .i64 (n1:Int))]) (fun s1=>h.ext [] []) hF (fun _ _=>by simp only [yO,upd,List.set_cons_succ,List.set_cons_zero];try rfl) (wk.le (by exact (.drop (.drop (.drop (.eq (.drop (.drop (.eq (.eq (.cons (leV.of_eq rfl) (.d4 (.d4 (.drop leL.nil)))))))))))))) ?_
 intro n1 s1 hi1 hF
 refine zk (zd ?_)
 refine zc rfl (zy rfl xj xH rfl) wB ?_
 refine ze (zj (zk ?_))
 refine yJ xV hF (fun x1 o1 hl1 hx1 hF hK1=>?_) (fun hF=>?_)
 ·refine zK (zj (zk (zQ (zk (zd ?_)))))
  refine zc rfl (yj rfl el151 yU xj w7 (yK hx1)) yL ?_
  refine zc rfl (ye rfl ty3 yq (zr rfl) (zb rfl)) yP ?_
  refine zc rfl (zi rfl yA (zb rfl)) xz ?_
  refine ze (zj (zk (zd ?_)))
  refine zc rfl (zf rfl yS (zb rfl)) yX ?_
  refine zc rfl (zf rfl xn (zb rfl)) yW ?_
  refine zc rfl (zy rfl yM yC rfl) y5 ?_
  refine ze (zj ?_)
  refine zO yY hF (fun hc6 hF=>?_) (fun hc6 hF=>?_)
  ·refine zk (zd ?_)
   refine zc rfl (zf rfl yS (zb rfl)) y6 ?_
   refine zc rfl (zi rfl yT (zb rfl)) xh ?_
   refine ze (zj (zL ?_))
   refine zF ?_
   refine zx ?_
   refine yd ?_
   obtain rfl:=Option.some.inj hF
   replace hF:=hK1
   refine zF ?_
   refine zx ?_
   obtain rfl:=Option.some.inj hF
   refine zA rfl (zD yV zG) (zz (leV.refl _) rfl ?_)
   exact ⟨rfl,rfl⟩
  ·refine zK (yh (zj (zd ?_)))
   refine zc rfl (zy rfl xj rfl rfl) xg ?_
   refine zc rfl (zf rfl xd (zb rfl)) xX ?_
   refine ze (yH ?_)
   obtain rfl:=Option.some.inj hF
   exact ⟨(),hl1,hK1,wk.le (by exact (.drop (.drop (.drop (.eq (.drop (.drop (.eq (.eq (.cons (leV.of_eq (w8 (by omega) (by omega))) (.d4 (.d4 (.drop leL.nil)))))))))))))⟩
 ·refine yR ?_
  refine ya ?_
  refine zV ?_
  refine zW ?_
  refine zj (zk (zd ?_))
  refine zc rfl (zf rfl xn (zb rfl)) xk ?_
  refine zc rfl (zi rfl xi (zb rfl)) xh ?_
  refine ze (zj (zL ?_))
  obtain rfl:=Option.some.inj hF
  refine zA rfl (zD yV zG) (zz (leV.refl _) rfl ?_)
  exact ⟨rfl,rfl⟩
/-! varve/dot.compare -/
theorem ok140 {a0:GActor} {b1:GActor} {res:Int} {h:AH}  (hF:dotXcompare a0 b1=some res):Spec Tryz.prog 140 [.agg [.int .u8 a0.rep,.int .u32 a0.inc],.agg [.int .u8 b1.rep,.int .u32 b1.inc]] h (fun rr hh=>rr=.int .i64 res∧hh=h):=by
 unfold dotXcompare at hF
 refine zt Tryz.func140 rfl (by kernel_rfl) (env:=[.agg [.int .u8 a0.rep,.int .u32 a0.inc],.agg [.int .u8 b1.rep,.int .u32 b1.inc],za,za,za,za,za,za,za,za,za,za,za,za,za,za,za]) (by rfl) ?_
 refine zk (zd ?_)
 refine zc rfl (xw (n:=0) rfl yr (zb rfl) rfl rfl) xh ?_
 refine zc rfl (xw (n:=1) rfl yF (zb rfl) rfl rfl) wo ?_
 refine zc rfl (zi rfl rfl (zb rfl)) yB ?_
 refine ze (zj (zk ?_))
 refine yI [4,9,11] [] trivial mixed (by kernel_rfl) ?_
 refine zq rfl rfl (zg rfl fo42x0 yV rfl) xz ?_
 refine zq rfl rfl (zu rfl ty5 yS rfl (zr rfl) (zb rfl)) xE ?_
 refine zq rfl rfl (zg rfl fo42x0 xn rfl) xO ?_
 refine zq rfl rfl (zu rfl ty5 xH rfl (zr rfl) (zb rfl)) xX ?_
 refine zR hF (fun v1 hv1 hF=>?_)
 refine yu rfl rfl (fun _=>zC rfl rfl rfl (zo yU (zo xj zw)) (.cons (zb rfl) (.cons (zb rfl) .nil))) (by rintro _ ⟨B2,T2,rfl,hk2⟩;exact ok61 hv1) wB ?_
 refine zq rfl rfl (zg rfl fo42x1 yV rfl) yL ?_
 refine zq rfl rfl (zu rfl ty40 yq rfl (zr rfl) (zb rfl)) yP ?_
 refine zq rfl rfl (zg rfl fo42x1 xn rfl) yX ?_
 refine zq rfl rfl (zu rfl ty40 yM rfl (zr rfl) (zb rfl)) yW ?_
 refine zR hF (fun v2 hv2 hF=>?_)
 refine yu rfl rfl (fun _=>zC rfl rfl rfl (zo yA (zo yC zw)) (.cons (zb rfl) (.cons (zb rfl) .nil))) (by rintro _ ⟨B2,T2,rfl,hk2⟩;exact ok146 hv2) y5 ?_
 refine zq rfl rfl (yE (es:=([v1,v2]:List Int).map (intRow .i64)) rfl el151 ze3 rfl rfl (yl xV (yl yY yp)) (.cons (zb rfl) (.cons (zb rfl) .nil)) rfl rfl rfl) y6 ?_
 refine zR hF (fun v3 hv3 hF=>?_)
 refine yu rfl rfl (fun _=>zC rfl rfl rfl (zo yT zw) (.cons (zb rfl) .nil)) (by rintro _ ⟨B2,T2,rfl,hk2⟩;exact (ok79 hv3).le (.cons (leV.osl _ _ _) leL.nil)) xg ?_
 refine zq rfl rfl (zi rfl xd (zb rfl)) yB ?_
 refine ym ?_
 refine zj (zL ?_)
 obtain rfl:=Option.some.inj hF
 refine zA rfl (zD yz zG) (zz (leV.refl _) rfl ?_)
 exact ⟨rfl,rfl⟩
/-! cmp.isNaN[uint64] -/
theorem ok147 {x0:Int} {res:Bool} {h:AH}  (hF:qd x0=some res):Spec Tryz.prog 147 [.int .u64 x0] h (fun rr hh=>rr=.bool res∧hh=h):=by
 unfold qd at hF
 refine zt Tryz.func147 rfl (by kernel_rfl) (env:=[.int .u64 x0,za,za,za,za,za]) (by rfl) ?_
 refine zk (zd ?_)
 refine zc rfl (zi rfl rfl (zb rfl)) xh ?_
 refine ze (zj (zk (zd ?_)))
 refine zc rfl (zf rfl yr (zb rfl)) wo ?_
 refine zc rfl (zf rfl yr (zb rfl)) yB ?_
 refine zc rfl (zy rfl xn yz rfl) xz ?_
 refine zc rfl (zi rfl yS (zb rfl)) xh ?_
 refine ze (zj (zL ?_))
 obtain rfl:=Option.some.inj hF
 refine zA rfl (zD yV zG) (zz (leV.refl _) rfl ?_)
 exact ⟨rfl,rfl⟩
/-! cmp.Compare[uint64] -/
theorem ok141 {x0:Int} {y1:Int} {res:Int} {h:AH}  (hF:wO x0 y1=some res):Spec Tryz.prog 141 [.int .u64 x0,.int .u64 y1] h (fun rr hh=>rr=.int .i64 res∧hh=h):=by
 unfold wO at hF
 refine zt Tryz.func141 rfl (by kernel_rfl) (env:=[.int .u64 x0,.int .u64 y1,za,za,za,za,za,za,za,za,za,za,za,za,za,za,za,za,za,za]) (by rfl) ?_
 refine zk (zd ?_)
 refine zc rfl (zi rfl rfl (zb rfl)) yB ?_
 refine ze (zj (zk (zd ?_)))
 refine zc rfl (zf rfl yr (zb rfl)) xO ?_
 refine zR hF (fun v1 hv1 hF=>?_)
 refine zN rfl (zC rfl rfl rfl (zo xH zw) (.cons (zb rfl) .nil)) (ok147 hv1) xX ?_
 refine zc rfl (zi rfl xj (zb rfl)) xz ?_
 refine ze (zj (zk (zd ?_)))
 refine zc rfl (zf rfl yF (zb rfl)) wB ?_
 refine zR hF (fun v2 hv2 hF=>?_)
 refine zN rfl (zC rfl rfl rfl (zo xV zw) (.cons (zb rfl) .nil)) (ok147 hv2) yL ?_
 refine zc rfl (zi rfl yq (zb rfl)) xE ?_
 refine ze (zj (zk (zk (zd ?_))))
 refine zc rfl (zf rfl yS (zb rfl)) yP ?_
 refine ze (zj ?_)
 refine zO yA hF (fun hc3 hF=>?_) (fun hc3 hF=>?_)
 ·refine zk (zk (zd ?_))
  refine zc rfl (zf rfl yU (zb rfl)) yX ?_
  refine ze (zj ?_)
  refine zO yM hF (fun hc4 hF=>?_) (fun hc4 hF=>?_)
  ·refine zk (zd ?_)
   refine zc rfl (zi rfl rfl (zb rfl)) yB ?_
   refine ze (zj (zL (zx (zx ?_))))
   obtain rfl:=Option.some.inj hF
   refine zA rfl (zD yz zG) (zz (leV.refl _) rfl ?_)
   exact ⟨rfl,rfl⟩
  ·refine zK (zj (zk (zd ?_)))
   refine zc rfl (zi rfl rfl (zb rfl)) yB ?_
   refine ze (zj (zL (zx ?_)))
   obtain rfl:=Option.some.inj hF
   refine zA rfl (zD yz zG) (zz (leV.refl _) rfl ?_)
   exact ⟨rfl,rfl⟩
 ·refine zK (zj (zk (zk (zd ?_))))
  refine zc rfl (zf rfl yU (zb rfl)) yW ?_
  refine ze (zj ?_)
  refine zO yC hF (fun hc5 hF=>?_) (fun hc5 hF=>?_)
  ·refine zk (zd ?_)
   refine zc rfl (zi rfl rfl (zb rfl)) yB ?_
   refine ze (zj (zL (zx ?_)))
   obtain rfl:=Option.some.inj hF
   refine zA rfl (zD yz zG) (zz (leV.refl _) rfl ?_)
   exact ⟨rfl,rfl⟩
  ·refine zK (zj (zk (zk (zd ?_))))
   refine zc rfl (zf rfl yr (zb rfl)) y5 ?_
   refine zc rfl (zf rfl yF (zb rfl)) y6 ?_
   refine zc rfl (zy rfl yY yT rfl) xg ?_
   refine ze (zj ?_)
   refine zO xd hF (fun hc6 hF=>?_) (fun hc6 hF=>?_)
   ·refine zk (zd ?_)
    refine zc rfl (zi rfl rfl (zb rfl)) yB ?_
    refine ze (zj (zL (zx ?_)))
    obtain rfl:=Option.some.inj hF
    refine zA rfl (zD yz zG) (zz (leV.refl _) rfl ?_)
    exact ⟨rfl,rfl⟩
   ·refine zK (zj (zk (zk (zd ?_))))
    refine zc rfl (zf rfl yr (zb rfl)) xk ?_
    refine zc rfl (zf rfl yF (zb rfl)) xD ?_
    refine zc rfl (zy rfl xi xB rfl) xK ?_
    refine ze (zj ?_)
    refine zO xJ hF (fun hc7 hF=>?_) (fun hc7 hF=>?_)
    ·refine zk (zd ?_)
     refine zc rfl (zi rfl rfl (zb rfl)) yB ?_
     refine ze (zj (zL (zx ?_)))
     obtain rfl:=Option.some.inj hF
     refine zA rfl (zD yz zG) (zz (leV.refl _) rfl ?_)
     exact ⟨rfl,rfl⟩
    ·refine zK (zj (zk (zd ?_)))
     refine zc rfl (zi rfl rfl (zb rfl)) yB ?_
     refine ze (zj (zL ?_))
     obtain rfl:=Option.some.inj hF
     refine zA rfl (zD yz zG) (zz (leV.refl _) rfl ?_)
     exact ⟨rfl,rfl⟩
/-! varve/dot.Compare -/
theorem ok125 {a0:GDot} {b1:GDot} {res:Int} {h:AH}  (hF:dotCompare a0 b1=some res):Spec Tryz.prog 125 [.agg [.int .u8 a0.actor.rep,.int .u32 a0.actor.inc,.int .u64 a0.seq],.agg [.int .u8 b1.actor.rep,.int .u32 b1.actor.inc,.int .u64 b1.seq]] h (fun rr hh=>rr=.int .i64 res∧hh=h):=by
 unfold dotCompare at hF
 refine zt Tryz.func125 rfl (by kernel_rfl) (env:=[.agg [.int .u8 a0.actor.rep,.int .u32 a0.actor.inc,.int .u64 a0.seq],.agg [.int .u8 b1.actor.rep,.int .u32 b1.actor.inc,.int .u64 b1.seq],za,za,za,za,za,za,za,za,za,za,za,za,za,za,za]) (by rfl) ?_
 refine zk (zd ?_)
 refine zc rfl (xw (n:=0) rfl yr (zb rfl) rfl rfl) xh ?_
 refine zc rfl (xw (n:=1) rfl yF (zb rfl) rfl rfl) wo ?_
 refine zc rfl (zi rfl rfl (zb rfl)) yB ?_
 refine ze (zj (zk ?_))
 refine yI [4,9,11] [] trivial mixed (by kernel_rfl) ?_
 refine zq rfl rfl (zg rfl fo44x0 yV rfl) xz ?_
 refine zq rfl rfl (zu rfl ty42.choose_spec.1 yS rfl (zH (cs':=[.int .u8 a0.actor.rep,.int .u32 a0.actor.inc]) ty42.choose_spec.2 rfl rfl) (zb rfl)) xE ?_
 refine zq rfl rfl (zg rfl fo44x0 xn rfl) xO ?_
 refine zq rfl rfl (zu rfl ty42.choose_spec.1 xH rfl (zH (cs':=[.int .u8 b1.actor.rep,.int .u32 b1.actor.inc]) ty42.choose_spec.2 rfl rfl) (zb rfl)) xX ?_
 refine zR hF (fun v1 hv1 hF=>?_)
 refine yu rfl rfl (fun _=>zC rfl rfl rfl (zo yU (zo xj zw)) (.cons (zb rfl) (.cons (zb rfl) .nil))) (by rintro _ ⟨B2,T2,rfl,hk2⟩;exact ok140 hv1) wB ?_
 refine zq rfl rfl (zg rfl fo44x1 yV rfl) yL ?_
 refine zq rfl rfl (zu rfl ty39 yq rfl (zr rfl) (zb rfl)) yP ?_
 refine zq rfl rfl (zg rfl fo44x1 xn rfl) yX ?_
 refine zq rfl rfl (zu rfl ty39 yM rfl (zr rfl) (zb rfl)) yW ?_
 refine zR hF (fun v2 hv2 hF=>?_)
 refine yu rfl rfl (fun _=>zC rfl rfl rfl (zo yA (zo yC zw)) (.cons (zb rfl) (.cons (zb rfl) .nil))) (by rintro _ ⟨B2,T2,rfl,hk2⟩;exact ok141 hv2) y5 ?_
 refine zq rfl rfl (yE (es:=([v1,v2]:List Int).map (intRow .i64)) rfl el151 ze3 rfl rfl (yl xV (yl yY yp)) (.cons (zb rfl) (.cons (zb rfl) .nil)) rfl rfl rfl) y6 ?_
 refine zR hF (fun v3 hv3 hF=>?_)
 refine yu rfl rfl (fun _=>zC rfl rfl rfl (zo yT zw) (.cons (zb rfl) .nil)) (by rintro _ ⟨B2,T2,rfl,hk2⟩;exact (ok79 hv3).le (.cons (leV.osl _ _ _) leL.nil)) xg ?_
 refine zq rfl rfl (zi rfl xd (zb rfl)) yB ?_
 refine ym ?_
 refine zj (zL ?_)
 obtain rfl:=Option.some.inj hF
 refine zA rfl (zD yz zG) (zz (leV.refl _) rfl ?_)
 exact ⟨rfl,rfl⟩
/-! varve/leaf.compare -/
theorem ok139 {a0:Int} {d1:GDot} {b2:Int} {o3:GDot} {res:Int} {h:AH}  (hF:leafXcompare a0 d1 b2 o3=some res):Spec Tryz.prog 139 [.int .u64 a0,.agg [.int .u8 d1.actor.rep,.int .u32 d1.actor.inc,.int .u64 d1.seq],.int .u64 b2,.agg [.int .u8 o3.actor.rep,.int .u32 o3.actor.inc,.int .u64 o3.seq]] h (fun rr hh=>rr=.int .i64 res∧hh=h):=by
 unfold leafXcompare at hF
 refine zt Tryz.func139 rfl (by kernel_rfl) (env:=[.int .u64 a0,.agg [.int .u8 d1.actor.rep,.int .u32 d1.actor.inc,.int .u64 d1.seq],.int .u64 b2,.agg [.int .u8 o3.actor.rep,.int .u32 o3.actor.inc,.int .u64 o3.seq],za,za,za,za,za,za,za,za,za,za,za,za,za]) (by rfl) ?_
 refine zk (zd ?_)
 refine zc rfl (xw (n:=0) rfl yF (zb rfl) rfl rfl) xz ?_
 refine zc rfl (xw (n:=1) rfl xn (zb rfl) rfl rfl) xO ?_
 refine zc rfl (zi rfl rfl (zb rfl)) xX ?_
 refine ze (zj (zk ?_))
 refine yI [2,5,7] [] trivial mixed (by kernel_rfl) ?_
 refine zq rfl rfl (zf rfl yr (zb rfl)) wB ?_
 refine zq rfl rfl (zf rfl yV (zb rfl)) yL ?_
 refine zR hF (fun v1 hv1 hF=>?_)
 refine yu rfl rfl (fun _=>zC rfl rfl rfl (zo xV (zo yq zw)) (.cons (zb rfl) (.cons (zb rfl) .nil))) (by rintro _ ⟨B2,T2,rfl,hk2⟩;exact ok141 hv1) yP ?_
 refine zq rfl rfl (zu rfl ty44.choose_spec.1 yS rfl (zH (cs':=[.int .u8 d1.actor.rep,.int .u32 d1.actor.inc,.int .u64 d1.seq]) ty44.choose_spec.2 rfl rfl) (zb rfl)) yX ?_
 refine zq rfl rfl (zu rfl ty44.choose_spec.1 xH rfl (zH (cs':=[.int .u8 o3.actor.rep,.int .u32 o3.actor.inc,.int .u64 o3.seq]) ty44.choose_spec.2 rfl rfl) (zb rfl)) yW ?_
 refine zR hF (fun v2 hv2 hF=>?_)
 refine yu rfl rfl (fun _=>zC rfl rfl rfl (zo yM (zo yC zw)) (.cons (zb rfl) (.cons (zb rfl) .nil))) (by rintro _ ⟨B2,T2,rfl,hk2⟩;exact ok125 hv2) y5 ?_
 refine zq rfl rfl (yE (es:=([v1,v2]:List Int).map (intRow .i64)) rfl el151 ze3 rfl rfl (yl yA (yl yY yp)) (.cons (zb rfl) (.cons (zb rfl) .nil)) rfl rfl rfl) y6 ?_
 refine zR hF (fun v3 hv3 hF=>?_)
 refine yu rfl rfl (fun _=>zC rfl rfl rfl (zo yT zw) (.cons (zb rfl) .nil)) (by rintro _ ⟨B2,T2,rfl,hk2⟩;exact (ok79 hv3).le (.cons (leV.osl _ _ _) leL.nil)) xg ?_
 refine zq rfl rfl (zi rfl xd (zb rfl)) xX ?_
 refine ym ?_
 refine zj (zL ?_)
 obtain rfl:=Option.some.inj hF
 refine zA rfl (zD xj zG) (zz (leV.refl _) rfl ?_)
 exact ⟨rfl,rfl⟩
/-! varve/leaf.Ahead -/
theorem ok123 {time0:Int} {d1:GDot} {other2:Int} {o3:GDot} {res:Bool} {h:AH}  (hF:leafAhead time0 d1 other2 o3=some res):Spec Tryz.prog 123 [.int .u64 time0,.agg [.int .u8 d1.actor.rep,.int .u32 d1.actor.inc,.int .u64 d1.seq],.int .u64 other2,.agg [.int .u8 o3.actor.rep,.int .u32 o3.actor.inc,.int .u64 o3.seq]] h (fun rr hh=>rr=.bool res∧hh=h):=by
 unfold leafAhead at hF
 refine zt Tryz.func123 rfl (by kernel_rfl) (env:=[.int .u64 time0,.agg [.int .u8 d1.actor.rep,.int .u32 d1.actor.inc,.int .u64 d1.seq],.int .u64 other2,.agg [.int .u8 o3.actor.rep,.int .u32 o3.actor.inc,.int .u64 o3.seq],za,za,za,za,za,za,za,za,za,za,za]) (by rfl) ?_
 refine zk (zd ?_)
 refine zc rfl (xw (n:=0) rfl yF (zb rfl) rfl rfl) xz ?_
 refine zc rfl (xw (n:=1) rfl xn (zb rfl) rfl rfl) xO ?_
 refine zc rfl (zi rfl rfl (zb rfl)) xX ?_
 refine ze (zj (zk (zd ?_)))
 refine zc rfl (zf rfl yr (zb rfl)) wB ?_
 refine zc rfl (zu rfl ty44.choose_spec.1 yS rfl (zH (cs':=[.int .u8 d1.actor.rep,.int .u32 d1.actor.inc,.int .u64 d1.seq]) ty44.choose_spec.2 rfl rfl) (zb rfl)) yL ?_
 refine zc rfl (zf rfl yV (zb rfl)) yP ?_
 refine zc rfl (zu rfl ty44.choose_spec.1 xH rfl (zH (cs':=[.int .u8 o3.actor.rep,.int .u32 o3.actor.inc,.int .u64 o3.seq]) ty44.choose_spec.2 rfl rfl) (zb rfl)) yX ?_
 refine zR hF (fun v1 hv1 hF=>?_)
 refine zN rfl (zC rfl rfl rfl (zo xV (zo yq (zo yA (zo yM zw)))) (.cons (zb rfl) (.cons (zb rfl) (.cons (zb rfl) (.cons (zb rfl) .nil))))) (ok139 hv1) yW ?_
 refine zc rfl (zy rfl yC rfl rfl) y5 ?_
 refine zc rfl (zi rfl yY (zb rfl)) xX ?_
 refine ze (zj (zL ?_))
 obtain rfl:=Option.some.inj hF
 refine zA rfl (zD xj zG) (zz (leV.refl _) rfl ?_)
 exact ⟨rfl,rfl⟩
/-! varve/leaf.twice -/
theorem ok124 {l0:(List GItem)} {res:Bool} {h:AH}  (hF:leafXtwice l0=some res):Spec Tryz.prog 124 [.sl 5 (l0.map GItem.row)] h (fun rr hh=>rr=.bool res∧hh=h):=by
 unfold leafXtwice at hF
 refine zt Tryz.func124 rfl (by kernel_rfl) (env:=[.sl 5 (l0.map GItem.row),za,za,za,za,za,za,za,za,za,za,za,za,za,za,za,za,za,za,za,za,za,za,za,za,za]) (by rfl) ?_
 refine zk (zd ?_)
 refine zc rfl (zi rfl rfl (zb rfl)) xh ?_
 refine ze (zj (zk (zd ?_)))
 refine zc rfl (e_makeMap (n:=0) rfl rfl) xE ?_
 refine zc rfl (zi rfl yU (zb rfl)) wo ?_
 refine ze (zj (zk (zk (zd ?_))))
 refine zc rfl (zf rfl yr (zb rfl)) xO ?_
 refine yb rfl (zS rfl rfl rfl rfl qj xH yc) xX fun hn1=>?_
 replace hn1:=xl hn1
 refine zc rfl (zf rfl rfl (zb rfl)) wB ?_
 refine ze (zj (zQ ?_))
 refine yo (fun (n1:Nat) (s1:List (GDot×Int))=>yO [1,2,4,5,6,10,11,12,13,14,15,16,17,18,19,20,21,22,23,24,25] [(9,.int .i64 (n1:Int))]) (fun s1=>h.ext [.mapo (s1.map (qb (fun x=>AV.agg (GDot.row x)) (AV.int .i64))) 0] []) hF (fun _ _=>by simp only [yO,upd,List.set_cons_succ,List.set_cons_zero];try rfl) (wk.le (by exact (.eq (.drop (.drop (.eq (.drop (.drop (.drop (.eq (.eq (.cons (leV.of_eq rfl) (.d16 leL.nil))))))))))))) ?_
 intro n1 s1 hi1 hF
 refine zk (zd ?_)
 refine zc rfl (zy rfl xV xj rfl) yL ?_
 refine ze (zj (zk ?_))
 refine yJ yq hF (fun x1 o1 hl1 hx1 hF hK1=>?_) (fun hF=>?_)
 ·refine zK (zj (zk (zQ (zk (zd ?_)))))
  refine zc rfl (yj rfl qj xH xV w7 (yK hx1)) yP ?_
  refine zc rfl (ye rfl ty87.choose_spec.1 yA (zH (cs':=[.int .u64 x1.time,.int .u8 x1.dot.actor.rep,.int .u32 x1.dot.actor.inc,.int .u64 x1.dot.seq,.str x1.text]) ty87.choose_spec.2 rfl rfl) (zb rfl)) yX ?_
  refine zc rfl (y4 (n:=1) rfl ze87 rfl) xz ?_
  refine zc rfl (yg (cs':=[.int .u64 x1.time,.int .u8 x1.dot.actor.rep,.int .u32 x1.dot.actor.inc,.int .u64 x1.dot.seq,.str x1.text]) rfl ty87.choose_spec.1 yS yM (zb rfl) rfl rfl rfl rfl rfl) rfl ?_
  refine ze (zj ?_)
  refine r_drawnF [3] (fun _=>MapE h 0 (s1.map (qb (fun x=>AV.agg (GDot.row x)) (AV.int .i64))) ((ment GDot.eqb (0:Int) s1 x1.dot).map (qb (fun x=>AV.agg (GDot.row x)) (AV.int .i64)))) (fun _=>⟨_,_,rfl,.inl rfl⟩) mixed (by kernel_rfl) ?_
  refine zq rfl rfl (zf rfl xn (zb rfl)) yW ?_
  refine zq rfl rfl (zg rfl fo87x1 yS rfl) y5 ?_
  refine zq rfl rfl (zu rfl ty44.choose_spec.1 yY rfl (zH (cs':=[.int .u8 x1.dot.actor.rep,.int .u32 x1.dot.actor.inc,.int .u64 x1.dot.seq]) ty44.choose_spec.2 rfl rfl) (zb rfl)) y6 ?_
  refine draw_okN rfl rfl (e_lookupF (m:=s1) (k:=x1.dot) (d:=(0:Int)) (j:=0) (kv:=(fun x=>AV.agg (GDot.row x))) (vv:=(AV.int .i64)) rfl Tryz.underlying175 kq44 az3 yC yT) xg ?_
  refine zq rfl rfl (zy rfl xd rfl rfl) xk ?_
  refine yZ rfl (FOk.all ⟨_,_,rfl,.inr rfl⟩) (by kernel_rfl) rfl (e_entry (m:=s1) (k:=x1.dot) (d:=(0:Int)) (j:=0) (kv:=(fun x=>AV.agg (GDot.row x))) (vv:=(AV.int .i64)) rfl Tryz.underlying175 kq44 az3 yC rfl yT rfl) xD ?_
  refine zq rfl rfl (yn rfl xB rfl (zb rfl)) xK ?_
  refine yZ rfl (FOk.skip (by kernel_rfl)) (by kernel_rfl) rfl (e_entryStore (m:=s1) (k:=x1.dot) (d:=(0:Int)) (v:=(IntKind.wrap .i64 ((zI GDot.eqb (0:Int) s1 x1.dot)+(1:Int)))) (j:=0) (eq:=GDot.eqb) (kv:=(fun x=>AV.agg (GDot.row x))) (vv:=(AV.int .i64)) rfl yC rfl xJ rfl xi rfl rfl) rfl ?_
  refine ym ?_
  refine yh (zj (zd ?_))
  refine zc rfl (zy rfl xV rfl rfl) xY ?_
  refine zc rfl (zf rfl xZ (zb rfl)) wB ?_
  refine ze (yH ?_)
  obtain rfl:=Option.some.inj hF
  exact ⟨(mput GDot.eqb s1 x1.dot (IntKind.wrap .i64 ((zI GDot.eqb (0:Int) s1 x1.dot)+(1:Int)))),hl1,hK1,wk.trans (wk.le (by exact (.eq (.drop (.drop (.eq (.drop (.drop (.drop (.eq (.eq (.cons (leV.of_eq (w8 (by omega) (by omega))) (.d16 leL.nil))))))))))))) (xI (by simp [yi,AV.low]) rfl rfl (by simp [Blk.low,yi,AV.low,GDot.row,qb]))⟩
 ·refine yR ?_
  refine ya ?_
  refine zV ?_
  refine zW ?_
  refine zj (zk (zd ?_))
  refine zc rfl (zf rfl xn (zb rfl)) x7 ?_
  refine ops_mlen (m:=s1) (j:=0) (kv:=(fun x=>AV.agg (GDot.row x))) (vv:=(AV.int .i64)) rfl rfl rfl rfl rfl Tryz.underlying175 x5 rfl wl ?_
  refine zc rfl (zf rfl yr (zb rfl)) x6 ?_
  refine yb rfl (zS rfl rfl rfl rfl qj xN yc) wh fun hn7=>?_
  replace hn7:=xl hn7
  refine zc rfl (zy rfl wi wc rfl) wj ?_
  refine zc rfl (zi rfl wb (zb rfl)) xh ?_
  refine ze (zj (zL ?_))
  obtain rfl:=Option.some.inj hF
  refine zA rfl (zD yV zG) (zz (leV.refl _) rfl ?_)
  exact ⟨rfl,rfl⟩
/-! varve/leaf.isTime -/
theorem ok93 {n0:Int} {res:Bool} {h:AH}  (hF:leafXisTime n0=some res):Spec Tryz.prog 93 [.int .u64 n0] h (fun rr hh=>rr=.bool res∧hh=h):=by
 unfold leafXisTime at hF
 refine zt Tryz.func93 rfl (by kernel_rfl) (env:=[.int .u64 n0,za,za,za,za,za,za,za,za]) (by rfl) ?_
 refine zk (zd ?_)
 refine zc rfl (zi rfl rfl (zb rfl)) xh ?_
 refine ze (zj (zk (zd ?_)))
 refine zc rfl (zf rfl yr (zb rfl)) wo ?_
 refine zc rfl (zy rfl xn rfl rfl) yB ?_
 refine zc rfl (zf rfl yz (zb rfl)) xz ?_
 refine zp rfl (fun hb=>zf rfl yr (zb rfl)) xE ?_
 refine zp rfl (fun hb=>zy rfl (zn yU hb) rfl rfl) xO ?_
 refine zc rfl (zM rfl yS xH rfl (zX (fun ht=>gT ht))) xX ?_
 refine zc rfl (zi rfl xj (zb rfl)) xh ?_
 refine ze (zj (zL ?_))
 obtain rfl:=Option.some.inj hF
 refine zA rfl (zD yV zG) (zz (leV.refl _) rfl ?_)
 exact ⟨rfl,rfl⟩
/-! varve/dot.MayActor -/
theorem ok122 {a0:GActor} {res:Bool} {h:AH}  (hF:dotMayActor a0=some res):Spec Tryz.prog 122 [.agg [.int .u8 a0.rep,.int .u32 a0.inc]] h (fun rr hh=>rr=.bool res∧hh=h):=by
 unfold dotMayActor at hF
 refine zt Tryz.func122 rfl (by kernel_rfl) (env:=[.agg [.int .u8 a0.rep,.int .u32 a0.inc],za,za,za,za,za,za,za,za,za,za,za,za,za,za,za]) (by rfl) ?_
 refine zk (zd ?_)
 refine zc rfl (xw (n:=0) rfl yr (zb rfl) rfl rfl) st1 ?_
 refine zc rfl (zi rfl rfl (zb rfl)) xh ?_
 refine ze (zj (zk (zd ?_)))
 refine zc rfl (zg rfl fo42x0 yF rfl) wo ?_
 refine zc rfl (zu rfl ty5 xn rfl (zr rfl) (zb rfl)) yB ?_
 refine zc rfl (zy rfl yz rfl rfl) xz ?_
 refine zc rfl (zf rfl yS (zb rfl)) xE ?_
 refine zp rfl (fun hb=>zg rfl fo42x1 yF rfl) xO ?_
 refine zp rfl (fun hb=>zu rfl ty40 (zn xH hb) rfl (zr rfl) (zb rfl)) xX ?_
 refine zp rfl (fun hb=>zy rfl (zn xj hb) rfl rfl) wB ?_
 refine zc rfl (zM rfl yU xV rfl (zX (fun ht=>gT ht))) yL ?_
 refine zc rfl (zf rfl yq (zb rfl)) yP ?_
 refine zp rfl (fun hb=>zg rfl fo42x1 yF rfl) yX ?_
 refine zp rfl (fun hb=>zu rfl ty40 (zn yM hb) rfl (zr rfl) (zb rfl)) yW ?_
 refine zp rfl (fun hb=>zy rfl (zn yC hb) rfl rfl) y5 ?_
 refine zc rfl (zM rfl yA yY rfl (zX (fun ht=>gT ht))) y6 ?_
 refine zc rfl (zi rfl yT (zb rfl)) xh ?_
 refine ze (zj (zL ?_))
 obtain rfl:=Option.some.inj hF
 refine zA rfl (zD yV zG) (zz (leV.refl _) rfl ?_)
 exact ⟨rfl,rfl⟩
/-! varve/dot.May -/
theorem ok94 {d0:GDot} {res:Bool} {h:AH}  (hF:dotMay d0=some res):Spec Tryz.prog 94 [.agg [.int .u8 d0.actor.rep,.int .u32 d0.actor.inc,.int .u64 d0.seq]] h (fun rr hh=>rr=.bool res∧hh=h):=by
 unfold dotMay at hF
 refine zt Tryz.func94 rfl (by kernel_rfl) (env:=[.agg [.int .u8 d0.actor.rep,.int .u32 d0.actor.inc,.int .u64 d0.seq],za,za,za,za,za,za,za,za,za,za,za,za,za,za,za]) (by rfl) ?_
 refine zk (zd ?_)
 refine zc rfl (xw (n:=0) rfl yr (zb rfl) rfl rfl) st1 ?_
 refine zc rfl (zi rfl rfl (zb rfl)) xh ?_
 refine ze (zj (zk (zd ?_)))
 refine zc rfl (zg rfl fo44x0 yF rfl) wo ?_
 refine zc rfl (zu rfl ty42.choose_spec.1 xn rfl (zH (cs':=[.int .u8 d0.actor.rep,.int .u32 d0.actor.inc]) ty42.choose_spec.2 rfl rfl) (zb rfl)) yB ?_
 refine zR hF (fun v1 hv1 hF=>?_)
 refine zN rfl (zC rfl rfl rfl (zo yz zw) (.cons (zb rfl) .nil)) (ok122 hv1) xz ?_
 refine zc rfl (zf rfl yS (zb rfl)) xE ?_
 refine zp rfl (fun hb=>zg rfl fo44x1 yF rfl) xO ?_
 refine zp rfl (fun hb=>zu rfl ty39 (zn xH hb) rfl (zr rfl) (zb rfl)) xX ?_
 refine zp rfl (fun hb=>zy rfl (zn xj hb) rfl rfl) wB ?_
 refine zc rfl (zM rfl yU xV rfl (zX (fun ht=>gT ht))) yL ?_
 refine zc rfl (zf rfl yq (zb rfl)) yP ?_
 refine zp rfl (fun hb=>zg rfl fo44x1 yF rfl) yX ?_
 refine zp rfl (fun hb=>zu rfl ty39 (zn yM hb) rfl (zr rfl) (zb rfl)) yW ?_
 refine zp rfl (fun hb=>zy rfl (zn yC hb) rfl rfl) y5 ?_
 refine zc rfl (zM rfl yA yY rfl (zX (fun ht=>gT ht))) y6 ?_
 refine zc rfl (zi rfl yT (zb rfl)) xh ?_
 refine ze (zj (zL ?_))
 obtain rfl:=Option.some.inj hF
 refine zA rfl (zD yV zG) (zz (leV.refl _) rfl ?_)
 exact ⟨rfl,rfl⟩
/-! varve/leaf.isText -/
theorem ok95 {s0:zJ} {res:Bool} {h:AH}  (hF:leafXisText s0=some res):Spec Tryz.prog 95 [.str s0] h (fun rr hh=>rr=.bool res∧hh=h):=by
 unfold leafXisText at hF
 refine zt Tryz.func95 rfl (by kernel_rfl) (env:=[.str s0,za,za,za,za,za]) (by rfl) ?_
 refine zk (zd ?_)
 refine zc rfl (zi rfl rfl (zb rfl)) xh ?_
 refine ze (zj (zk (zd ?_)))
 refine zc rfl (zf rfl yr (zb rfl)) wo ?_
 refine yb rfl (qa rfl rfl rfl rfl ty9 xn) yB fun hn1=>?_
 replace hn1:=xl hn1
 refine zc rfl (zy rfl yz rfl rfl) xz ?_
 refine zc rfl (zi rfl yS (zb rfl)) xh ?_
 refine ze (zj (zL ?_))
 obtain rfl:=Option.some.inj hF
 refine zA rfl (zD yV zG) (zz (leV.refl _) rfl ?_)
 exact ⟨rfl,rfl⟩
/-! varve/leaf.items -/
theorem ok96 {l0:(List GItem)} {timed1:Bool} {res:Bool} {h:AH}  (hF:leafXitems l0 timed1=some res):Spec Tryz.prog 96 [.sl 5 (l0.map GItem.row),.bool timed1] h (fun rr hh=>rr=.bool res∧hh=h):=by
 unfold leafXitems at hF
 refine zt Tryz.func96 rfl (by kernel_rfl) (env:=[.sl 5 (l0.map GItem.row),.bool timed1,za,za,za,za,za,za,za,za,za,za,za,za,za,za,za,za,za,za,za,za,za,za,za,za,za,za,za,za,za,za,za,za,za,za,za,za,za,za,za,za,za,za,za,za,za,za,za,za,za,za,za,za,za,za,za,za,za,za,za,za,za,za,za,za]) (by rfl) ?_
 refine zk (zd ?_)
 refine zc rfl (zi rfl rfl (zb rfl)) yB ?_
 refine ze (zj (zk (zk (zd ?_))))
 refine zc rfl (zf rfl yr (zb rfl)) xO ?_
 refine yb rfl (zS rfl rfl rfl rfl qj xH yc) xX fun hn1=>?_
 replace hn1:=xl hn1
 refine zc rfl (zf rfl rfl (zb rfl)) wB ?_
 refine ze (zj (zQ ?_))
 refine yo (fun (n1:Nat) (s1:Unit)=>yO [2,3,4,5,6,10,11,12,13,14,15,16,17,18,19,20,21,22,23,24,25,26,27,28,29,30,31,32,33,34,35,36,37,38,39,40,41,42,43,44,45,46,47,48,49,50,51,52,53,54,55,56,57,58,59,60,61,62,63,64,65] [(9,.int .i64 (n1:Int))]) (fun s1=>h.ext [] []) hF (fun _ _=>by simp only [yO,upd,List.set_cons_succ,List.set_cons_zero];try rfl) (wk.le (by exact (.eq (.eq (.d4 (.drop (.eq (.eq (.cons (leV.of_eq rfl) (.d16 (.d16 (.d16 (.d4 (.d4 leL.nil)))))))))))))) ?_
 intro n1 s1 hi1 hF
 refine zk (zd ?_)
 refine zc rfl (zy rfl xV xj rfl) yL ?_
 refine ze (zj (zk ?_))
 refine yJ yq hF (fun x1 o1 hl1 hx1 hF hK1=>?_) (fun hF=>?_)
 ·refine zK (zj (zk (zQ (zk (zd ?_)))))
  refine zc rfl (zf rfl xV (zb rfl)) yP ?_
  refine zc rfl (yj rfl qj xH xV w7 (yK hx1)) yX ?_
  refine zc rfl (ye rfl ty87.choose_spec.1 yM (zH (cs':=[.int .u64 x1.time,.int .u8 x1.dot.actor.rep,.int .u32 x1.dot.actor.inc,.int .u64 x1.dot.seq,.str x1.text]) ty87.choose_spec.2 rfl rfl) (zb rfl)) yW ?_
  refine zc rfl (y4 (n:=0) rfl ze87 rfl) xE ?_
  refine zc rfl (zi rfl yA (zb rfl)) xz ?_
  refine zc rfl (yg (cs':=[.int .u64 x1.time,.int .u8 x1.dot.actor.rep,.int .u32 x1.dot.actor.inc,.int .u64 x1.dot.seq,.str x1.text]) rfl ty87.choose_spec.1 yU yC (zb rfl) rfl rfl rfl rfl rfl) rfl ?_
  refine ze (zj (zk (zk (zd ?_))))
  refine zc rfl (zg rfl fo87x1 yU rfl) y5 ?_
  refine zc rfl (zu rfl ty44.choose_spec.1 yY rfl (zH (cs':=[.int .u8 x1.dot.actor.rep,.int .u32 x1.dot.actor.inc,.int .u64 x1.dot.seq]) ty44.choose_spec.2 rfl rfl) (zb rfl)) y6 ?_
  refine zR hF (fun v13 hv13 hF=>?_)
  refine zN rfl (zC rfl rfl rfl (zo yT zw) (.cons (zb rfl) .nil)) (ok94 hv13) xg ?_
  refine zc rfl (xR rfl xd rfl) xk ?_
  refine zc rfl (zf rfl xi (zb rfl)) xD ?_
  refine zp rfl (fun hb=>zg rfl fo87x2 yU rfl) xK ?_
  refine zp rfl (fun hb=>zu rfl ty9 (zn xJ hb) rfl (zr rfl) (zb rfl)) xY ?_
  refine yN hF (fun v14 hv14 hF=>?_)
  refine yk rfl (fun hb=>zC rfl rfl rfl (zo (zn xZ hb) zw) (.cons (zb rfl) .nil)) (fun hb=>ok95 (hv14 hb)) x7 ?_
  refine zp rfl (fun hb=>xR rfl (zn x5 hb) rfl) wl ?_
  refine zc rfl (zM rfl xB rfl wi (z8 (fun ht=>gF ht))) x6 ?_
  refine zc rfl (zf rfl xN (zb rfl)) wh ?_
  refine zp rfl (fun hb=>zf rfl yF (zb rfl)) wj ?_
  refine zp rfl (fun hb=>zg rfl fo87x0 yU rfl) wF ?_
  refine zp rfl (fun hb=>zu rfl ty39 (zn wE hb) rfl (zr rfl) (zb rfl)) wM ?_
  refine yN hF (fun v15 hv15 hF=>?_)
  refine yk rfl (fun hb=>zC rfl rfl rfl (zo (zn wN hb) zw) (.cons (zb rfl) .nil)) (fun hb=>ok93 (hv15 hb)) wL ?_
  refine zp rfl (fun hb=>zy rfl (zn wb hb) (zn wH hb) (bin_boolN ty4)) wW ?_
  refine zc rfl (zM rfl wc rfl w6 (z8 (fun ht=>gF ht))) wV ?_
  refine zc rfl (zf rfl vg (zb rfl)) wU ?_
  refine zp rfl (fun hb=>zf rfl yF (zb rfl)) vl ?_
  refine zp rfl (fun hb=>xR rfl (zn vf hb) rfl) vk ?_
  refine zp rfl (fun hb=>zf rfl (zn vt hb) (zb rfl)) vb ?_
  refine zp (z7 rfl rfl rfl) (fun hb=>zg rfl fo87x0 yU rfl) va ?_
  refine zp (z7 rfl rfl rfl) (fun hb=>zu rfl ty39 (zn ve hb) rfl (zr rfl) (zb rfl)) w9 ?_
  refine zp (z7 rfl rfl rfl) (fun hb=>zy rfl (zn wY hb) rfl rfl) vj ?_
  refine zp rfl (fun hb=>zM rfl (zn wZ hb) wX rfl (zX (fun ht=>gT2 hb ht))) vI ?_
  refine zc rfl (zM rfl w5 rfl vM (z8 (fun ht=>gF ht))) vA ?_
  refine ze (zj ?_)
  refine zO vr hF (fun hc16 hF=>?_) (fun hc16 hF=>?_)
  ·refine zk (zd ?_)
   refine zc rfl (zi rfl rfl (zb rfl)) yB ?_
   refine ze (zj (zL (zx ?_)))
   refine zF ?_
   refine zx ?_
   refine yd ?_
   obtain rfl:=Option.some.inj hF
   replace hF:=hK1
   refine zF ?_
   refine zx ?_
   obtain rfl:=Option.some.inj hF
   refine zA rfl (zD yz zG) (zz (leV.refl _) rfl ?_)
   exact ⟨rfl,rfl⟩
  ·refine zK (zj (zk ?_))
   refine yI [] [] trivial mixed (by kernel_rfl) ?_
   refine zq rfl rfl (zf rfl yS (zb rfl)) (sk st0) ?_
   refine zq rfl rfl (zy rfl (gk yr) rfl rfl) (sk st1) ?_
   refine zq rfl rfl (zf rfl (gk yF) (zb rfl)) (sk xh) ?_
   refine zB rfl rfl (fun hb=>zf rfl yr (zb rfl)) (sk wo) ?_
   refine zB rfl rfl (fun hb=>zf rfl yS (zb rfl)) (sk yB) ?_
   refine zB rfl rfl (fun hb=>zy rfl (zn (gk yz) hb) rfl rfl) (sk xz) ?_
   refine wS hF (fun hg17 hF=>?_)
   refine zB rfl rfl (fun hb=>xT default rfl qj (zn (gk xn) hb) (zn (gk yS) hb) w7 (hg17 hb)) (sk xE) ?_
   refine zB rfl rfl (fun hb=>zg rfl fo87x0 (zn (gk yU) hb) rfl) (sk xO) ?_
   refine zB rfl rfl (fun hb=>ye rfl ty39 (zn (gk xH) hb) (zr rfl) (zb rfl)) (sk xX) ?_
   refine zB rfl rfl (fun hb=>zf rfl yr (zb rfl)) (sk wB) ?_
   refine zB rfl rfl (fun hb=>zf rfl yS (zb rfl)) (sk yL) ?_
   refine zB rfl rfl (fun hb=>zy rfl (zn (gk yq) hb) rfl rfl) (sk yP) ?_
   refine wS hF (fun hg18 hF=>?_)
   refine zB rfl rfl (fun hb=>xT default rfl qj (zn (gk xV) hb) (zn (gk yA) hb) w7 (hg18 hb)) (sk yX) ?_
   refine zB rfl rfl (fun hb=>zg rfl fo87x1 (zn (gk yM) hb) rfl) (sk yW) ?_
   refine zB rfl rfl (fun hb=>ye rfl ty44.choose_spec.1 (zn (gk yC) hb) (zH (cs':=[.int .u8 (((l0).getD (IntKind.wrap .i64 ((n1:Int) - (1:Int))).toNat default).dot.actor.rep),.int .u32 (((l0).getD (IntKind.wrap .i64 ((n1:Int) - (1:Int))).toNat default).dot.actor.inc),.int .u64 (((l0).getD (IntKind.wrap .i64 ((n1:Int) - (1:Int))).toNat default).dot.seq)]) ty44.choose_spec.2 rfl rfl) (zb rfl)) (sk y5) ?_
   refine zB rfl rfl (fun hb=>zg rfl fo87x0 yU rfl) (sk y6) ?_
   refine zB rfl rfl (fun hb=>zu rfl ty39 (zn (gk yT) hb) rfl (zr rfl) (zb rfl)) (sk xg) ?_
   refine zB rfl rfl (fun hb=>zg rfl fo87x1 yU rfl) (sk xk) ?_
   refine zB rfl rfl (fun hb=>zu rfl ty44.choose_spec.1 (zn (gk xi) hb) rfl (zH (cs':=[.int .u8 x1.dot.actor.rep,.int .u32 x1.dot.actor.inc,.int .u64 x1.dot.seq]) ty44.choose_spec.2 rfl rfl) (zb rfl)) (sk xD) ?_
   refine yN hF (fun v19 hv19 hF=>?_)
   refine vC rfl rfl (fun hb=>zC rfl rfl rfl (zo (zn (gk xj) hb) (zo (zn (gk yY) hb) (zo (zn (gk xd) hb) (zo (zn (gk xB) hb) zw)))) (.cons (zb rfl) (.cons (zb rfl) (.cons (zb rfl) (.cons (zb rfl) .nil))))) (fun hb=>ok123 (hv19 hb)) (sk xK) ?_
   refine zB rfl rfl (fun hb=>xR rfl (zn (gk xJ) hb) rfl) (sk xY) ?_
   refine zq rfl rfl (zM rfl (gk yV) (gk xZ) rfl (zX (fun ht=>gT ht))) (sk x7) ?_
   refine ym ?_
   refine zj ?_
   refine zO (gk x5) hF (fun hc20 hF=>?_) (fun hc20 hF=>?_)
   ·refine zk (zd ?_)
    refine zc rfl (zi rfl rfl (zb rfl)) yB ?_
    refine ze (zj (zL ?_))
    refine zF ?_
    refine zx ?_
    refine yd ?_
    obtain rfl:=Option.some.inj hF
    replace hF:=hK1
    refine zF ?_
    refine zx ?_
    obtain rfl:=Option.some.inj hF
    refine zA rfl (zD yz zG) (zz (leV.refl _) rfl ?_)
    exact ⟨rfl,rfl⟩
   ·refine zK (yh (zj (zd ?_)))
    refine zc rfl (zy rfl xV rfl rfl) (sk wl) ?_
    refine zc rfl (zf rfl (gk wi) (zb rfl)) wB ?_
    refine ze (yH ?_)
    obtain rfl:=Option.some.inj hF
    exact ⟨(),hl1,hK1,wk.trans (wk.le (by exact (.eq (.eq (.d4 (.drop (.eq (.eq (.cons (leV.of_eq (w8 (by omega) (by omega))) (.d16 (.d16 (.d16 (.d4 (.d4 leL.nil)))))))))))))) (xI (by simp [yi,AV.low]) rfl rfl (by simp [Blk.low,yi,AV.low]))⟩
 ·refine yR ?_
  refine ya ?_
  refine zV ?_
  refine zW ?_
  refine zj (zk (zd ?_))
  refine zc rfl (zf rfl yr (zb rfl)) (sk x6) ?_
  refine zR hF (fun v21 hv21 hF=>?_)
  refine zN rfl (zC rfl rfl rfl (zo (gk xN) zw) (.cons (zb rfl) .nil)) (ok124 hv21) (sk wh) ?_
  refine zc rfl (xR rfl (gk wc) rfl) (sk wj) ?_
  refine zc rfl (zi rfl (gk wb) (zb rfl)) yB ?_
  refine ze (zj (zL ?_))
  obtain rfl:=Option.some.inj hF
  refine zA rfl (zD yz zG) (zz (leV.refl _) rfl ?_)
  exact ⟨rfl,rfl⟩
/-! slices.IndexFunc[[]varve/api.Item,varve/api.Item] -/
theorem ok148 {s0:(List GItem)} {f1:(GItem→Option Bool)} {ff1:FuncId} {af1 kf1:List AV} {res:Int} {h:AH} (hf1:∀ x0 v (L:List Blk) (M:List Nat),f1 x0=some v→Spec Tryz.prog ff1 (af1++[.agg [.int .u64 x0.time,.int .u8 x0.dot.actor.rep,.int .u32 x0.dot.actor.inc,.int .u64 x0.dot.seq,.str x0.text]]++kf1) (h.ext L M) (fun rr hh=>rr=.bool v∧hh=h.ext L M)) (hF:vF s0 f1=some res):Spec Tryz.prog 148 [.sl 5 (s0.map GItem.row),.fn (.func ff1) af1 kf1] h (fun rr hh=>rr=.int .i64 res∧hh=h):=by
 unfold vF at hF
 refine yG Tryz.func148 rfl (by kernel_rfl) (env:=[.sl 5 (s0.map GItem.row),.fn (.func ff1) af1 kf1,za,za,za,za,za,za,za,za,za,za,za,za,za,za,za,za,za]) (by rfl) (fun hlow hC=>?_)
 simp only [yi,AV.low,Bool.and_eq_true,Bool.true_and,and_true] at hlow
 have hlaf1:∀ n m,h.blks.length≤n→h.toks.length≤m→yi n m af1=true:=fun n m h1 h2=>y8 h1 h2 _ (by simp [hlow])
 have hlkf1:∀ n m,h.blks.length≤n→h.toks.length≤m→yi n m kf1=true:=fun n m h1 h2=>y8 h1 h2 _ (by simp [hlow])
 refine zk (zd ?_)
 refine zc rfl (zi rfl rfl (zb rfl)) yB ?_
 refine ze (zj (zk (zk (zd ?_))))
 refine zc rfl (zf rfl yr (zb rfl)) xE ?_
 refine yb rfl (zS rfl rfl rfl rfl qj yU yc) xO fun hn1=>?_
 replace hn1:=xl hn1
 refine zc rfl (zf rfl rfl (zb rfl)) xX ?_
 refine ze (zj (zQ ?_))
 refine yo (fun (n1:Nat) (s1:Unit)=>yO [2,3,4,5,6,9,10,11,12,13,14,15,16,17,18] [(8,.int .i64 (n1:Int))]) (fun s1=>h.ext [] []) hF (fun _ _=>by simp only [yO,upd,List.set_cons_succ,List.set_cons_zero];try rfl) (wk.le (by exact (.eq (.eq (.d4 (.drop (.eq (.cons (leV.of_eq rfl) (.d4 (.d4 (.drop (.drop leL.nil)))))))))))) ?_
 intro n1 s1 hi1 hF
 refine zk (zd ?_)
 refine zc rfl (zy rfl xj xH rfl) wB ?_
 refine ze (zj (zk ?_))
 refine yJ xV hF (fun x1 o1 hl1 hx1 hF hK1=>?_) (fun hF=>?_)
 ·refine zK (zj (zk (zQ (zk (zd ?_)))))
  refine zc rfl (zf rfl xj (zb rfl)) yL ?_
  refine zc rfl (zi rfl yq (zb rfl)) xz ?_
  refine ze (zj (zk (zd ?_)))
  refine zc rfl (zf rfl yF (zb rfl)) yP ?_
  refine zc rfl (zf rfl yr (zb rfl)) yX ?_
  refine zc rfl (zf rfl yS (zb rfl)) yW ?_
  refine zc rfl (yj rfl qj yM yC w7 (yK hx1)) y5 ?_
  refine zc rfl (ye rfl ty87.choose_spec.1 yY (zH (cs':=[.int .u64 x1.time,.int .u8 x1.dot.actor.rep,.int .u32 x1.dot.actor.inc,.int .u64 x1.dot.seq,.str x1.text]) ty87.choose_spec.2 rfl rfl) (zb rfl)) y6 ?_
  refine zR hF (fun v7 hv7 hF=>?_)
  refine zN rfl (s_callC rfl rfl yA (zo yT zw) (.cons (zb rfl) .nil) rfl) (hf1 _ _ _ _ hv7) xg ?_
  refine ze (zj ?_)
  refine zO xd hF (fun hc8 hF=>?_) (fun hc8 hF=>?_)
  ·refine zk (zd ?_)
   refine zc rfl (zf rfl yS (zb rfl)) xk ?_
   refine zc rfl (zi rfl xi (zb rfl)) yB ?_
   refine ze (zj (zL ?_))
   refine zF ?_
   refine zx ?_
   refine yd ?_
   obtain rfl:=Option.some.inj hF
   replace hF:=hK1
   refine zF ?_
   refine zx ?_
   obtain rfl:=Option.some.inj hF
   refine zA rfl (zD yz zG) (zz (leV.refl _) rfl ?_)
   exact ⟨rfl,rfl⟩
  ·refine zK (yh (zj (zd ?_)))
   refine zc rfl (zy rfl xj rfl rfl) xD ?_
   refine zc rfl (zf rfl xB (zb rfl)) xX ?_
   refine ze (yH ?_)
   obtain rfl:=Option.some.inj hF
   exact ⟨(),hl1,hK1,wk.le (by exact (.eq (.eq (.d4 (.drop (.eq (.cons (leV.of_eq (w8 (by omega) (by omega))) (.d4 (.d4 (.drop (.drop leL.nil)))))))))))⟩
 ·refine yR ?_
  refine ya ?_
  refine zV ?_
  refine zW ?_
  refine zj (zk (zd ?_))
  refine zc rfl (zi rfl rfl (zb rfl)) yB ?_
  refine ze (zj (zL ?_))
  obtain rfl:=Option.some.inj hF
  refine zA rfl (zD yz zG) (zz (leV.refl _) rfl ?_)
  exact ⟨rfl,rfl⟩
/-! slices.ContainsFunc[[]varve/api.Item,varve/api.Item] -/
theorem ok142 {s0:(List GItem)} {f1:(GItem→Option Bool)} {ff1:FuncId} {af1 kf1:List AV} {res:Bool} {h:AH} (hf1:∀ x0 v (L:List Blk) (M:List Nat),f1 x0=some v→Spec Tryz.prog ff1 (af1++[.agg [.int .u64 x0.time,.int .u8 x0.dot.actor.rep,.int .u32 x0.dot.actor.inc,.int .u64 x0.dot.seq,.str x0.text]]++kf1) (h.ext L M) (fun rr hh=>rr=.bool v∧hh=h.ext L M)) (hF:x8 s0 f1=some res):Spec Tryz.prog 142 [.sl 5 (s0.map GItem.row),.fn (.func ff1) af1 kf1] h (fun rr hh=>rr=.bool res∧hh=h):=by
 unfold x8 at hF
 refine yG Tryz.func142 rfl (by kernel_rfl) (env:=[.sl 5 (s0.map GItem.row),.fn (.func ff1) af1 kf1,za,za,za,za,za,za,za]) (by rfl) (fun hlow hC=>?_)
 simp only [yi,AV.low,Bool.and_eq_true,Bool.true_and,and_true] at hlow
 have hlaf1:∀ n m,h.blks.length≤n→h.toks.length≤m→yi n m af1=true:=fun n m h1 h2=>y8 h1 h2 _ (by simp [hlow])
 have hlkf1:∀ n m,h.blks.length≤n→h.toks.length≤m→yi n m kf1=true:=fun n m h1 h2=>y8 h1 h2 _ (by simp [hlow])
 refine zk (zd ?_)
 refine zc rfl (zi rfl rfl (zb rfl)) yB ?_
 refine ze (zj (zk (zd ?_)))
 refine zc rfl (zf rfl yr (zb rfl)) xz ?_
 refine zc rfl (zf rfl yF (zb rfl)) xE ?_
 refine zR hF (fun v1 hv1 hF=>?_)
 refine zN rfl (zC rfl rfl rfl (zo yS (zo yU zw)) (.cons (zb rfl) (.cons (zb rfl) .nil))) (ok148 (fun x0 v L M hv=>by rw [ww];exact hf1 x0 v _ _ hv) hv1) xO ?_
 refine zc rfl (zy rfl xH rfl rfl) xX ?_
 refine zc rfl (zi rfl xj (zb rfl)) yB ?_
 refine ze (zj (zL ?_))
 obtain rfl:=Option.some.inj hF
 refine zA rfl (zD yz zG) (zz (leV.refl _) rfl ?_)
 exact ⟨rfl,rfl⟩
/-! varve/leaf.has 1 -/
theorem ok143 {x0:GItem} {c0:GDot} {i0:Nat} {res:Bool} {h:AH} (hb0:h.blk i0=some (.cells [.int .u8 c0.actor.rep,.int .u32 c0.actor.inc,.int .u64 c0.seq])) (hF:leafXhasC1 x0 c0=some res):Spec Tryz.prog 143 [.agg [.int .u64 x0.time,.int .u8 x0.dot.actor.rep,.int .u32 x0.dot.actor.inc,.int .u64 x0.dot.seq,.str x0.text],.ptr i0 0] h (fun rr hh=>rr=.bool res∧hh=h):=by
 unfold leafXhasC1 at hF
 refine zt Tryz.func143 rfl (by kernel_rfl) (env:=[.agg [.int .u64 x0.time,.int .u8 x0.dot.actor.rep,.int .u32 x0.dot.actor.inc,.int .u64 x0.dot.seq,.str x0.text],.ptr i0 0,za,za,za,za,za,za]) (by rfl) ?_
 refine zk (zd ?_)
 refine zc rfl (xw (n:=0) rfl yr (zb rfl) rfl rfl) xh ?_
 refine zc rfl (zi rfl rfl (zb rfl)) wo ?_
 refine ze (zj (zk (zd ?_)))
 refine zc rfl (zg rfl fo87x1 yV rfl) yB ?_
 refine zc rfl (zu rfl ty44.choose_spec.1 yz rfl (zH (cs':=[.int .u8 x0.dot.actor.rep,.int .u32 x0.dot.actor.inc,.int .u64 x0.dot.seq]) ty44.choose_spec.2 rfl rfl) (zb rfl)) xz ?_
 refine zc rfl (b_load rfl ty44.choose_spec.1 yF hb0 (zH (cs':=[.int .u8 c0.actor.rep,.int .u32 c0.actor.inc,.int .u64 c0.seq]) ty44.choose_spec.2 rfl rfl) (zb rfl)) xE ?_
 refine zc rfl (zy rfl yS yU (bin_eq pk44 rfl)) xO ?_
 refine zc rfl (zi rfl xH (zb rfl)) wo ?_
 refine ze (zj (zL ?_))
 obtain rfl:=Option.some.inj hF
 refine zA rfl (zD xn zG) (zz (leV.refl _) rfl ?_)
 exact ⟨rfl,rfl⟩
/-! varve/leaf.has -/
theorem ok126 {l0:(List GItem)} {d1:GDot} {res:Bool} {h:AH}  (hF:leafXhas l0 d1=some res):Spec Tryz.prog 126 [.sl 5 (l0.map GItem.row),.agg [.int .u8 d1.actor.rep,.int .u32 d1.actor.inc,.int .u64 d1.seq]] h (fun rr hh=>rr=.bool res∧hh=h):=by
 unfold leafXhas at hF
 refine zt Tryz.func126 rfl (by kernel_rfl) (env:=[.sl 5 (l0.map GItem.row),.agg [.int .u8 d1.actor.rep,.int .u32 d1.actor.inc,.int .u64 d1.seq],za,za,za,za,za,za]) (by rfl) ?_
 refine zk (zd ?_)
 refine zc rfl (xw (n:=0) rfl yF (zb rfl) rfl rfl) wo ?_
 refine zc rfl (zi rfl rfl (zb rfl)) yB ?_
 refine ze (zj (zk (zd ?_)))
 refine zc rfl (zf rfl yr (zb rfl)) xz ?_
 refine zc rfl (s_makeFunc rfl rfl rfl) xE ?_
 refine zR hF (fun v1 hv1 hF=>?_)
 refine zN rfl (zC rfl rfl rfl (zo yS (zo yU zw)) (.cons (zb rfl) (.cons (zb rfl) .nil))) (ok142 (fun _ v L M hv=>ok143 (blk_ext2 (j:=0) rfl) hv) hv1) xO ?_
 refine zc rfl (zi rfl xH (zb rfl)) yB ?_
 refine ze (zj (zL ?_))
 obtain rfl:=Option.some.inj hF
 refine zA rfl (zD yz zG) (zz (leV.refl _) rfl ?_)
 exact ⟨rfl,rfl⟩
/-! varve/leaf.tombs -/
theorem ok97 {l0:GLeaf} {res:Bool} {h:AH}  (hF:leafXtombs l0=some res):Spec Tryz.prog 97 [.agg [.int .u8 l0.typ,.int .i64 l0.n,.int .u64 l0.time,.int .u8 l0.dot.actor.rep,.int .u32 l0.dot.actor.inc,.int .u64 l0.dot.seq,.str l0.text,.sl 5 (l0.items.map GItem.row),.sl 3 (l0.tombs.map GDot.row)]] h (fun rr hh=>rr=.bool res∧hh=h):=by
 unfold leafXtombs at hF
 refine zt Tryz.func97 rfl (by kernel_rfl) (env:=[.agg [.int .u8 l0.typ,.int .i64 l0.n,.int .u64 l0.time,.int .u8 l0.dot.actor.rep,.int .u32 l0.dot.actor.inc,.int .u64 l0.dot.seq,.str l0.text,.sl 5 (l0.items.map GItem.row),.sl 3 (l0.tombs.map GDot.row)],za,za,za,za,za,za,za,za,za,za,za,za,za,za,za,za,za,za,za,za,za,za,za,za,za,za,za,za,za,za,za,za,za,za,za,za,za]) (by rfl) ?_
 refine zk (zd ?_)
 refine zc rfl (xw (n:=0) rfl yr (zb rfl) rfl rfl) st1 ?_
 refine zc rfl (zi rfl rfl (zb rfl)) xh ?_
 refine ze (zj (zk (zk (zd ?_))))
 refine zc rfl (zg rfl wr yF rfl) xz ?_
 refine zc rfl (zu rfl ty46 yS rfl (zr rfl) (zb rfl)) xE ?_
 refine yb rfl (zS rfl rfl rfl rfl el46 yU yc) xO fun hn1=>?_
 replace hn1:=xl hn1
 refine zc rfl (zf rfl rfl (zb rfl)) xX ?_
 refine ze (zj (zQ ?_))
 refine yo (fun (n1:Nat) (s1:Unit)=>yO [0,2,3,4,5,9,10,11,12,13,14,15,16,17,18,19,20,21,22,23,24,25,26,27,28,29,30,31,32,33,34,35,36,37] [(8,.int .i64 (n1:Int))]) (fun s1=>h.ext [.cells [.int .u8 l0.typ,.int .i64 l0.n,.int .u64 l0.time,.int .u8 l0.dot.actor.rep,.int .u32 l0.dot.actor.inc,.int .u64 l0.dot.seq,.str l0.text,.sl 5 (l0.items.map GItem.row),.sl 3 (l0.tombs.map GDot.row)]] []) hF (fun _ _=>by simp only [yO,upd,List.set_cons_succ,List.set_cons_zero];try rfl) (wk.le (by exact (.drop (.eq (.d4 (.eq (.eq (.cons (leV.of_eq rfl) (.d16 (.d4 (.d4 (.d4 (.drop leL.nil))))))))))))) ?_
 intro n1 s1 hi1 hF
 refine zk (zd ?_)
 refine zc rfl (zy rfl xj xH rfl) wB ?_
 refine ze (zj (zk ?_))
 refine yJ xV hF (fun x1 o1 hl1 hx1 hF hK1=>?_) (fun hF=>?_)
 ·refine zK (zj (zk (zQ (zk (zd ?_)))))
  refine zc rfl (zf rfl xj (zb rfl)) yL ?_
  refine zc rfl (yj rfl el46 yU xj w7 (yK hx1)) yP ?_
  refine zc rfl (ye rfl ty44.choose_spec.1 yA (zH (cs':=[.int .u8 x1.actor.rep,.int .u32 x1.actor.inc,.int .u64 x1.seq]) ty44.choose_spec.2 rfl rfl) (zb rfl)) yX ?_
  refine zc rfl (y4 (n:=1) rfl ze44 rfl) yB ?_
  refine zc rfl (zi rfl yq (zb rfl)) wo ?_
  refine zc rfl (yg (cs':=[.int .u8 x1.actor.rep,.int .u32 x1.actor.inc,.int .u64 x1.seq]) rfl ty44.choose_spec.1 yz yM (zb rfl) rfl rfl rfl rfl rfl) rfl ?_
  refine ze (zj (zk ?_))
  refine yI [1] [] trivial mixed (by kernel_rfl) ?_
  refine zq rfl rfl (zu rfl ty44.choose_spec.1 yz rfl (zH (cs':=[.int .u8 x1.actor.rep,.int .u32 x1.actor.inc,.int .u64 x1.seq]) ty44.choose_spec.2 rfl rfl) (zb rfl)) yW ?_
  refine zR hF (fun v19 hv19 hF=>?_)
  refine yu rfl rfl (fun _=>zC rfl rfl rfl (zo yC zw) (.cons (zb rfl) .nil)) (by rintro _ ⟨B2,T2,rfl,hk2⟩;exact ok94 hv19) y5 ?_
  refine zq rfl rfl (xR rfl yY rfl) y6 ?_
  refine zq rfl rfl (zf rfl yT (zb rfl)) xg ?_
  refine zB rfl rfl (fun hb=>zf rfl xn (zb rfl)) xk ?_
  refine zB rfl rfl (fun hb=>zy rfl (zn xi hb) rfl rfl) xD ?_
  refine zB rfl rfl (fun hb=>zf rfl (zn xB hb) (zb rfl)) xK ?_
  refine zB rfl (z7 rfl rfl rfl) (fun hb=>zg rfl wr yF rfl) xY ?_
  refine zB rfl (z7 rfl rfl rfl) (fun hb=>zu rfl ty46 (zn xZ hb) rfl (zr rfl) (zb rfl)) x7 ?_
  refine zB rfl (z7 rfl rfl rfl) (fun hb=>zf rfl xn (zb rfl)) wl ?_
  refine zB rfl (z7 rfl rfl rfl) (fun hb=>zy rfl (zn wi hb) rfl rfl) x6 ?_
  refine wS hF (fun hg20 hF=>?_)
  refine zB rfl (z7 rfl rfl rfl) (fun hb=>xT default rfl el46 (zn x5 hb) (zn xN hb) w7 (hg20 hb)) wh ?_
  refine zB rfl (z7 rfl rfl rfl) (fun hb=>ye rfl ty44.choose_spec.1 (zn wc hb) (zH (cs':=[.int .u8 (((l0.tombs).getD (IntKind.wrap .i64 ((n1:Int) - (1:Int))).toNat default).actor.rep),.int .u32 (((l0.tombs).getD (IntKind.wrap .i64 ((n1:Int) - (1:Int))).toNat default).actor.inc),.int .u64 (((l0.tombs).getD (IntKind.wrap .i64 ((n1:Int) - (1:Int))).toNat default).seq)]) ty44.choose_spec.2 rfl rfl) (zb rfl)) wj ?_
  refine zB rfl (z7 rfl rfl rfl) (fun hb=>zu rfl ty44.choose_spec.1 yz rfl (zH (cs':=[.int .u8 x1.actor.rep,.int .u32 x1.actor.inc,.int .u64 x1.seq]) ty44.choose_spec.2 rfl rfl) (zb rfl)) wF ?_
  refine yN hF (fun v21 hv21 hF=>?_)
  refine vC rfl (z7 rfl rfl rfl) (fun hb=>zC rfl rfl rfl (zo (zn wb hb) (zo (zn wE hb) zw)) (.cons (zb rfl) (.cons (zb rfl) .nil))) (fun hb=>ok125 (hv21 hb)) wM ?_
  refine zB rfl (z7 rfl rfl rfl) (fun hb=>zy rfl (zn wN hb) rfl rfl) wL ?_
  refine zB rfl rfl (fun hb=>zM rfl (zn xJ hb) wH rfl (zX (fun ht=>gT2 hb ht))) wW ?_
  refine zq rfl rfl (zM rfl xd rfl w6 (z8 (fun ht=>gF ht))) wV ?_
  refine zq rfl rfl (zf rfl vg (zb rfl)) wU ?_
  refine zB rfl rfl (fun hb=>zg rfl x4 yF rfl) vl ?_
  refine zB rfl rfl (fun hb=>zu rfl ty45 (zn vf hb) rfl (zr rfl) (zb rfl)) vk ?_
  refine zB rfl rfl (fun hb=>zu rfl ty44.choose_spec.1 yz rfl (zH (cs':=[.int .u8 x1.actor.rep,.int .u32 x1.actor.inc,.int .u64 x1.seq]) ty44.choose_spec.2 rfl rfl) (zb rfl)) vb ?_
  refine yN hF (fun v22 hv22 hF=>?_)
  refine vC rfl rfl (fun hb=>zC rfl rfl rfl (zo (zn vt hb) (zo (zn wZ hb) zw)) (.cons (zb rfl) (.cons (zb rfl) .nil))) (fun hb=>ok126 (hv22 hb)) va ?_
  refine zq rfl rfl (zM rfl w5 rfl ve (z8 (fun ht=>gF ht))) w9 ?_
  refine ym ?_
  refine zj ?_
  refine zO wY hF (fun hc23 hF=>?_) (fun hc23 hF=>?_)
  ·refine zk (zd ?_)
   refine zc rfl (zi rfl rfl (zb rfl)) xh ?_
   refine ze (zj (zL ?_))
   refine zF ?_
   refine zx ?_
   refine yd ?_
   obtain rfl:=Option.some.inj hF
   replace hF:=hK1
   refine zF ?_
   refine zx ?_
   obtain rfl:=Option.some.inj hF
   refine zA rfl (zD yV zG) (zz (leV.refl _) rfl ?_)
   exact ⟨rfl,rfl⟩
  ·refine zK (yh (zj (zd ?_)))
   refine zc rfl (zy rfl xj rfl rfl) vj ?_
   refine zc rfl (zf rfl wX (zb rfl)) xX ?_
   refine ze (yH ?_)
   obtain rfl:=Option.some.inj hF
   exact ⟨(),hl1,hK1,wk.trans (wk.le (by exact (.drop (.eq (.d4 (.eq (.eq (.cons (leV.of_eq (w8 (by omega) (by omega))) (.d16 (.d4 (.d4 (.d4 (.drop leL.nil))))))))))))) (xI (by simp [yi,AV.low]) rfl rfl (by simp [Blk.low,yi,AV.low]))⟩
 ·refine yR ?_
  refine ya ?_
  refine zV ?_
  refine zW ?_
  refine zj (zk (zd ?_))
  refine zc rfl (zi rfl rfl (zb rfl)) xh ?_
  refine ze (zj (zL ?_))
  obtain rfl:=Option.some.inj hF
  refine zA rfl (zD yV zG) (zz (leV.refl _) rfl ?_)
  exact ⟨rfl,rfl⟩
/-! slices.Equal[[]varve/api.Item,varve/api.Item] -/
theorem ok40 {s10:(List GItem)} {s21:(List GItem)} {res:Bool} {h:AH}  (hF:vZ s10 s21=some res):Spec Tryz.prog 40 [.sl 5 (s10.map GItem.row),.sl 5 (s21.map GItem.row)] h (fun rr hh=>rr=.bool res∧hh=h):=by
 unfold vZ at hF
 refine zt Tryz.func40 rfl (by kernel_rfl) (env:=[.sl 5 (s10.map GItem.row),.sl 5 (s21.map GItem.row),za,za,za,za,za,za,za,za,za,za,za,za,za,za,za,za,za,za,za,za,za,za,za,za]) (by rfl) ?_
 refine zk (zd ?_)
 refine zc rfl (zi rfl rfl (zb rfl)) yB ?_
 refine ze (zj (zk (zk (zd ?_))))
 refine zc rfl (zf rfl yr (zb rfl)) xE ?_
 refine yb rfl (zS rfl rfl rfl rfl qj yU yc) xO fun hn1=>?_
 replace hn1:=xl hn1
 refine zc rfl (zf rfl yF (zb rfl)) xX ?_
 refine yb rfl (zS rfl rfl rfl rfl qj xj yc) wB fun hn2=>?_
 replace hn2:=xl hn2
 refine zc rfl (zy rfl xH xV rfl) yL ?_
 refine ze (zj ?_)
 refine zO yq hF (fun hc3 hF=>?_) (fun hc3 hF=>?_)
 ·refine zk (zd ?_)
  refine zc rfl (zi rfl rfl (zb rfl)) yB ?_
  refine ze (zj (zL (zx ?_)))
  obtain rfl:=Option.some.inj hF
  refine zA rfl (zD yz zG) (zz (leV.refl _) rfl ?_)
  exact ⟨rfl,rfl⟩
 ·refine zK (zj (zk (zk (zd ?_))))
  refine zc rfl (zf rfl yr (zb rfl)) yP ?_
  refine yb rfl (zS rfl rfl rfl rfl qj yA yc) yX fun hn4=>?_
  replace hn4:=xl hn4
  refine zc rfl (zf rfl rfl (zb rfl)) yW ?_
  refine ze (zj (zQ ?_))
  refine yo (fun (n1:Nat) (s1:Unit)=>yO [2,3,4,5,6,7,8,9,10,11,14,15,16,17,18,19,20,21,22,23,24,25] [(13,.int .i64 (n1:Int))]) (fun s1=>h.ext [] []) hF (fun _ _=>by simp only [yO,upd,List.set_cons_succ,List.set_cons_zero];try rfl) (wk.le (by exact (.eq (.eq (.d4 (.d4 (.drop (.drop (.eq (.cons (leV.of_eq rfl) (.d4 (.d4 (.d4 leL.nil))))))))))))) ?_
  intro n1 s1 hi1 hF
  refine zk (zd ?_)
  refine zc rfl (zy rfl yC yM rfl) y5 ?_
  refine ze (zj (zk ?_))
  refine yJ yY hF (fun x1 o1 hl1 hx1 hF hK1=>?_) (fun hF=>?_)
  ·refine zK (zj (zk (zQ (zk (zd ?_)))))
   refine zc rfl (zf rfl yC (zb rfl)) y6 ?_
   refine zc rfl (zi rfl yT (zb rfl)) xz ?_
   refine ze (zj (zk ?_))
   refine yI [] [] trivial mixed (by kernel_rfl) ?_
   refine zq rfl rfl (zf rfl yr (zb rfl)) xg ?_
   refine zq rfl rfl (zf rfl yS (zb rfl)) xk ?_
   refine zq rfl rfl (yj rfl qj xd xi w7 (yK hx1)) xD ?_
   refine zq rfl rfl (ye rfl ty87.choose_spec.1 xB (zH (cs':=[.int .u64 x1.time,.int .u8 x1.dot.actor.rep,.int .u32 x1.dot.actor.inc,.int .u64 x1.dot.seq,.str x1.text]) ty87.choose_spec.2 rfl rfl) (zb rfl)) xK ?_
   refine zq rfl rfl (zf rfl yF (zb rfl)) xY ?_
   refine zq rfl rfl (zf rfl yS (zb rfl)) x7 ?_
   refine zR hF (fun y10 hy10 hF=>?_)
   refine zq rfl rfl (yj rfl qj xZ x5 w7 hy10) wl ?_
   refine zq rfl rfl (ye rfl ty87.choose_spec.1 wi (zH (cs':=[.int .u64 y10.time,.int .u8 y10.dot.actor.rep,.int .u32 y10.dot.actor.inc,.int .u64 y10.dot.seq,.str y10.text]) ty87.choose_spec.2 rfl rfl) (zb rfl)) x6 ?_
   refine zq rfl rfl (zy rfl xJ xN (bin_ne pk87 rfl)) wh ?_
   refine ym ?_
   refine zj ?_
   refine zO wc hF (fun hc11 hF=>?_) (fun hc11 hF=>?_)
   ·refine zk (zd ?_)
    refine zc rfl (zi rfl rfl (zb rfl)) yB ?_
    refine ze (zj (zL ?_))
    refine zF ?_
    refine zx ?_
    refine yd ?_
    obtain rfl:=Option.some.inj hF
    replace hF:=hK1
    refine zF ?_
    refine zx ?_
    obtain rfl:=Option.some.inj hF
    refine zA rfl (zD yz zG) (zz (leV.refl _) rfl ?_)
    exact ⟨rfl,rfl⟩
   ·refine zK (yh (zj (zd ?_)))
    refine zc rfl (zy rfl yC rfl rfl) wj ?_
    refine zc rfl (zf rfl wb (zb rfl)) yW ?_
    refine ze (yH ?_)
    obtain rfl:=Option.some.inj hF
    exact ⟨(),hl1,hK1,wk.le (by exact (.eq (.eq (.d4 (.d4 (.drop (.drop (.eq (.cons (leV.of_eq (w8 (by omega) (by omega))) (.d4 (.d4 (.d4 leL.nil))))))))))))⟩
  ·refine yR ?_
   refine ya ?_
   refine zV ?_
   refine zW ?_
   refine zj (zk (zd ?_))
   refine zc rfl (zi rfl rfl (zb rfl)) yB ?_
   refine ze (zj (zL ?_))
   obtain rfl:=Option.some.inj hF
   refine zA rfl (zD yz zG) (zz (leV.refl _) rfl ?_)
   exact ⟨rfl,rfl⟩
/-! slices.Equal[[]varve/api.Dot,varve/api.Dot] -/
theorem ok41 {s10:(List GDot)} {s21:(List GDot)} {res:Bool} {h:AH}  (hF:qk s10 s21=some res):Spec Tryz.prog 41 [.sl 3 (s10.map GDot.row),.sl 3 (s21.map GDot.row)] h (fun rr hh=>rr=.bool res∧hh=h):=by
 unfold qk at hF
 refine zt Tryz.func41 rfl (by kernel_rfl) (env:=[.sl 3 (s10.map GDot.row),.sl 3 (s21.map GDot.row),za,za,za,za,za,za,za,za,za,za,za,za,za,za,za,za,za,za,za,za,za,za,za,za]) (by rfl) ?_
 refine zk (zd ?_)
 refine zc rfl (zi rfl rfl (zb rfl)) yB ?_
 refine ze (zj (zk (zk (zd ?_))))
 refine zc rfl (zf rfl yr (zb rfl)) xE ?_
 refine yb rfl (zS rfl rfl rfl rfl el46 yU yc) xO fun hn1=>?_
 replace hn1:=xl hn1
 refine zc rfl (zf rfl yF (zb rfl)) xX ?_
 refine yb rfl (zS rfl rfl rfl rfl el46 xj yc) wB fun hn2=>?_
 replace hn2:=xl hn2
 refine zc rfl (zy rfl xH xV rfl) yL ?_
 refine ze (zj ?_)
 refine zO yq hF (fun hc3 hF=>?_) (fun hc3 hF=>?_)
 ·refine zk (zd ?_)
  refine zc rfl (zi rfl rfl (zb rfl)) yB ?_
  refine ze (zj (zL (zx ?_)))
  obtain rfl:=Option.some.inj hF
  refine zA rfl (zD yz zG) (zz (leV.refl _) rfl ?_)
  exact ⟨rfl,rfl⟩
 ·refine zK (zj (zk (zk (zd ?_))))
  refine zc rfl (zf rfl yr (zb rfl)) yP ?_
  refine yb rfl (zS rfl rfl rfl rfl el46 yA yc) yX fun hn4=>?_
  replace hn4:=xl hn4
  refine zc rfl (zf rfl rfl (zb rfl)) yW ?_
  refine ze (zj (zQ ?_))
  refine yo (fun (n1:Nat) (s1:Unit)=>yO [2,3,4,5,6,7,8,9,10,11,14,15,16,17,18,19,20,21,22,23,24,25] [(13,.int .i64 (n1:Int))]) (fun s1=>h.ext [] []) hF (fun _ _=>by simp only [yO,upd,List.set_cons_succ,List.set_cons_zero];try rfl) (wk.le (by exact (.eq (.eq (.d4 (.d4 (.drop (.drop (.eq (.cons (leV.of_eq rfl) (.d4 (.d4 (.d4 leL.nil))))))))))))) ?_
  intro n1 s1 hi1 hF
  refine zk (zd ?_)
  refine zc rfl (zy rfl yC yM rfl) y5 ?_
  refine ze (zj (zk ?_))
  refine yJ yY hF (fun x1 o1 hl1 hx1 hF hK1=>?_) (fun hF=>?_)
  ·refine zK (zj (zk (zQ (zk (zd ?_)))))
   refine zc rfl (zf rfl yC (zb rfl)) y6 ?_
   refine zc rfl (zi rfl yT (zb rfl)) xz ?_
   refine ze (zj (zk ?_))
   refine yI [] [] trivial mixed (by kernel_rfl) ?_
   refine zq rfl rfl (zf rfl yr (zb rfl)) xg ?_
   refine zq rfl rfl (zf rfl yS (zb rfl)) xk ?_
   refine zq rfl rfl (yj rfl el46 xd xi w7 (yK hx1)) xD ?_
   refine zq rfl rfl (ye rfl ty44.choose_spec.1 xB (zH (cs':=[.int .u8 x1.actor.rep,.int .u32 x1.actor.inc,.int .u64 x1.seq]) ty44.choose_spec.2 rfl rfl) (zb rfl)) xK ?_
   refine zq rfl rfl (zf rfl yF (zb rfl)) xY ?_
   refine zq rfl rfl (zf rfl yS (zb rfl)) x7 ?_
   refine zR hF (fun y10 hy10 hF=>?_)
   refine zq rfl rfl (yj rfl el46 xZ x5 w7 hy10) wl ?_
   refine zq rfl rfl (ye rfl ty44.choose_spec.1 wi (zH (cs':=[.int .u8 y10.actor.rep,.int .u32 y10.actor.inc,.int .u64 y10.seq]) ty44.choose_spec.2 rfl rfl) (zb rfl)) x6 ?_
   refine zq rfl rfl (zy rfl xJ xN (bin_ne pk44 rfl)) wh ?_
   refine ym ?_
   refine zj ?_
   refine zO wc hF (fun hc11 hF=>?_) (fun hc11 hF=>?_)
   ·refine zk (zd ?_)
    refine zc rfl (zi rfl rfl (zb rfl)) yB ?_
    refine ze (zj (zL ?_))
    refine zF ?_
    refine zx ?_
    refine yd ?_
    obtain rfl:=Option.some.inj hF
    replace hF:=hK1
    refine zF ?_
    refine zx ?_
    obtain rfl:=Option.some.inj hF
    refine zA rfl (zD yz zG) (zz (leV.refl _) rfl ?_)
    exact ⟨rfl,rfl⟩
   ·refine zK (yh (zj (zd ?_)))
    refine zc rfl (zy rfl yC rfl rfl) wj ?_
    refine zc rfl (zf rfl wb (zb rfl)) yW ?_
    refine ze (yH ?_)
    obtain rfl:=Option.some.inj hF
    exact ⟨(),hl1,hK1,wk.le (by exact (.eq (.eq (.d4 (.d4 (.drop (.drop (.eq (.cons (leV.of_eq (w8 (by omega) (by omega))) (.d4 (.d4 (.d4 leL.nil))))))))))))⟩
  ·refine yR ?_
   refine ya ?_
   refine zV ?_
   refine zW ?_
   refine zj (zk (zd ?_))
   refine zc rfl (zi rfl rfl (zb rfl)) yB ?_
   refine ze (zj (zL ?_))
   obtain rfl:=Option.some.inj hF
   refine zA rfl (zD yz zG) (zz (leV.refl _) rfl ?_)
   exact ⟨rfl,rfl⟩
/-! varve/leaf.Same -/
theorem ok20 {a0:GLeaf} {b1:GLeaf} {res:Bool} {h:AH}  (hF:wa a0 b1=some res):Spec Tryz.prog 20 [.agg [.int .u8 a0.typ,.int .i64 a0.n,.int .u64 a0.time,.int .u8 a0.dot.actor.rep,.int .u32 a0.dot.actor.inc,.int .u64 a0.dot.seq,.str a0.text,.sl 5 (a0.items.map GItem.row),.sl 3 (a0.tombs.map GDot.row)],.agg [.int .u8 b1.typ,.int .i64 b1.n,.int .u64 b1.time,.int .u8 b1.dot.actor.rep,.int .u32 b1.dot.actor.inc,.int .u64 b1.dot.seq,.str b1.text,.sl 5 (b1.items.map GItem.row),.sl 3 (b1.tombs.map GDot.row)]] h (fun rr hh=>rr=.bool res∧hh=h):=by
 unfold wa at hF
 refine zt Tryz.func20 rfl (by kernel_rfl) (env:=[.agg [.int .u8 a0.typ,.int .i64 a0.n,.int .u64 a0.time,.int .u8 a0.dot.actor.rep,.int .u32 a0.dot.actor.inc,.int .u64 a0.dot.seq,.str a0.text,.sl 5 (a0.items.map GItem.row),.sl 3 (a0.tombs.map GDot.row)],.agg [.int .u8 b1.typ,.int .i64 b1.n,.int .u64 b1.time,.int .u8 b1.dot.actor.rep,.int .u32 b1.dot.actor.inc,.int .u64 b1.dot.seq,.str b1.text,.sl 5 (b1.items.map GItem.row),.sl 3 (b1.tombs.map GDot.row)],za,za,za,za,za,za,za,za,za,za,za,za,za,za,za,za,za,za,za,za,za,za,za,za,za,za,za,za,za,za,za,za,za,za,za,za,za,za,za,za,za,za,za,za,za,za,za,za,za,za]) (by rfl) ?_
 refine zk (zd ?_)
 refine zc rfl (xw (n:=0) rfl yr (zb rfl) rfl rfl) xh ?_
 refine zc rfl (xw (n:=1) rfl yF (zb rfl) rfl rfl) wo ?_
 refine zc rfl (zi rfl rfl (zb rfl)) yB ?_
 refine ze (zj (zk (zd ?_)))
 refine zc rfl (zg rfl wd yV rfl) xz ?_
 refine zc rfl (zu rfl ty5 yS rfl (zr rfl) (zb rfl)) xE ?_
 refine zc rfl (zg rfl wd xn rfl) xO ?_
 refine zc rfl (zu rfl ty5 xH rfl (zr rfl) (zb rfl)) xX ?_
 refine zc rfl (zy rfl yU xj rfl) wB ?_
 refine zc rfl (zf rfl xV (zb rfl)) yL ?_
 refine zp rfl (fun hb=>zg rfl fo48x1 yV rfl) yP ?_
 refine zp rfl (fun hb=>zu rfl ty2 (zn yA hb) rfl (zr rfl) (zb rfl)) yX ?_
 refine zp rfl (fun hb=>zg rfl fo48x1 xn rfl) yW ?_
 refine zp rfl (fun hb=>zu rfl ty2 (zn yC hb) rfl (zr rfl) (zb rfl)) y5 ?_
 refine zp rfl (fun hb=>zy rfl (zn yM hb) (zn yY hb) rfl) y6 ?_
 refine zc rfl (zM rfl yq yT rfl (zX (fun ht=>gT ht))) xg ?_
 refine zc rfl (zf rfl xd (zb rfl)) xk ?_
 refine zp rfl (fun hb=>zg rfl fo48x2 yV rfl) xD ?_
 refine zp rfl (fun hb=>zu rfl ty39 (zn xB hb) rfl (zr rfl) (zb rfl)) xK ?_
 refine zp rfl (fun hb=>zg rfl fo48x2 xn rfl) xY ?_
 refine zp rfl (fun hb=>zu rfl ty39 (zn xZ hb) rfl (zr rfl) (zb rfl)) x7 ?_
 refine zp rfl (fun hb=>zy rfl (zn xJ hb) (zn x5 hb) rfl) wl ?_
 refine zc rfl (zM rfl xi wi rfl (zX (fun ht=>gT ht))) x6 ?_
 refine zc rfl (zf rfl xN (zb rfl)) wh ?_
 refine zp rfl (fun hb=>zg rfl fo48x3 yV rfl) wj ?_
 refine zp rfl (fun hb=>zu rfl ty44.choose_spec.1 (zn wb hb) rfl (zH (cs':=[.int .u8 a0.dot.actor.rep,.int .u32 a0.dot.actor.inc,.int .u64 a0.dot.seq]) ty44.choose_spec.2 rfl rfl) (zb rfl)) wF ?_
 refine zp rfl (fun hb=>zg rfl fo48x3 xn rfl) wM ?_
 refine zp rfl (fun hb=>zu rfl ty44.choose_spec.1 (zn wN hb) rfl (zH (cs':=[.int .u8 b1.dot.actor.rep,.int .u32 b1.dot.actor.inc,.int .u64 b1.dot.seq]) ty44.choose_spec.2 rfl rfl) (zb rfl)) wL ?_
 refine zp rfl (fun hb=>zy rfl (zn wE hb) (zn wH hb) (bin_eq pk44 rfl)) wW ?_
 refine zc rfl (zM rfl wc w6 rfl (zX (fun ht=>gT ht))) wV ?_
 refine zc rfl (zf rfl vg (zb rfl)) wU ?_
 refine zp rfl (fun hb=>zg rfl fo48x4 yV rfl) vl ?_
 refine zp rfl (fun hb=>zu rfl ty9 (zn vf hb) rfl (zr rfl) (zb rfl)) vk ?_
 refine zp rfl (fun hb=>zg rfl fo48x4 xn rfl) vb ?_
 refine zp rfl (fun hb=>zu rfl ty9 (zn wZ hb) rfl (zr rfl) (zb rfl)) va ?_
 refine zp rfl (fun hb=>zy rfl (zn vt hb) (zn ve hb) rfl) w9 ?_
 refine zc rfl (zM rfl w5 wY rfl (zX (fun ht=>gT ht))) vj ?_
 refine zc rfl (zf rfl wX (zb rfl)) vI ?_
 refine zp rfl (fun hb=>zg rfl x4 yV rfl) vA ?_
 refine zp rfl (fun hb=>zu rfl ty45 (zn vr hb) rfl (zr rfl) (zb rfl)) (sk st0) ?_
 refine zp rfl (fun hb=>zg rfl x4 xn rfl) (sk st1) ?_
 refine zp rfl (fun hb=>zu rfl ty45 (zn (gk yF) hb) rfl (zr rfl) (zb rfl)) (sk xh) ?_
 refine yN hF (fun v1 hv1 hF=>?_)
 refine yk rfl (fun hb=>zC rfl rfl rfl (zo (zn (gk yr) hb) (zo (zn (gk yV) hb) zw)) (.cons (zb rfl) (.cons (zb rfl) .nil))) (fun hb=>ok40 (hv1 hb)) (sk wo) ?_
 refine zc rfl (zM rfl vM (gk xn) rfl (zX (fun ht=>gT ht))) (sk yB) ?_
 refine zc rfl (zf rfl (gk yz) (zb rfl)) (sk xz) ?_
 refine zp rfl (fun hb=>zg rfl wr yV rfl) (sk xE) ?_
 refine zp rfl (fun hb=>zu rfl ty46 (zn (gk yU) hb) rfl (zr rfl) (zb rfl)) (sk xO) ?_
 refine zp rfl (fun hb=>zg rfl wr xn rfl) (sk xX) ?_
 refine zp rfl (fun hb=>zu rfl ty46 (zn (gk xj) hb) rfl (zr rfl) (zb rfl)) (sk wB) ?_
 refine yN hF (fun v2 hv2 hF=>?_)
 refine yk rfl (fun hb=>zC rfl rfl rfl (zo (zn (gk xH) hb) (zo (zn (gk xV) hb) zw)) (.cons (zb rfl) (.cons (zb rfl) .nil))) (fun hb=>ok41 (hv2 hb)) (sk yL) ?_
 refine zc rfl (zM rfl (gk yS) (gk yq) rfl (zX (fun ht=>gT ht))) (sk yP) ?_
 refine zc rfl (zi rfl (gk yA) (zb rfl)) yB ?_
 refine ze (zj (zL ?_))
 obtain rfl:=Option.some.inj hF
 refine zA rfl (zD yz zG) (zz (leV.refl _) rfl ?_)
 exact ⟨rfl,rfl⟩
/-! varve/leaf.May -/
theorem ok69 {l0:GLeaf} {res:Bool} {h:AH}  (hF:leafMay l0=some res):Spec Tryz.prog 69 [.agg [.int .u8 l0.typ,.int .i64 l0.n,.int .u64 l0.time,.int .u8 l0.dot.actor.rep,.int .u32 l0.dot.actor.inc,.int .u64 l0.dot.seq,.str l0.text,.sl 5 (l0.items.map GItem.row),.sl 3 (l0.tombs.map GDot.row)]] h (fun rr hh=>rr=.bool res∧hh=h):=by
 unfold leafMay at hF
 refine zt Tryz.func69 rfl (by kernel_rfl) (env:=[.agg [.int .u8 l0.typ,.int .i64 l0.n,.int .u64 l0.time,.int .u8 l0.dot.actor.rep,.int .u32 l0.dot.actor.inc,.int .u64 l0.dot.seq,.str l0.text,.sl 5 (l0.items.map GItem.row),.sl 3 (l0.tombs.map GDot.row)],za,za,za,za,za,za,za,za,za,za,za,za,za,za,za,za,za,za,za,za,za,za,za,za,za,za,za,za,za,za,za,za,za,za,za,za,za,za,za,za,za,za,za,za,za,za,za,za,za,za,za,za,za,za,za,za,za,za,za,za,za,za,za,za,za,za,za,za,za,za,za,za,za,za,za,za,za,za,za,za,za,za,za,za,za,za,za,za]) (by rfl) ?_
 refine zk (zd ?_)
 refine zc rfl (xw (n:=0) rfl yr (zb rfl) rfl rfl) st1 ?_
 refine zc rfl (zi rfl rfl (zb rfl)) xh ?_
 refine ze (zj (zk (zd ?_)))
 refine zc rfl (zg rfl wd yF rfl) yB ?_
 refine zc rfl (zu rfl ty5 yz rfl (zr rfl) (zb rfl)) xz ?_
 refine zc rfl (qA (cs':=[.int .u8 l0.typ,.int .i64 (0:Int),.int .u64 (0:Int),.int .u8 (0:Int),.int .u32 (0:Int),.int .u64 (0:Int),.str ([]:zJ),.osl none 5 (([]:List GItem).map GItem.row),.osl none 3 (([]:List GDot).map GDot.row)]) rfl su48 ze48 pl48 (yl yS yp) (.cons (zb rfl) .nil) rfl rfl) xE ?_
 refine zc rfl (y4 (n:=1) rfl ze48 rfl) wo ?_
 refine zc rfl (yg (cs':=[.int .u8 l0.typ,.int .i64 (0:Int),.int .u64 (0:Int),.int .u8 (0:Int),.int .u32 (0:Int),.int .u64 (0:Int),.str ([]:zJ),.osl none 5 (([]:List GItem).map GItem.row),.osl none 3 (([]:List GDot).map GDot.row)]) rfl ty48.choose_spec.1 xn yU (zb rfl) rfl rfl rfl rfl rfl) rfl ?_
 refine ze (zj (zk (zk (zd ?_))))
 refine zc rfl (zg rfl wd yF rfl) xO ?_
 refine zc rfl (zu rfl ty5 xH rfl (zr rfl) (zb rfl)) xX ?_
 refine ze (zj (zQ (zk (zd ?_))))
 refine zc rfl (zy rfl xj rfl rfl) yL ?_
 refine zc rfl (zi rfl yq (zb rfl)) wB ?_
 refine ze (zj ?_)
 refine zO xV hF (fun hc1 hF=>?_) (fun hc1 hF=>?_)
 ·refine zd ?_
  refine zc rfl (zg rfl fo48x1 yF rfl) yP ?_
  refine zc rfl (zu rfl ty2 yA rfl (zr rfl) (zb rfl)) yX ?_
  refine zc rfl (zg rfl fo48x1 xn rfl) yW ?_
  refine zc rfl (yg (cs':=[.int .u8 l0.typ,.int .i64 l0.n,.int .u64 (0:Int),.int .u8 (0:Int),.int .u32 (0:Int),.int .u64 (0:Int),.str ([]:zJ),.osl none 5 (([]:List GItem).map GItem.row),.osl none 3 (([]:List GDot).map GDot.row)]) rfl ty2 yC yM (zb rfl) rfl rfl rfl rfl rfl) rfl ?_
  refine ze (yh (zj (zk (zd ?_))))
  refine zc rfl (zu rfl ty48.choose_spec.1 yF rfl (zH (cs':=[.int .u8 l0.typ,.int .i64 l0.n,.int .u64 l0.time,.int .u8 l0.dot.actor.rep,.int .u32 l0.dot.actor.inc,.int .u64 l0.dot.seq,.str l0.text,.sl 5 (l0.items.map GItem.row),.sl 3 (l0.tombs.map GDot.row)]) ty48.choose_spec.2 rfl rfl) (zb rfl)) (sk (sk xE)) ?_
  refine zc rfl (zu rfl ty48.choose_spec.1 xn rfl (zH (cs':=[.int .u8 l0.typ,.int .i64 l0.n,.int .u64 (0:Int),.int .u8 (0:Int),.int .u32 (0:Int),.int .u64 (0:Int),.str ([]:zJ),.osl none 5 (([]:List GItem).map GItem.row),.osl none 3 (([]:List GDot).map GDot.row)]) ty48.choose_spec.2 rfl rfl) (zb rfl)) (sk (sk xO)) ?_
  refine zR hF (fun v2 hv2 hF=>?_)
  refine zN rfl (zC rfl rfl rfl (zo (gk (gk yU)) (zo (gk (gk xH)) zw)) (.cons (zb rfl) (.cons (zb rfl) .nil))) ((ok20 hv2).le (.eq (.cons (leV.agg (.eq (.eq (.eq (.eq (.eq (.eq (.eq (.cons (leV.osl _ _ _) (.cons (leV.osl _ _ _) leL.nil))))))))) rfl) leL.nil))) (sk (sk xX)) ?_
  refine zc rfl (zi rfl (gk (gk xj)) (zb rfl)) xh ?_
  refine ze (zj (zL ?_))
  obtain rfl:=Option.some.inj hF
  refine zA rfl (zD yV zG) (zz (leV.refl _) rfl ?_)
  exact ⟨rfl,rfl⟩
 ·refine zk (zd ?_)
  refine zc rfl (zy rfl xj rfl rfl) y6 ?_
  refine zc rfl (zi rfl yT (zb rfl)) y5 ?_
  refine ze (zj ?_)
  refine zO yY hF (fun hc3 hF=>?_) (fun hc3 hF=>?_)
  ·refine zk ?_
   refine yI [3,5] [(3,[(0,.cells [.int .u8 l0.typ,.int .i64 l0.n,.int .u64 l0.time,.int .u8 l0.dot.actor.rep,.int .u32 l0.dot.actor.inc,.int .u64 l0.dot.seq,.str l0.text,.sl 5 (l0.items.map GItem.row),.sl 3 (l0.tombs.map GDot.row)])]),(5,[(0,.cells [.int .u8 l0.typ,.int .i64 l0.n,.int .u64 l0.time,.int .u8 l0.dot.actor.rep,.int .u32 l0.dot.actor.inc,.int .u64 l0.dot.seq,.str l0.text,.sl 5 (l0.items.map GItem.row),.sl 3 (l0.tombs.map GDot.row)])])] ⟨⟨rfl,trivial⟩,⟨rfl,trivial⟩,trivial⟩ mixed (by kernel_rfl) ?_
   refine zq rfl rfl (zg rfl fo48x2 yF rfl) xg ?_
   refine zq rfl rfl (zu rfl ty39 xd rfl (zr rfl) (zb rfl)) xk ?_
   refine zq rfl rfl (zg rfl fo48x3 yF rfl) xD ?_
   refine draw_okN rfl rfl (by rintro _ ⟨B2,T2,rfl,hk2⟩;exact zu rfl ty44.choose_spec.1 xB (keeps1 hk2) (zH (cs':=[.int .u8 l0.dot.actor.rep,.int .u32 l0.dot.actor.inc,.int .u64 l0.dot.seq]) ty44.choose_spec.2 rfl rfl) (zb rfl)) xK ?_
   refine zq rfl rfl (zg rfl fo48x4 yF rfl) xY ?_
   refine draw_okN rfl rfl (by rintro _ ⟨B2,T2,rfl,hk2⟩;exact zu rfl ty9 xZ (keeps1 hk2) (zr rfl) (zb rfl)) x7 ?_
   refine zq rfl rfl (zg rfl fo48x2 xn rfl) wl ?_
   refine yZ rfl (FOk.cons (.inr (xP ⟨rfl,trivial⟩)) (FOk.cons (.inr (xP ⟨rfl,trivial⟩)) FOk.nil)) (by kernel_rfl) rfl (yg (cs':=[.int .u8 l0.typ,.int .i64 (0:Int),.int .u64 l0.time,.int .u8 (0:Int),.int .u32 (0:Int),.int .u64 (0:Int),.str ([]:zJ),.osl none 5 (([]:List GItem).map GItem.row),.osl none 3 (([]:List GDot).map GDot.row)]) rfl ty39 wi xi (zb rfl) rfl rfl rfl rfl rfl) rfl ?_
   refine zq rfl rfl (zg rfl fo48x3 xn rfl) x6 ?_
   refine yZ rfl (FOk.cons (.inr (xP ⟨rfl,trivial⟩)) (FOk.cons (.inr (xP ⟨rfl,trivial⟩)) FOk.nil)) (by kernel_rfl) rfl (yg (cs':=[.int .u8 l0.typ,.int .i64 (0:Int),.int .u64 l0.time,.int .u8 l0.dot.actor.rep,.int .u32 l0.dot.actor.inc,.int .u64 l0.dot.seq,.str ([]:zJ),.osl none 5 (([]:List GItem).map GItem.row),.osl none 3 (([]:List GDot).map GDot.row)]) rfl ty44.choose_spec.1 xN xJ (zb rfl) rfl rfl rfl rfl rfl) rfl ?_
   refine zq rfl rfl (zg rfl fo48x4 xn rfl) wh ?_
   refine yZ rfl (FOk.cons (.inr (xP ⟨rfl,trivial⟩)) (FOk.cons (.inr (xP ⟨rfl,trivial⟩)) FOk.nil)) (by kernel_rfl) rfl (yg (cs':=[.int .u8 l0.typ,.int .i64 (0:Int),.int .u64 l0.time,.int .u8 l0.dot.actor.rep,.int .u32 l0.dot.actor.inc,.int .u64 l0.dot.seq,.str l0.text,.osl none 5 (([]:List GItem).map GItem.row),.osl none 3 (([]:List GDot).map GDot.row)]) rfl ty9 wc x5 (zb rfl) rfl rfl rfl rfl rfl) rfl ?_
   refine ym ?_
   refine zj (zk (zd ?_))
   refine zc rfl (zg rfl fo48x2 yF rfl) wj ?_
   refine zc rfl (zu rfl ty39 wb rfl (zr rfl) (zb rfl)) wF ?_
   refine zc rfl (zy rfl wE rfl rfl) wM ?_
   refine zc rfl (zf rfl wN (zb rfl)) wL ?_
   refine zp rfl (fun hb=>zg rfl fo48x2 yF rfl) wW ?_
   refine zp rfl (fun hb=>zu rfl ty39 (zn w6 hb) rfl (zr rfl) (zb rfl)) wV ?_
   refine yN hF (fun v4 hv4 hF=>?_)
   refine yk rfl (fun hb=>zC rfl rfl rfl (zo (zn vg hb) zw) (.cons (zb rfl) .nil)) (fun hb=>ok93 (hv4 hb)) wU ?_
   refine zp rfl (fun hb=>zf rfl (zn w5 hb) (zb rfl)) vl ?_
   refine zp (z7 rfl rfl rfl) (fun hb=>zg rfl fo48x3 yF rfl) vk ?_
   refine zp (z7 rfl rfl rfl) (fun hb=>zu rfl ty44.choose_spec.1 (zn vt hb) rfl (zH (cs':=[.int .u8 l0.dot.actor.rep,.int .u32 l0.dot.actor.inc,.int .u64 l0.dot.seq]) ty44.choose_spec.2 rfl rfl) (zb rfl)) vb ?_
   refine yN hF (fun v5 hv5 hF=>?_)
   refine yk (z7 rfl rfl rfl) (fun hb=>zC rfl rfl rfl (zo (zn wZ hb) zw) (.cons (zb rfl) .nil)) (fun hb=>ok94 (hv5 hb)) va ?_
   refine zp rfl (fun hb=>zM rfl (zn vf hb) ve rfl (zX (fun ht=>gT2 hb ht))) w9 ?_
   refine zp rfl (fun hb=>zf rfl (zn wY hb) (zb rfl)) vj ?_
   refine zp (z7 rfl rfl rfl) (fun hb=>zg rfl fo48x4 yF rfl) vI ?_
   refine zp (z7 rfl rfl rfl) (fun hb=>zu rfl ty9 (zn vM hb) rfl (zr rfl) (zb rfl)) vA ?_
   refine yN hF (fun v6 hv6 hF=>?_)
   refine yk (z7 rfl rfl rfl) (fun hb=>zC rfl rfl rfl (zo (zn vr hb) zw) (.cons (zb rfl) .nil)) (fun hb=>ok95 (hv6 hb)) (sk st0) ?_
   refine zp rfl (fun hb=>zM rfl (zn wX hb) (gk yr) rfl (zX (fun ht=>gT2 hb ht))) (sk st1) ?_
   refine zp rfl (fun hb=>xR rfl (zn (gk yF) hb) rfl) (sk xh) ?_
   refine zc rfl (zM rfl wH (gk yV) rfl (zX (fun ht=>gT ht))) (sk wo) ?_
   refine zc rfl (zf rfl (gk xn) (zb rfl)) (sk yB) ?_
   refine zp rfl (fun hb=>zg rfl fo48x2 yF rfl) (sk xz) ?_
   refine zp rfl (fun hb=>zu rfl ty39 (zn (gk yS) hb) rfl (zr rfl) (zb rfl)) (sk xE) ?_
   refine zp rfl (fun hb=>zy rfl (zn (gk yU) hb) rfl rfl) (sk xO) ?_
   refine zp rfl (fun hb=>zf rfl (zn (gk xH) hb) (zb rfl)) (sk xX) ?_
   refine zp (z7 rfl rfl rfl) (fun hb=>zg rfl fo48x3 yF rfl) (sk wB) ?_
   refine zp (z7 rfl rfl rfl) (fun hb=>zu rfl ty44.choose_spec.1 (zn (gk xV) hb) rfl (zH (cs':=[.int .u8 l0.dot.actor.rep,.int .u32 l0.dot.actor.inc,.int .u64 l0.dot.seq]) ty44.choose_spec.2 rfl rfl) (zb rfl)) (sk yL) ?_
   refine zp (z7 rfl rfl rfl) (fun hb=>qA (cs':=[.int .u8 (0:Int),.int .u32 (0:Int),.int .u64 (0:Int)]) rfl su44 ze44 pl44 yp .nil rfl rfl) (sk yP) ?_
   refine zp (z7 rfl rfl rfl) (fun hb=>zy rfl (zn (gk yq) hb) (zn (gk yA) hb) (bin_ne pk44 rfl)) (sk yX) ?_
   refine zp (z7 rfl rfl rfl) (fun hb=>zf rfl (zn (gk yM) hb) (zb rfl)) (sk yW) ?_
   refine zp (z7 rfl rfl rfl) (fun hb=>zg rfl fo48x4 yF rfl) (sk y5) ?_
   refine zp (z7 rfl rfl rfl) (fun hb=>zu rfl ty9 (zn (gk yY) hb) rfl (zr rfl) (zb rfl)) (sk y6) ?_
   refine zp (z7 rfl rfl rfl) (fun hb=>zy rfl (zn (gk yT) hb) rfl rfl) (sk xg) ?_
   refine zp (z7 rfl rfl rfl) (fun hb=>zM rfl (zn (gk yC) hb) rfl (gk xd) (z8 (fun ht=>gF2 hb ht))) (sk xk) ?_
   refine zp rfl (fun hb=>zM rfl (zn (gk xj) hb) (gk xi) rfl (zX (fun ht=>gT2 hb ht))) (sk xD) ?_
   refine zc rfl (zM rfl (gk yz) rfl (gk xB) (z8 (fun ht=>gF ht))) (sk xK) ?_
   refine ze (zj ?_)
   refine zO (gk xJ) hF (fun hc7 hF=>?_) (fun hc7 hF=>?_)
   ·refine zk (zd ?_)
    refine zc rfl (zi rfl rfl (zb rfl)) xh ?_
    refine ze (zj (zL ?_))
    refine zF ?_
    refine zx ?_
    obtain rfl:=Option.some.inj hF
    refine zA rfl (zD yV zG) (zz (leV.refl _) rfl ?_)
    exact ⟨rfl,rfl⟩
   ·refine zK (yh (zj (zk (zd ?_))))
    refine zc rfl (zu rfl ty48.choose_spec.1 yF rfl (zH (cs':=[.int .u8 l0.typ,.int .i64 l0.n,.int .u64 l0.time,.int .u8 l0.dot.actor.rep,.int .u32 l0.dot.actor.inc,.int .u64 l0.dot.seq,.str l0.text,.sl 5 (l0.items.map GItem.row),.sl 3 (l0.tombs.map GDot.row)]) ty48.choose_spec.2 rfl rfl) (zb rfl)) (sk (sk xE)) ?_
    refine zc rfl (zu rfl ty48.choose_spec.1 xn rfl (zH (cs':=[.int .u8 l0.typ,.int .i64 (0:Int),.int .u64 l0.time,.int .u8 l0.dot.actor.rep,.int .u32 l0.dot.actor.inc,.int .u64 l0.dot.seq,.str l0.text,.osl none 5 (([]:List GItem).map GItem.row),.osl none 3 (([]:List GDot).map GDot.row)]) ty48.choose_spec.2 rfl rfl) (zb rfl)) (sk (sk xO)) ?_
    refine zR hF (fun v8 hv8 hF=>?_)
    refine zN rfl (zC rfl rfl rfl (zo (gk (gk yU)) (zo (gk (gk xH)) zw)) (.cons (zb rfl) (.cons (zb rfl) .nil))) ((ok20 hv8).le (.eq (.cons (leV.agg (.eq (.eq (.eq (.eq (.eq (.eq (.eq (.cons (leV.osl _ _ _) (.cons (leV.osl _ _ _) leL.nil))))))))) rfl) leL.nil))) (sk (sk xX)) ?_
    refine zc rfl (zi rfl (gk (gk xj)) (zb rfl)) xh ?_
    refine ze (zj (zL ?_))
    obtain rfl:=Option.some.inj hF
    refine zA rfl (zD yV zG) (zz (leV.refl _) rfl ?_)
    exact ⟨rfl,rfl⟩
  ·refine zk (zd ?_)
   refine zc rfl (zy rfl xj rfl rfl) (sk x7) ?_
   refine zc rfl (zi rfl (gk x5) (zb rfl)) (sk xY) ?_
   refine ze (zj ?_)
   refine zO (gk xZ) hF (fun hc9 hF=>?_) (fun hc9 hF=>?_)
   ·refine zk ?_
    refine yI [3] [(3,[(0,.cells [.int .u8 l0.typ,.int .i64 l0.n,.int .u64 l0.time,.int .u8 l0.dot.actor.rep,.int .u32 l0.dot.actor.inc,.int .u64 l0.dot.seq,.str l0.text,.sl 5 (l0.items.map GItem.row),.sl 3 (l0.tombs.map GDot.row)])])] ⟨⟨rfl,trivial⟩,trivial⟩ mixed (by kernel_rfl) ?_
    refine zq rfl rfl (zg rfl x4 yF rfl) (sk wl) ?_
    refine zq rfl rfl (zu rfl ty45 (gk wi) rfl (zr rfl) (zb rfl)) (sk x6) ?_
    refine zq rfl rfl (zg rfl wr yF rfl) (sk wh) ?_
    refine draw_okN rfl rfl (by rintro _ ⟨B2,T2,rfl,hk2⟩;exact zu rfl ty46 (gk wc) (keeps1 hk2) (zr rfl) (zb rfl)) (sk wj) ?_
    refine zq rfl rfl (zg rfl x4 xn rfl) (sk wF) ?_
    refine yZ rfl (FOk.cons (.inr (xP ⟨rfl,trivial⟩)) FOk.nil) (by kernel_rfl) rfl (yg (cs':=[.int .u8 l0.typ,.int .i64 (0:Int),.int .u64 (0:Int),.int .u8 (0:Int),.int .u32 (0:Int),.int .u64 (0:Int),.str ([]:zJ),.sl 5 (l0.items.map GItem.row),.osl none 3 (([]:List GDot).map GDot.row)]) rfl ty45 (gk wE) (gk xN) (zb rfl) rfl rfl rfl rfl rfl) rfl ?_
    refine zq rfl rfl (zg rfl wr xn rfl) (sk wM) ?_
    refine yZ rfl (FOk.cons (.inr (xP ⟨rfl,trivial⟩)) FOk.nil) (by kernel_rfl) rfl (yg (cs':=[.int .u8 l0.typ,.int .i64 (0:Int),.int .u64 (0:Int),.int .u8 (0:Int),.int .u32 (0:Int),.int .u64 (0:Int),.str ([]:zJ),.sl 5 (l0.items.map GItem.row),.sl 3 (l0.tombs.map GDot.row)]) rfl ty46 (gk wN) (gk wb) (zb rfl) rfl rfl rfl rfl rfl) rfl ?_
    refine ym ?_
    refine zj (zk (zd ?_))
    refine zc rfl (zg rfl x4 yF rfl) (sk wL) ?_
    refine zc rfl (zu rfl ty45 (gk wH) rfl (zr rfl) (zb rfl)) (sk wW) ?_
    refine zR hF (fun v10 hv10 hF=>?_)
    refine zN rfl (zC rfl rfl rfl (zo (gk w6) (zo rfl zw)) (.cons (zb rfl) (.cons (zb rfl) .nil))) (ok96 hv10) (sk wV) ?_
    refine zc rfl (xR rfl (gk vg) rfl) (sk wU) ?_
    refine zc rfl (zf rfl (gk w5) (zb rfl)) (sk vl) ?_
    refine zp rfl (fun hb=>zu rfl ty48.choose_spec.1 yF rfl (zH (cs':=[.int .u8 l0.typ,.int .i64 l0.n,.int .u64 l0.time,.int .u8 l0.dot.actor.rep,.int .u32 l0.dot.actor.inc,.int .u64 l0.dot.seq,.str l0.text,.sl 5 (l0.items.map GItem.row),.sl 3 (l0.tombs.map GDot.row)]) ty48.choose_spec.2 rfl rfl) (zb rfl)) (sk vk) ?_
    refine yN hF (fun v11 hv11 hF=>?_)
    refine yk rfl (fun hb=>zC rfl rfl rfl (zo (zn (gk vt) hb) zw) (.cons (zb rfl) .nil)) (fun hb=>ok97 (hv11 hb)) (sk vb) ?_
    refine zp rfl (fun hb=>xR rfl (zn (gk wZ) hb) rfl) (sk va) ?_
    refine zc rfl (zM rfl (gk vf) rfl (gk ve) (z8 (fun ht=>gF ht))) (sk w9) ?_
    refine ze (zj ?_)
    refine zO (gk wY) hF (fun hc12 hF=>?_) (fun hc12 hF=>?_)
    ·refine zk (zd ?_)
     refine zc rfl (zi rfl rfl (zb rfl)) xh ?_
     refine ze (zj (zL ?_))
     refine zF ?_
     refine zx ?_
     obtain rfl:=Option.some.inj hF
     refine zA rfl (zD yV zG) (zz (leV.refl _) rfl ?_)
     exact ⟨rfl,rfl⟩
    ·refine zK (yh (zj (zk (zd ?_))))
     refine zc rfl (zu rfl ty48.choose_spec.1 yF rfl (zH (cs':=[.int .u8 l0.typ,.int .i64 l0.n,.int .u64 l0.time,.int .u8 l0.dot.actor.rep,.int .u32 l0.dot.actor.inc,.int .u64 l0.dot.seq,.str l0.text,.sl 5 (l0.items.map GItem.row),.sl 3 (l0.tombs.map GDot.row)]) ty48.choose_spec.2 rfl rfl) (zb rfl)) (sk (sk xE)) ?_
     refine zc rfl (zu rfl ty48.choose_spec.1 xn rfl (zH (cs':=[.int .u8 l0.typ,.int .i64 (0:Int),.int .u64 (0:Int),.int .u8 (0:Int),.int .u32 (0:Int),.int .u64 (0:Int),.str ([]:zJ),.sl 5 (l0.items.map GItem.row),.sl 3 (l0.tombs.map GDot.row)]) ty48.choose_spec.2 rfl rfl) (zb rfl)) (sk (sk xO)) ?_
     refine zR hF (fun v13 hv13 hF=>?_)
     refine zN rfl (zC rfl rfl rfl (zo (gk (gk yU)) (zo (gk (gk xH)) zw)) (.cons (zb rfl) (.cons (zb rfl) .nil))) (ok20 hv13) (sk (sk xX)) ?_
     refine zc rfl (zi rfl (gk (gk xj)) (zb rfl)) xh ?_
     refine ze (zj (zL ?_))
     obtain rfl:=Option.some.inj hF
     refine zA rfl (zD yV zG) (zz (leV.refl _) rfl ?_)
     exact ⟨rfl,rfl⟩
   ·refine zk (zd ?_)
    refine zc rfl (zy rfl xj rfl rfl) (sk vI) ?_
    refine zc rfl (zi rfl (gk vM) (zb rfl)) (sk vj) ?_
    refine ze (zj ?_)
    refine zO (gk wX) hF (fun hc14 hF=>?_) (fun hc14 hF=>?_)
    ·refine zk (zd ?_)
     refine zc rfl (zg rfl x4 yF rfl) (sk vA) ?_
     refine zc rfl (zu rfl ty45 (gk vr) rfl (zr rfl) (zb rfl)) (sk (sk st0)) ?_
     refine zc rfl (zg rfl x4 xn rfl) (sk (sk st1)) ?_
     refine zc rfl (yg (cs':=[.int .u8 l0.typ,.int .i64 (0:Int),.int .u64 (0:Int),.int .u8 (0:Int),.int .u32 (0:Int),.int .u64 (0:Int),.str ([]:zJ),.sl 5 (l0.items.map GItem.row),.osl none 3 (([]:List GDot).map GDot.row)]) rfl ty45 (gk (gk yF)) (gk (gk yr)) (zb rfl) rfl rfl rfl rfl rfl) rfl ?_
     refine ze (zj (zk (zd ?_)))
     refine zc rfl (zg rfl x4 yF rfl) (sk (sk xh)) ?_
     refine zc rfl (zu rfl ty45 (gk (gk yV)) rfl (zr rfl) (zb rfl)) (sk (sk wo)) ?_
     refine zR hF (fun v15 hv15 hF=>?_)
     refine zN rfl (zC rfl rfl rfl (zo (gk (gk xn)) (zo rfl zw)) (.cons (zb rfl) (.cons (zb rfl) .nil))) (ok96 hv15) (sk (sk yB)) ?_
     refine zc rfl (xR rfl (gk (gk yz)) rfl) (sk (sk xz)) ?_
     refine ze (zj ?_)
     refine zO (gk (gk yS)) hF (fun hc16 hF=>?_) (fun hc16 hF=>?_)
     ·refine zk (zd ?_)
      refine zc rfl (zi rfl rfl (zb rfl)) xh ?_
      refine ze (zj (zL ?_))
      refine zF ?_
      refine zx ?_
      obtain rfl:=Option.some.inj hF
      refine zA rfl (zD yV zG) (zz (leV.refl _) rfl ?_)
      exact ⟨rfl,rfl⟩
     ·refine zK (yh (zj (zk (zd ?_))))
      refine zc rfl (zu rfl ty48.choose_spec.1 yF rfl (zH (cs':=[.int .u8 l0.typ,.int .i64 l0.n,.int .u64 l0.time,.int .u8 l0.dot.actor.rep,.int .u32 l0.dot.actor.inc,.int .u64 l0.dot.seq,.str l0.text,.sl 5 (l0.items.map GItem.row),.sl 3 (l0.tombs.map GDot.row)]) ty48.choose_spec.2 rfl rfl) (zb rfl)) (sk (sk xE)) ?_
      refine zc rfl (zu rfl ty48.choose_spec.1 xn rfl (zH (cs':=[.int .u8 l0.typ,.int .i64 (0:Int),.int .u64 (0:Int),.int .u8 (0:Int),.int .u32 (0:Int),.int .u64 (0:Int),.str ([]:zJ),.sl 5 (l0.items.map GItem.row),.osl none 3 (([]:List GDot).map GDot.row)]) ty48.choose_spec.2 rfl rfl) (zb rfl)) (sk (sk xO)) ?_
      refine zR hF (fun v17 hv17 hF=>?_)
      refine zN rfl (zC rfl rfl rfl (zo (gk (gk yU)) (zo (gk (gk xH)) zw)) (.cons (zb rfl) (.cons (zb rfl) .nil))) ((ok20 hv17).le (.eq (.cons (leV.agg (.eq (.eq (.eq (.eq (.eq (.eq (.eq (.eq (.cons (leV.osl _ _ _) leL.nil))))))))) rfl) leL.nil))) (sk (sk xX)) ?_
      refine zc rfl (zi rfl (gk (gk xj)) (zb rfl)) xh ?_
      refine ze (zj (zL ?_))
      obtain rfl:=Option.some.inj hF
      refine zA rfl (zD yV zG) (zz (leV.refl _) rfl ?_)
      exact ⟨rfl,rfl⟩
    ·refine zk (zd ?_)
     refine zc rfl (zi rfl rfl (zb rfl)) xh ?_
     refine ze (zj (zL ?_))
     refine zF ?_
     refine zx ?_
     obtain rfl:=Option.some.inj hF
     refine zA rfl (zD yV zG) (zz (leV.refl _) rfl ?_)
     exact ⟨rfl,rfl⟩
/-! varve/tree.may -/
theorem ok31N (n:Nat):∀ {t0:(List GNode)} {deep1:Int} {res:Bool} {h:AH} , q8 n t0 deep1=some res→Spec Tryz.prog 31 [.sl 3 (t0.map GNode.row),.int .i64 deep1] h (fun rr hh=>rr=.bool res∧hh=h):=by
 induction n with
 | zero=>intro t0 deep1 res h  hF;simp [q8] at hF
 | succ n ih =>
  intro t0 deep1 res h  hF
  unfold q8 at hF
  refine zt Tryz.func31 rfl (by kernel_rfl) (env:=[.sl 3 (t0.map GNode.row),.int .i64 deep1,za,za,za,za,za,za,za,za,za,za,za,za,za,za,za,za,za,za,za,za,za,za,za,za,za,za,za,za,za,za,za,za,za,za,za,za,za,za,za,za,za,za,za,za,za,za,za,za,za,za,za,za,za,za,za,za,za,za,za,za,za,za,za,za,za,za,za,za,za,za,za,za,za,za,za,za,za,za,za,za,za,za,za,za,za,za,za]) (by rfl) ?_
  refine zk (zd ?_)
  refine zc rfl (zi rfl rfl (zb rfl)) yB ?_
  refine ze (zj (zk (zk (zd ?_))))
  refine zc rfl (zf rfl yr (zb rfl)) wB ?_
  refine yb rfl (zS rfl rfl rfl rfl xC xV yc) yL fun hn1=>?_
  replace hn1:=xl hn1
  refine zc rfl (zy rfl yq rfl rfl) yP ?_
  refine zc rfl (zf rfl yA (zb rfl)) yX ?_
  refine zp rfl (fun hb=>zf rfl yF (zb rfl)) yW ?_
  refine zp rfl (fun hb=>zy rfl (zn yC hb) rfl rfl) y5 ?_
  refine zc rfl (zM rfl yM yY rfl (zX (fun ht=>gT ht))) y6 ?_
  refine ze (zj ?_)
  refine zO yT hF (fun hc2 hF=>?_) (fun hc2 hF=>?_)
  ·refine zk (zd ?_)
   refine zc rfl (zi rfl rfl (zb rfl)) yB ?_
   refine ze (zj (zL (zx ?_)))
   obtain rfl:=Option.some.inj hF
   refine zA rfl (zD yz zG) (zz (leV.refl _) rfl ?_)
   exact ⟨rfl,rfl⟩
  ·refine zK (zj (zk (zk (zd ?_))))
   refine zc rfl (zf rfl yr (zb rfl)) xg ?_
   refine yb rfl (zS rfl rfl rfl rfl xC xd yc) xk fun hn3=>?_
   replace hn3:=xl hn3
   refine zc rfl (zf rfl rfl (zb rfl)) xD ?_
   refine ze (zj (zQ ?_))
   refine yo (fun (n1:Nat) (s1:Unit)=>yO [2,3,4,5,6,7,8,9,10,11,12,13,14,15,19,20,21,22,23,24,25,26,27,28,29,30,31,32,33,34,35,36,37,38,39,40,41,42,43,44,45,46,47,48,49,50,51,52,53,54,55,56,57,58,59,60,61,62,63,64,65,66,67,68,69,70,71,72,73,74,75,76,77,78,79,80,81,82,83,84,85,86,87,88] [(18,.int .i64 (n1:Int))]) (fun s1=>h.ext [] []) hF (fun _ _=>by simp only [yO,upd,List.set_cons_succ,List.set_cons_zero];try rfl) (wk.le (by exact (.eq (.eq (.d4 (.d4 (.d4 (.drop (.drop (.eq (.eq (.cons (leV.of_eq rfl) (.d16 (.d16 (.d16 (.d16 (.d4 (.drop (.drop leL.nil))))))))))))))))))) ?_
   intro n1 s1 hi1 hF
   refine zk (zd ?_)
   refine zc rfl (zy rfl xB xi rfl) xK ?_
   refine ze (zj (zk ?_))
   refine yJ xJ hF (fun x1 o1 hl1 hx1 hF hK1=>?_) (fun hF=>?_)
   ·refine zK (zj (zk (zQ (zk (zd ?_)))))
    refine zc rfl (zf rfl xB (zb rfl)) xY ?_
    refine zc rfl (xS rfl xC xd xB w7 (yK hx1) (GNode.row_eq _)) x7 ?_
    refine zc rfl (ye rfl ty51.choose_spec.1 x5 (zH (cs':=[.str x1.name,.sl 9 (x1.leaves.map GLeaf.row),.sl 3 (x1.subs.map GNode.row)]) ty51.choose_spec.2 rfl rfl) (zb rfl)) wl ?_
    refine zc rfl (y4 (n:=0) rfl ze51 rfl) xE ?_
    refine zc rfl (zi rfl xZ (zb rfl)) xz ?_
    refine zc rfl (yg (cs':=[.str x1.name,.sl 9 (x1.leaves.map GLeaf.row),.sl 3 (x1.subs.map GNode.row)]) rfl ty51.choose_spec.1 yU wi (zb rfl) rfl rfl rfl rfl rfl) rfl ?_
    refine ze (zj (zk (zk ?_)))
    refine yI [2] [] trivial mixed (by kernel_rfl) ?_
    refine zq rfl rfl (zg rfl fo51x0 yU rfl) x6 ?_
    refine zq rfl rfl (zu rfl ty9 xN rfl (zr rfl) (zb rfl)) wh ?_
    refine zR hF (fun v27 hv27 hF=>?_)
    refine yu rfl rfl (fun _=>zC rfl rfl rfl (zo wc zw) (.cons (zb rfl) .nil)) (by rintro _ ⟨B2,T2,rfl,hk2⟩;exact ok68 hv27) wj ?_
    refine zq rfl rfl (xR rfl wb rfl) wF ?_
    refine zq rfl rfl (zf rfl wE (zb rfl)) wM ?_
    refine zB rfl rfl (fun hb=>zf rfl yS (zb rfl)) wL ?_
    refine zB rfl rfl (fun hb=>zy rfl (zn wH hb) rfl rfl) wW ?_
    refine zB rfl rfl (fun hb=>zf rfl (zn w6 hb) (zb rfl)) wV ?_
    refine zB rfl (z7 rfl rfl rfl) (fun hb=>zf rfl yr (zb rfl)) wU ?_
    refine zB rfl (z7 rfl rfl rfl) (fun hb=>zf rfl yS (zb rfl)) vl ?_
    refine zB rfl (z7 rfl rfl rfl) (fun hb=>zy rfl (zn vf hb) rfl rfl) vk ?_
    refine wS hF (fun hg28 hF=>?_)
    refine zB rfl (z7 rfl rfl rfl) (fun hb=>qU default rfl xC (zn w5 hb) (zn vt hb) w7 (hg28 hb) (GNode.row_eq _)) vb ?_
    refine zB rfl (z7 rfl rfl rfl) (fun hb=>zg rfl fo51x0 (zn wZ hb) rfl) va ?_
    refine zB rfl (z7 rfl rfl rfl) (fun hb=>ye rfl ty9 (zn ve hb) (zr rfl) (zb rfl)) w9 ?_
    refine zB rfl (z7 rfl rfl rfl) (fun hb=>zg rfl fo51x0 yU rfl) vj ?_
    refine zB rfl (z7 rfl rfl rfl) (fun hb=>zu rfl ty9 (zn wX hb) rfl (zr rfl) (zb rfl)) vI ?_
    refine zB rfl (z7 rfl rfl rfl) (fun hb=>zy rfl (zn wY hb) (zn vM hb) rfl) vA ?_
    refine zB rfl rfl (fun hb=>zM rfl (zn vg hb) vr rfl (zX (fun ht=>gT2 hb ht))) (sk st0) ?_
    refine zq rfl rfl (zM rfl wN rfl (gk yr) (z8 (fun ht=>gF ht))) (sk st1) ?_
    refine zq rfl rfl (zf rfl (gk yF) (zb rfl)) (sk xh) ?_
    refine zB rfl rfl (fun hb=>zg rfl wm yU rfl) (sk wo) ?_
    refine zB rfl rfl (fun hb=>zu rfl ty49 (zn (gk xn) hb) rfl (zr rfl) (zb rfl)) (sk yB) ?_
    refine draw_glen rfl rfl (fun hb=>zS rfl rfl rfl rfl wu (zn (gk yz) hb) yc) (sk xz) ?_
    refine zB rfl rfl (fun hb=>zg rfl fo51x2 yU rfl) (sk xE) ?_
    refine zB rfl rfl (fun hb=>zu rfl ty23 (zn (gk yU) hb) rfl (zr rfl) (zb rfl)) (sk xO) ?_
    refine draw_glen rfl rfl (fun hb=>zS rfl rfl rfl rfl xC (zn (gk xH) hb) yc) (sk xX) ?_
    refine zB rfl rfl (fun hb=>zy rfl (zn (gk yS) hb) (zn (gk xj) hb) rfl) (sk wB) ?_
    refine zB rfl rfl (fun hb=>zy rfl (zn (gk xV) hb) rfl rfl) (sk yL) ?_
    refine zq rfl rfl (zM rfl (gk yV) rfl (gk yq) (z8 (fun ht=>gF ht))) (sk yP) ?_
    refine zq rfl rfl (zf rfl (gk yA) (zb rfl)) (sk yX) ?_
    refine zB rfl rfl (fun hb=>zg rfl fo51x2 yU rfl) (sk yW) ?_
    refine zB rfl rfl (fun hb=>zu rfl ty23 (zn (gk yC) hb) rfl (zr rfl) (zb rfl)) (sk y5) ?_
    refine zB rfl rfl (fun hb=>zf rfl yF (zb rfl)) (sk y6) ?_
    refine zB rfl rfl (fun hb=>zy rfl (zn (gk yT) hb) rfl rfl) (sk xg) ?_
    refine yN hF (fun v31 hv31 hF=>?_)
    refine vC rfl rfl (fun hb=>zC rfl rfl rfl (zo (zn (gk yY) hb) (zo (zn (gk xd) hb) zw)) (.cons (zb rfl) (.cons (zb rfl) .nil))) (fun hb=>ih (hv31 hb)) (sk xk) ?_
    refine zB rfl rfl (fun hb=>xR rfl (zn (gk xi) hb) rfl) (sk xD) ?_
    refine zq rfl rfl (zM rfl (gk yM) rfl (gk xB) (z8 (fun ht=>gF ht))) (sk xK) ?_
    refine ym ?_
    refine zj ?_
    refine zO (gk xJ) hF (fun hc32 hF=>?_) (fun hc32 hF=>?_)
    ·refine zk (zd ?_)
     refine zc rfl (zi rfl rfl (zb rfl)) yB ?_
     refine ze (zj (zL (zx ?_)))
     refine zF ?_
     refine zx ?_
     refine yd ?_
     obtain rfl:=Option.some.inj hF
     replace hF:=hK1
     refine zF ?_
     refine zx ?_
     obtain rfl:=Option.some.inj hF
     refine zA rfl (zD yz zG) (zz (leV.refl _) rfl ?_)
     exact ⟨rfl,rfl⟩
    ·refine zK (zj (zk (zd ?_)))
     refine zc rfl (zg rfl wm yU rfl) (sk xY) ?_
     refine zc rfl (zu rfl ty49 (gk xZ) rfl (zr rfl) (zb rfl)) (sk x7) ?_
     refine yb rfl (zS rfl rfl rfl rfl wu (gk x5) yc) (sk wl) fun hn33=>?_
     replace hn33:=xl hn33
     refine zc rfl (zf rfl rfl (zb rfl)) (sk x6) ?_
     refine ze (zj (zQ ?_))
     refine yo (fun (n2:Nat) (s2:Unit)=>yO [2,3,4,5,7,8,9,10,11,12,13,14,15,19,20,21,22,23,24,25,26,27,28,29,30,31,32,33,34,35,36,37,38,39,40,41,42,43,44,45,46,47,48,49,50,51,52,53,54,55,56,57,58,59,60,64,65,66,67,68,69,70,71,72,73,74,75,76,77,78,79,80,81,82,83,84,85,86,87,88] [(63,.int .i64 (n2:Int))]) (fun s2=>h.ext [.cells [.str x1.name,.sl 9 (x1.leaves.map GLeaf.row),.sl 3 (x1.subs.map GNode.row)]] []) hF (fun _ _=>by simp only [yO,upd,List.set_cons_succ,List.set_cons_zero];try rfl) (wk.le (by exact (.eq (.eq (.d4 (.eq (.d4 (.d4 (.drop (.eq (.eq (.eq (.d16 (.d16 (.d4 (.d4 (.drop (.drop (.eq (.eq (.cons (leV.of_eq rfl) (.d16 (.d4 (.d4 (.drop leL.nil))))))))))))))))))))))))) ?_
     intro n2 s2 hi2 hF
     refine zk (zd ?_)
     refine zc rfl (zy rfl (gk xN) (gk wi) rfl) (sk wh) ?_
     refine ze (zj (zk ?_))
     refine yJ (gk wc) hF (fun x2 o2 hl2 hx2 hF hK2=>?_) (fun hF=>?_)
     ·refine zK (zj (zk (zQ (zk (zd ?_)))))
      refine zc rfl (zf rfl (gk xN) (zb rfl)) (sk wj) ?_
      refine zc rfl (yj rfl wu (gk x5) (gk xN) w7 (yK hx2)) (sk wF) ?_
      refine zc rfl (ye rfl ty48.choose_spec.1 (gk wE) (zH (cs':=[.int .u8 x2.typ,.int .i64 x2.n,.int .u64 x2.time,.int .u8 x2.dot.actor.rep,.int .u32 x2.dot.actor.inc,.int .u64 x2.dot.seq,.str x2.text,.sl 5 (x2.items.map GItem.row),.sl 3 (x2.tombs.map GDot.row)]) ty48.choose_spec.2 rfl rfl) (zb rfl)) (sk wM) ?_
      refine zc rfl (y4 (n:=1) rfl ze48 rfl) xX ?_
      refine zc rfl (zi rfl (gk wb) (zb rfl)) xO ?_
      refine zc rfl (yg (cs':=[.int .u8 x2.typ,.int .i64 x2.n,.int .u64 x2.time,.int .u8 x2.dot.actor.rep,.int .u32 x2.dot.actor.inc,.int .u64 x2.dot.seq,.str x2.text,.sl 5 (x2.items.map GItem.row),.sl 3 (x2.tombs.map GDot.row)]) rfl ty48.choose_spec.1 xj (gk wN) (zb rfl) rfl rfl rfl rfl rfl) rfl ?_
      refine ze (zj (zk ?_))
      refine yI [1] [] trivial mixed (by kernel_rfl) ?_
      refine zq rfl rfl (zu rfl ty48.choose_spec.1 xj rfl (zH (cs':=[.int .u8 x2.typ,.int .i64 x2.n,.int .u64 x2.time,.int .u8 x2.dot.actor.rep,.int .u32 x2.dot.actor.inc,.int .u64 x2.dot.seq,.str x2.text,.sl 5 (x2.items.map GItem.row),.sl 3 (x2.tombs.map GDot.row)]) ty48.choose_spec.2 rfl rfl) (zb rfl)) (sk wL) ?_
      refine zR hF (fun v43 hv43 hF=>?_)
      refine yu rfl rfl (fun _=>zC rfl rfl rfl (zo (gk wH) zw) (.cons (zb rfl) .nil)) (by rintro _ ⟨B2,T2,rfl,hk2⟩;exact ok69 hv43) (sk wW) ?_
      refine zq rfl rfl (xR rfl (gk w6) rfl) (sk wV) ?_
      refine zq rfl rfl (zf rfl (gk vg) (zb rfl)) (sk wU) ?_
      refine zB rfl rfl (fun hb=>zf rfl xH (zb rfl)) (sk vl) ?_
      refine zB rfl rfl (fun hb=>zy rfl (zn (gk vf) hb) rfl rfl) (sk vk) ?_
      refine zB rfl rfl (fun hb=>zf rfl (zn (gk vt) hb) (zb rfl)) (sk vb) ?_
      refine zB rfl (z7 rfl rfl rfl) (fun hb=>zg rfl wm yU rfl) (sk va) ?_
      refine zB rfl (z7 rfl rfl rfl) (fun hb=>zu rfl ty49 (zn (gk ve) hb) rfl (zr rfl) (zb rfl)) (sk w9) ?_
      refine zB rfl (z7 rfl rfl rfl) (fun hb=>zf rfl xH (zb rfl)) (sk vj) ?_
      refine zB rfl (z7 rfl rfl rfl) (fun hb=>zy rfl (zn (gk wX) hb) rfl rfl) (sk vI) ?_
      refine wS hF (fun hg44 hF=>?_)
      refine zB rfl (z7 rfl rfl rfl) (fun hb=>xT default rfl wu (zn (gk wY) hb) (zn (gk vM) hb) w7 (hg44 hb)) (sk vA) ?_
      refine zB rfl (z7 rfl rfl rfl) (fun hb=>zg rfl wd (zn (gk vr) hb) rfl) (sk (sk st0)) ?_
      refine zB rfl (z7 rfl rfl rfl) (fun hb=>ye rfl ty5 (zn (gk (gk yr)) hb) (zr rfl) (zb rfl)) (sk (sk st1)) ?_
      refine zB rfl (z7 rfl rfl rfl) (fun hb=>zg rfl wd xj rfl) (sk (sk xh)) ?_
      refine zB rfl (z7 rfl rfl rfl) (fun hb=>zu rfl ty5 (zn (gk (gk yV)) hb) rfl (zr rfl) (zb rfl)) (sk (sk wo)) ?_
      refine zB rfl (z7 rfl rfl rfl) (fun hb=>zy rfl (zn (gk (gk yF)) hb) (zn (gk (gk xn)) hb) rfl) (sk (sk yB)) ?_
      refine zB rfl rfl (fun hb=>zM rfl (zn (gk wZ) hb) (gk (gk yz)) rfl (zX (fun ht=>gT2 hb ht))) (sk (sk xz)) ?_
      refine zq rfl rfl (zM rfl (gk w5) rfl (gk (gk yS)) (z8 (fun ht=>gF ht))) (sk (sk xE)) ?_
      refine ym ?_
      refine zj ?_
      refine zO (gk (gk yU)) hF (fun hc45 hF=>?_) (fun hc45 hF=>?_)
      ·refine zk (zd ?_)
       refine zc rfl (zi rfl rfl (zb rfl)) yB ?_
       refine ze (zj (zL ?_))
       refine zF ?_
       refine zx ?_
       refine yd ?_
       obtain rfl:=Option.some.inj hF
       replace hF:=hK2
       refine zF ?_
       refine zF ?_
       refine zx ?_
       refine yd ?_
       obtain rfl:=Option.some.inj hF
       replace hF:=hK1
       refine zF ?_
       refine zx ?_
       obtain rfl:=Option.some.inj hF
       refine zA rfl (zD yz zG) (zz (leV.refl _) rfl ?_)
       exact ⟨rfl,rfl⟩
      ·refine zK (yh (zj (zd ?_)))
       refine zc rfl (zy rfl (gk xN) rfl rfl) (sk (sk xO)) ?_
       refine zc rfl (zf rfl (gk (gk xH)) (zb rfl)) (sk x6) ?_
       refine ze (yH ?_)
       obtain rfl:=Option.some.inj hF
       exact ⟨(),hl2,hK2,wk.trans (wk.le (by exact (.eq (.eq (.d4 (.eq (.d4 (.d4 (.drop (.eq (.eq (.eq (.d16 (.d16 (.d4 (.d4 (.drop (.drop (.eq (.eq (.cons (leV.of_eq (w8 (by omega) (by omega))) (.d16 (.d4 (.d4 (.drop leL.nil))))))))))))))))))))))))) (xI (by simp [yi,AV.low]) rfl rfl (by simp [Blk.low,yi,AV.low]))⟩
     ·refine yR ?_
      refine ya ?_
      refine zV ?_
      refine zW ?_
      refine yh (zj (zd ?_))
      refine zc rfl (zy rfl xB rfl rfl) (sk (sk xX)) ?_
      refine zc rfl (zf rfl (gk (gk xj)) (zb rfl)) xD ?_
      refine ze (yH ?_)
      obtain rfl:=Option.some.inj hF
      exact ⟨(),hl1,hK1,wk.trans (wk.le (by exact (.eq (.eq (.d4 (.d4 (.d4 (.drop (.drop (.eq (.eq (.cons (leV.of_eq (w8 (by omega) (by omega))) (.d16 (.d16 (.d16 (.d16 (.d4 (.drop (.drop leL.nil))))))))))))))))))) (xI (by simp [yi,AV.low]) rfl rfl (by simp [Blk.low,yi,AV.low]))⟩
   ·refine yR ?_
    refine ya ?_
    refine zV ?_
    refine zW ?_
    refine zj (zk (zd ?_))
    refine zc rfl (zi rfl rfl (zb rfl)) yB ?_
    refine ze (zj (zL ?_))
    obtain rfl:=Option.some.inj hF
    refine zA rfl (zD yz zG) (zz (leV.refl _) rfl ?_)
    exact ⟨rfl,rfl⟩
theorem ok31 {t0:(List GNode)} {deep1:Int} {res:Bool} {h:AH}  (hF:treeXmay t0 deep1=some res):Spec Tryz.prog 31 [.sl 3 (t0.map GNode.row),.int .i64 deep1] h (fun rr hh=>rr=.bool res∧hh=h):=by
 obtain ⟨n,hn⟩:=anyN_is hF
 exact ok31N n  hn
/-! varve/tree.May -/
theorem ok15 {t0:(List GNode)} {res:Bool} {h:AH}  (hF:qS t0=some res):Spec Tryz.prog 15 [.sl 3 (t0.map GNode.row)] h (fun rr hh=>rr=.bool res∧hh=h):=by
 unfold qS at hF
 refine zt Tryz.func15 rfl (by kernel_rfl) (env:=[.sl 3 (t0.map GNode.row),za,za,za,za]) (by rfl) ?_
 refine zk (zd ?_)
 refine zc rfl (zi rfl rfl (zb rfl)) xh ?_
 refine ze (zj (zk (zd ?_)))
 refine zc rfl (zf rfl yr (zb rfl)) wo ?_
 refine zR hF (fun v1 hv1 hF=>?_)
 refine zN rfl (zC rfl rfl rfl (zo xn (zo rfl zw)) (.cons (zb rfl) (.cons (zb rfl) .nil))) (ok31 hv1) yB ?_
 refine zc rfl (zi rfl yz (zb rfl)) xh ?_
 refine ze (zj (zL ?_))
 obtain rfl:=Option.some.inj hF
 refine zA rfl (zD yV zG) (zz (leV.refl _) rfl ?_)
 exact ⟨rfl,rfl⟩
/-! varve/paths.Rows -/
theorem ok16 {t0:(List GNode)} {res:(List GRow)} {h:AH}  (hF:pathsRows t0=some res):Spec Tryz.prog 16 [.sl 3 (t0.map GNode.row)] h (fun rr hh=>rr=.sl 10 (res.map GRow.row)∧hh=h):=by
 unfold pathsRows at hF
 refine zt Tryz.func16 rfl (by kernel_rfl) (env:=[.sl 3 (t0.map GNode.row),za,za,za,za,za,za,za,za]) (by rfl) ?_
 refine zk (zd ?_)
 refine zc rfl (zi rfl rfl (xy el56)) xh ?_
 refine ze (zj (zk (zk (zd ?_))))
 refine zc rfl (zf rfl yr (zb rfl)) wo ?_
 refine zR hF (fun v1 hv1 hF=>?_)
 refine zN rfl (zC rfl rfl rfl (zo xn zw) (.cons (zb rfl) .nil)) (ok15 hv1) yB ?_
 refine zc rfl (xR rfl yz rfl) xz ?_
 refine ze (zj ?_)
 refine zO yS hF (fun hc2 hF=>?_) (fun hc2 hF=>?_)
 ·refine zk (zd ?_)
  refine zc rfl (zi rfl rfl (xy el56)) xh ?_
  refine ze (zj (zL (zx ?_)))
  obtain rfl:=Option.some.inj hF
  refine zA rfl (zD yV zG) (zz (leV.osl _ _ _) rfl ?_)
  exact ⟨rfl,rfl⟩
 ·refine zK (zj (zk (zd ?_)))
  refine zc rfl (zf rfl yr (zb rfl)) xE ?_
  refine zR hF (fun v3 hv3 hF=>?_)
  refine ops_callH rfl (zC rfl rfl rfl (zo yU (zo rfl zw)) (.cons (zb rfl) (.cons (xy wt) .nil))) (clo_ext rfl (n:=0) (B':=[.cells [.sl 3 (v3.1.map GNode.row)],.cells [.sl 1 (v3.2.map zP)]]) (caps:=[.ptr (h.blks.length+0) 0,.ptr (h.blks.length+1) 0]) ((ok33 hv3).le (.eq (.cons (leV.osl _ _ _) leL.nil))) rfl rfl rfl) xO ?_
  refine zR hF (fun v4 hv4 hF=>?_)
  refine zN rfl (zC rfl rfl rfl (zo xH zw) (.cons (zb rfl) .nil)) (ok32 (fun S Hy nb nt hN hNt hC hE y idy hly hy s s' hF=>ok71 hN hNt hC hly hy (fun s=>by obtain ⟨L,M,e⟩:=hE s;rw [e];exact n_blk2 (j:=0) rfl rfl) (fun s=>by obtain ⟨L,M,e⟩:=hE s;rw [e];exact n_blk2 (j:=1) rfl rfl) hF) hv4) xX ?_
  refine zc rfl (zi rfl xj (zb rfl)) xh ?_
  refine ze (zj (zL ?_))
  obtain rfl:=Option.some.inj hF
  refine zA rfl (zD yV zG) (zz (leV.refl _) rfl ?_)
  exact ⟨rfl,rfl⟩
/-! strings.Join -/
def joinTryzRen:Go.Shelf.Ren :=
  { f:=fun x=>match x with
      | 156=>34
      | 165=>74
      | 166=>75
      | 169=>76
      | 240=>98
      | 241=>99
      | 276=>127
      | 277=>128
      | n=>n
    t:=fun x=>match x with
      | 0=>0
      | 3=>3
      | 4=>4
      | 9=>9
      | 20=>20
      | 31=>52
      | 37=>79
      | 70=>115
      | 72=>117
      | 75=>120
      | 76=>121
      | 127=>141
      | 164=>162
      | 5=>5
      | 80=>123
      | n=>n
    g:=fun n=>n }
theorem joinTryzLays:Go.Proofs.Lays.n156 Tryz.prog joinTryzRen where
  mixed:=mixed
  f156:=Tryz.func34.trans (by kernel_rfl)
  f165:=Tryz.func74.trans (by kernel_rfl)
  f166:=Tryz.func75.trans (by kernel_rfl)
  f169:=Tryz.func76.trans (by kernel_rfl)
  f240:=Tryz.func98.trans (by kernel_rfl)
  f241:=Tryz.func99.trans (by kernel_rfl)
  f276:=Tryz.func127.trans (by kernel_rfl)
  f277:=Tryz.func128.trans (by kernel_rfl)
  t0:=Tryz.underlying0
  a0:=Tryz.isAgg0
  z0:=Tryz.sizeOf0
  v0:=Tryz.zeroValue0
  t3:=Tryz.underlying3
  a3:=Tryz.isAgg3
  z3:=Tryz.sizeOf3
  v3:=Tryz.zeroValue3
  t4:=Tryz.underlying4
  a4:=Tryz.isAgg4
  z4:=Tryz.sizeOf4
  v4:=Tryz.zeroValue4
  t9:=Tryz.underlying9
  a9:=Tryz.isAgg9
  z9:=Tryz.sizeOf9
  v9:=Tryz.zeroValue9
  t20:=Tryz.underlying20
  a20:=Tryz.isAgg20
  z20:=Tryz.sizeOf20
  v20:=Tryz.zeroValue20
  t31:=Tryz.underlying52
  a31:=Tryz.isAgg52
  z31:=Tryz.sizeOf52
  v31:=Tryz.zeroValue52
  t37:=Tryz.underlying79
  a37:=Tryz.isAgg79
  z37:=Tryz.sizeOf79
  v37:=Tryz.zeroValue79
  t70:=Tryz.underlying115
  a70:=Tryz.isAgg115
  z70:=Tryz.sizeOf115
  v70:=Tryz.zeroValue115
  t72:=Tryz.underlying117
  a72:=Tryz.isAgg117
  z72:=Tryz.sizeOf117
  v72:=Tryz.zeroValue117
  t75:=Tryz.underlying120
  a75:=Tryz.isAgg120
  z75:=Tryz.sizeOf120
  v75:=Tryz.zeroValue120
  t76:=Tryz.underlying121
  a76:=Tryz.isAgg121
  z76:=Tryz.sizeOf121
  v76:=Tryz.zeroValue121
  t127:=Tryz.underlying141
  a127:=Tryz.isAgg141
  z127:=Tryz.sizeOf141
  v127:=Tryz.zeroValue141
  t164:=Tryz.underlying162
  a164:=Tryz.isAgg162
  z164:=Tryz.sizeOf162
  v164:=Tryz.zeroValue162
theorem joinTryzExtra:Go.Proofs.Builder.Extra Tryz.prog joinTryzRen where
  sizeBuilder:=by kernel_rfl
  liesBuilder:=by kernel_rfl
  t5:=Tryz.underlying5
  a5:=Tryz.isAgg5
  z5:=Tryz.sizeOf5
  v5:=Tryz.zeroValue5
  infoByte:=by kernel_rfl
  cellsByte:=by kernel_rfl
  sizeByte:=by kernel_rfl
  neB5:=by decide
theorem ok34 {p0:List zJ} {p1:zJ} {res:zJ} {h:AH} (hF:stringsJoin p0 p1=some res):Spec Tryz.prog 34 [.sl 1 (p0.map zP),.str p1] h (fun rr hh=>rr=.str res∧hh=h) :=
 spec_join joinTryzLays joinTryzExtra hF
/-! varve/diff.key -/
theorem ok17 {path0:(List zJ)} {kind1:Int} {res:zJ} {h:AH}  (hF:vu path0 kind1=some res):Spec Tryz.prog 17 [.sl 1 (path0.map zP),.int .u8 kind1] h (fun rr hh=>rr=.str res∧hh=h):=by
 unfold vu at hF
 refine zt Tryz.func17 rfl (by kernel_rfl) (env:=[.sl 1 (path0.map zP),.int .u8 kind1,za,za,za,za,za,za,za,za,za,za]) (by rfl) ?_
 refine zk (zd ?_)
 refine zc rfl (zi rfl rfl (zb rfl)) yB ?_
 refine ze (zj (zk ?_))
 refine yI [1] [] trivial mixed (by kernel_rfl) ?_
 refine zq rfl rfl (zf rfl yr (zb rfl)) xz ?_
 refine zR hF (fun v1 hv1 hF=>?_)
 refine yu rfl rfl (fun _=>zC rfl rfl rfl (zo yS (zo rfl zw)) (.cons (zb rfl) (.cons (zb rfl) .nil))) (by rintro _ ⟨B2,T2,rfl,hk2⟩;exact ok34 hv1) xE ?_
 refine wS hF (fun hm2 hF=>?_)
 refine zq rfl rfl (zy rfl yU rfl (if_pos hm2)) xO ?_
 refine zq rfl rfl (zf rfl yF (zb rfl)) xX ?_
 refine wS hF (fun hm3 hF=>?_)
 refine zq rfl rfl (yE (es:=([(UInt8.ofNat kind1.toNat)]:List UInt8).map byteRow) rfl el79 ze5 rfl rfl (yl xj yp) (.cons (zb rfl) .nil) rfl rfl (by simp only [List.map_cons,List.map_nil,byteRow,byte_of hm3];rfl)) wB ?_
 refine wS hF (fun hm4 hF=>?_)
 refine draw_b rfl rfl rfl (convB rfl el79.u ty5.u ty9.u xV (.inr ⟨_,zb rfl⟩) hm4) yL ?_
 refine wS hF (fun hm5 hF=>?_)
 refine zq rfl rfl (zy rfl xH yq (if_pos hm5)) yP ?_
 refine zq rfl rfl (zi rfl yA (zb rfl)) yB ?_
 refine ym ?_
 refine zj (zL ?_)
 obtain rfl:=Option.some.inj hF
 refine zA rfl (zD yz zG) (zz (leV.refl _) rfl ?_)
 exact ⟨rfl,rfl⟩
/-! varve/diff.own -/
theorem ok58 {l0:GLeaf} {res:GLeaf} {h:AH}  (hF:diffXown l0=some res):Spec Tryz.prog 58 [.agg [.int .u8 l0.typ,.int .i64 l0.n,.int .u64 l0.time,.int .u8 l0.dot.actor.rep,.int .u32 l0.dot.actor.inc,.int .u64 l0.dot.seq,.str l0.text,.sl 5 (l0.items.map GItem.row),.sl 3 (l0.tombs.map GDot.row)]] h (fun rr hh=>rr=.agg [.int .u8 res.typ,.int .i64 res.n,.int .u64 res.time,.int .u8 res.dot.actor.rep,.int .u32 res.dot.actor.inc,.int .u64 res.dot.seq,.str res.text,.sl 5 (res.items.map GItem.row),.sl 3 (res.tombs.map GDot.row)]∧hh=h):=by
 unfold diffXown at hF
 refine zt Tryz.func58 rfl (by kernel_rfl) (env:=[.agg [.int .u8 l0.typ,.int .i64 l0.n,.int .u64 l0.time,.int .u8 l0.dot.actor.rep,.int .u32 l0.dot.actor.inc,.int .u64 l0.dot.seq,.str l0.text,.sl 5 (l0.items.map GItem.row),.sl 3 (l0.tombs.map GDot.row)],za,za,za,za,za,za,za,za,za,za,za]) (by rfl) ?_
 refine zk (zd ?_)
 refine zc rfl (xw (n:=0) rfl yr (zb rfl) rfl rfl) st1 ?_
 refine zc rfl (y4 (n:=1) rfl ze48 rfl) xh ?_
 refine ze (zj (zk ?_))
 refine yI [] [] trivial mixed (by kernel_rfl) ?_
 refine zq rfl rfl (zg rfl x4 yF rfl) wo ?_
 refine zq rfl rfl (zu rfl ty45 xn rfl (zr rfl) (zb rfl)) yB ?_
 refine zR hF (fun v1 hv1 hF=>?_)
 refine vD rfl FOk.nil (by rfl) rfl (zC rfl rfl rfl (zo yz zw) (.cons (zb rfl) .nil)) (own_ext (T':=[(v1).length]) (ok50 hv1) (m:=0) rfl rfl) xz ?_
 refine zq rfl rfl (zg rfl wr yF rfl) xE ?_
 refine zq rfl rfl (zu rfl ty46 yU rfl (zr rfl) (zb rfl)) xO ?_
 refine zR hF (fun v2 hv2 hF=>?_)
 refine vD rfl FOk.nil (by rfl) rfl (zC rfl rfl rfl (zo xH zw) (.cons (zb rfl) .nil)) (own_ext (T':=[(v1).length,(v2).length]) (ok51 hv2) (m:=1) rfl rfl) xX ?_
 refine zq rfl rfl (zg rfl x4 yF rfl) wB ?_
 refine yZ rfl FOk.nil (by kernel_rfl) rfl (yg (cs':=[.int .u8 l0.typ,.int .i64 l0.n,.int .u64 l0.time,.int .u8 l0.dot.actor.rep,.int .u32 l0.dot.actor.inc,.int .u64 l0.dot.seq,.str l0.text,.osl (some (h.toks.length+0)) 5 (v1.map GItem.row),.sl 3 (l0.tombs.map GDot.row)]) rfl ty45 xV yS (zb rfl) rfl rfl rfl rfl rfl) rfl ?_
 refine zq rfl rfl (zg rfl wr yF rfl) yL ?_
 refine yZ rfl FOk.nil (by kernel_rfl) rfl (yg (cs':=[.int .u8 l0.typ,.int .i64 l0.n,.int .u64 l0.time,.int .u8 l0.dot.actor.rep,.int .u32 l0.dot.actor.inc,.int .u64 l0.dot.seq,.str l0.text,.osl (some (h.toks.length+0)) 5 (v1.map GItem.row),.osl (some (h.toks.length+1)) 3 (v2.map GDot.row)]) rfl ty46 yq xj (zb rfl) rfl rfl rfl rfl rfl) rfl ?_
 refine ym ?_
 refine zj (zk (zd ?_))
 refine zc rfl (zu rfl ty48.choose_spec.1 yF rfl (zH (cs':=[.int .u8 l0.typ,.int .i64 l0.n,.int .u64 l0.time,.int .u8 l0.dot.actor.rep,.int .u32 l0.dot.actor.inc,.int .u64 l0.dot.seq,.str l0.text,.osl (some (h.toks.length+0)) 5 (v1.map GItem.row),.osl (some (h.toks.length+1)) 3 (v2.map GDot.row)]) ty48.choose_spec.2 rfl rfl) (zb rfl)) yP ?_
 refine zc rfl (yg (cs':=[.int .u8 l0.typ,.int .i64 l0.n,.int .u64 l0.time,.int .u8 l0.dot.actor.rep,.int .u32 l0.dot.actor.inc,.int .u64 l0.dot.seq,.str l0.text,.osl (some (h.toks.length+0)) 5 (v1.map GItem.row),.osl (some (h.toks.length+1)) 3 (v2.map GDot.row)]) rfl ty48.choose_spec.1 yV yA (zb rfl) rfl rfl rfl rfl rfl) rfl ?_
 refine ze (zj (zL ?_))
 obtain rfl:=Option.some.inj hF
 refine zA rfl (rl_cell ty48.choose_spec.1 yV rfl (zH (cs':=[.int .u8 l0.typ,.int .i64 l0.n,.int .u64 l0.time,.int .u8 l0.dot.actor.rep,.int .u32 l0.dot.actor.inc,.int .u64 l0.dot.seq,.str l0.text,.osl (some (h.toks.length+0)) 5 (v1.map GItem.row),.osl (some (h.toks.length+1)) 3 (v2.map GDot.row)]) ty48.choose_spec.2 rfl rfl) (zb rfl) zG) (zz (leV.agg (.eq (.eq (.eq (.eq (.eq (.eq (.eq (.cons (leV.osl _ _ _) (.cons (leV.osl _ _ _) leL.nil))))))))) rfl) rfl ?_)
 exact ⟨rfl,rfl⟩
/-! varve/diff.copied -/
theorem ok35 {e0:GEdit} {res:GEdit} {h:AH}  (hF:qu e0=some res):Spec Tryz.prog 35 [.agg [.sl 1 (e0.path.map zP),.int .u8 e0.typ,.bool e0.had,.bool e0.has,.int .u8 e0.was.typ,.int .i64 e0.was.n,.int .u64 e0.was.time,.int .u8 e0.was.dot.actor.rep,.int .u32 e0.was.dot.actor.inc,.int .u64 e0.was.dot.seq,.str e0.was.text,.sl 5 (e0.was.items.map GItem.row),.sl 3 (e0.was.tombs.map GDot.row),.int .u8 e0.is.typ,.int .i64 e0.is.n,.int .u64 e0.is.time,.int .u8 e0.is.dot.actor.rep,.int .u32 e0.is.dot.actor.inc,.int .u64 e0.is.dot.seq,.str e0.is.text,.sl 5 (e0.is.items.map GItem.row),.sl 3 (e0.is.tombs.map GDot.row)]] h (fun rr hh=>rr=.agg [.sl 1 (res.path.map zP),.int .u8 res.typ,.bool res.had,.bool res.has,.int .u8 res.was.typ,.int .i64 res.was.n,.int .u64 res.was.time,.int .u8 res.was.dot.actor.rep,.int .u32 res.was.dot.actor.inc,.int .u64 res.was.dot.seq,.str res.was.text,.sl 5 (res.was.items.map GItem.row),.sl 3 (res.was.tombs.map GDot.row),.int .u8 res.is.typ,.int .i64 res.is.n,.int .u64 res.is.time,.int .u8 res.is.dot.actor.rep,.int .u32 res.is.dot.actor.inc,.int .u64 res.is.dot.seq,.str res.is.text,.sl 5 (res.is.items.map GItem.row),.sl 3 (res.is.tombs.map GDot.row)]∧hh=h):=by
 unfold qu at hF
 refine zt Tryz.func35 rfl (by kernel_rfl) (env:=[.agg [.sl 1 (e0.path.map zP),.int .u8 e0.typ,.bool e0.had,.bool e0.has,.int .u8 e0.was.typ,.int .i64 e0.was.n,.int .u64 e0.was.time,.int .u8 e0.was.dot.actor.rep,.int .u32 e0.was.dot.actor.inc,.int .u64 e0.was.dot.seq,.str e0.was.text,.sl 5 (e0.was.items.map GItem.row),.sl 3 (e0.was.tombs.map GDot.row),.int .u8 e0.is.typ,.int .i64 e0.is.n,.int .u64 e0.is.time,.int .u8 e0.is.dot.actor.rep,.int .u32 e0.is.dot.actor.inc,.int .u64 e0.is.dot.seq,.str e0.is.text,.sl 5 (e0.is.items.map GItem.row),.sl 3 (e0.is.tombs.map GDot.row)],za,za,za,za,za,za,za,za,za,za,za,za,za,za,za]) (by rfl) ?_
 refine zk (zd ?_)
 refine zc rfl (xw (n:=0) rfl yr (zb rfl) rfl rfl) st1 ?_
 refine zc rfl (y4 (n:=1) rfl ze54 rfl) xh ?_
 refine ze (zj (zk ?_))
 refine yI [5,8] [] trivial mixed (by kernel_rfl) ?_
 refine zq rfl rfl (zg rfl qX yF rfl) wo ?_
 refine zq rfl rfl (zu rfl ty52 xn rfl (zr rfl) (zb rfl)) yB ?_
 refine zR hF (fun v1 hv1 hF=>?_)
 refine vD rfl (FOk.cons (.inr (xP trivial)) (FOk.cons (.inr (xP trivial)) FOk.nil)) (by rfl) rfl (zC rfl rfl rfl (zo yz zw) (.cons (zb rfl) .nil)) (own_ext (T':=[(v1).length]) (ok72 hv1) (m:=0) rfl rfl) xz ?_
 refine zq rfl rfl (zg rfl fo54x4 yF rfl) xE ?_
 refine zq rfl rfl (zu rfl ty48.choose_spec.1 yU rfl (zH (cs':=[.int .u8 e0.was.typ,.int .i64 e0.was.n,.int .u64 e0.was.time,.int .u8 e0.was.dot.actor.rep,.int .u32 e0.was.dot.actor.inc,.int .u64 e0.was.dot.seq,.str e0.was.text,.sl 5 (e0.was.items.map GItem.row),.sl 3 (e0.was.tombs.map GDot.row)]) ty48.choose_spec.2 rfl rfl) (zb rfl)) xO ?_
 refine zR hF (fun v2 hv2 hF=>?_)
 refine yu rfl rfl (fun _=>zC rfl rfl rfl (zo xH zw) (.cons (zb rfl) .nil)) (by rintro _ ⟨B2,T2,rfl,hk2⟩;exact ok58 hv2) xX ?_
 refine zq rfl rfl (zg rfl fo54x5 yF rfl) wB ?_
 refine zq rfl rfl (zu rfl ty48.choose_spec.1 xV rfl (zH (cs':=[.int .u8 e0.is.typ,.int .i64 e0.is.n,.int .u64 e0.is.time,.int .u8 e0.is.dot.actor.rep,.int .u32 e0.is.dot.actor.inc,.int .u64 e0.is.dot.seq,.str e0.is.text,.sl 5 (e0.is.items.map GItem.row),.sl 3 (e0.is.tombs.map GDot.row)]) ty48.choose_spec.2 rfl rfl) (zb rfl)) yL ?_
 refine zR hF (fun v3 hv3 hF=>?_)
 refine yu rfl rfl (fun _=>zC rfl rfl rfl (zo yq zw) (.cons (zb rfl) .nil)) (by rintro _ ⟨B2,T2,rfl,hk2⟩;exact ok58 hv3) yP ?_
 refine zq rfl rfl (zg rfl qX yF rfl) yX ?_
 refine yZ rfl (FOk.cons (.inr (xP trivial)) (FOk.cons (.inr (xP trivial)) FOk.nil)) (by kernel_rfl) rfl (yg (cs':=[.osl (some (h.toks.length+0)) 1 (v1.map zP),.int .u8 e0.typ,.bool e0.had,.bool e0.has,.int .u8 e0.was.typ,.int .i64 e0.was.n,.int .u64 e0.was.time,.int .u8 e0.was.dot.actor.rep,.int .u32 e0.was.dot.actor.inc,.int .u64 e0.was.dot.seq,.str e0.was.text,.sl 5 (e0.was.items.map GItem.row),.sl 3 (e0.was.tombs.map GDot.row),.int .u8 e0.is.typ,.int .i64 e0.is.n,.int .u64 e0.is.time,.int .u8 e0.is.dot.actor.rep,.int .u32 e0.is.dot.actor.inc,.int .u64 e0.is.dot.seq,.str e0.is.text,.sl 5 (e0.is.items.map GItem.row),.sl 3 (e0.is.tombs.map GDot.row)]) rfl ty52 yM yS (zb rfl) rfl rfl rfl rfl rfl) rfl ?_
 refine zq rfl rfl (zg rfl fo54x4 yF rfl) yW ?_
 refine yZ rfl (FOk.cons (.inr (xP trivial)) (FOk.cons (.inr (xP trivial)) FOk.nil)) (by kernel_rfl) rfl (yg (cs':=[.osl (some (h.toks.length+0)) 1 (v1.map zP),.int .u8 e0.typ,.bool e0.had,.bool e0.has,.int .u8 v2.typ,.int .i64 v2.n,.int .u64 v2.time,.int .u8 v2.dot.actor.rep,.int .u32 v2.dot.actor.inc,.int .u64 v2.dot.seq,.str v2.text,.sl 5 (v2.items.map GItem.row),.sl 3 (v2.tombs.map GDot.row),.int .u8 e0.is.typ,.int .i64 e0.is.n,.int .u64 e0.is.time,.int .u8 e0.is.dot.actor.rep,.int .u32 e0.is.dot.actor.inc,.int .u64 e0.is.dot.seq,.str e0.is.text,.sl 5 (e0.is.items.map GItem.row),.sl 3 (e0.is.tombs.map GDot.row)]) rfl ty48.choose_spec.1 yC xj (zb rfl) rfl rfl rfl rfl rfl) rfl ?_
 refine zq rfl rfl (zg rfl fo54x5 yF rfl) y5 ?_
 refine yZ rfl (FOk.cons (.inr (xP trivial)) (FOk.cons (.inr (xP trivial)) FOk.nil)) (by kernel_rfl) rfl (yg (cs':=[.osl (some (h.toks.length+0)) 1 (v1.map zP),.int .u8 e0.typ,.bool e0.had,.bool e0.has,.int .u8 v2.typ,.int .i64 v2.n,.int .u64 v2.time,.int .u8 v2.dot.actor.rep,.int .u32 v2.dot.actor.inc,.int .u64 v2.dot.seq,.str v2.text,.sl 5 (v2.items.map GItem.row),.sl 3 (v2.tombs.map GDot.row),.int .u8 v3.typ,.int .i64 v3.n,.int .u64 v3.time,.int .u8 v3.dot.actor.rep,.int .u32 v3.dot.actor.inc,.int .u64 v3.dot.seq,.str v3.text,.sl 5 (v3.items.map GItem.row),.sl 3 (v3.tombs.map GDot.row)]) rfl ty48.choose_spec.1 yY yA (zb rfl) rfl rfl rfl rfl rfl) rfl ?_
 refine ym ?_
 refine zj (zk (zd ?_))
 refine zc rfl (zu rfl ty54.choose_spec.1 yF rfl (zH (cs':=[.osl (some (h.toks.length+0)) 1 (v1.map zP),.int .u8 e0.typ,.bool e0.had,.bool e0.has,.int .u8 v2.typ,.int .i64 v2.n,.int .u64 v2.time,.int .u8 v2.dot.actor.rep,.int .u32 v2.dot.actor.inc,.int .u64 v2.dot.seq,.str v2.text,.sl 5 (v2.items.map GItem.row),.sl 3 (v2.tombs.map GDot.row),.int .u8 v3.typ,.int .i64 v3.n,.int .u64 v3.time,.int .u8 v3.dot.actor.rep,.int .u32 v3.dot.actor.inc,.int .u64 v3.dot.seq,.str v3.text,.sl 5 (v3.items.map GItem.row),.sl 3 (v3.tombs.map GDot.row)]) ty54.choose_spec.2 rfl rfl) (zb rfl)) y6 ?_
 refine zc rfl (yg (cs':=[.osl (some (h.toks.length+0)) 1 (v1.map zP),.int .u8 e0.typ,.bool e0.had,.bool e0.has,.int .u8 v2.typ,.int .i64 v2.n,.int .u64 v2.time,.int .u8 v2.dot.actor.rep,.int .u32 v2.dot.actor.inc,.int .u64 v2.dot.seq,.str v2.text,.sl 5 (v2.items.map GItem.row),.sl 3 (v2.tombs.map GDot.row),.int .u8 v3.typ,.int .i64 v3.n,.int .u64 v3.time,.int .u8 v3.dot.actor.rep,.int .u32 v3.dot.actor.inc,.int .u64 v3.dot.seq,.str v3.text,.sl 5 (v3.items.map GItem.row),.sl 3 (v3.tombs.map GDot.row)]) rfl ty54.choose_spec.1 yV yT (zb rfl) rfl rfl rfl rfl rfl) rfl ?_
 refine ze (zj (zL ?_))
 obtain rfl:=Option.some.inj hF
 refine zA rfl (rl_cell ty54.choose_spec.1 yV rfl (zH (cs':=[.osl (some (h.toks.length+0)) 1 (v1.map zP),.int .u8 e0.typ,.bool e0.had,.bool e0.has,.int .u8 v2.typ,.int .i64 v2.n,.int .u64 v2.time,.int .u8 v2.dot.actor.rep,.int .u32 v2.dot.actor.inc,.int .u64 v2.dot.seq,.str v2.text,.sl 5 (v2.items.map GItem.row),.sl 3 (v2.tombs.map GDot.row),.int .u8 v3.typ,.int .i64 v3.n,.int .u64 v3.time,.int .u8 v3.dot.actor.rep,.int .u32 v3.dot.actor.inc,.int .u64 v3.dot.seq,.str v3.text,.sl 5 (v3.items.map GItem.row),.sl 3 (v3.tombs.map GDot.row)]) ty54.choose_spec.2 rfl rfl) (zb rfl) zG) (zz (leV.agg (.cons (leV.osl _ _ _) (.eq (.eq (.eq (.eq (.eq (.eq (.eq (.eq (.eq (.eq (.eq (.eq (.eq (.eq (.eq (.eq (.eq (.eq (.eq (.eq (.eq leL.nil)))))))))))))))))))))) rfl) rfl ?_)
 exact ⟨rfl,rfl⟩
/-! cmp.isNaN[string] -/
theorem ok134 {x0:zJ} {res:Bool} {h:AH}  (hF:wz x0=some res):Spec Tryz.prog 134 [.str x0] h (fun rr hh=>rr=.bool res∧hh=h):=by
 unfold wz at hF
 refine zt Tryz.func134 rfl (by kernel_rfl) (env:=[.str x0,za,za,za,za,za]) (by rfl) ?_
 refine zk (zd ?_)
 refine zc rfl (zi rfl rfl (zb rfl)) xh ?_
 refine ze (zj (zk (zd ?_)))
 refine zc rfl (zf rfl yr (zb rfl)) wo ?_
 refine zc rfl (zf rfl yr (zb rfl)) yB ?_
 refine zc rfl (zy rfl xn yz rfl) xz ?_
 refine zc rfl (zi rfl yS (zb rfl)) xh ?_
 refine ze (zj (zL ?_))
 obtain rfl:=Option.some.inj hF
 refine zA rfl (zD yV zG) (zz (leV.refl _) rfl ?_)
 exact ⟨rfl,rfl⟩
/-! cmp.Compare[string] -/
theorem ok110 {x0:zJ} {y1:zJ} {res:Int} {h:AH}  (hF:xr x0 y1=some res):Spec Tryz.prog 110 [.str x0,.str y1] h (fun rr hh=>rr=.int .i64 res∧hh=h):=by
 unfold xr at hF
 refine zt Tryz.func110 rfl (by kernel_rfl) (env:=[.str x0,.str y1,za,za,za,za,za,za,za,za,za,za,za,za,za,za,za,za,za,za]) (by rfl) ?_
 refine zk (zd ?_)
 refine zc rfl (zi rfl rfl (zb rfl)) yB ?_
 refine ze (zj (zk (zd ?_)))
 refine zc rfl (zf rfl yr (zb rfl)) xO ?_
 refine zR hF (fun v1 hv1 hF=>?_)
 refine zN rfl (zC rfl rfl rfl (zo xH zw) (.cons (zb rfl) .nil)) (ok134 hv1) xX ?_
 refine zc rfl (zi rfl xj (zb rfl)) xz ?_
 refine ze (zj (zk (zd ?_)))
 refine zc rfl (zf rfl yF (zb rfl)) wB ?_
 refine zR hF (fun v2 hv2 hF=>?_)
 refine zN rfl (zC rfl rfl rfl (zo xV zw) (.cons (zb rfl) .nil)) (ok134 hv2) yL ?_
 refine zc rfl (zi rfl yq (zb rfl)) xE ?_
 refine ze (zj (zk (zk (zd ?_))))
 refine zc rfl (zf rfl yS (zb rfl)) yP ?_
 refine ze (zj ?_)
 refine zO yA hF (fun hc3 hF=>?_) (fun hc3 hF=>?_)
 ·refine zk (zk (zd ?_))
  refine zc rfl (zf rfl yU (zb rfl)) yX ?_
  refine ze (zj ?_)
  refine zO yM hF (fun hc4 hF=>?_) (fun hc4 hF=>?_)
  ·refine zk (zd ?_)
   refine zc rfl (zi rfl rfl (zb rfl)) yB ?_
   refine ze (zj (zL (zx (zx ?_))))
   obtain rfl:=Option.some.inj hF
   refine zA rfl (zD yz zG) (zz (leV.refl _) rfl ?_)
   exact ⟨rfl,rfl⟩
  ·refine zK (zj (zk (zd ?_)))
   refine zc rfl (zi rfl rfl (zb rfl)) yB ?_
   refine ze (zj (zL (zx ?_)))
   obtain rfl:=Option.some.inj hF
   refine zA rfl (zD yz zG) (zz (leV.refl _) rfl ?_)
   exact ⟨rfl,rfl⟩
 ·refine zK (zj (zk (zk (zd ?_))))
  refine zc rfl (zf rfl yU (zb rfl)) yW ?_
  refine ze (zj ?_)
  refine zO yC hF (fun hc5 hF=>?_) (fun hc5 hF=>?_)
  ·refine zk (zd ?_)
   refine zc rfl (zi rfl rfl (zb rfl)) yB ?_
   refine ze (zj (zL (zx ?_)))
   obtain rfl:=Option.some.inj hF
   refine zA rfl (zD yz zG) (zz (leV.refl _) rfl ?_)
   exact ⟨rfl,rfl⟩
  ·refine zK (zj (zk (zk (zd ?_))))
   refine zc rfl (zf rfl yr (zb rfl)) y5 ?_
   refine zc rfl (zf rfl yF (zb rfl)) y6 ?_
   refine zc rfl (zy rfl yY yT rfl) xg ?_
   refine ze (zj ?_)
   refine zO xd hF (fun hc6 hF=>?_) (fun hc6 hF=>?_)
   ·refine zk (zd ?_)
    refine zc rfl (zi rfl rfl (zb rfl)) yB ?_
    refine ze (zj (zL (zx ?_)))
    obtain rfl:=Option.some.inj hF
    refine zA rfl (zD yz zG) (zz (leV.refl _) rfl ?_)
    exact ⟨rfl,rfl⟩
   ·refine zK (zj (zk (zk (zd ?_))))
    refine zc rfl (zf rfl yr (zb rfl)) xk ?_
    refine zc rfl (zf rfl yF (zb rfl)) xD ?_
    refine zc rfl (zy rfl xi xB rfl) xK ?_
    refine ze (zj ?_)
    refine zO xJ hF (fun hc7 hF=>?_) (fun hc7 hF=>?_)
    ·refine zk (zd ?_)
     refine zc rfl (zi rfl rfl (zb rfl)) yB ?_
     refine ze (zj (zL (zx ?_)))
     obtain rfl:=Option.some.inj hF
     refine zA rfl (zD yz zG) (zz (leV.refl _) rfl ?_)
     exact ⟨rfl,rfl⟩
    ·refine zK (zj (zk (zd ?_)))
     refine zc rfl (zi rfl rfl (zb rfl)) yB ?_
     refine ze (zj (zL ?_))
     obtain rfl:=Option.some.inj hF
     refine zA rfl (zD yz zG) (zz (leV.refl _) rfl ?_)
     exact ⟨rfl,rfl⟩
/-! slices.Compare[[]string,string] -/
theorem ok80 {s10:(List zJ)} {s21:(List zJ)} {res:Int} {h:AH}  (hF:xL s10 s21=some res):Spec Tryz.prog 80 [.sl 1 (s10.map zP),.sl 1 (s21.map zP)] h (fun rr hh=>rr=.int .i64 res∧hh=h):=by
 unfold xL at hF
 refine zt Tryz.func80 rfl (by kernel_rfl) (env:=[.sl 1 (s10.map zP),.sl 1 (s21.map zP),za,za,za,za,za,za,za,za,za,za,za,za,za,za,za,za,za,za,za,za,za,za,za,za,za,za,za,za,za,za,za,za,za,za]) (by rfl) ?_
 refine zk (zd ?_)
 refine zc rfl (zi rfl rfl (zb rfl)) yB ?_
 refine ze (zj (zk (zk (zd ?_))))
 refine zc rfl (zf rfl yr (zb rfl)) wB ?_
 refine yb rfl (zS rfl rfl rfl rfl wt xV yc) yL fun hn1=>?_
 replace hn1:=xl hn1
 refine zc rfl (zf rfl rfl (zb rfl)) yP ?_
 refine ze (zj (zQ ?_))
 refine yo (fun (n1:Nat) (s1:Unit)=>yO [2,3,4,5,6,7,8,12,13,14,15,16,17,18,19,20,21,22,23,24,25,26,27,28,29,30,31,32,33,34,35] [(11,.int .i64 (n1:Int))]) (fun s1=>h.ext [] []) hF (fun _ _=>by simp only [yO,upd,List.set_cons_succ,List.set_cons_zero];try rfl) (wk.le (by exact (.eq (.eq (.d4 (.drop (.drop (.drop (.eq (.eq (.cons (leV.of_eq rfl) (.d16 (.d4 (.d4 leL.nil)))))))))))))) ?_
 intro n1 s1 hi1 hF
 refine zk (zd ?_)
 refine zc rfl (zy rfl yA yq rfl) yX ?_
 refine ze (zj (zk ?_))
 refine yJ yM hF (fun x1 o1 hl1 hx1 hF hK1=>?_) (fun hF=>?_)
 ·refine zK (zj (zk (zQ (zk (zd ?_)))))
  refine zc rfl (zf rfl yA (zb rfl)) yW ?_
  refine zc rfl (yj rfl wt xV yA w7 (yK hx1)) y5 ?_
  refine zc rfl (ye rfl ty9 yY (zr rfl) (zb rfl)) y6 ?_
  refine zc rfl (zi rfl yC (zb rfl)) xz ?_
  refine zc rfl (zi rfl yT (zb rfl)) xE ?_
  refine ze (zj (zk (zk (zd ?_))))
  refine zc rfl (zf rfl yS (zb rfl)) xg ?_
  refine zc rfl (zf rfl yF (zb rfl)) xk ?_
  refine yb rfl (zS rfl rfl rfl rfl wt xi yc) xD fun hn10=>?_
  replace hn10:=xl hn10
  refine zc rfl (zy rfl xd xB rfl) xK ?_
  refine ze (zj ?_)
  refine zO xJ hF (fun hc11 hF=>?_) (fun hc11 hF=>?_)
  ·refine zk (zd ?_)
   refine zc rfl (zi rfl rfl (zb rfl)) yB ?_
   refine ze (zj (zL (zx ?_)))
   refine zF ?_
   refine zx ?_
   refine yd ?_
   obtain rfl:=Option.some.inj hF
   replace hF:=hK1
   refine zF ?_
   refine zx ?_
   obtain rfl:=Option.some.inj hF
   refine zA rfl (zD yz zG) (zz (leV.refl _) rfl ?_)
   exact ⟨rfl,rfl⟩
  ·refine zK (zj (zk (zd ?_)))
   refine zc rfl (zf rfl yF (zb rfl)) xY ?_
   refine zc rfl (zf rfl yS (zb rfl)) x7 ?_
   refine zR hF (fun y12 hy12 hF=>?_)
   refine zc rfl (yj rfl wt xZ x5 w7 hy12) wl ?_
   refine zc rfl (ye rfl ty9 wi (zr rfl) (zb rfl)) x6 ?_
   refine zc rfl (zi rfl xN (zb rfl)) xO ?_
   refine ze (zj (zk (zd ?_)))
   refine zc rfl (zf rfl yU (zb rfl)) wh ?_
   refine zc rfl (zf rfl xH (zb rfl)) wj ?_
   refine zR hF (fun v13 hv13 hF=>?_)
   refine zN rfl (zC rfl rfl rfl (zo wc (zo wb zw)) (.cons (zb rfl) (.cons (zb rfl) .nil))) (ok110 hv13) wF ?_
   refine zc rfl (zi rfl wE (zb rfl)) xX ?_
   refine ze (zj (zk (zd ?_)))
   refine zc rfl (zf rfl xj (zb rfl)) wM ?_
   refine zc rfl (zy rfl wN rfl rfl) wL ?_
   refine ze (zj ?_)
   refine zO wH hF (fun hc14 hF=>?_) (fun hc14 hF=>?_)
   ·refine zk (zd ?_)
    refine zc rfl (zf rfl xj (zb rfl)) wW ?_
    refine zc rfl (zi rfl w6 (zb rfl)) yB ?_
    refine ze (zj (zL ?_))
    refine zF ?_
    refine zx ?_
    refine yd ?_
    obtain rfl:=Option.some.inj hF
    replace hF:=hK1
    refine zF ?_
    refine zx ?_
    obtain rfl:=Option.some.inj hF
    refine zA rfl (zD yz zG) (zz (leV.refl _) rfl ?_)
    exact ⟨rfl,rfl⟩
   ·refine zK (yh (zj (zd ?_)))
    refine zc rfl (zy rfl yA rfl rfl) wV ?_
    refine zc rfl (zf rfl vg (zb rfl)) yP ?_
    refine ze (yH ?_)
    obtain rfl:=Option.some.inj hF
    exact ⟨(),hl1,hK1,wk.le (by exact (.eq (.eq (.d4 (.drop (.drop (.drop (.eq (.eq (.cons (leV.of_eq (w8 (by omega) (by omega))) (.d16 (.d4 (.d4 leL.nil)))))))))))))⟩
 ·refine yR ?_
  refine ya ?_
  refine zV ?_
  refine zW ?_
  refine zj (zk (zk (zd ?_)))
  refine zc rfl (zf rfl yr (zb rfl)) wU ?_
  refine yb rfl (zS rfl rfl rfl rfl wt w5 yc) vl fun hn15=>?_
  replace hn15:=xl hn15
  refine zc rfl (zf rfl yF (zb rfl)) vk ?_
  refine yb rfl (zS rfl rfl rfl rfl wt vt yc) vb fun hn16=>?_
  replace hn16:=xl hn16
  refine zc rfl (zy rfl vf wZ rfl) va ?_
  refine ze (zj ?_)
  refine zO ve hF (fun hc17 hF=>?_) (fun hc17 hF=>?_)
  ·refine zk (zd ?_)
   refine zc rfl (zi rfl rfl (zb rfl)) yB ?_
   refine ze (zj (zL (zx ?_)))
   obtain rfl:=Option.some.inj hF
   refine zA rfl (zD yz zG) (zz (leV.refl _) rfl ?_)
   exact ⟨rfl,rfl⟩
  ·refine zK (zj (zk (zd ?_)))
   refine zc rfl (zi rfl rfl (zb rfl)) yB ?_
   refine ze (zj (zL ?_))
   obtain rfl:=Option.some.inj hF
   refine zA rfl (zD yz zG) (zz (leV.refl _) rfl ?_)
   exact ⟨rfl,rfl⟩
/-! varve/diff.order -/
theorem ok37 {a0:GEdit} {b1:GEdit} {res:Int} {h:AH}  (hF:qs a0 b1=some res):Spec Tryz.prog 37 [.agg [.sl 1 (a0.path.map zP),.int .u8 a0.typ,.bool a0.had,.bool a0.has,.int .u8 a0.was.typ,.int .i64 a0.was.n,.int .u64 a0.was.time,.int .u8 a0.was.dot.actor.rep,.int .u32 a0.was.dot.actor.inc,.int .u64 a0.was.dot.seq,.str a0.was.text,.sl 5 (a0.was.items.map GItem.row),.sl 3 (a0.was.tombs.map GDot.row),.int .u8 a0.is.typ,.int .i64 a0.is.n,.int .u64 a0.is.time,.int .u8 a0.is.dot.actor.rep,.int .u32 a0.is.dot.actor.inc,.int .u64 a0.is.dot.seq,.str a0.is.text,.sl 5 (a0.is.items.map GItem.row),.sl 3 (a0.is.tombs.map GDot.row)],.agg [.sl 1 (b1.path.map zP),.int .u8 b1.typ,.bool b1.had,.bool b1.has,.int .u8 b1.was.typ,.int .i64 b1.was.n,.int .u64 b1.was.time,.int .u8 b1.was.dot.actor.rep,.int .u32 b1.was.dot.actor.inc,.int .u64 b1.was.dot.seq,.str b1.was.text,.sl 5 (b1.was.items.map GItem.row),.sl 3 (b1.was.tombs.map GDot.row),.int .u8 b1.is.typ,.int .i64 b1.is.n,.int .u64 b1.is.time,.int .u8 b1.is.dot.actor.rep,.int .u32 b1.is.dot.actor.inc,.int .u64 b1.is.dot.seq,.str b1.is.text,.sl 5 (b1.is.items.map GItem.row),.sl 3 (b1.is.tombs.map GDot.row)]] h (fun rr hh=>rr=.int .i64 res∧hh=h):=by
 unfold qs at hF
 refine zt Tryz.func37 rfl (by kernel_rfl) (env:=[.agg [.sl 1 (a0.path.map zP),.int .u8 a0.typ,.bool a0.had,.bool a0.has,.int .u8 a0.was.typ,.int .i64 a0.was.n,.int .u64 a0.was.time,.int .u8 a0.was.dot.actor.rep,.int .u32 a0.was.dot.actor.inc,.int .u64 a0.was.dot.seq,.str a0.was.text,.sl 5 (a0.was.items.map GItem.row),.sl 3 (a0.was.tombs.map GDot.row),.int .u8 a0.is.typ,.int .i64 a0.is.n,.int .u64 a0.is.time,.int .u8 a0.is.dot.actor.rep,.int .u32 a0.is.dot.actor.inc,.int .u64 a0.is.dot.seq,.str a0.is.text,.sl 5 (a0.is.items.map GItem.row),.sl 3 (a0.is.tombs.map GDot.row)],.agg [.sl 1 (b1.path.map zP),.int .u8 b1.typ,.bool b1.had,.bool b1.has,.int .u8 b1.was.typ,.int .i64 b1.was.n,.int .u64 b1.was.time,.int .u8 b1.was.dot.actor.rep,.int .u32 b1.was.dot.actor.inc,.int .u64 b1.was.dot.seq,.str b1.was.text,.sl 5 (b1.was.items.map GItem.row),.sl 3 (b1.was.tombs.map GDot.row),.int .u8 b1.is.typ,.int .i64 b1.is.n,.int .u64 b1.is.time,.int .u8 b1.is.dot.actor.rep,.int .u32 b1.is.dot.actor.inc,.int .u64 b1.is.dot.seq,.str b1.is.text,.sl 5 (b1.is.items.map GItem.row),.sl 3 (b1.is.tombs.map GDot.row)],za,za,za,za,za,za,za,za,za,za,za,za,za,za,za]) (by rfl) ?_
 refine zk (zd ?_)
 refine zc rfl (xw (n:=0) rfl yr (zb rfl) rfl rfl) xh ?_
 refine zc rfl (xw (n:=1) rfl yF (zb rfl) rfl rfl) wo ?_
 refine zc rfl (zi rfl rfl (zb rfl)) yB ?_
 refine ze (zj (zk ?_))
 refine yI [4,9,11] [] trivial mixed (by kernel_rfl) ?_
 refine zq rfl rfl (zg rfl qX yV rfl) xz ?_
 refine zq rfl rfl (zu rfl ty52 yS rfl (zr rfl) (zb rfl)) xE ?_
 refine zq rfl rfl (zg rfl qX xn rfl) xO ?_
 refine zq rfl rfl (zu rfl ty52 xH rfl (zr rfl) (zb rfl)) xX ?_
 refine zR hF (fun v1 hv1 hF=>?_)
 refine yu rfl rfl (fun _=>zC rfl rfl rfl (zo yU (zo xj zw)) (.cons (zb rfl) (.cons (zb rfl) .nil))) (by rintro _ ⟨B2,T2,rfl,hk2⟩;exact ok80 hv1) wB ?_
 refine zq rfl rfl (zg rfl fo54x1 yV rfl) yL ?_
 refine zq rfl rfl (zu rfl ty5 yq rfl (zr rfl) (zb rfl)) yP ?_
 refine zq rfl rfl (zg rfl fo54x1 xn rfl) yX ?_
 refine zq rfl rfl (zu rfl ty5 yM rfl (zr rfl) (zb rfl)) yW ?_
 refine zR hF (fun v2 hv2 hF=>?_)
 refine yu rfl rfl (fun _=>zC rfl rfl rfl (zo yA (zo yC zw)) (.cons (zb rfl) (.cons (zb rfl) .nil))) (by rintro _ ⟨B2,T2,rfl,hk2⟩;exact ok61 hv2) y5 ?_
 refine zq rfl rfl (yE (es:=([v1,v2]:List Int).map (intRow .i64)) rfl el151 ze3 rfl rfl (yl xV (yl yY yp)) (.cons (zb rfl) (.cons (zb rfl) .nil)) rfl rfl rfl) y6 ?_
 refine zR hF (fun v3 hv3 hF=>?_)
 refine yu rfl rfl (fun _=>zC rfl rfl rfl (zo yT zw) (.cons (zb rfl) .nil)) (by rintro _ ⟨B2,T2,rfl,hk2⟩;exact (ok79 hv3).le (.cons (leV.osl _ _ _) leL.nil)) xg ?_
 refine zq rfl rfl (zi rfl xd (zb rfl)) yB ?_
 refine ym ?_
 refine zj (zL ?_)
 obtain rfl:=Option.some.inj hF
 refine zA rfl (zD yz zG) (zz (leV.refl _) rfl ?_)
 exact ⟨rfl,rfl⟩
/-! slices.SortFunc[[]varve/api.Edit,varve/api.Edit] -/
def sort36TryzRen:Go.Shelf.Ren :=
  { f:=fun x=>match x with
      | 6=>36
      | 15=>78
      | 14=>77
      | 28=>108
      | 29=>109
      | 20=>100
      | 21=>101
      | 22=>102
      | 23=>103
      | 24=>104
      | 25=>105
      | 26=>106
      | 27=>107
      | 46=>129
      | 47=>130
      | 48=>131
      | 49=>132
      | 50=>133
      | 57=>144
      | n=>n
    t:=fun x=>match x with
      | 22=>27
      | 24=>54
      | 25=>82
      | 3=>3
      | 39=>126
      | 0=>0
      | 53=>40
      | 55=>39
      | 4=>4
      | 46=>144
      | 45=>143
      | 50=>96
      | 5=>5
      | 9=>9
      | 66=>165
      | 70=>169
      | 76=>180
      | 77=>181
      | n=>n
    g:=fun n=>n }
theorem sort36TryzLays:Go.Proofs.SlLaysF0.n6 Tryz.prog sort36TryzRen where
  mixed:=mixed
  f6:=⟨Tryz.f36.name,by kernel_rfl,Tryz.func36.trans (by kernel_rfl)⟩
  f15:=Tryz.func78.trans (by kernel_rfl)
  f14:=⟨Tryz.f77.name,by kernel_rfl,Tryz.func77.trans (by kernel_rfl)⟩
  f28:=Tryz.func108.trans (by kernel_rfl)
  f29:=Tryz.func109.trans (by kernel_rfl)
  f20:=⟨Tryz.f100.name,by kernel_rfl,Tryz.func100.trans (by kernel_rfl)⟩
  f21:=⟨Tryz.f101.name,by kernel_rfl,Tryz.func101.trans (by kernel_rfl)⟩
  f22:=⟨Tryz.f102.name,by kernel_rfl,Tryz.func102.trans (by kernel_rfl)⟩
  f23:=⟨Tryz.f103.name,by kernel_rfl,Tryz.func103.trans (by kernel_rfl)⟩
  f24:=⟨Tryz.f104.name,by kernel_rfl,Tryz.func104.trans (by kernel_rfl)⟩
  f25:=⟨Tryz.f105.name,by kernel_rfl,Tryz.func105.trans (by kernel_rfl)⟩
  f26:=⟨Tryz.f106.name,by kernel_rfl,Tryz.func106.trans (by kernel_rfl)⟩
  f27:=⟨Tryz.f107.name,by kernel_rfl,Tryz.func107.trans (by kernel_rfl)⟩
  f46:=⟨Tryz.f129.name,by kernel_rfl,Tryz.func129.trans (by kernel_rfl)⟩
  f47:=Tryz.func130.trans (by kernel_rfl)
  f48:=Tryz.func131.trans (by kernel_rfl)
  f49:=⟨Tryz.f132.name,by kernel_rfl,Tryz.func132.trans (by kernel_rfl)⟩
  f50:=⟨Tryz.f133.name,by kernel_rfl,Tryz.func133.trans (by kernel_rfl)⟩
  f57:=⟨Tryz.f144.name,by kernel_rfl,Tryz.func144.trans (by kernel_rfl)⟩
  t0:=Tryz.underlying0
  a0:=Tryz.isAgg0
  z0:=Tryz.sizeOf0
  v0:=Tryz.zeroValue0
  t3:=Tryz.underlying3
  a3:=Tryz.isAgg3
  z3:=Tryz.sizeOf3
  v3:=Tryz.zeroValue3
  t4:=Tryz.underlying4
  a4:=Tryz.isAgg4
  z4:=Tryz.sizeOf4
  v4:=Tryz.zeroValue4
  t5:=Tryz.underlying5
  a5:=Tryz.isAgg5
  z5:=Tryz.sizeOf5
  v5:=Tryz.zeroValue5
  t9:=Tryz.underlying9
  a9:=Tryz.isAgg9
  z9:=Tryz.sizeOf9
  v9:=Tryz.zeroValue9
  t22:=Tryz.underlying27
  a22:=Tryz.isAgg27
  z22:=Tryz.sizeOf27
  v22:=Tryz.zeroValue27
  t25:=Tryz.underlying82
  a25:=Tryz.isAgg82
  z25:=Tryz.sizeOf82
  v25:=Tryz.zeroValue82
  t39:=Tryz.underlying126
  a39:=Tryz.isAgg126
  z39:=Tryz.sizeOf126
  v39:=Tryz.zeroValue126
  t45:=Tryz.underlying143
  a45:=Tryz.isAgg143
  z45:=Tryz.sizeOf143
  v45:=Tryz.zeroValue143
  t46:=Tryz.underlying144
  a46:=Tryz.isAgg144
  z46:=Tryz.sizeOf144
  v46:=Tryz.zeroValue144
  t50:=Tryz.underlying96
  a50:=Tryz.isAgg96
  z50:=Tryz.sizeOf96
  v50:=Tryz.zeroValue96
  t53:=Tryz.underlying40
  a53:=Tryz.isAgg40
  z53:=Tryz.sizeOf40
  v53:=Tryz.zeroValue40
  t55:=Tryz.underlying39
  a55:=Tryz.isAgg39
  z55:=Tryz.sizeOf39
  v55:=Tryz.zeroValue39
  t66:=Tryz.underlying165
  a66:=Tryz.isAgg165
  z66:=Tryz.sizeOf165
  v66:=Tryz.zeroValue165
  t70:=Tryz.underlying169
  a70:=Tryz.isAgg169
  z70:=Tryz.sizeOf169
  v70:=Tryz.zeroValue169
  t76:=Tryz.underlying180
  a76:=Tryz.isAgg180
  z76:=Tryz.sizeOf180
  v76:=Tryz.zeroValue180
  t77:=Tryz.underlying181
  a77:=Tryz.isAgg181
  z77:=Tryz.sizeOf181
  v77:=Tryz.zeroValue181
/-! varve/diff.sorted -/
theorem ok18 {byy0:List (zJ×GEdit)} {mbyy0:Nat} {res:(List GEdit)} {h:AH} (hbyy0:h.blk mbyy0=some (.mapo (byy0.map (qb AV.str (fun x=>AV.agg (GEdit.row x)))) 0)) (hF:vU byy0=some res):Spec Tryz.prog 18 [.map mbyy0] h (fun rr hh=>rr=.sl 22 (res.map GEdit.row)∧hh=h):=by
 unfold vU at hF
 refine zt Tryz.func18 rfl (by kernel_rfl) (env:=[.map mbyy0,za,za,za,za,za,za,za,za,za,za,za,za,za,za,za,za,za,za,za,za,za,za,za,za,za,za,za,za,za,za,za]) (by rfl) ?_
 have hlmbyy0:=blk_lt hbyy0 rfl
 have hlmbyy0b:∀ k,mbyy0 < h.blks.length+k:=fun k=>Nat.lt_of_lt_of_le hlmbyy0 (Nat.le_add_right _ _)
 refine zk (zd ?_)
 refine zc rfl (zi rfl rfl (xy qE)) xh ?_
 refine ze (zj (zk (zk (zd ?_))))
 refine zc rfl (zf rfl yr (zb rfl)) xz ?_
 refine ops_rangeM (kv:=AV.str) (vv:=(fun x=>AV.agg (GEdit.row x))) rfl rfl Tryz.underlying55 yS (blk_old hbyy0) rfl xE rfl ?_
 refine ze (zj (zQ ?_))
 refine r_loopMF (fun (s1:(List GEdit))=>[(0,.any),(1,.any),(2,.rsl (h.blks.length+1) (h.toks.length+0) 22 ((s1).length)),(3,.any),(4,.any),(5,.any),(7,.any),(8,.any),(9,.any),(10,.any),(11,.any),(12,.any),(13,.any),(14,.any),(15,.any),(16,.any),(17,.any),(18,.any),(19,.any),(20,.any),(21,.any),(22,.any),(23,.any),(24,.any),(25,.any),(26,.any),(27,.any),(28,.any),(29,.any),(30,.any),(31,.any)]) (fun seen1 s1=>h.ext [.miter mbyy0 byy0.length seen1,.row (h.toks.length+0) 22 (s1.map GEdit.row)] [(s1).length]) hF (fun _=>by simp only [upd,List.set_cons_succ,List.set_cons_zero];try rfl) (wk.trans ((swk_thaw yV rfl rfl xh rfl rfl).wk) (wk.le (by exact (.drop (.drop (.cons (leV.of_eq rfl) (.drop (.drop (.drop (.eq (.d16 (.d4 (.d4 (.drop leL.nil)))))))))))))) ?_
 intro seen1 s1 hF
 refine zk (zd ?_)
 refine ops_nextMF rfl rfl yU rfl (blk_old hbyy0) xO hF (fun i1 x1 o1 hx1 hs1 hF hK1=>⟨_,xO,?_⟩) (fun hF=>?_)
 ·refine zc rfl (yn rfl xH rfl (zb rfl)) xX ?_
  refine ze (zj (zk ?_))
  refine r_cond xj (fun _=>?_) (fun hh=>by cases hh)
  refine zK (zj (zQ (zk (zd ?_))))
  refine ops_entryM rfl rfl yU rfl (blk_old hbyy0) hx1 wB ?_
  refine zc rfl (yn rfl xV rfl (zb rfl)) yL ?_
  refine zc rfl (y4 (n:=2) rfl ze54 rfl) yB ?_
  refine zc rfl (yg (cs':=[.sl 1 (x1.2.path.map zP),.int .u8 x1.2.typ,.bool x1.2.had,.bool x1.2.has,.int .u8 x1.2.was.typ,.int .i64 x1.2.was.n,.int .u64 x1.2.was.time,.int .u8 x1.2.was.dot.actor.rep,.int .u32 x1.2.was.dot.actor.inc,.int .u64 x1.2.was.dot.seq,.str x1.2.was.text,.sl 5 (x1.2.was.items.map GItem.row),.sl 3 (x1.2.was.tombs.map GDot.row),.int .u8 x1.2.is.typ,.int .i64 x1.2.is.n,.int .u64 x1.2.is.time,.int .u8 x1.2.is.dot.actor.rep,.int .u32 x1.2.is.dot.actor.inc,.int .u64 x1.2.is.dot.seq,.str x1.2.is.text,.sl 5 (x1.2.is.items.map GItem.row),.sl 3 (x1.2.is.tombs.map GDot.row)]) rfl ty54.choose_spec.1 yz yq (zb rfl) rfl rfl rfl rfl rfl) rfl ?_
  refine ze (zj (zk (zd ?_)))
  refine zc rfl (zg rfl fo54x2 yz rfl) yP ?_
  refine zc rfl (zu rfl ty4 yA rfl (zr rfl) (zb rfl)) yX ?_
  refine zc rfl (zg rfl fo54x3 yz rfl) yW ?_
  refine zc rfl (zu rfl ty4 yC rfl (zr rfl) (zb rfl)) y5 ?_
  refine zc rfl (zy rfl yM yY (bin_boolE ty4)) y6 ?_
  refine zc rfl (zf rfl yT (zb rfl)) xg ?_
  refine zp rfl (fun hb=>zg rfl fo54x4 yz rfl) xk ?_
  refine zp rfl (fun hb=>zu rfl ty48.choose_spec.1 (zn xi hb) rfl (zH (cs':=[.int .u8 x1.2.was.typ,.int .i64 x1.2.was.n,.int .u64 x1.2.was.time,.int .u8 x1.2.was.dot.actor.rep,.int .u32 x1.2.was.dot.actor.inc,.int .u64 x1.2.was.dot.seq,.str x1.2.was.text,.sl 5 (x1.2.was.items.map GItem.row),.sl 3 (x1.2.was.tombs.map GDot.row)]) ty48.choose_spec.2 rfl rfl) (zb rfl)) xD ?_
  refine zp rfl (fun hb=>zg rfl fo54x5 yz rfl) xK ?_
  refine zp rfl (fun hb=>zu rfl ty48.choose_spec.1 (zn xJ hb) rfl (zH (cs':=[.int .u8 x1.2.is.typ,.int .i64 x1.2.is.n,.int .u64 x1.2.is.time,.int .u8 x1.2.is.dot.actor.rep,.int .u32 x1.2.is.dot.actor.inc,.int .u64 x1.2.is.dot.seq,.str x1.2.is.text,.sl 5 (x1.2.is.items.map GItem.row),.sl 3 (x1.2.is.tombs.map GDot.row)]) ty48.choose_spec.2 rfl rfl) (zb rfl)) xY ?_
  refine yN hF (fun v7 hv7 hF=>?_)
  refine yk rfl (fun hb=>zC rfl rfl rfl (zo (zn xB hb) (zo (zn xZ hb) zw)) (.cons (zb rfl) (.cons (zb rfl) .nil))) (fun hb=>ok20 (hv7 hb)) x7 ?_
  refine zc rfl (zM rfl xd x5 rfl (zX (fun ht=>gT ht))) wl ?_
  refine zc rfl (xR rfl wi rfl) x6 ?_
  refine ze (zj ?_)
  refine zO xN hF (fun hc8 hF=>?_) (fun hc8 hF=>?_)
  ·refine zd ?_
   refine zc rfl (zf rfl yV (zb rfl)) wh ?_
   refine zc rfl (zu rfl ty54.choose_spec.1 yz rfl (zH (cs':=[.sl 1 (x1.2.path.map zP),.int .u8 x1.2.typ,.bool x1.2.had,.bool x1.2.has,.int .u8 x1.2.was.typ,.int .i64 x1.2.was.n,.int .u64 x1.2.was.time,.int .u8 x1.2.was.dot.actor.rep,.int .u32 x1.2.was.dot.actor.inc,.int .u64 x1.2.was.dot.seq,.str x1.2.was.text,.sl 5 (x1.2.was.items.map GItem.row),.sl 3 (x1.2.was.tombs.map GDot.row),.int .u8 x1.2.is.typ,.int .i64 x1.2.is.n,.int .u64 x1.2.is.time,.int .u8 x1.2.is.dot.actor.rep,.int .u32 x1.2.is.dot.actor.inc,.int .u64 x1.2.is.dot.seq,.str x1.2.is.text,.sl 5 (x1.2.is.items.map GItem.row),.sl 3 (x1.2.is.tombs.map GDot.row)]) ty54.choose_spec.2 rfl rfl) (zb rfl)) wj ?_
   refine zR hF (fun v9 hv9 hF=>?_)
   refine zN rfl (zC rfl rfl rfl (zo wb zw) (.cons (zb rfl) .nil)) (ok35 hv9) wF ?_
   refine zc rfl (yE (es:=([v9]:List GEdit).map GEdit.row) rfl qE ze54 rfl rfl (yl wE yp) (.cons (zb rfl) .nil) rfl rfl rfl) wM ?_
   refine wS hF (fun hm10 hF=>?_)
   refine zc rfl (e_appR (i:=1) (j:=0) (B':=[.miter mbyy0 byy0.length (seen1++[i1]),.row (h.toks.length+0) 22 ((s1++([v9]:List GEdit)).map GEdit.row),.cells [.sl 1 (x1.2.path.map zP),.int .u8 x1.2.typ,.bool x1.2.had,.bool x1.2.has,.int .u8 x1.2.was.typ,.int .i64 x1.2.was.n,.int .u64 x1.2.was.time,.int .u8 x1.2.was.dot.actor.rep,.int .u32 x1.2.was.dot.actor.inc,.int .u64 x1.2.was.dot.seq,.str x1.2.was.text,.sl 5 (x1.2.was.items.map GItem.row),.sl 3 (x1.2.was.tombs.map GDot.row),.int .u8 x1.2.is.typ,.int .i64 x1.2.is.n,.int .u64 x1.2.is.time,.int .u8 x1.2.is.dot.actor.rep,.int .u32 x1.2.is.dot.actor.inc,.int .u64 x1.2.is.dot.seq,.str x1.2.is.text,.sl 5 (x1.2.is.items.map GItem.row),.sl 3 (x1.2.is.tombs.map GDot.row)]]) (T':=[((s1++([v9]:List GEdit))).length]) rfl rfl rfl rfl qE qE wc wN rfl (zb rfl) news_osl hm10 rfl rfl rfl rfl rfl) wL ?_
   refine zc rfl (zi rfl wH (zb rfl)) xh ?_
   refine ze (yh (yH ?_))
   obtain rfl:=Option.some.inj hF
   exact ⟨i1,(s1++([v9]:List GEdit)),hs1,hK1,wk.trans (wk.le (by exact (.drop (.drop (.cons (leV.of_eq rfl) (.drop (.drop (.drop (.eq (.d16 (.d4 (.d4 (.drop leL.nil))))))))))))) (xI (by simp [yi,AV.low,hlmbyy0,hlmbyy0b]) rfl rfl (by simp [Blk.low,yi,AV.low,hlmbyy0,hlmbyy0b]))⟩
  ·refine zK (yh (yH ?_))
   obtain rfl:=Option.some.inj hF
   exact ⟨i1,s1,hs1,hK1,wk.trans (wk.le (by exact (.drop (.drop (.cons (leV.of_eq rfl) (.drop (.drop (.drop (.eq (.d16 (.d4 (.d4 (.drop leL.nil))))))))))))) (xI (by simp [yi,AV.low,hlmbyy0,hlmbyy0b]) rfl rfl (by simp [Blk.low,yi,AV.low,hlmbyy0,hlmbyy0b]))⟩
 ·refine zc rfl (yn rfl xH rfl (zb rfl)) xX ?_
  refine ze (zj (zk ?_))
  refine r_cond xj (fun hh=>by cases hh) (fun _=>?_)
  refine yR ?_
  refine ya ?_
  refine zV ?_
  refine zW ?_
  refine zj (zk (zd ?_))
  refine zc rfl (zf rfl yV (zb rfl)) wW ?_
  refine zR hF (fun v11 hv11 hF=>?_)
  refine ops_callH rfl (zC rfl rfl rfl (zo w6 (zo rfl zw)) (.cons (zb rfl) (.cons (zb rfl) .nil))) (spec_sortO sort36TryzLays Tryz.isAgg54 Tryz.sizeOf54 (fun _=>rfl) (fun _=>rfl) (enters_fn Tryz.func37 rfl (by kernel_rfl)) (fun _ _ _ h=>ok37 h) hv11 (i:=1) (B':=[.miter mbyy0 byy0.length seen1,.row (h.toks.length+0) 22 (v11.map GEdit.row)]) rfl rfl) wV ?_
  refine ze ?_
  refine q_seqw ((swk_freeze (j:=1) (m:=0) (B':=[.miter mbyy0 byy0.length seen1,.dead]) (T':=[(v11.map GEdit.row).length+1]) rfl (by exact (FzL.cons (FzA.same _) (FzL.cons (FzA.same _) (FzL.cons (FzA.hit2 _ _ (by rw [List.length_map];exact (sortO_len hv11).symm)) (FzL.cons (FzA.same _) (FzL.cons (FzA.same _) (FzL.cons (FzA.same _) (FzL.cons (FzA.same _) (FzL.cons (FzA.same _) (FzL.cons (FzA.same _) (FzL.cons (FzA.same _) (FzL.cons (FzA.same _) (FzL.cons (FzA.same _) (FzL.cons (FzA.same _) (FzL.cons (FzA.same _) (FzL.cons (FzA.same _) (FzL.cons (FzA.same _) (FzL.cons (FzA.same _) (FzL.cons (FzA.same _) (FzL.cons (FzA.same _) (FzL.cons (FzA.same _) (FzL.cons (FzA.same _) (FzL.cons (FzA.same _) (FzL.cons (FzA.same _) (FzL.cons (FzA.same _) (FzL.cons (FzA.same _) (FzL.cons (FzA.same _) (FzL.cons (FzA.same _) (FzL.cons (FzA.same _) (FzL.cons (FzA.same _) (FzL.cons (FzA.hit2 _ _ (by rw [List.length_map];exact (sortO_len hv11).symm)) (FzL.refl _)))))))))))))))))))))))))))))))) rfl rfl).wk) ?_
  refine zk (zd ?_)
  refine zc rfl (zf rfl yV (zb rfl)) wU ?_
  refine zc rfl (zi rfl w5 (zb rfl)) xh ?_
  refine ze (zj (zL ?_))
  obtain rfl:=Option.some.inj hF
  refine zA rfl (zD yV zG) (zz (leV.refl _) rfl ?_)
  exact ⟨rfl,rfl⟩
end Go.Vv
