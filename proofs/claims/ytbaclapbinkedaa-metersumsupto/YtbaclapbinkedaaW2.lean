/- Each function that the law reaches computes what its reading says; printed by a program. -/
import Derived.Test.YtbaclapbinkedaaW1
namespace Go.Vv
open Go Go.Proofs
set_option maxRecDepth 100000
set_option maxHeartbeats 1000000
set_option linter.unusedSimpArgs false
set_option linter.unusedVariables false
theorem ok37 {s0:yg} {res:Bool} {h:AH}  (hF:opIsName s0=some res):Spec Try.prog 37 [.str s0] h (fun rr hh=>rr=.bool res∧hh=h):=by
 unfold opIsName at hF
 refine zw Try.func37 rfl (by kernel_rfl) (env:=[.str s0,za,za,za,za,za,za,za,za,za,za,za,za,za,za,za,za,za]) (by rfl) ?_
 refine zn (zd ?_)
 refine zc rfl (zi rfl rfl (zb rfl)) xj ?_
 refine zf (zj (zn (zd ?_)))
 refine zc rfl (zi rfl rfl (zb rfl)) wA ?_
 refine zf (zj (zn (zd ?_)))
 refine zc rfl (ze rfl yd (zb rfl)) yK ?_
 refine z7 rfl (wJ rfl rfl rfl rfl ty9 yG) xI fun hn1=>?_
 replace hn1:=xG hn1
 refine zc rfl (zr rfl yX rfl rfl) xT ?_
 refine zc rfl (ze rfl y5 (zb rfl)) x9 ?_
 refine zq rfl (fun hb=>ze rfl yd (zb rfl)) xS ?_
 refine vc rfl (fun hb=>wJ rfl rfl rfl rfl ty9 (zp xu hb)) wE fun hn2=>?_
 refine zq rfl (fun hb=>zr rfl (zp x4 hb) rfl rfl) yC ?_
 refine zc rfl (zM rfl xE yl rfl (zS (fun ht=>gT ht))) yz ?_
 refine zc rfl (ze rfl yh (zb rfl)) yL ?_
 refine zq rfl (fun hb=>ze rfl yd (zb rfl)) yO ?_
 refine zq rfl (fun hb=>ze rfl yY (zb rfl)) yS ?_
 refine wi hF (fun v3 hv3 hF=>?_)
 refine xN rfl (fun hb=>zz rfl rfl rfl (zg (zp yE hb) (zg (zp yP hb) zu)) (.cons (zb rfl) (.cons (zb rfl) .nil))) (fun hb=>ok50 (fun _ v L M hv=>ok49  hv) (hv3 hb)) yW ?_
 refine zq rfl (fun hb=>qm rfl (zp yU hb) rfl) xa ?_
 refine zc rfl (zM rfl yJ yR rfl (zS (fun ht=>gT ht))) xd ?_
 refine zc rfl (zi rfl xb (zb rfl)) xj ?_
 refine zf (zj (zO ?_))
 obtain rfl:=Option.some.inj hF
 refine zA rfl (zE yQ zB) (zD (leV.refl _) rfl ?_)
 exact ⟨rfl,rfl⟩
theorem ok51 {n0:Int} {res:Bool} {h:AH}  (hF:leafXisTime n0=some res):Spec Try.prog 51 [.int .u64 n0] h (fun rr hh=>rr=.bool res∧hh=h):=by
 unfold leafXisTime at hF
 refine zw Try.func51 rfl (by kernel_rfl) (env:=[.int .u64 n0,za,za,za,za,za,za,za,za]) (by rfl) ?_
 refine zn (zd ?_)
 refine zc rfl (zi rfl rfl (zb rfl)) xj ?_
 refine zf (zj (zn (zd ?_)))
 refine zc rfl (ze rfl yd (zb rfl)) wA ?_
 refine zc rfl (zr rfl yY rfl rfl) yK ?_
 refine zc rfl (ze rfl yG (zb rfl)) xI ?_
 refine zq rfl (fun hb=>ze rfl yd (zb rfl)) xT ?_
 refine zq rfl (fun hb=>zr rfl (zp y5 hb) rfl rfl) x9 ?_
 refine zc rfl (zM rfl yX xE rfl (zS (fun ht=>gT ht))) xS ?_
 refine zc rfl (zi rfl xu (zb rfl)) xj ?_
 refine zf (zj (zO ?_))
 obtain rfl:=Option.some.inj hF
 refine zA rfl (zE yQ zB) (zD (leV.refl _) rfl ?_)
 exact ⟨rfl,rfl⟩
theorem ok63 {a0:GActor} {res:Bool} {h:AH}  (hF:dotMayActor a0=some res):Spec Try.prog 63 [.agg [.int .u8 a0.rep,.int .u32 a0.inc]] h (fun rr hh=>rr=.bool res∧hh=h):=by
 unfold dotMayActor at hF
 refine zw Try.func63 rfl (by kernel_rfl) (env:=[.agg [.int .u8 a0.rep,.int .u32 a0.inc],za,za,za,za,za,za,za,za,za,za,za,za,za,za,za]) (by rfl) ?_
 refine zn (zd ?_)
 refine zc rfl (xP (n:=0) rfl yd (zb rfl) rfl rfl) st1 ?_
 refine zc rfl (zi rfl rfl (zb rfl)) xj ?_
 refine zf (zj (zn (zd ?_)))
 refine zc rfl (zk rfl fo51x0 yo rfl) wA ?_
 refine zc rfl (zy rfl ty5 yY rfl (zt rfl) (zb rfl)) yK ?_
 refine zc rfl (zr rfl yG rfl rfl) xI ?_
 refine zc rfl (ze rfl yX (zb rfl)) xT ?_
 refine zq rfl (fun hb=>zk rfl fo51x1 yo rfl) x9 ?_
 refine zq rfl (fun hb=>zy rfl ty49 (zp xE hb) rfl (zt rfl) (zb rfl)) xS ?_
 refine zq rfl (fun hb=>zr rfl (zp xu hb) rfl rfl) wE ?_
 refine zc rfl (zM rfl y5 x4 rfl (zS (fun ht=>gT ht))) yC ?_
 refine zc rfl (ze rfl yl (zb rfl)) yz ?_
 refine zq rfl (fun hb=>zk rfl fo51x1 yo rfl) yL ?_
 refine zq rfl (fun hb=>zy rfl ty49 (zp yJ hb) rfl (zt rfl) (zb rfl)) yO ?_
 refine zq rfl (fun hb=>zr rfl (zp yE hb) rfl rfl) yS ?_
 refine zc rfl (zM rfl yh yP rfl (zS (fun ht=>gT ht))) yW ?_
 refine zc rfl (zi rfl yU (zb rfl)) xj ?_
 refine zf (zj (zO ?_))
 obtain rfl:=Option.some.inj hF
 refine zA rfl (zE yQ zB) (zD (leV.refl _) rfl ?_)
 exact ⟨rfl,rfl⟩
theorem ok52 {d0:GDot} {res:Bool} {h:AH}  (hF:dotMay d0=some res):Spec Try.prog 52 [.agg [.int .u8 d0.actor.rep,.int .u32 d0.actor.inc,.int .u64 d0.seq]] h (fun rr hh=>rr=.bool res∧hh=h):=by
 unfold dotMay at hF
 refine zw Try.func52 rfl (by kernel_rfl) (env:=[.agg [.int .u8 d0.actor.rep,.int .u32 d0.actor.inc,.int .u64 d0.seq],za,za,za,za,za,za,za,za,za,za,za,za,za,za,za]) (by rfl) ?_
 refine zn (zd ?_)
 refine zc rfl (xP (n:=0) rfl yd (zb rfl) rfl rfl) st1 ?_
 refine zc rfl (zi rfl rfl (zb rfl)) xj ?_
 refine zf (zj (zn (zd ?_)))
 refine zc rfl (zk rfl qP yo rfl) wA ?_
 refine zc rfl (zy rfl ty51.choose_spec.1 yY rfl (zF (cs':=[.int .u8 d0.actor.rep,.int .u32 d0.actor.inc]) ty51.choose_spec.2 rfl rfl) (zb rfl)) yK ?_
 refine zK hF (fun v1 hv1 hF=>?_)
 refine zU rfl (zz rfl rfl rfl (zg yG zu) (.cons (zb rfl) .nil)) (ok63 hv1) xI ?_
 refine zc rfl (ze rfl yX (zb rfl)) xT ?_
 refine zq rfl (fun hb=>zk rfl fo53x1 yo rfl) x9 ?_
 refine zq rfl (fun hb=>zy rfl wR (zp xE hb) rfl (zt rfl) (zb rfl)) xS ?_
 refine zq rfl (fun hb=>zr rfl (zp xu hb) rfl rfl) wE ?_
 refine zc rfl (zM rfl y5 x4 rfl (zS (fun ht=>gT ht))) yC ?_
 refine zc rfl (ze rfl yl (zb rfl)) yz ?_
 refine zq rfl (fun hb=>zk rfl fo53x1 yo rfl) yL ?_
 refine zq rfl (fun hb=>zy rfl wR (zp yJ hb) rfl (zt rfl) (zb rfl)) yO ?_
 refine zq rfl (fun hb=>zr rfl (zp yE hb) rfl rfl) yS ?_
 refine zc rfl (zM rfl yh yP rfl (zS (fun ht=>gT ht))) yW ?_
 refine zc rfl (zi rfl yU (zb rfl)) xj ?_
 refine zf (zj (zO ?_))
 obtain rfl:=Option.some.inj hF
 refine zA rfl (zE yQ zB) (zD (leV.refl _) rfl ?_)
 exact ⟨rfl,rfl⟩
theorem ok53 {s0:yg} {res:Bool} {h:AH}  (hF:qF s0=some res):Spec Try.prog 53 [.str s0] h (fun rr hh=>rr=.bool res∧hh=h):=by
 unfold qF at hF
 refine zw Try.func53 rfl (by kernel_rfl) (env:=[.str s0,za,za,za,za,za]) (by rfl) ?_
 refine zn (zd ?_)
 refine zc rfl (zi rfl rfl (zb rfl)) xj ?_
 refine zf (zj (zn (zd ?_)))
 refine zc rfl (ze rfl yd (zb rfl)) wA ?_
 refine z7 rfl (wJ rfl rfl rfl rfl ty9 yY) yK fun hn1=>?_
 replace hn1:=xG hn1
 refine zc rfl (zr rfl yG rfl rfl) xI ?_
 refine zc rfl (zi rfl yX (zb rfl)) xj ?_
 refine zf (zj (zO ?_))
 obtain rfl:=Option.some.inj hF
 refine zA rfl (zE yQ zB) (zD (leV.refl _) rfl ?_)
 exact ⟨rfl,rfl⟩
theorem ok74 {vals0:(List Int)} {res:Int} {h:AH}  (hF:cmpOrInt vals0=some res):Spec Try.prog 74 [.sl 1 (vals0.map (intRow .i64))] h (fun rr hh=>rr=.int .i64 res∧hh=h):=by
 unfold cmpOrInt at hF
 refine zw Try.func74 rfl (by kernel_rfl) (env:=[.sl 1 (vals0.map (intRow .i64)),za,za,za,za,za,za,za,za,za,za,za,za,za,za,za,za,za]) (by rfl) ?_
 refine zn (zd ?_)
 refine zc rfl (zi rfl rfl (zb rfl)) xj ?_
 refine zf (zj (zn (zd ?_)))
 refine zc rfl (zi rfl rfl (zb rfl)) wA ?_
 refine zf (zj (zn (zn (zd ?_))))
 refine zc rfl (ze rfl yd (zb rfl)) xT ?_
 refine z7 rfl (zX rfl rfl rfl rfl el123 y5 z8) x9 fun hn1=>?_
 replace hn1:=xG hn1
 refine zc rfl (ze rfl rfl (zb rfl)) xS ?_
 refine zf (zj (zI ?_))
 refine yw (fun (n1:Nat) (s1:Unit)=>yv [0,1,2,4,5,9,10,11,12,13,14,15,16,17] [(8,.int .i64 (n1:Int))]) (fun s1=>h.ext [] []) hF (fun _ _=>by simp only [yv,upd,List.set_cons_succ,List.set_cons_zero];try rfl) (wk.le (by exact (.drop (.drop (.drop (.eq (.drop (.drop (.eq (.eq (.cons (leV.of_eq rfl) (.d4 (.d4 (.drop leL.nil)))))))))))))) ?_
 intro n1 s1 hi1 hF
 refine zn (zd ?_)
 refine zc rfl (zr rfl xu xE rfl) wE ?_
 refine zf (zj (zn ?_))
 refine y7 x4 hF (fun x1 o1 hl1 hx1 hF hK1=>?_) (fun hF=>?_)
 ·refine zH (zj (zn (zI (zn (zd ?_)))))
  refine zc rfl (yM rfl el123 y5 xu qI (xl hx1)) yC ?_
  refine zc rfl (yf rfl ty3 yl (zt rfl) (zb rfl)) yz ?_
  refine zc rfl (zi rfl yh (zb rfl)) xI ?_
  refine zf (zj (zn (zd ?_)))
  refine zc rfl (ze rfl yX (zb rfl)) yL ?_
  refine zc rfl (ze rfl yY (zb rfl)) yO ?_
  refine zc rfl (zr rfl yJ yE rfl) yS ?_
  refine zf (zj ?_)
  refine zG yP hF (fun hc6 hF=>?_) (fun hc6 hF=>?_)
  ·refine zn (zd ?_)
   refine zc rfl (ze rfl yX (zb rfl)) yW ?_
   refine zc rfl (zi rfl yU (zb rfl)) xj ?_
   refine zf (zj (zO ?_))
   refine zJ ?_
   refine zC ?_
   refine yp ?_
   obtain rfl:=Option.some.inj hF
   replace hF:=hK1
   refine zJ ?_
   refine zC ?_
   obtain rfl:=Option.some.inj hF
   refine zA rfl (zE yQ zB) (zD (leV.refl _) rfl ?_)
   exact ⟨rfl,rfl⟩
  ·refine zH (zY (zj (zd ?_)))
   refine zc rfl (zr rfl xu rfl rfl) xa ?_
   refine zc rfl (ze rfl yR (zb rfl)) xS ?_
   refine zf (yi ?_)
   obtain rfl:=Option.some.inj hF
   exact ⟨(),hl1,hK1,wk.le (by exact (.drop (.drop (.drop (.eq (.drop (.drop (.eq (.eq (.cons (leV.of_eq (qp (by omega) (by omega))) (.d4 (.d4 (.drop leL.nil)))))))))))))⟩
 ·refine yy ?_
  refine zT ?_
  refine zP ?_
  refine zQ ?_
  refine zj (zn (zd ?_))
  refine zc rfl (ze rfl yY (zb rfl)) xd ?_
  refine zc rfl (zi rfl xb (zb rfl)) xj ?_
  refine zf (zj (zO ?_))
  obtain rfl:=Option.some.inj hF
  refine zA rfl (zE yQ zB) (zD (leV.refl _) rfl ?_)
  exact ⟨rfl,rfl⟩
theorem ok84 {x0:Int} {res:Bool} {h:AH}  (hF:vL x0=some res):Spec Try.prog 84 [.int .u32 x0] h (fun rr hh=>rr=.bool res∧hh=h):=by
 unfold vL at hF
 refine zw Try.func84 rfl (by kernel_rfl) (env:=[.int .u32 x0,za,za,za,za,za]) (by rfl) ?_
 refine zn (zd ?_)
 refine zc rfl (zi rfl rfl (zb rfl)) xj ?_
 refine zf (zj (zn (zd ?_)))
 refine zc rfl (ze rfl yd (zb rfl)) wA ?_
 refine zc rfl (ze rfl yd (zb rfl)) yK ?_
 refine zc rfl (zr rfl yY yG rfl) xI ?_
 refine zc rfl (zi rfl yX (zb rfl)) xj ?_
 refine zf (zj (zO ?_))
 obtain rfl:=Option.some.inj hF
 refine zA rfl (zE yQ zB) (zD (leV.refl _) rfl ?_)
 exact ⟨rfl,rfl⟩
theorem ok80 {x0:Int} {y1:Int} {res:Int} {h:AH}  (hF:vi x0 y1=some res):Spec Try.prog 80 [.int .u32 x0,.int .u32 y1] h (fun rr hh=>rr=.int .i64 res∧hh=h):=by
 unfold vi at hF
 refine zw Try.func80 rfl (by kernel_rfl) (env:=[.int .u32 x0,.int .u32 y1,za,za,za,za,za,za,za,za,za,za,za,za,za,za,za,za,za,za]) (by rfl) ?_
 refine zn (zd ?_)
 refine zc rfl (zi rfl rfl (zb rfl)) yK ?_
 refine zf (zj (zn (zd ?_)))
 refine zc rfl (ze rfl yd (zb rfl)) x9 ?_
 refine zK hF (fun v1 hv1 hF=>?_)
 refine zU rfl (zz rfl rfl rfl (zg xE zu) (.cons (zb rfl) .nil)) (ok84 hv1) xS ?_
 refine zc rfl (zi rfl xu (zb rfl)) xI ?_
 refine zf (zj (zn (zd ?_)))
 refine zc rfl (ze rfl yo (zb rfl)) wE ?_
 refine zK hF (fun v2 hv2 hF=>?_)
 refine zU rfl (zz rfl rfl rfl (zg x4 zu) (.cons (zb rfl) .nil)) (ok84 hv2) yC ?_
 refine zc rfl (zi rfl yl (zb rfl)) xT ?_
 refine zf (zj (zn (zn (zd ?_))))
 refine zc rfl (ze rfl yX (zb rfl)) yz ?_
 refine zf (zj ?_)
 refine zG yh hF (fun hc3 hF=>?_) (fun hc3 hF=>?_)
 ·refine zn (zn (zd ?_))
  refine zc rfl (ze rfl y5 (zb rfl)) yL ?_
  refine zf (zj ?_)
  refine zG yJ hF (fun hc4 hF=>?_) (fun hc4 hF=>?_)
  ·refine zn (zd ?_)
   refine zc rfl (zi rfl rfl (zb rfl)) yK ?_
   refine zf (zj (zO (zC (zC ?_))))
   obtain rfl:=Option.some.inj hF
   refine zA rfl (zE yG zB) (zD (leV.refl _) rfl ?_)
   exact ⟨rfl,rfl⟩
  ·refine zH (zj (zn (zd ?_)))
   refine zc rfl (zi rfl rfl (zb rfl)) yK ?_
   refine zf (zj (zO (zC ?_)))
   obtain rfl:=Option.some.inj hF
   refine zA rfl (zE yG zB) (zD (leV.refl _) rfl ?_)
   exact ⟨rfl,rfl⟩
 ·refine zH (zj (zn (zn (zd ?_))))
  refine zc rfl (ze rfl y5 (zb rfl)) yO ?_
  refine zf (zj ?_)
  refine zG yE hF (fun hc5 hF=>?_) (fun hc5 hF=>?_)
  ·refine zn (zd ?_)
   refine zc rfl (zi rfl rfl (zb rfl)) yK ?_
   refine zf (zj (zO (zC ?_)))
   obtain rfl:=Option.some.inj hF
   refine zA rfl (zE yG zB) (zD (leV.refl _) rfl ?_)
   exact ⟨rfl,rfl⟩
  ·refine zH (zj (zn (zn (zd ?_))))
   refine zc rfl (ze rfl yd (zb rfl)) yS ?_
   refine zc rfl (ze rfl yo (zb rfl)) yW ?_
   refine zc rfl (zr rfl yP yU rfl) xa ?_
   refine zf (zj ?_)
   refine zG yR hF (fun hc6 hF=>?_) (fun hc6 hF=>?_)
   ·refine zn (zd ?_)
    refine zc rfl (zi rfl rfl (zb rfl)) yK ?_
    refine zf (zj (zO (zC ?_)))
    obtain rfl:=Option.some.inj hF
    refine zA rfl (zE yG zB) (zD (leV.refl _) rfl ?_)
    exact ⟨rfl,rfl⟩
   ·refine zH (zj (zn (zn (zd ?_))))
    refine zc rfl (ze rfl yd (zb rfl)) xd ?_
    refine zc rfl (ze rfl yo (zb rfl)) xq ?_
    refine zc rfl (zr rfl xb yD rfl) xr ?_
    refine zf (zj ?_)
    refine zG xz hF (fun hc7 hF=>?_) (fun hc7 hF=>?_)
    ·refine zn (zd ?_)
     refine zc rfl (zi rfl rfl (zb rfl)) yK ?_
     refine zf (zj (zO (zC ?_)))
     obtain rfl:=Option.some.inj hF
     refine zA rfl (zE yG zB) (zD (leV.refl _) rfl ?_)
     exact ⟨rfl,rfl⟩
    ·refine zH (zj (zn (zd ?_)))
     refine zc rfl (zi rfl rfl (zb rfl)) yK ?_
     refine zf (zj (zO ?_))
     obtain rfl:=Option.some.inj hF
     refine zA rfl (zE yG zB) (zD (leV.refl _) rfl ?_)
     exact ⟨rfl,rfl⟩
theorem ok83 {x0:Int} {res:Bool} {h:AH}  (hF:qf x0=some res):Spec Try.prog 83 [.int .u8 x0] h (fun rr hh=>rr=.bool res∧hh=h):=by
 unfold qf at hF
 refine zw Try.func83 rfl (by kernel_rfl) (env:=[.int .u8 x0,za,za,za,za,za]) (by rfl) ?_
 refine zn (zd ?_)
 refine zc rfl (zi rfl rfl (zb rfl)) xj ?_
 refine zf (zj (zn (zd ?_)))
 refine zc rfl (ze rfl yd (zb rfl)) wA ?_
 refine zc rfl (ze rfl yd (zb rfl)) yK ?_
 refine zc rfl (zr rfl yY yG rfl) xI ?_
 refine zc rfl (zi rfl yX (zb rfl)) xj ?_
 refine zf (zj (zO ?_))
 obtain rfl:=Option.some.inj hF
 refine zA rfl (zE yQ zB) (zD (leV.refl _) rfl ?_)
 exact ⟨rfl,rfl⟩
theorem ok79 {x0:Int} {y1:Int} {res:Int} {h:AH}  (hF:vM x0 y1=some res):Spec Try.prog 79 [.int .u8 x0,.int .u8 y1] h (fun rr hh=>rr=.int .i64 res∧hh=h):=by
 unfold vM at hF
 refine zw Try.func79 rfl (by kernel_rfl) (env:=[.int .u8 x0,.int .u8 y1,za,za,za,za,za,za,za,za,za,za,za,za,za,za,za,za,za,za]) (by rfl) ?_
 refine zn (zd ?_)
 refine zc rfl (zi rfl rfl (zb rfl)) yK ?_
 refine zf (zj (zn (zd ?_)))
 refine zc rfl (ze rfl yd (zb rfl)) x9 ?_
 refine zK hF (fun v1 hv1 hF=>?_)
 refine zU rfl (zz rfl rfl rfl (zg xE zu) (.cons (zb rfl) .nil)) (ok83 hv1) xS ?_
 refine zc rfl (zi rfl xu (zb rfl)) xI ?_
 refine zf (zj (zn (zd ?_)))
 refine zc rfl (ze rfl yo (zb rfl)) wE ?_
 refine zK hF (fun v2 hv2 hF=>?_)
 refine zU rfl (zz rfl rfl rfl (zg x4 zu) (.cons (zb rfl) .nil)) (ok83 hv2) yC ?_
 refine zc rfl (zi rfl yl (zb rfl)) xT ?_
 refine zf (zj (zn (zn (zd ?_))))
 refine zc rfl (ze rfl yX (zb rfl)) yz ?_
 refine zf (zj ?_)
 refine zG yh hF (fun hc3 hF=>?_) (fun hc3 hF=>?_)
 ·refine zn (zn (zd ?_))
  refine zc rfl (ze rfl y5 (zb rfl)) yL ?_
  refine zf (zj ?_)
  refine zG yJ hF (fun hc4 hF=>?_) (fun hc4 hF=>?_)
  ·refine zn (zd ?_)
   refine zc rfl (zi rfl rfl (zb rfl)) yK ?_
   refine zf (zj (zO (zC (zC ?_))))
   obtain rfl:=Option.some.inj hF
   refine zA rfl (zE yG zB) (zD (leV.refl _) rfl ?_)
   exact ⟨rfl,rfl⟩
  ·refine zH (zj (zn (zd ?_)))
   refine zc rfl (zi rfl rfl (zb rfl)) yK ?_
   refine zf (zj (zO (zC ?_)))
   obtain rfl:=Option.some.inj hF
   refine zA rfl (zE yG zB) (zD (leV.refl _) rfl ?_)
   exact ⟨rfl,rfl⟩
 ·refine zH (zj (zn (zn (zd ?_))))
  refine zc rfl (ze rfl y5 (zb rfl)) yO ?_
  refine zf (zj ?_)
  refine zG yE hF (fun hc5 hF=>?_) (fun hc5 hF=>?_)
  ·refine zn (zd ?_)
   refine zc rfl (zi rfl rfl (zb rfl)) yK ?_
   refine zf (zj (zO (zC ?_)))
   obtain rfl:=Option.some.inj hF
   refine zA rfl (zE yG zB) (zD (leV.refl _) rfl ?_)
   exact ⟨rfl,rfl⟩
  ·refine zH (zj (zn (zn (zd ?_))))
   refine zc rfl (ze rfl yd (zb rfl)) yS ?_
   refine zc rfl (ze rfl yo (zb rfl)) yW ?_
   refine zc rfl (zr rfl yP yU rfl) xa ?_
   refine zf (zj ?_)
   refine zG yR hF (fun hc6 hF=>?_) (fun hc6 hF=>?_)
   ·refine zn (zd ?_)
    refine zc rfl (zi rfl rfl (zb rfl)) yK ?_
    refine zf (zj (zO (zC ?_)))
    obtain rfl:=Option.some.inj hF
    refine zA rfl (zE yG zB) (zD (leV.refl _) rfl ?_)
    exact ⟨rfl,rfl⟩
   ·refine zH (zj (zn (zn (zd ?_))))
    refine zc rfl (ze rfl yd (zb rfl)) xd ?_
    refine zc rfl (ze rfl yo (zb rfl)) xq ?_
    refine zc rfl (zr rfl xb yD rfl) xr ?_
    refine zf (zj ?_)
    refine zG xz hF (fun hc7 hF=>?_) (fun hc7 hF=>?_)
    ·refine zn (zd ?_)
     refine zc rfl (zi rfl rfl (zb rfl)) yK ?_
     refine zf (zj (zO (zC ?_)))
     obtain rfl:=Option.some.inj hF
     refine zA rfl (zE yG zB) (zD (leV.refl _) rfl ?_)
     exact ⟨rfl,rfl⟩
    ·refine zH (zj (zn (zd ?_)))
     refine zc rfl (zi rfl rfl (zb rfl)) yK ?_
     refine zf (zj (zO ?_))
     obtain rfl:=Option.some.inj hF
     refine zA rfl (zE yG zB) (zD (leV.refl _) rfl ?_)
     exact ⟨rfl,rfl⟩
theorem ok75 {a0:GActor} {b1:GActor} {res:Int} {h:AH}  (hF:dotXcompare a0 b1=some res):Spec Try.prog 75 [.agg [.int .u8 a0.rep,.int .u32 a0.inc],.agg [.int .u8 b1.rep,.int .u32 b1.inc]] h (fun rr hh=>rr=.int .i64 res∧hh=h):=by
 unfold dotXcompare at hF
 refine zw Try.func75 rfl (by kernel_rfl) (env:=[.agg [.int .u8 a0.rep,.int .u32 a0.inc],.agg [.int .u8 b1.rep,.int .u32 b1.inc],za,za,za,za,za,za,za,za,za,za,za,za,za,za,za]) (by rfl) ?_
 refine zn (zd ?_)
 refine zc rfl (xP (n:=0) rfl yd (zb rfl) rfl rfl) xj ?_
 refine zc rfl (xP (n:=1) rfl yo (zb rfl) rfl rfl) wA ?_
 refine zc rfl (zi rfl rfl (zb rfl)) yK ?_
 refine zf (zj (zn ?_))
 refine yr [4,9,11] [] trivial xF (by kernel_rfl) ?_
 refine zo rfl rfl (zk rfl fo51x0 yQ rfl) xI ?_
 refine zo rfl rfl (zy rfl ty5 yX rfl (zt rfl) (zb rfl)) xT ?_
 refine zo rfl rfl (zk rfl fo51x0 yY rfl) x9 ?_
 refine zo rfl rfl (zy rfl ty5 xE rfl (zt rfl) (zb rfl)) xS ?_
 refine zK hF (fun v1 hv1 hF=>?_)
 refine xc rfl rfl (fun _=>zz rfl rfl rfl (zg y5 (zg xu zu)) (.cons (zb rfl) (.cons (zb rfl) .nil))) (by rintro _ ⟨B2,T2,rfl,hk2⟩;exact ok79 hv1) wE ?_
 refine zo rfl rfl (zk rfl fo51x1 yQ rfl) yC ?_
 refine zo rfl rfl (zy rfl ty49 yl rfl (zt rfl) (zb rfl)) yz ?_
 refine zo rfl rfl (zk rfl fo51x1 yY rfl) yL ?_
 refine zo rfl rfl (zy rfl ty49 yJ rfl (zt rfl) (zb rfl)) yO ?_
 refine zK hF (fun v2 hv2 hF=>?_)
 refine xc rfl rfl (fun _=>zz rfl rfl rfl (zg yh (zg yE zu)) (.cons (zb rfl) (.cons (zb rfl) .nil))) (by rintro _ ⟨B2,T2,rfl,hk2⟩;exact ok80 hv2) yS ?_
 refine zo rfl rfl (yn (es:=([v1,v2]:List Int).map (intRow .i64)) rfl el123 ze3 rfl rfl (zZ x4 (zZ yP yb)) (.cons (zb rfl) (.cons (zb rfl) .nil)) rfl rfl rfl) yW ?_
 refine zK hF (fun v3 hv3 hF=>?_)
 refine xc rfl rfl (fun _=>zz rfl rfl rfl (zg yU zu) (.cons (zb rfl) .nil)) (by rintro _ ⟨B2,T2,rfl,hk2⟩;exact (ok74 hv3).le (.cons (leV.osl _ _ _) leL.nil)) xa ?_
 refine zo rfl rfl (zi rfl yR (zb rfl)) yK ?_
 refine yc ?_
 refine zj (zO ?_)
 obtain rfl:=Option.some.inj hF
 refine zA rfl (zE yG zB) (zD (leV.refl _) rfl ?_)
 exact ⟨rfl,rfl⟩
theorem ok81 {x0:Int} {res:Bool} {h:AH}  (hF:vK x0=some res):Spec Try.prog 81 [.int .u64 x0] h (fun rr hh=>rr=.bool res∧hh=h):=by
 unfold vK at hF
 refine zw Try.func81 rfl (by kernel_rfl) (env:=[.int .u64 x0,za,za,za,za,za]) (by rfl) ?_
 refine zn (zd ?_)
 refine zc rfl (zi rfl rfl (zb rfl)) xj ?_
 refine zf (zj (zn (zd ?_)))
 refine zc rfl (ze rfl yd (zb rfl)) wA ?_
 refine zc rfl (ze rfl yd (zb rfl)) yK ?_
 refine zc rfl (zr rfl yY yG rfl) xI ?_
 refine zc rfl (zi rfl yX (zb rfl)) xj ?_
 refine zf (zj (zO ?_))
 obtain rfl:=Option.some.inj hF
 refine zA rfl (zE yQ zB) (zD (leV.refl _) rfl ?_)
 exact ⟨rfl,rfl⟩
theorem ok76 {x0:Int} {y1:Int} {res:Int} {h:AH}  (hF:wx x0 y1=some res):Spec Try.prog 76 [.int .u64 x0,.int .u64 y1] h (fun rr hh=>rr=.int .i64 res∧hh=h):=by
 unfold wx at hF
 refine zw Try.func76 rfl (by kernel_rfl) (env:=[.int .u64 x0,.int .u64 y1,za,za,za,za,za,za,za,za,za,za,za,za,za,za,za,za,za,za]) (by rfl) ?_
 refine zn (zd ?_)
 refine zc rfl (zi rfl rfl (zb rfl)) yK ?_
 refine zf (zj (zn (zd ?_)))
 refine zc rfl (ze rfl yd (zb rfl)) x9 ?_
 refine zK hF (fun v1 hv1 hF=>?_)
 refine zU rfl (zz rfl rfl rfl (zg xE zu) (.cons (zb rfl) .nil)) (ok81 hv1) xS ?_
 refine zc rfl (zi rfl xu (zb rfl)) xI ?_
 refine zf (zj (zn (zd ?_)))
 refine zc rfl (ze rfl yo (zb rfl)) wE ?_
 refine zK hF (fun v2 hv2 hF=>?_)
 refine zU rfl (zz rfl rfl rfl (zg x4 zu) (.cons (zb rfl) .nil)) (ok81 hv2) yC ?_
 refine zc rfl (zi rfl yl (zb rfl)) xT ?_
 refine zf (zj (zn (zn (zd ?_))))
 refine zc rfl (ze rfl yX (zb rfl)) yz ?_
 refine zf (zj ?_)
 refine zG yh hF (fun hc3 hF=>?_) (fun hc3 hF=>?_)
 ·refine zn (zn (zd ?_))
  refine zc rfl (ze rfl y5 (zb rfl)) yL ?_
  refine zf (zj ?_)
  refine zG yJ hF (fun hc4 hF=>?_) (fun hc4 hF=>?_)
  ·refine zn (zd ?_)
   refine zc rfl (zi rfl rfl (zb rfl)) yK ?_
   refine zf (zj (zO (zC (zC ?_))))
   obtain rfl:=Option.some.inj hF
   refine zA rfl (zE yG zB) (zD (leV.refl _) rfl ?_)
   exact ⟨rfl,rfl⟩
  ·refine zH (zj (zn (zd ?_)))
   refine zc rfl (zi rfl rfl (zb rfl)) yK ?_
   refine zf (zj (zO (zC ?_)))
   obtain rfl:=Option.some.inj hF
   refine zA rfl (zE yG zB) (zD (leV.refl _) rfl ?_)
   exact ⟨rfl,rfl⟩
 ·refine zH (zj (zn (zn (zd ?_))))
  refine zc rfl (ze rfl y5 (zb rfl)) yO ?_
  refine zf (zj ?_)
  refine zG yE hF (fun hc5 hF=>?_) (fun hc5 hF=>?_)
  ·refine zn (zd ?_)
   refine zc rfl (zi rfl rfl (zb rfl)) yK ?_
   refine zf (zj (zO (zC ?_)))
   obtain rfl:=Option.some.inj hF
   refine zA rfl (zE yG zB) (zD (leV.refl _) rfl ?_)
   exact ⟨rfl,rfl⟩
  ·refine zH (zj (zn (zn (zd ?_))))
   refine zc rfl (ze rfl yd (zb rfl)) yS ?_
   refine zc rfl (ze rfl yo (zb rfl)) yW ?_
   refine zc rfl (zr rfl yP yU rfl) xa ?_
   refine zf (zj ?_)
   refine zG yR hF (fun hc6 hF=>?_) (fun hc6 hF=>?_)
   ·refine zn (zd ?_)
    refine zc rfl (zi rfl rfl (zb rfl)) yK ?_
    refine zf (zj (zO (zC ?_)))
    obtain rfl:=Option.some.inj hF
    refine zA rfl (zE yG zB) (zD (leV.refl _) rfl ?_)
    exact ⟨rfl,rfl⟩
   ·refine zH (zj (zn (zn (zd ?_))))
    refine zc rfl (ze rfl yd (zb rfl)) xd ?_
    refine zc rfl (ze rfl yo (zb rfl)) xq ?_
    refine zc rfl (zr rfl xb yD rfl) xr ?_
    refine zf (zj ?_)
    refine zG xz hF (fun hc7 hF=>?_) (fun hc7 hF=>?_)
    ·refine zn (zd ?_)
     refine zc rfl (zi rfl rfl (zb rfl)) yK ?_
     refine zf (zj (zO (zC ?_)))
     obtain rfl:=Option.some.inj hF
     refine zA rfl (zE yG zB) (zD (leV.refl _) rfl ?_)
     exact ⟨rfl,rfl⟩
    ·refine zH (zj (zn (zd ?_)))
     refine zc rfl (zi rfl rfl (zb rfl)) yK ?_
     refine zf (zj (zO ?_))
     obtain rfl:=Option.some.inj hF
     refine zA rfl (zE yG zB) (zD (leV.refl _) rfl ?_)
     exact ⟨rfl,rfl⟩
theorem ok66 {a0:GDot} {b1:GDot} {res:Int} {h:AH}  (hF:dotCompare a0 b1=some res):Spec Try.prog 66 [.agg [.int .u8 a0.actor.rep,.int .u32 a0.actor.inc,.int .u64 a0.seq],.agg [.int .u8 b1.actor.rep,.int .u32 b1.actor.inc,.int .u64 b1.seq]] h (fun rr hh=>rr=.int .i64 res∧hh=h):=by
 unfold dotCompare at hF
 refine zw Try.func66 rfl (by kernel_rfl) (env:=[.agg [.int .u8 a0.actor.rep,.int .u32 a0.actor.inc,.int .u64 a0.seq],.agg [.int .u8 b1.actor.rep,.int .u32 b1.actor.inc,.int .u64 b1.seq],za,za,za,za,za,za,za,za,za,za,za,za,za,za,za]) (by rfl) ?_
 refine zn (zd ?_)
 refine zc rfl (xP (n:=0) rfl yd (zb rfl) rfl rfl) xj ?_
 refine zc rfl (xP (n:=1) rfl yo (zb rfl) rfl rfl) wA ?_
 refine zc rfl (zi rfl rfl (zb rfl)) yK ?_
 refine zf (zj (zn ?_))
 refine yr [4,9,11] [] trivial xF (by kernel_rfl) ?_
 refine zo rfl rfl (zk rfl qP yQ rfl) xI ?_
 refine zo rfl rfl (zy rfl ty51.choose_spec.1 yX rfl (zF (cs':=[.int .u8 a0.actor.rep,.int .u32 a0.actor.inc]) ty51.choose_spec.2 rfl rfl) (zb rfl)) xT ?_
 refine zo rfl rfl (zk rfl qP yY rfl) x9 ?_
 refine zo rfl rfl (zy rfl ty51.choose_spec.1 xE rfl (zF (cs':=[.int .u8 b1.actor.rep,.int .u32 b1.actor.inc]) ty51.choose_spec.2 rfl rfl) (zb rfl)) xS ?_
 refine zK hF (fun v1 hv1 hF=>?_)
 refine xc rfl rfl (fun _=>zz rfl rfl rfl (zg y5 (zg xu zu)) (.cons (zb rfl) (.cons (zb rfl) .nil))) (by rintro _ ⟨B2,T2,rfl,hk2⟩;exact ok75 hv1) wE ?_
 refine zo rfl rfl (zk rfl fo53x1 yQ rfl) yC ?_
 refine zo rfl rfl (zy rfl wR yl rfl (zt rfl) (zb rfl)) yz ?_
 refine zo rfl rfl (zk rfl fo53x1 yY rfl) yL ?_
 refine zo rfl rfl (zy rfl wR yJ rfl (zt rfl) (zb rfl)) yO ?_
 refine zK hF (fun v2 hv2 hF=>?_)
 refine xc rfl rfl (fun _=>zz rfl rfl rfl (zg yh (zg yE zu)) (.cons (zb rfl) (.cons (zb rfl) .nil))) (by rintro _ ⟨B2,T2,rfl,hk2⟩;exact ok76 hv2) yS ?_
 refine zo rfl rfl (yn (es:=([v1,v2]:List Int).map (intRow .i64)) rfl el123 ze3 rfl rfl (zZ x4 (zZ yP yb)) (.cons (zb rfl) (.cons (zb rfl) .nil)) rfl rfl rfl) yW ?_
 refine zK hF (fun v3 hv3 hF=>?_)
 refine xc rfl rfl (fun _=>zz rfl rfl rfl (zg yU zu) (.cons (zb rfl) .nil)) (by rintro _ ⟨B2,T2,rfl,hk2⟩;exact (ok74 hv3).le (.cons (leV.osl _ _ _) leL.nil)) xa ?_
 refine zo rfl rfl (zi rfl yR (zb rfl)) yK ?_
 refine yc ?_
 refine zj (zO ?_)
 obtain rfl:=Option.some.inj hF
 refine zA rfl (zE yG zB) (zD (leV.refl _) rfl ?_)
 exact ⟨rfl,rfl⟩
theorem ok73 {a0:Int} {d1:GDot} {b2:Int} {o3:GDot} {res:Int} {h:AH}  (hF:leafXcompare a0 d1 b2 o3=some res):Spec Try.prog 73 [.int .u64 a0,.agg [.int .u8 d1.actor.rep,.int .u32 d1.actor.inc,.int .u64 d1.seq],.int .u64 b2,.agg [.int .u8 o3.actor.rep,.int .u32 o3.actor.inc,.int .u64 o3.seq]] h (fun rr hh=>rr=.int .i64 res∧hh=h):=by
 unfold leafXcompare at hF
 refine zw Try.func73 rfl (by kernel_rfl) (env:=[.int .u64 a0,.agg [.int .u8 d1.actor.rep,.int .u32 d1.actor.inc,.int .u64 d1.seq],.int .u64 b2,.agg [.int .u8 o3.actor.rep,.int .u32 o3.actor.inc,.int .u64 o3.seq],za,za,za,za,za,za,za,za,za,za,za,za,za]) (by rfl) ?_
 refine zn (zd ?_)
 refine zc rfl (xP (n:=0) rfl yo (zb rfl) rfl rfl) xI ?_
 refine zc rfl (xP (n:=1) rfl yY (zb rfl) rfl rfl) x9 ?_
 refine zc rfl (zi rfl rfl (zb rfl)) xS ?_
 refine zf (zj (zn ?_))
 refine yr [2,5,7] [] trivial xF (by kernel_rfl) ?_
 refine zo rfl rfl (ze rfl yd (zb rfl)) wE ?_
 refine zo rfl rfl (ze rfl yQ (zb rfl)) yC ?_
 refine zK hF (fun v1 hv1 hF=>?_)
 refine xc rfl rfl (fun _=>zz rfl rfl rfl (zg x4 (zg yl zu)) (.cons (zb rfl) (.cons (zb rfl) .nil))) (by rintro _ ⟨B2,T2,rfl,hk2⟩;exact ok76 hv1) yz ?_
 refine zo rfl rfl (zy rfl ty53.choose_spec.1 yX rfl (zF (cs':=[.int .u8 d1.actor.rep,.int .u32 d1.actor.inc,.int .u64 d1.seq]) ty53.choose_spec.2 rfl rfl) (zb rfl)) yL ?_
 refine zo rfl rfl (zy rfl ty53.choose_spec.1 xE rfl (zF (cs':=[.int .u8 o3.actor.rep,.int .u32 o3.actor.inc,.int .u64 o3.seq]) ty53.choose_spec.2 rfl rfl) (zb rfl)) yO ?_
 refine zK hF (fun v2 hv2 hF=>?_)
 refine xc rfl rfl (fun _=>zz rfl rfl rfl (zg yJ (zg yE zu)) (.cons (zb rfl) (.cons (zb rfl) .nil))) (by rintro _ ⟨B2,T2,rfl,hk2⟩;exact ok66 hv2) yS ?_
 refine zo rfl rfl (yn (es:=([v1,v2]:List Int).map (intRow .i64)) rfl el123 ze3 rfl rfl (zZ yh (zZ yP yb)) (.cons (zb rfl) (.cons (zb rfl) .nil)) rfl rfl rfl) yW ?_
 refine zK hF (fun v3 hv3 hF=>?_)
 refine xc rfl rfl (fun _=>zz rfl rfl rfl (zg yU zu) (.cons (zb rfl) .nil)) (by rintro _ ⟨B2,T2,rfl,hk2⟩;exact (ok74 hv3).le (.cons (leV.osl _ _ _) leL.nil)) xa ?_
 refine zo rfl rfl (zi rfl yR (zb rfl)) xS ?_
 refine yc ?_
 refine zj (zO ?_)
 obtain rfl:=Option.some.inj hF
 refine zA rfl (zE xu zB) (zD (leV.refl _) rfl ?_)
 exact ⟨rfl,rfl⟩
theorem ok64 {time0:Int} {d1:GDot} {other2:Int} {o3:GDot} {res:Bool} {h:AH}  (hF:leafAhead time0 d1 other2 o3=some res):Spec Try.prog 64 [.int .u64 time0,.agg [.int .u8 d1.actor.rep,.int .u32 d1.actor.inc,.int .u64 d1.seq],.int .u64 other2,.agg [.int .u8 o3.actor.rep,.int .u32 o3.actor.inc,.int .u64 o3.seq]] h (fun rr hh=>rr=.bool res∧hh=h):=by
 unfold leafAhead at hF
 refine zw Try.func64 rfl (by kernel_rfl) (env:=[.int .u64 time0,.agg [.int .u8 d1.actor.rep,.int .u32 d1.actor.inc,.int .u64 d1.seq],.int .u64 other2,.agg [.int .u8 o3.actor.rep,.int .u32 o3.actor.inc,.int .u64 o3.seq],za,za,za,za,za,za,za,za,za,za,za]) (by rfl) ?_
 refine zn (zd ?_)
 refine zc rfl (xP (n:=0) rfl yo (zb rfl) rfl rfl) xI ?_
 refine zc rfl (xP (n:=1) rfl yY (zb rfl) rfl rfl) x9 ?_
 refine zc rfl (zi rfl rfl (zb rfl)) xS ?_
 refine zf (zj (zn (zd ?_)))
 refine zc rfl (ze rfl yd (zb rfl)) wE ?_
 refine zc rfl (zy rfl ty53.choose_spec.1 yX rfl (zF (cs':=[.int .u8 d1.actor.rep,.int .u32 d1.actor.inc,.int .u64 d1.seq]) ty53.choose_spec.2 rfl rfl) (zb rfl)) yC ?_
 refine zc rfl (ze rfl yQ (zb rfl)) yz ?_
 refine zc rfl (zy rfl ty53.choose_spec.1 xE rfl (zF (cs':=[.int .u8 o3.actor.rep,.int .u32 o3.actor.inc,.int .u64 o3.seq]) ty53.choose_spec.2 rfl rfl) (zb rfl)) yL ?_
 refine zK hF (fun v1 hv1 hF=>?_)
 refine zU rfl (zz rfl rfl rfl (zg x4 (zg yl (zg yh (zg yJ zu)))) (.cons (zb rfl) (.cons (zb rfl) (.cons (zb rfl) (.cons (zb rfl) .nil))))) (ok73 hv1) yO ?_
 refine zc rfl (zr rfl yE rfl rfl) yS ?_
 refine zc rfl (zi rfl yP (zb rfl)) xS ?_
 refine zf (zj (zO ?_))
 obtain rfl:=Option.some.inj hF
 refine zA rfl (zE xu zB) (zD (leV.refl _) rfl ?_)
 exact ⟨rfl,rfl⟩
theorem ok65 {l0:(List GItem)} {res:Bool} {h:AH}  (hF:leafXtwice l0=some res):Spec Try.prog 65 [.sl 5 (l0.map GItem.row)] h (fun rr hh=>rr=.bool res∧hh=h):=by
 unfold leafXtwice at hF
 refine zw Try.func65 rfl (by kernel_rfl) (env:=[.sl 5 (l0.map GItem.row),za,za,za,za,za,za,za,za,za,za,za,za,za,za,za,za,za,za,za,za,za,za,za,za,za]) (by rfl) ?_
 refine zn (zd ?_)
 refine zc rfl (zi rfl rfl (zb rfl)) xj ?_
 refine zf (zj (zn (zd ?_)))
 refine zc rfl (e_makeMap (n:=0) rfl rfl) xT ?_
 refine zc rfl (zi rfl y5 (zb rfl)) wA ?_
 refine zf (zj (zn (zn (zd ?_))))
 refine zc rfl (ze rfl yd (zb rfl)) x9 ?_
 refine z7 rfl (zX rfl rfl rfl rfl vV xE z8) xS fun hn1=>?_
 replace hn1:=xG hn1
 refine zc rfl (ze rfl rfl (zb rfl)) wE ?_
 refine zf (zj (zI ?_))
 refine yw (fun (n1:Nat) (s1:List (GDot×Int))=>yv [1,2,4,5,6,10,11,12,13,14,15,16,17,18,19,20,21,22,23,24,25] [(9,.int .i64 (n1:Int))]) (fun s1=>h.ext [.mapo (s1.map (mrow (fun x=>AV.agg (GDot.row x)) (AV.int .i64))) 0] []) hF (fun _ _=>by simp only [yv,upd,List.set_cons_succ,List.set_cons_zero];try rfl) (wk.le (by exact (.eq (.drop (.drop (.eq (.drop (.drop (.drop (.eq (.eq (.cons (leV.of_eq rfl) (.d16 leL.nil))))))))))))) ?_
 intro n1 s1 hi1 hF
 refine zn (zd ?_)
 refine zc rfl (zr rfl x4 xu rfl) yC ?_
 refine zf (zj (zn ?_))
 refine y7 yl hF (fun x1 o1 hl1 hx1 hF hK1=>?_) (fun hF=>?_)
 ·refine zH (zj (zn (zI (zn (zd ?_)))))
  refine zc rfl (yM rfl vV xE x4 qI (xl hx1)) yz ?_
  refine zc rfl (yf rfl ty56.choose_spec.1 yh (zF (cs':=[.int .u64 x1.time,.int .u8 x1.dot.actor.rep,.int .u32 x1.dot.actor.inc,.int .u64 x1.dot.seq,.str x1.text]) ty56.choose_spec.2 rfl rfl) (zb rfl)) yL ?_
  refine zc rfl (xn (n:=1) rfl ze56 rfl) xI ?_
  refine zc rfl (yk (cs':=[.int .u64 x1.time,.int .u8 x1.dot.actor.rep,.int .u32 x1.dot.actor.inc,.int .u64 x1.dot.seq,.str x1.text]) rfl ty56.choose_spec.1 yX yJ (zb rfl) rfl rfl rfl rfl rfl) rfl ?_
  refine zf (zj ?_)
  refine r_drawnF [3] (fun _=>MapE h 0 (s1.map (mrow (fun x=>AV.agg (GDot.row x)) (AV.int .i64))) ((ment GDot.eqb (0:Int) s1 x1.dot).map (mrow (fun x=>AV.agg (GDot.row x)) (AV.int .i64)))) (fun _=>⟨_,_,rfl,.inl rfl⟩) xF (by kernel_rfl) ?_
  refine zo rfl rfl (ze rfl yY (zb rfl)) yO ?_
  refine zo rfl rfl (zk rfl fo56x1 yX rfl) yS ?_
  refine zo rfl rfl (zy rfl ty53.choose_spec.1 yP rfl (zF (cs':=[.int .u8 x1.dot.actor.rep,.int .u32 x1.dot.actor.inc,.int .u64 x1.dot.seq]) ty53.choose_spec.2 rfl rfl) (zb rfl)) yW ?_
  refine qc rfl rfl (e_lookupF (m:=s1) (k:=x1.dot) (d:=(0:Int)) (j:=0) (kv:=(fun x=>AV.agg (GDot.row x))) (vv:=(AV.int .i64)) rfl Try.underlying117 kq53 az3 yE yU) xa ?_
  refine zo rfl rfl (zr rfl yR rfl rfl) xd ?_
  refine x7 rfl (FOk.all ⟨_,_,rfl,.inr rfl⟩) (by kernel_rfl) rfl (e_entry (m:=s1) (k:=x1.dot) (d:=(0:Int)) (j:=0) (kv:=(fun x=>AV.agg (GDot.row x))) (vv:=(AV.int .i64)) rfl Try.underlying117 kq53 az3 yE rfl yU rfl) xq ?_
  refine zo rfl rfl (vb rfl yD rfl (zb rfl)) xr ?_
  refine x7 rfl (FOk.skip (by kernel_rfl)) (by kernel_rfl) rfl (e_entryStore (m:=s1) (k:=x1.dot) (d:=(0:Int)) (v:=(IntKind.wrap .i64 ((wQ GDot.eqb (0:Int) s1 x1.dot)+(1:Int)))) (j:=0) (eq:=GDot.eqb) (kv:=(fun x=>AV.agg (GDot.row x))) (vv:=(AV.int .i64)) rfl yE rfl xz rfl xb rfl rfl) rfl ?_
  refine yc ?_
  refine zY (zj (zd ?_))
  refine zc rfl (zr rfl x4 rfl rfl) xV ?_
  refine zc rfl (ze rfl xi (zb rfl)) wE ?_
  refine zf (yi ?_)
  obtain rfl:=Option.some.inj hF
  exact ⟨(mput GDot.eqb s1 x1.dot (IntKind.wrap .i64 ((wQ GDot.eqb (0:Int) s1 x1.dot)+(1:Int)))),hl1,hK1,wk.trans (wk.le (by exact (.eq (.drop (.drop (.eq (.drop (.drop (.drop (.eq (.eq (.cons (leV.of_eq (qp (by omega) (by omega))) (.d16 leL.nil))))))))))))) (wD (by simp [z9,AV.low]) rfl rfl (by simp [Blk.low,z9,AV.low,GDot.row,mrow]))⟩
 ·refine yy ?_
  refine zT ?_
  refine zP ?_
  refine zQ ?_
  refine zj (zn (zd ?_))
  refine zc rfl (ze rfl yY (zb rfl)) xU ?_
  refine ops_mlen (m:=s1) (j:=0) (kv:=(fun x=>AV.agg (GDot.row x))) (vv:=(AV.int .i64)) rfl rfl rfl rfl rfl Try.underlying117 xY rfl wa ?_
  refine zc rfl (ze rfl yd (zb rfl)) wh ?_
  refine z7 rfl (zX rfl rfl rfl rfl vV xH z8) wu fun hn7=>?_
  replace hn7:=xG hn7
  refine zc rfl (zr rfl wb xg rfl) wB ?_
  refine zc rfl (zi rfl ww (zb rfl)) xj ?_
  refine zf (zj (zO ?_))
  obtain rfl:=Option.some.inj hF
  refine zA rfl (zE yQ zB) (zD (leV.refl _) rfl ?_)
  exact ⟨rfl,rfl⟩
theorem ok54 {l0:(List GItem)} {timed1:Bool} {res:Bool} {h:AH}  (hF:leafXitems l0 timed1=some res):Spec Try.prog 54 [.sl 5 (l0.map GItem.row),.bool timed1] h (fun rr hh=>rr=.bool res∧hh=h):=by
 unfold leafXitems at hF
 refine zw Try.func54 rfl (by kernel_rfl) (env:=[.sl 5 (l0.map GItem.row),.bool timed1,za,za,za,za,za,za,za,za,za,za,za,za,za,za,za,za,za,za,za,za,za,za,za,za,za,za,za,za,za,za,za,za,za,za,za,za,za,za,za,za,za,za,za,za,za,za,za,za,za,za,za,za,za,za,za,za,za,za,za,za,za,za,za,za]) (by rfl) ?_
 refine zn (zd ?_)
 refine zc rfl (zi rfl rfl (zb rfl)) yK ?_
 refine zf (zj (zn (zn (zd ?_))))
 refine zc rfl (ze rfl yd (zb rfl)) x9 ?_
 refine z7 rfl (zX rfl rfl rfl rfl vV xE z8) xS fun hn1=>?_
 replace hn1:=xG hn1
 refine zc rfl (ze rfl rfl (zb rfl)) wE ?_
 refine zf (zj (zI ?_))
 refine yw (fun (n1:Nat) (s1:Unit)=>yv [2,3,4,5,6,10,11,12,13,14,15,16,17,18,19,20,21,22,23,24,25,26,27,28,29,30,31,32,33,34,35,36,37,38,39,40,41,42,43,44,45,46,47,48,49,50,51,52,53,54,55,56,57,58,59,60,61,62,63,64,65] [(9,.int .i64 (n1:Int))]) (fun s1=>h.ext [] []) hF (fun _ _=>by simp only [yv,upd,List.set_cons_succ,List.set_cons_zero];try rfl) (wk.le (by exact (.eq (.eq (.d4 (.drop (.eq (.eq (.cons (leV.of_eq rfl) (.d16 (.d16 (.d16 (.d4 (.d4 leL.nil)))))))))))))) ?_
 intro n1 s1 hi1 hF
 refine zn (zd ?_)
 refine zc rfl (zr rfl x4 xu rfl) yC ?_
 refine zf (zj (zn ?_))
 refine y7 yl hF (fun x1 o1 hl1 hx1 hF hK1=>?_) (fun hF=>?_)
 ·refine zH (zj (zn (zI (zn (zd ?_)))))
  refine zc rfl (ze rfl x4 (zb rfl)) yz ?_
  refine zc rfl (yM rfl vV xE x4 qI (xl hx1)) yL ?_
  refine zc rfl (yf rfl ty56.choose_spec.1 yJ (zF (cs':=[.int .u64 x1.time,.int .u8 x1.dot.actor.rep,.int .u32 x1.dot.actor.inc,.int .u64 x1.dot.seq,.str x1.text]) ty56.choose_spec.2 rfl rfl) (zb rfl)) yO ?_
  refine zc rfl (xn (n:=0) rfl ze56 rfl) xT ?_
  refine zc rfl (zi rfl yh (zb rfl)) xI ?_
  refine zc rfl (yk (cs':=[.int .u64 x1.time,.int .u8 x1.dot.actor.rep,.int .u32 x1.dot.actor.inc,.int .u64 x1.dot.seq,.str x1.text]) rfl ty56.choose_spec.1 y5 yE (zb rfl) rfl rfl rfl rfl rfl) rfl ?_
  refine zf (zj (zn (zn (zd ?_))))
  refine zc rfl (zk rfl fo56x1 y5 rfl) yS ?_
  refine zc rfl (zy rfl ty53.choose_spec.1 yP rfl (zF (cs':=[.int .u8 x1.dot.actor.rep,.int .u32 x1.dot.actor.inc,.int .u64 x1.dot.seq]) ty53.choose_spec.2 rfl rfl) (zb rfl)) yW ?_
  refine zK hF (fun v13 hv13 hF=>?_)
  refine zU rfl (zz rfl rfl rfl (zg yU zu) (.cons (zb rfl) .nil)) (ok52 hv13) xa ?_
  refine zc rfl (qm rfl yR rfl) xd ?_
  refine zc rfl (ze rfl xb (zb rfl)) xq ?_
  refine zq rfl (fun hb=>zk rfl fo56x2 y5 rfl) xr ?_
  refine zq rfl (fun hb=>zy rfl ty9 (zp xz hb) rfl (zt rfl) (zb rfl)) xV ?_
  refine wi hF (fun v14 hv14 hF=>?_)
  refine xN rfl (fun hb=>zz rfl rfl rfl (zg (zp xi hb) zu) (.cons (zb rfl) .nil)) (fun hb=>ok53 (hv14 hb)) xU ?_
  refine zq rfl (fun hb=>qm rfl (zp xY hb) rfl) wa ?_
  refine zc rfl (zM rfl yD rfl wb (ya (fun ht=>gF ht))) wh ?_
  refine zc rfl (ze rfl xH (zb rfl)) wu ?_
  refine zq rfl (fun hb=>ze rfl yo (zb rfl)) wB ?_
  refine zq rfl (fun hb=>zk rfl fo56x0 y5 rfl) va ?_
  refine zq rfl (fun hb=>zy rfl wR (zp vg hb) rfl (zt rfl) (zb rfl)) wV ?_
  refine wi hF (fun v15 hv15 hF=>?_)
  refine xN rfl (fun hb=>zz rfl rfl rfl (zg (zp wX hb) zu) (.cons (zb rfl) .nil)) (fun hb=>ok51 (hv15 hb)) vm ?_
  refine zq rfl (fun hb=>zr rfl (zp ww hb) (zp vo hb) (bin_boolN ty4)) vu ?_
  refine zc rfl (zM rfl xg rfl vy (ya (fun ht=>gF ht))) vt ?_
  refine zc rfl (ze rfl vn (zb rfl)) vr ?_
  refine zq rfl (fun hb=>ze rfl yo (zb rfl)) wU ?_
  refine zq rfl (fun hb=>qm rfl (zp wM hb) rfl) w9 ?_
  refine zq rfl (fun hb=>ze rfl (zp wW hb) (zb rfl)) wT ?_
  refine zq (zW rfl rfl rfl) (fun hb=>zk rfl fo56x0 y5 rfl) wS ?_
  refine zq (zW rfl rfl rfl) (fun hb=>zy rfl wR (zp wP hb) rfl (zt rfl) (zb rfl)) w8 ?_
  refine zq (zW rfl rfl rfl) (fun hb=>zr rfl (zp vf hb) rfl rfl) wZ ?_
  refine zq rfl (fun hb=>zM rfl (zp wL hb) ve rfl (zS (fun ht=>gT2 hb ht))) vD ?_
  refine zc rfl (zM rfl vU rfl vJ (ya (fun ht=>gF ht))) vC ?_
  refine zf (zj ?_)
  refine zG vI hF (fun hc16 hF=>?_) (fun hc16 hF=>?_)
  ·refine zn (zd ?_)
   refine zc rfl (zi rfl rfl (zb rfl)) yK ?_
   refine zf (zj (zO (zC ?_)))
   refine zJ ?_
   refine zC ?_
   refine yp ?_
   obtain rfl:=Option.some.inj hF
   replace hF:=hK1
   refine zJ ?_
   refine zC ?_
   obtain rfl:=Option.some.inj hF
   refine zA rfl (zE yG zB) (zD (leV.refl _) rfl ?_)
   exact ⟨rfl,rfl⟩
  ·refine zH (zj (zn ?_))
   refine yr [] [] trivial xF (by kernel_rfl) ?_
   refine zo rfl rfl (ze rfl yX (zb rfl)) (sk st0) ?_
   refine zo rfl rfl (zr rfl (gk yd) rfl rfl) (sk st1) ?_
   refine zo rfl rfl (ze rfl (gk yo) (zb rfl)) (sk xj) ?_
   refine zx rfl rfl (fun hb=>ze rfl yd (zb rfl)) (sk wA) ?_
   refine zx rfl rfl (fun hb=>ze rfl yX (zb rfl)) (sk yK) ?_
   refine zx rfl rfl (fun hb=>zr rfl (zp (gk yG) hb) rfl rfl) (sk xI) ?_
   refine wc hF (fun hg17 hF=>?_)
   refine zx rfl rfl (fun hb=>xM default rfl vV (zp (gk yY) hb) (zp (gk yX) hb) qI (hg17 hb)) (sk xT) ?_
   refine zx rfl rfl (fun hb=>zk rfl fo56x0 (zp (gk y5) hb) rfl) (sk x9) ?_
   refine zx rfl rfl (fun hb=>yf rfl wR (zp (gk xE) hb) (zt rfl) (zb rfl)) (sk xS) ?_
   refine zx rfl rfl (fun hb=>ze rfl yd (zb rfl)) (sk wE) ?_
   refine zx rfl rfl (fun hb=>ze rfl yX (zb rfl)) (sk yC) ?_
   refine zx rfl rfl (fun hb=>zr rfl (zp (gk yl) hb) rfl rfl) (sk yz) ?_
   refine wc hF (fun hg18 hF=>?_)
   refine zx rfl rfl (fun hb=>xM default rfl vV (zp (gk x4) hb) (zp (gk yh) hb) qI (hg18 hb)) (sk yL) ?_
   refine zx rfl rfl (fun hb=>zk rfl fo56x1 (zp (gk yJ) hb) rfl) (sk yO) ?_
   refine zx rfl rfl (fun hb=>yf rfl ty53.choose_spec.1 (zp (gk yE) hb) (zF (cs':=[.int .u8 (((l0).getD (IntKind.wrap .i64 ((n1:Int) - (1:Int))).toNat default).dot.actor.rep),.int .u32 (((l0).getD (IntKind.wrap .i64 ((n1:Int) - (1:Int))).toNat default).dot.actor.inc),.int .u64 (((l0).getD (IntKind.wrap .i64 ((n1:Int) - (1:Int))).toNat default).dot.seq)]) ty53.choose_spec.2 rfl rfl) (zb rfl)) (sk yS) ?_
   refine zx rfl rfl (fun hb=>zk rfl fo56x0 y5 rfl) (sk yW) ?_
   refine zx rfl rfl (fun hb=>zy rfl wR (zp (gk yU) hb) rfl (zt rfl) (zb rfl)) (sk xa) ?_
   refine zx rfl rfl (fun hb=>zk rfl fo56x1 y5 rfl) (sk xd) ?_
   refine zx rfl rfl (fun hb=>zy rfl ty53.choose_spec.1 (zp (gk xb) hb) rfl (zF (cs':=[.int .u8 x1.dot.actor.rep,.int .u32 x1.dot.actor.inc,.int .u64 x1.dot.seq]) ty53.choose_spec.2 rfl rfl) (zb rfl)) (sk xq) ?_
   refine wi hF (fun v19 hv19 hF=>?_)
   refine vz rfl rfl (fun hb=>zz rfl rfl rfl (zg (zp (gk xu) hb) (zg (zp (gk yP) hb) (zg (zp (gk yR) hb) (zg (zp (gk yD) hb) zu)))) (.cons (zb rfl) (.cons (zb rfl) (.cons (zb rfl) (.cons (zb rfl) .nil))))) (fun hb=>ok64 (hv19 hb)) (sk xr) ?_
   refine zx rfl rfl (fun hb=>qm rfl (zp (gk xz) hb) rfl) (sk xV) ?_
   refine zo rfl rfl (zM rfl (gk yQ) (gk xi) rfl (zS (fun ht=>gT ht))) (sk xU) ?_
   refine yc ?_
   refine zj ?_
   refine zG (gk xY) hF (fun hc20 hF=>?_) (fun hc20 hF=>?_)
   ·refine zn (zd ?_)
    refine zc rfl (zi rfl rfl (zb rfl)) yK ?_
    refine zf (zj (zO ?_))
    refine zJ ?_
    refine zC ?_
    refine yp ?_
    obtain rfl:=Option.some.inj hF
    replace hF:=hK1
    refine zJ ?_
    refine zC ?_
    obtain rfl:=Option.some.inj hF
    refine zA rfl (zE yG zB) (zD (leV.refl _) rfl ?_)
    exact ⟨rfl,rfl⟩
   ·refine zH (zY (zj (zd ?_)))
    refine zc rfl (zr rfl x4 rfl rfl) (sk wa) ?_
    refine zc rfl (ze rfl (gk wb) (zb rfl)) wE ?_
    refine zf (yi ?_)
    obtain rfl:=Option.some.inj hF
    exact ⟨(),hl1,hK1,wk.trans (wk.le (by exact (.eq (.eq (.d4 (.drop (.eq (.eq (.cons (leV.of_eq (qp (by omega) (by omega))) (.d16 (.d16 (.d16 (.d4 (.d4 leL.nil)))))))))))))) (wD (by simp [z9,AV.low]) rfl rfl (by simp [Blk.low,z9,AV.low]))⟩
 ·refine yy ?_
  refine zT ?_
  refine zP ?_
  refine zQ ?_
  refine zj (zn (zd ?_))
  refine zc rfl (ze rfl yd (zb rfl)) (sk wh) ?_
  refine zK hF (fun v21 hv21 hF=>?_)
  refine zU rfl (zz rfl rfl rfl (zg (gk xH) zu) (.cons (zb rfl) .nil)) (ok65 hv21) (sk wu) ?_
  refine zc rfl (qm rfl (gk xg) rfl) (sk wB) ?_
  refine zc rfl (zi rfl (gk ww) (zb rfl)) yK ?_
  refine zf (zj (zO ?_))
  obtain rfl:=Option.some.inj hF
  refine zA rfl (zE yG zB) (zD (leV.refl _) rfl ?_)
  exact ⟨rfl,rfl⟩
theorem ok82 {s0:(List GItem)} {f1:(GItem→Option Bool)} {ff1:FuncId} {af1 kf1:List AV} {res:Int} {h:AH} (hf1:∀ x0 v (L:List Blk) (M:List Nat),f1 x0=some v→Spec Try.prog ff1 (af1++[.agg [.int .u64 x0.time,.int .u8 x0.dot.actor.rep,.int .u32 x0.dot.actor.inc,.int .u64 x0.dot.seq,.str x0.text]]++kf1) (h.ext L M) (fun rr hh=>rr=.bool v∧hh=h.ext L M)) (hF:wY s0 f1=some res):Spec Try.prog 82 [.sl 5 (s0.map GItem.row),.fn (.func ff1) af1 kf1] h (fun rr hh=>rr=.int .i64 res∧hh=h):=by
 unfold wY at hF
 refine xe Try.func82 rfl (by kernel_rfl) (env:=[.sl 5 (s0.map GItem.row),.fn (.func ff1) af1 kf1,za,za,za,za,za,za,za,za,za,za,za,za,za,za,za,za,za]) (by rfl) (fun hlow hC=>?_)
 simp only [z9,AV.low,Bool.and_eq_true,Bool.true_and,and_true] at hlow
 have hlaf1:∀ n m,h.blks.length≤n→h.toks.length≤m→z9 n m af1=true:=fun n m h1 h2=>xy h1 h2 _ (by simp [hlow])
 have hlkf1:∀ n m,h.blks.length≤n→h.toks.length≤m→z9 n m kf1=true:=fun n m h1 h2=>xy h1 h2 _ (by simp [hlow])
 refine zn (zd ?_)
 refine zc rfl (zi rfl rfl (zb rfl)) yK ?_
 refine zf (zj (zn (zn (zd ?_))))
 refine zc rfl (ze rfl yd (zb rfl)) xT ?_
 refine z7 rfl (zX rfl rfl rfl rfl vV y5 z8) x9 fun hn1=>?_
 replace hn1:=xG hn1
 refine zc rfl (ze rfl rfl (zb rfl)) xS ?_
 refine zf (zj (zI ?_))
 refine yw (fun (n1:Nat) (s1:Unit)=>yv [2,3,4,5,6,9,10,11,12,13,14,15,16,17,18] [(8,.int .i64 (n1:Int))]) (fun s1=>h.ext [] []) hF (fun _ _=>by simp only [yv,upd,List.set_cons_succ,List.set_cons_zero];try rfl) (wk.le (by exact (.eq (.eq (.d4 (.drop (.eq (.cons (leV.of_eq rfl) (.d4 (.d4 (.drop (.drop leL.nil)))))))))))) ?_
 intro n1 s1 hi1 hF
 refine zn (zd ?_)
 refine zc rfl (zr rfl xu xE rfl) wE ?_
 refine zf (zj (zn ?_))
 refine y7 x4 hF (fun x1 o1 hl1 hx1 hF hK1=>?_) (fun hF=>?_)
 ·refine zH (zj (zn (zI (zn (zd ?_)))))
  refine zc rfl (ze rfl xu (zb rfl)) yC ?_
  refine zc rfl (zi rfl yl (zb rfl)) xI ?_
  refine zf (zj (zn (zd ?_)))
  refine zc rfl (ze rfl yo (zb rfl)) yz ?_
  refine zc rfl (ze rfl yd (zb rfl)) yL ?_
  refine zc rfl (ze rfl yX (zb rfl)) yO ?_
  refine zc rfl (yM rfl vV yJ yE qI (xl hx1)) yS ?_
  refine zc rfl (yf rfl ty56.choose_spec.1 yP (zF (cs':=[.int .u64 x1.time,.int .u8 x1.dot.actor.rep,.int .u32 x1.dot.actor.inc,.int .u64 x1.dot.seq,.str x1.text]) ty56.choose_spec.2 rfl rfl) (zb rfl)) yW ?_
  refine zK hF (fun v7 hv7 hF=>?_)
  refine zU rfl (s_callC rfl rfl yh (zg yU zu) (.cons (zb rfl) .nil) rfl) (hf1 _ _ _ _ hv7) xa ?_
  refine zf (zj ?_)
  refine zG yR hF (fun hc8 hF=>?_) (fun hc8 hF=>?_)
  ·refine zn (zd ?_)
   refine zc rfl (ze rfl yX (zb rfl)) xd ?_
   refine zc rfl (zi rfl xb (zb rfl)) yK ?_
   refine zf (zj (zO ?_))
   refine zJ ?_
   refine zC ?_
   refine yp ?_
   obtain rfl:=Option.some.inj hF
   replace hF:=hK1
   refine zJ ?_
   refine zC ?_
   obtain rfl:=Option.some.inj hF
   refine zA rfl (zE yG zB) (zD (leV.refl _) rfl ?_)
   exact ⟨rfl,rfl⟩
  ·refine zH (zY (zj (zd ?_)))
   refine zc rfl (zr rfl xu rfl rfl) xq ?_
   refine zc rfl (ze rfl yD (zb rfl)) xS ?_
   refine zf (yi ?_)
   obtain rfl:=Option.some.inj hF
   exact ⟨(),hl1,hK1,wk.le (by exact (.eq (.eq (.d4 (.drop (.eq (.cons (leV.of_eq (qp (by omega) (by omega))) (.d4 (.d4 (.drop (.drop leL.nil)))))))))))⟩
 ·refine yy ?_
  refine zT ?_
  refine zP ?_
  refine zQ ?_
  refine zj (zn (zd ?_))
  refine zc rfl (zi rfl rfl (zb rfl)) yK ?_
  refine zf (zj (zO ?_))
  obtain rfl:=Option.some.inj hF
  refine zA rfl (zE yG zB) (zD (leV.refl _) rfl ?_)
  exact ⟨rfl,rfl⟩
theorem ok77 {s0:(List GItem)} {f1:(GItem→Option Bool)} {ff1:FuncId} {af1 kf1:List AV} {res:Bool} {h:AH} (hf1:∀ x0 v (L:List Blk) (M:List Nat),f1 x0=some v→Spec Try.prog ff1 (af1++[.agg [.int .u64 x0.time,.int .u8 x0.dot.actor.rep,.int .u32 x0.dot.actor.inc,.int .u64 x0.dot.seq,.str x0.text]]++kf1) (h.ext L M) (fun rr hh=>rr=.bool v∧hh=h.ext L M)) (hF:xK s0 f1=some res):Spec Try.prog 77 [.sl 5 (s0.map GItem.row),.fn (.func ff1) af1 kf1] h (fun rr hh=>rr=.bool res∧hh=h):=by
 unfold xK at hF
 refine xe Try.func77 rfl (by kernel_rfl) (env:=[.sl 5 (s0.map GItem.row),.fn (.func ff1) af1 kf1,za,za,za,za,za,za,za]) (by rfl) (fun hlow hC=>?_)
 simp only [z9,AV.low,Bool.and_eq_true,Bool.true_and,and_true] at hlow
 have hlaf1:∀ n m,h.blks.length≤n→h.toks.length≤m→z9 n m af1=true:=fun n m h1 h2=>xy h1 h2 _ (by simp [hlow])
 have hlkf1:∀ n m,h.blks.length≤n→h.toks.length≤m→z9 n m kf1=true:=fun n m h1 h2=>xy h1 h2 _ (by simp [hlow])
 refine zn (zd ?_)
 refine zc rfl (zi rfl rfl (zb rfl)) yK ?_
 refine zf (zj (zn (zd ?_)))
 refine zc rfl (ze rfl yd (zb rfl)) xI ?_
 refine zc rfl (ze rfl yo (zb rfl)) xT ?_
 refine zK hF (fun v1 hv1 hF=>?_)
 refine zU rfl (zz rfl rfl rfl (zg yX (zg y5 zu)) (.cons (zb rfl) (.cons (zb rfl) .nil))) (ok82 (fun x0 v L M hv=>by rw [yj];exact hf1 x0 v _ _ hv) hv1) x9 ?_
 refine zc rfl (zr rfl xE rfl rfl) xS ?_
 refine zc rfl (zi rfl xu (zb rfl)) yK ?_
 refine zf (zj (zO ?_))
 obtain rfl:=Option.some.inj hF
 refine zA rfl (zE yG zB) (zD (leV.refl _) rfl ?_)
 exact ⟨rfl,rfl⟩
theorem ok78 {x0:GItem} {c0:GDot} {i0:Nat} {res:Bool} {h:AH} (hb0:h.blk i0=some (.cells [.int .u8 c0.actor.rep,.int .u32 c0.actor.inc,.int .u64 c0.seq])) (hF:leafXhasC1 x0 c0=some res):Spec Try.prog 78 [.agg [.int .u64 x0.time,.int .u8 x0.dot.actor.rep,.int .u32 x0.dot.actor.inc,.int .u64 x0.dot.seq,.str x0.text],.ptr i0 0] h (fun rr hh=>rr=.bool res∧hh=h):=by
 unfold leafXhasC1 at hF
 refine zw Try.func78 rfl (by kernel_rfl) (env:=[.agg [.int .u64 x0.time,.int .u8 x0.dot.actor.rep,.int .u32 x0.dot.actor.inc,.int .u64 x0.dot.seq,.str x0.text],.ptr i0 0,za,za,za,za,za,za]) (by rfl) ?_
 refine zn (zd ?_)
 refine zc rfl (xP (n:=0) rfl yd (zb rfl) rfl rfl) xj ?_
 refine zc rfl (zi rfl rfl (zb rfl)) wA ?_
 refine zf (zj (zn (zd ?_)))
 refine zc rfl (zk rfl fo56x1 yQ rfl) yK ?_
 refine zc rfl (zy rfl ty53.choose_spec.1 yG rfl (zF (cs':=[.int .u8 x0.dot.actor.rep,.int .u32 x0.dot.actor.inc,.int .u64 x0.dot.seq]) ty53.choose_spec.2 rfl rfl) (zb rfl)) xI ?_
 refine zc rfl (b_load rfl ty53.choose_spec.1 yo hb0 (zF (cs':=[.int .u8 c0.actor.rep,.int .u32 c0.actor.inc,.int .u64 c0.seq]) ty53.choose_spec.2 rfl rfl) (zb rfl)) xT ?_
 refine zc rfl (zr rfl yX y5 (bin_eq pk53 rfl)) x9 ?_
 refine zc rfl (zi rfl xE (zb rfl)) wA ?_
 refine zf (zj (zO ?_))
 obtain rfl:=Option.some.inj hF
 refine zA rfl (zE yY zB) (zD (leV.refl _) rfl ?_)
 exact ⟨rfl,rfl⟩
theorem ok67 {l0:(List GItem)} {d1:GDot} {res:Bool} {h:AH}  (hF:leafXhas l0 d1=some res):Spec Try.prog 67 [.sl 5 (l0.map GItem.row),.agg [.int .u8 d1.actor.rep,.int .u32 d1.actor.inc,.int .u64 d1.seq]] h (fun rr hh=>rr=.bool res∧hh=h):=by
 unfold leafXhas at hF
 refine zw Try.func67 rfl (by kernel_rfl) (env:=[.sl 5 (l0.map GItem.row),.agg [.int .u8 d1.actor.rep,.int .u32 d1.actor.inc,.int .u64 d1.seq],za,za,za,za,za,za]) (by rfl) ?_
 refine zn (zd ?_)
 refine zc rfl (xP (n:=0) rfl yo (zb rfl) rfl rfl) wA ?_
 refine zc rfl (zi rfl rfl (zb rfl)) yK ?_
 refine zf (zj (zn (zd ?_)))
 refine zc rfl (ze rfl yd (zb rfl)) xI ?_
 refine zc rfl (s_makeFunc rfl rfl rfl) xT ?_
 refine zK hF (fun v1 hv1 hF=>?_)
 refine zU rfl (zz rfl rfl rfl (zg yX (zg y5 zu)) (.cons (zb rfl) (.cons (zb rfl) .nil))) (ok77 (fun _ v L M hv=>ok78 (blk_ext2 (j:=0) rfl) hv) hv1) x9 ?_
 refine zc rfl (zi rfl xE (zb rfl)) yK ?_
 refine zf (zj (zO ?_))
 obtain rfl:=Option.some.inj hF
 refine zA rfl (zE yG zB) (zD (leV.refl _) rfl ?_)
 exact ⟨rfl,rfl⟩
theorem ok55 {l0:GLeaf} {res:Bool} {h:AH}  (hF:leafXtombs l0=some res):Spec Try.prog 55 [.agg [.int .u8 l0.typ,.int .i64 l0.n,.int .u64 l0.time,.int .u8 l0.dot.actor.rep,.int .u32 l0.dot.actor.inc,.int .u64 l0.dot.seq,.str l0.text,.sl 5 (l0.items.map GItem.row),.sl 3 (l0.tombs.map GDot.row)]] h (fun rr hh=>rr=.bool res∧hh=h):=by
 unfold leafXtombs at hF
 refine zw Try.func55 rfl (by kernel_rfl) (env:=[.agg [.int .u8 l0.typ,.int .i64 l0.n,.int .u64 l0.time,.int .u8 l0.dot.actor.rep,.int .u32 l0.dot.actor.inc,.int .u64 l0.dot.seq,.str l0.text,.sl 5 (l0.items.map GItem.row),.sl 3 (l0.tombs.map GDot.row)],za,za,za,za,za,za,za,za,za,za,za,za,za,za,za,za,za,za,za,za,za,za,za,za,za,za,za,za,za,za,za,za,za,za,za,za,za]) (by rfl) ?_
 refine zn (zd ?_)
 refine zc rfl (xP (n:=0) rfl yd (zb rfl) rfl rfl) st1 ?_
 refine zc rfl (zi rfl rfl (zb rfl)) xj ?_
 refine zf (zj (zn (zn (zd ?_))))
 refine zc rfl (zk rfl vh yo rfl) xI ?_
 refine zc rfl (zy rfl ty26 yX rfl (zt rfl) (zb rfl)) xT ?_
 refine z7 rfl (zX rfl rfl rfl rfl qK y5 z8) x9 fun hn1=>?_
 replace hn1:=xG hn1
 refine zc rfl (ze rfl rfl (zb rfl)) xS ?_
 refine zf (zj (zI ?_))
 refine yw (fun (n1:Nat) (s1:Unit)=>yv [0,2,3,4,5,9,10,11,12,13,14,15,16,17,18,19,20,21,22,23,24,25,26,27,28,29,30,31,32,33,34,35,36,37] [(8,.int .i64 (n1:Int))]) (fun s1=>h.ext [.cells [.int .u8 l0.typ,.int .i64 l0.n,.int .u64 l0.time,.int .u8 l0.dot.actor.rep,.int .u32 l0.dot.actor.inc,.int .u64 l0.dot.seq,.str l0.text,.sl 5 (l0.items.map GItem.row),.sl 3 (l0.tombs.map GDot.row)]] []) hF (fun _ _=>by simp only [yv,upd,List.set_cons_succ,List.set_cons_zero];try rfl) (wk.le (by exact (.drop (.eq (.d4 (.eq (.eq (.cons (leV.of_eq rfl) (.d16 (.d4 (.d4 (.d4 (.drop leL.nil))))))))))))) ?_
 intro n1 s1 hi1 hF
 refine zn (zd ?_)
 refine zc rfl (zr rfl xu xE rfl) wE ?_
 refine zf (zj (zn ?_))
 refine y7 x4 hF (fun x1 o1 hl1 hx1 hF hK1=>?_) (fun hF=>?_)
 ·refine zH (zj (zn (zI (zn (zd ?_)))))
  refine zc rfl (ze rfl xu (zb rfl)) yC ?_
  refine zc rfl (yM rfl qK y5 xu qI (xl hx1)) yz ?_
  refine zc rfl (yf rfl ty53.choose_spec.1 yh (zF (cs':=[.int .u8 x1.actor.rep,.int .u32 x1.actor.inc,.int .u64 x1.seq]) ty53.choose_spec.2 rfl rfl) (zb rfl)) yL ?_
  refine zc rfl (xn (n:=1) rfl ze53 rfl) yK ?_
  refine zc rfl (zi rfl yl (zb rfl)) wA ?_
  refine zc rfl (yk (cs':=[.int .u8 x1.actor.rep,.int .u32 x1.actor.inc,.int .u64 x1.seq]) rfl ty53.choose_spec.1 yG yJ (zb rfl) rfl rfl rfl rfl rfl) rfl ?_
  refine zf (zj (zn ?_))
  refine yr [1] [] trivial xF (by kernel_rfl) ?_
  refine zo rfl rfl (zy rfl ty53.choose_spec.1 yG rfl (zF (cs':=[.int .u8 x1.actor.rep,.int .u32 x1.actor.inc,.int .u64 x1.seq]) ty53.choose_spec.2 rfl rfl) (zb rfl)) yO ?_
  refine zK hF (fun v19 hv19 hF=>?_)
  refine xc rfl rfl (fun _=>zz rfl rfl rfl (zg yE zu) (.cons (zb rfl) .nil)) (by rintro _ ⟨B2,T2,rfl,hk2⟩;exact ok52 hv19) yS ?_
  refine zo rfl rfl (qm rfl yP rfl) yW ?_
  refine zo rfl rfl (ze rfl yU (zb rfl)) xa ?_
  refine zx rfl rfl (fun hb=>ze rfl yY (zb rfl)) xd ?_
  refine zx rfl rfl (fun hb=>zr rfl (zp xb hb) rfl rfl) xq ?_
  refine zx rfl rfl (fun hb=>ze rfl (zp yD hb) (zb rfl)) xr ?_
  refine zx rfl (zW rfl rfl rfl) (fun hb=>zk rfl vh yo rfl) xV ?_
  refine zx rfl (zW rfl rfl rfl) (fun hb=>zy rfl ty26 (zp xi hb) rfl (zt rfl) (zb rfl)) xU ?_
  refine zx rfl (zW rfl rfl rfl) (fun hb=>ze rfl yY (zb rfl)) wa ?_
  refine zx rfl (zW rfl rfl rfl) (fun hb=>zr rfl (zp wb hb) rfl rfl) wh ?_
  refine wc hF (fun hg20 hF=>?_)
  refine zx rfl (zW rfl rfl rfl) (fun hb=>xM default rfl qK (zp xY hb) (zp xH hb) qI (hg20 hb)) wu ?_
  refine zx rfl (zW rfl rfl rfl) (fun hb=>yf rfl ty53.choose_spec.1 (zp xg hb) (zF (cs':=[.int .u8 (((l0.tombs).getD (IntKind.wrap .i64 ((n1:Int) - (1:Int))).toNat default).actor.rep),.int .u32 (((l0.tombs).getD (IntKind.wrap .i64 ((n1:Int) - (1:Int))).toNat default).actor.inc),.int .u64 (((l0.tombs).getD (IntKind.wrap .i64 ((n1:Int) - (1:Int))).toNat default).seq)]) ty53.choose_spec.2 rfl rfl) (zb rfl)) wB ?_
  refine zx rfl (zW rfl rfl rfl) (fun hb=>zy rfl ty53.choose_spec.1 yG rfl (zF (cs':=[.int .u8 x1.actor.rep,.int .u32 x1.actor.inc,.int .u64 x1.seq]) ty53.choose_spec.2 rfl rfl) (zb rfl)) va ?_
  refine wi hF (fun v21 hv21 hF=>?_)
  refine vz rfl (zW rfl rfl rfl) (fun hb=>zz rfl rfl rfl (zg (zp ww hb) (zg (zp vg hb) zu)) (.cons (zb rfl) (.cons (zb rfl) .nil))) (fun hb=>ok66 (hv21 hb)) wV ?_
  refine zx rfl (zW rfl rfl rfl) (fun hb=>zr rfl (zp wX hb) rfl rfl) vm ?_
  refine zx rfl rfl (fun hb=>zM rfl (zp xz hb) vo rfl (zS (fun ht=>gT2 hb ht))) vu ?_
  refine zo rfl rfl (zM rfl yR rfl vy (ya (fun ht=>gF ht))) vt ?_
  refine zo rfl rfl (ze rfl vn (zb rfl)) vr ?_
  refine zx rfl rfl (fun hb=>zk rfl wq yo rfl) wU ?_
  refine zx rfl rfl (fun hb=>zy rfl ty57 (zp wM hb) rfl (zt rfl) (zb rfl)) w9 ?_
  refine zx rfl rfl (fun hb=>zy rfl ty53.choose_spec.1 yG rfl (zF (cs':=[.int .u8 x1.actor.rep,.int .u32 x1.actor.inc,.int .u64 x1.seq]) ty53.choose_spec.2 rfl rfl) (zb rfl)) wT ?_
  refine wi hF (fun v22 hv22 hF=>?_)
  refine vz rfl rfl (fun hb=>zz rfl rfl rfl (zg (zp wW hb) (zg (zp wL hb) zu)) (.cons (zb rfl) (.cons (zb rfl) .nil))) (fun hb=>ok67 (hv22 hb)) wS ?_
  refine zo rfl rfl (zM rfl vU rfl wP (ya (fun ht=>gF ht))) w8 ?_
  refine yc ?_
  refine zj ?_
  refine zG vf hF (fun hc23 hF=>?_) (fun hc23 hF=>?_)
  ·refine zn (zd ?_)
   refine zc rfl (zi rfl rfl (zb rfl)) xj ?_
   refine zf (zj (zO ?_))
   refine zJ ?_
   refine zC ?_
   refine yp ?_
   obtain rfl:=Option.some.inj hF
   replace hF:=hK1
   refine zJ ?_
   refine zC ?_
   obtain rfl:=Option.some.inj hF
   refine zA rfl (zE yQ zB) (zD (leV.refl _) rfl ?_)
   exact ⟨rfl,rfl⟩
  ·refine zH (zY (zj (zd ?_)))
   refine zc rfl (zr rfl xu rfl rfl) wZ ?_
   refine zc rfl (ze rfl ve (zb rfl)) xS ?_
   refine zf (yi ?_)
   obtain rfl:=Option.some.inj hF
   exact ⟨(),hl1,hK1,wk.trans (wk.le (by exact (.drop (.eq (.d4 (.eq (.eq (.cons (leV.of_eq (qp (by omega) (by omega))) (.d16 (.d4 (.d4 (.d4 (.drop leL.nil))))))))))))) (wD (by simp [z9,AV.low]) rfl rfl (by simp [Blk.low,z9,AV.low]))⟩
 ·refine yy ?_
  refine zT ?_
  refine zP ?_
  refine zQ ?_
  refine zj (zn (zd ?_))
  refine zc rfl (zi rfl rfl (zb rfl)) xj ?_
  refine zf (zj (zO ?_))
  obtain rfl:=Option.some.inj hF
  refine zA rfl (zE yQ zB) (zD (leV.refl _) rfl ?_)
  exact ⟨rfl,rfl⟩
theorem ok68 {s10:(List GItem)} {s21:(List GItem)} {res:Bool} {h:AH}  (hF:vE s10 s21=some res):Spec Try.prog 68 [.sl 5 (s10.map GItem.row),.sl 5 (s21.map GItem.row)] h (fun rr hh=>rr=.bool res∧hh=h):=by
 unfold vE at hF
 refine zw Try.func68 rfl (by kernel_rfl) (env:=[.sl 5 (s10.map GItem.row),.sl 5 (s21.map GItem.row),za,za,za,za,za,za,za,za,za,za,za,za,za,za,za,za,za,za,za,za,za,za,za,za]) (by rfl) ?_
 refine zn (zd ?_)
 refine zc rfl (zi rfl rfl (zb rfl)) yK ?_
 refine zf (zj (zn (zn (zd ?_))))
 refine zc rfl (ze rfl yd (zb rfl)) xT ?_
 refine z7 rfl (zX rfl rfl rfl rfl vV y5 z8) x9 fun hn1=>?_
 replace hn1:=xG hn1
 refine zc rfl (ze rfl yo (zb rfl)) xS ?_
 refine z7 rfl (zX rfl rfl rfl rfl vV xu z8) wE fun hn2=>?_
 replace hn2:=xG hn2
 refine zc rfl (zr rfl xE x4 rfl) yC ?_
 refine zf (zj ?_)
 refine zG yl hF (fun hc3 hF=>?_) (fun hc3 hF=>?_)
 ·refine zn (zd ?_)
  refine zc rfl (zi rfl rfl (zb rfl)) yK ?_
  refine zf (zj (zO (zC ?_)))
  obtain rfl:=Option.some.inj hF
  refine zA rfl (zE yG zB) (zD (leV.refl _) rfl ?_)
  exact ⟨rfl,rfl⟩
 ·refine zH (zj (zn (zn (zd ?_))))
  refine zc rfl (ze rfl yd (zb rfl)) yz ?_
  refine z7 rfl (zX rfl rfl rfl rfl vV yh z8) yL fun hn4=>?_
  replace hn4:=xG hn4
  refine zc rfl (ze rfl rfl (zb rfl)) yO ?_
  refine zf (zj (zI ?_))
  refine yw (fun (n1:Nat) (s1:Unit)=>yv [2,3,4,5,6,7,8,9,10,11,14,15,16,17,18,19,20,21,22,23,24,25] [(13,.int .i64 (n1:Int))]) (fun s1=>h.ext [] []) hF (fun _ _=>by simp only [yv,upd,List.set_cons_succ,List.set_cons_zero];try rfl) (wk.le (by exact (.eq (.eq (.d4 (.d4 (.drop (.drop (.eq (.cons (leV.of_eq rfl) (.d4 (.d4 (.d4 leL.nil))))))))))))) ?_
  intro n1 s1 hi1 hF
  refine zn (zd ?_)
  refine zc rfl (zr rfl yE yJ rfl) yS ?_
  refine zf (zj (zn ?_))
  refine y7 yP hF (fun x1 o1 hl1 hx1 hF hK1=>?_) (fun hF=>?_)
  ·refine zH (zj (zn (zI (zn (zd ?_)))))
   refine zc rfl (ze rfl yE (zb rfl)) yW ?_
   refine zc rfl (zi rfl yU (zb rfl)) xI ?_
   refine zf (zj (zn ?_))
   refine yr [] [] trivial xF (by kernel_rfl) ?_
   refine zo rfl rfl (ze rfl yd (zb rfl)) xa ?_
   refine zo rfl rfl (ze rfl yX (zb rfl)) xd ?_
   refine zo rfl rfl (yM rfl vV yR xb qI (xl hx1)) xq ?_
   refine zo rfl rfl (yf rfl ty56.choose_spec.1 yD (zF (cs':=[.int .u64 x1.time,.int .u8 x1.dot.actor.rep,.int .u32 x1.dot.actor.inc,.int .u64 x1.dot.seq,.str x1.text]) ty56.choose_spec.2 rfl rfl) (zb rfl)) xr ?_
   refine zo rfl rfl (ze rfl yo (zb rfl)) xV ?_
   refine zo rfl rfl (ze rfl yX (zb rfl)) xU ?_
   refine zK hF (fun y10 hy10 hF=>?_)
   refine zo rfl rfl (yM rfl vV xi xY qI hy10) wa ?_
   refine zo rfl rfl (yf rfl ty56.choose_spec.1 wb (zF (cs':=[.int .u64 y10.time,.int .u8 y10.dot.actor.rep,.int .u32 y10.dot.actor.inc,.int .u64 y10.dot.seq,.str y10.text]) ty56.choose_spec.2 rfl rfl) (zb rfl)) wh ?_
   refine zo rfl rfl (zr rfl xz xH (bin_ne pk56 rfl)) wu ?_
   refine yc ?_
   refine zj ?_
   refine zG xg hF (fun hc11 hF=>?_) (fun hc11 hF=>?_)
   ·refine zn (zd ?_)
    refine zc rfl (zi rfl rfl (zb rfl)) yK ?_
    refine zf (zj (zO ?_))
    refine zJ ?_
    refine zC ?_
    refine yp ?_
    obtain rfl:=Option.some.inj hF
    replace hF:=hK1
    refine zJ ?_
    refine zC ?_
    obtain rfl:=Option.some.inj hF
    refine zA rfl (zE yG zB) (zD (leV.refl _) rfl ?_)
    exact ⟨rfl,rfl⟩
   ·refine zH (zY (zj (zd ?_)))
    refine zc rfl (zr rfl yE rfl rfl) wB ?_
    refine zc rfl (ze rfl ww (zb rfl)) yO ?_
    refine zf (yi ?_)
    obtain rfl:=Option.some.inj hF
    exact ⟨(),hl1,hK1,wk.le (by exact (.eq (.eq (.d4 (.d4 (.drop (.drop (.eq (.cons (leV.of_eq (qp (by omega) (by omega))) (.d4 (.d4 (.d4 leL.nil))))))))))))⟩
  ·refine yy ?_
   refine zT ?_
   refine zP ?_
   refine zQ ?_
   refine zj (zn (zd ?_))
   refine zc rfl (zi rfl rfl (zb rfl)) yK ?_
   refine zf (zj (zO ?_))
   obtain rfl:=Option.some.inj hF
   refine zA rfl (zE yG zB) (zD (leV.refl _) rfl ?_)
   exact ⟨rfl,rfl⟩
theorem ok69 {s10:(List GDot)} {s21:(List GDot)} {res:Bool} {h:AH}  (hF:vW s10 s21=some res):Spec Try.prog 69 [.sl 3 (s10.map GDot.row),.sl 3 (s21.map GDot.row)] h (fun rr hh=>rr=.bool res∧hh=h):=by
 unfold vW at hF
 refine zw Try.func69 rfl (by kernel_rfl) (env:=[.sl 3 (s10.map GDot.row),.sl 3 (s21.map GDot.row),za,za,za,za,za,za,za,za,za,za,za,za,za,za,za,za,za,za,za,za,za,za,za,za]) (by rfl) ?_
 refine zn (zd ?_)
 refine zc rfl (zi rfl rfl (zb rfl)) yK ?_
 refine zf (zj (zn (zn (zd ?_))))
 refine zc rfl (ze rfl yd (zb rfl)) xT ?_
 refine z7 rfl (zX rfl rfl rfl rfl qK y5 z8) x9 fun hn1=>?_
 replace hn1:=xG hn1
 refine zc rfl (ze rfl yo (zb rfl)) xS ?_
 refine z7 rfl (zX rfl rfl rfl rfl qK xu z8) wE fun hn2=>?_
 replace hn2:=xG hn2
 refine zc rfl (zr rfl xE x4 rfl) yC ?_
 refine zf (zj ?_)
 refine zG yl hF (fun hc3 hF=>?_) (fun hc3 hF=>?_)
 ·refine zn (zd ?_)
  refine zc rfl (zi rfl rfl (zb rfl)) yK ?_
  refine zf (zj (zO (zC ?_)))
  obtain rfl:=Option.some.inj hF
  refine zA rfl (zE yG zB) (zD (leV.refl _) rfl ?_)
  exact ⟨rfl,rfl⟩
 ·refine zH (zj (zn (zn (zd ?_))))
  refine zc rfl (ze rfl yd (zb rfl)) yz ?_
  refine z7 rfl (zX rfl rfl rfl rfl qK yh z8) yL fun hn4=>?_
  replace hn4:=xG hn4
  refine zc rfl (ze rfl rfl (zb rfl)) yO ?_
  refine zf (zj (zI ?_))
  refine yw (fun (n1:Nat) (s1:Unit)=>yv [2,3,4,5,6,7,8,9,10,11,14,15,16,17,18,19,20,21,22,23,24,25] [(13,.int .i64 (n1:Int))]) (fun s1=>h.ext [] []) hF (fun _ _=>by simp only [yv,upd,List.set_cons_succ,List.set_cons_zero];try rfl) (wk.le (by exact (.eq (.eq (.d4 (.d4 (.drop (.drop (.eq (.cons (leV.of_eq rfl) (.d4 (.d4 (.d4 leL.nil))))))))))))) ?_
  intro n1 s1 hi1 hF
  refine zn (zd ?_)
  refine zc rfl (zr rfl yE yJ rfl) yS ?_
  refine zf (zj (zn ?_))
  refine y7 yP hF (fun x1 o1 hl1 hx1 hF hK1=>?_) (fun hF=>?_)
  ·refine zH (zj (zn (zI (zn (zd ?_)))))
   refine zc rfl (ze rfl yE (zb rfl)) yW ?_
   refine zc rfl (zi rfl yU (zb rfl)) xI ?_
   refine zf (zj (zn ?_))
   refine yr [] [] trivial xF (by kernel_rfl) ?_
   refine zo rfl rfl (ze rfl yd (zb rfl)) xa ?_
   refine zo rfl rfl (ze rfl yX (zb rfl)) xd ?_
   refine zo rfl rfl (yM rfl qK yR xb qI (xl hx1)) xq ?_
   refine zo rfl rfl (yf rfl ty53.choose_spec.1 yD (zF (cs':=[.int .u8 x1.actor.rep,.int .u32 x1.actor.inc,.int .u64 x1.seq]) ty53.choose_spec.2 rfl rfl) (zb rfl)) xr ?_
   refine zo rfl rfl (ze rfl yo (zb rfl)) xV ?_
   refine zo rfl rfl (ze rfl yX (zb rfl)) xU ?_
   refine zK hF (fun y10 hy10 hF=>?_)
   refine zo rfl rfl (yM rfl qK xi xY qI hy10) wa ?_
   refine zo rfl rfl (yf rfl ty53.choose_spec.1 wb (zF (cs':=[.int .u8 y10.actor.rep,.int .u32 y10.actor.inc,.int .u64 y10.seq]) ty53.choose_spec.2 rfl rfl) (zb rfl)) wh ?_
   refine zo rfl rfl (zr rfl xz xH (bin_ne pk53 rfl)) wu ?_
   refine yc ?_
   refine zj ?_
   refine zG xg hF (fun hc11 hF=>?_) (fun hc11 hF=>?_)
   ·refine zn (zd ?_)
    refine zc rfl (zi rfl rfl (zb rfl)) yK ?_
    refine zf (zj (zO ?_))
    refine zJ ?_
    refine zC ?_
    refine yp ?_
    obtain rfl:=Option.some.inj hF
    replace hF:=hK1
    refine zJ ?_
    refine zC ?_
    obtain rfl:=Option.some.inj hF
    refine zA rfl (zE yG zB) (zD (leV.refl _) rfl ?_)
    exact ⟨rfl,rfl⟩
   ·refine zH (zY (zj (zd ?_)))
    refine zc rfl (zr rfl yE rfl rfl) wB ?_
    refine zc rfl (ze rfl ww (zb rfl)) yO ?_
    refine zf (yi ?_)
    obtain rfl:=Option.some.inj hF
    exact ⟨(),hl1,hK1,wk.le (by exact (.eq (.eq (.d4 (.d4 (.drop (.drop (.eq (.cons (leV.of_eq (qp (by omega) (by omega))) (.d4 (.d4 (.d4 leL.nil))))))))))))⟩
  ·refine yy ?_
   refine zT ?_
   refine zP ?_
   refine zQ ?_
   refine zj (zn (zd ?_))
   refine zc rfl (zi rfl rfl (zb rfl)) yK ?_
   refine zf (zj (zO ?_))
   obtain rfl:=Option.some.inj hF
   refine zA rfl (zE yG zB) (zD (leV.refl _) rfl ?_)
   exact ⟨rfl,rfl⟩
theorem ok56 {a0:GLeaf} {b1:GLeaf} {res:Bool} {h:AH}  (hF:leafSame a0 b1=some res):Spec Try.prog 56 [.agg [.int .u8 a0.typ,.int .i64 a0.n,.int .u64 a0.time,.int .u8 a0.dot.actor.rep,.int .u32 a0.dot.actor.inc,.int .u64 a0.dot.seq,.str a0.text,.sl 5 (a0.items.map GItem.row),.sl 3 (a0.tombs.map GDot.row)],.agg [.int .u8 b1.typ,.int .i64 b1.n,.int .u64 b1.time,.int .u8 b1.dot.actor.rep,.int .u32 b1.dot.actor.inc,.int .u64 b1.dot.seq,.str b1.text,.sl 5 (b1.items.map GItem.row),.sl 3 (b1.tombs.map GDot.row)]] h (fun rr hh=>rr=.bool res∧hh=h):=by
 unfold leafSame at hF
 refine zw Try.func56 rfl (by kernel_rfl) (env:=[.agg [.int .u8 a0.typ,.int .i64 a0.n,.int .u64 a0.time,.int .u8 a0.dot.actor.rep,.int .u32 a0.dot.actor.inc,.int .u64 a0.dot.seq,.str a0.text,.sl 5 (a0.items.map GItem.row),.sl 3 (a0.tombs.map GDot.row)],.agg [.int .u8 b1.typ,.int .i64 b1.n,.int .u64 b1.time,.int .u8 b1.dot.actor.rep,.int .u32 b1.dot.actor.inc,.int .u64 b1.dot.seq,.str b1.text,.sl 5 (b1.items.map GItem.row),.sl 3 (b1.tombs.map GDot.row)],za,za,za,za,za,za,za,za,za,za,za,za,za,za,za,za,za,za,za,za,za,za,za,za,za,za,za,za,za,za,za,za,za,za,za,za,za,za,za,za,za,za,za,za,za,za,za,za,za,za]) (by rfl) ?_
 refine zn (zd ?_)
 refine zc rfl (xP (n:=0) rfl yd (zb rfl) rfl rfl) xj ?_
 refine zc rfl (xP (n:=1) rfl yo (zb rfl) rfl rfl) wA ?_
 refine zc rfl (zi rfl rfl (zb rfl)) yK ?_
 refine zf (zj (zn (zd ?_)))
 refine zc rfl (zk rfl qb yQ rfl) xI ?_
 refine zc rfl (zy rfl ty5 yX rfl (zt rfl) (zb rfl)) xT ?_
 refine zc rfl (zk rfl qb yY rfl) x9 ?_
 refine zc rfl (zy rfl ty5 xE rfl (zt rfl) (zb rfl)) xS ?_
 refine zc rfl (zr rfl y5 xu rfl) wE ?_
 refine zc rfl (ze rfl x4 (zb rfl)) yC ?_
 refine zq rfl (fun hb=>zk rfl fo59x1 yQ rfl) yz ?_
 refine zq rfl (fun hb=>zy rfl ty2 (zp yh hb) rfl (zt rfl) (zb rfl)) yL ?_
 refine zq rfl (fun hb=>zk rfl fo59x1 yY rfl) yO ?_
 refine zq rfl (fun hb=>zy rfl ty2 (zp yE hb) rfl (zt rfl) (zb rfl)) yS ?_
 refine zq rfl (fun hb=>zr rfl (zp yJ hb) (zp yP hb) rfl) yW ?_
 refine zc rfl (zM rfl yl yU rfl (zS (fun ht=>gT ht))) xa ?_
 refine zc rfl (ze rfl yR (zb rfl)) xd ?_
 refine zq rfl (fun hb=>zk rfl fo59x2 yQ rfl) xq ?_
 refine zq rfl (fun hb=>zy rfl wR (zp yD hb) rfl (zt rfl) (zb rfl)) xr ?_
 refine zq rfl (fun hb=>zk rfl fo59x2 yY rfl) xV ?_
 refine zq rfl (fun hb=>zy rfl wR (zp xi hb) rfl (zt rfl) (zb rfl)) xU ?_
 refine zq rfl (fun hb=>zr rfl (zp xz hb) (zp xY hb) rfl) wa ?_
 refine zc rfl (zM rfl xb wb rfl (zS (fun ht=>gT ht))) wh ?_
 refine zc rfl (ze rfl xH (zb rfl)) wu ?_
 refine zq rfl (fun hb=>zk rfl fo59x3 yQ rfl) wB ?_
 refine zq rfl (fun hb=>zy rfl ty53.choose_spec.1 (zp ww hb) rfl (zF (cs':=[.int .u8 a0.dot.actor.rep,.int .u32 a0.dot.actor.inc,.int .u64 a0.dot.seq]) ty53.choose_spec.2 rfl rfl) (zb rfl)) va ?_
 refine zq rfl (fun hb=>zk rfl fo59x3 yY rfl) wV ?_
 refine zq rfl (fun hb=>zy rfl ty53.choose_spec.1 (zp wX hb) rfl (zF (cs':=[.int .u8 b1.dot.actor.rep,.int .u32 b1.dot.actor.inc,.int .u64 b1.dot.seq]) ty53.choose_spec.2 rfl rfl) (zb rfl)) vm ?_
 refine zq rfl (fun hb=>zr rfl (zp vg hb) (zp vo hb) (bin_eq pk53 rfl)) vu ?_
 refine zc rfl (zM rfl xg vy rfl (zS (fun ht=>gT ht))) vt ?_
 refine zc rfl (ze rfl vn (zb rfl)) vr ?_
 refine zq rfl (fun hb=>zk rfl fo59x4 yQ rfl) wU ?_
 refine zq rfl (fun hb=>zy rfl ty9 (zp wM hb) rfl (zt rfl) (zb rfl)) w9 ?_
 refine zq rfl (fun hb=>zk rfl fo59x4 yY rfl) wT ?_
 refine zq rfl (fun hb=>zy rfl ty9 (zp wL hb) rfl (zt rfl) (zb rfl)) wS ?_
 refine zq rfl (fun hb=>zr rfl (zp wW hb) (zp wP hb) rfl) w8 ?_
 refine zc rfl (zM rfl vU vf rfl (zS (fun ht=>gT ht))) wZ ?_
 refine zc rfl (ze rfl ve (zb rfl)) vD ?_
 refine zq rfl (fun hb=>zk rfl wq yQ rfl) vC ?_
 refine zq rfl (fun hb=>zy rfl ty57 (zp vI hb) rfl (zt rfl) (zb rfl)) (sk st0) ?_
 refine zq rfl (fun hb=>zk rfl wq yY rfl) (sk st1) ?_
 refine zq rfl (fun hb=>zy rfl ty57 (zp (gk yo) hb) rfl (zt rfl) (zb rfl)) (sk xj) ?_
 refine wi hF (fun v1 hv1 hF=>?_)
 refine xN rfl (fun hb=>zz rfl rfl rfl (zg (zp (gk yd) hb) (zg (zp (gk yQ) hb) zu)) (.cons (zb rfl) (.cons (zb rfl) .nil))) (fun hb=>ok68 (hv1 hb)) (sk wA) ?_
 refine zc rfl (zM rfl vJ (gk yY) rfl (zS (fun ht=>gT ht))) (sk yK) ?_
 refine zc rfl (ze rfl (gk yG) (zb rfl)) (sk xI) ?_
 refine zq rfl (fun hb=>zk rfl vh yQ rfl) (sk xT) ?_
 refine zq rfl (fun hb=>zy rfl ty26 (zp (gk y5) hb) rfl (zt rfl) (zb rfl)) (sk x9) ?_
 refine zq rfl (fun hb=>zk rfl vh yY rfl) (sk xS) ?_
 refine zq rfl (fun hb=>zy rfl ty26 (zp (gk xu) hb) rfl (zt rfl) (zb rfl)) (sk wE) ?_
 refine wi hF (fun v2 hv2 hF=>?_)
 refine xN rfl (fun hb=>zz rfl rfl rfl (zg (zp (gk xE) hb) (zg (zp (gk x4) hb) zu)) (.cons (zb rfl) (.cons (zb rfl) .nil))) (fun hb=>ok69 (hv2 hb)) (sk yC) ?_
 refine zc rfl (zM rfl (gk yX) (gk yl) rfl (zS (fun ht=>gT ht))) (sk yz) ?_
 refine zc rfl (zi rfl (gk yh) (zb rfl)) yK ?_
 refine zf (zj (zO ?_))
 obtain rfl:=Option.some.inj hF
 refine zA rfl (zE yG zB) (zD (leV.refl _) rfl ?_)
 exact ⟨rfl,rfl⟩
theorem ok38 {l0:GLeaf} {res:Bool} {h:AH}  (hF:leafMay l0=some res):Spec Try.prog 38 [.agg [.int .u8 l0.typ,.int .i64 l0.n,.int .u64 l0.time,.int .u8 l0.dot.actor.rep,.int .u32 l0.dot.actor.inc,.int .u64 l0.dot.seq,.str l0.text,.sl 5 (l0.items.map GItem.row),.sl 3 (l0.tombs.map GDot.row)]] h (fun rr hh=>rr=.bool res∧hh=h):=by
 unfold leafMay at hF
 refine zw Try.func38 rfl (by kernel_rfl) (env:=[.agg [.int .u8 l0.typ,.int .i64 l0.n,.int .u64 l0.time,.int .u8 l0.dot.actor.rep,.int .u32 l0.dot.actor.inc,.int .u64 l0.dot.seq,.str l0.text,.sl 5 (l0.items.map GItem.row),.sl 3 (l0.tombs.map GDot.row)],za,za,za,za,za,za,za,za,za,za,za,za,za,za,za,za,za,za,za,za,za,za,za,za,za,za,za,za,za,za,za,za,za,za,za,za,za,za,za,za,za,za,za,za,za,za,za,za,za,za,za,za,za,za,za,za,za,za,za,za,za,za,za,za,za,za,za,za,za,za,za,za,za,za,za,za,za,za,za,za,za,za,za,za,za,za,za,za]) (by rfl) ?_
 refine zn (zd ?_)
 refine zc rfl (xP (n:=0) rfl yd (zb rfl) rfl rfl) st1 ?_
 refine zc rfl (zi rfl rfl (zb rfl)) xj ?_
 refine zf (zj (zn (zd ?_)))
 refine zc rfl (zk rfl qb yo rfl) yK ?_
 refine zc rfl (zy rfl ty5 yG rfl (zt rfl) (zb rfl)) xI ?_
 refine zc rfl (vw (cs':=[.int .u8 l0.typ,.int .i64 (0:Int),.int .u64 (0:Int),.int .u8 (0:Int),.int .u32 (0:Int),.int .u64 (0:Int),.str ([]:yg),.osl none 5 (([]:List GItem).map GItem.row),.osl none 3 (([]:List GDot).map GDot.row)]) rfl su59 ze59 pl59 (zZ yX yb) (.cons (zb rfl) .nil) rfl rfl) xT ?_
 refine zc rfl (xn (n:=1) rfl ze59 rfl) wA ?_
 refine zc rfl (yk (cs':=[.int .u8 l0.typ,.int .i64 (0:Int),.int .u64 (0:Int),.int .u8 (0:Int),.int .u32 (0:Int),.int .u64 (0:Int),.str ([]:yg),.osl none 5 (([]:List GItem).map GItem.row),.osl none 3 (([]:List GDot).map GDot.row)]) rfl ty59.choose_spec.1 yY y5 (zb rfl) rfl rfl rfl rfl rfl) rfl ?_
 refine zf (zj (zn (zn (zd ?_))))
 refine zc rfl (zk rfl qb yo rfl) x9 ?_
 refine zc rfl (zy rfl ty5 xE rfl (zt rfl) (zb rfl)) xS ?_
 refine zf (zj (zI (zn (zd ?_))))
 refine zc rfl (zr rfl xu rfl rfl) yC ?_
 refine zc rfl (zi rfl yl (zb rfl)) wE ?_
 refine zf (zj ?_)
 refine zG x4 hF (fun hc1 hF=>?_) (fun hc1 hF=>?_)
 ·refine zd ?_
  refine zc rfl (zk rfl fo59x1 yo rfl) yz ?_
  refine zc rfl (zy rfl ty2 yh rfl (zt rfl) (zb rfl)) yL ?_
  refine zc rfl (zk rfl fo59x1 yY rfl) yO ?_
  refine zc rfl (yk (cs':=[.int .u8 l0.typ,.int .i64 l0.n,.int .u64 (0:Int),.int .u8 (0:Int),.int .u32 (0:Int),.int .u64 (0:Int),.str ([]:yg),.osl none 5 (([]:List GItem).map GItem.row),.osl none 3 (([]:List GDot).map GDot.row)]) rfl ty2 yE yJ (zb rfl) rfl rfl rfl rfl rfl) rfl ?_
  refine zf (zY (zj (zn (zd ?_))))
  refine zc rfl (zy rfl ty59.choose_spec.1 yo rfl (zF (cs':=[.int .u8 l0.typ,.int .i64 l0.n,.int .u64 l0.time,.int .u8 l0.dot.actor.rep,.int .u32 l0.dot.actor.inc,.int .u64 l0.dot.seq,.str l0.text,.sl 5 (l0.items.map GItem.row),.sl 3 (l0.tombs.map GDot.row)]) ty59.choose_spec.2 rfl rfl) (zb rfl)) (sk (sk xT)) ?_
  refine zc rfl (zy rfl ty59.choose_spec.1 yY rfl (zF (cs':=[.int .u8 l0.typ,.int .i64 l0.n,.int .u64 (0:Int),.int .u8 (0:Int),.int .u32 (0:Int),.int .u64 (0:Int),.str ([]:yg),.osl none 5 (([]:List GItem).map GItem.row),.osl none 3 (([]:List GDot).map GDot.row)]) ty59.choose_spec.2 rfl rfl) (zb rfl)) (sk (sk x9)) ?_
  refine zK hF (fun v2 hv2 hF=>?_)
  refine zU rfl (zz rfl rfl rfl (zg (gk (gk y5)) (zg (gk (gk xE)) zu)) (.cons (zb rfl) (.cons (zb rfl) .nil))) ((ok56 hv2).le (.eq (.cons (leV.agg (.eq (.eq (.eq (.eq (.eq (.eq (.eq (.cons (leV.osl _ _ _) (.cons (leV.osl _ _ _) leL.nil))))))))) rfl) leL.nil))) (sk (sk xS)) ?_
  refine zc rfl (zi rfl (gk (gk xu)) (zb rfl)) xj ?_
  refine zf (zj (zO ?_))
  obtain rfl:=Option.some.inj hF
  refine zA rfl (zE yQ zB) (zD (leV.refl _) rfl ?_)
  exact ⟨rfl,rfl⟩
 ·refine zn (zd ?_)
  refine zc rfl (zr rfl xu rfl rfl) yW ?_
  refine zc rfl (zi rfl yU (zb rfl)) yS ?_
  refine zf (zj ?_)
  refine zG yP hF (fun hc3 hF=>?_) (fun hc3 hF=>?_)
  ·refine zn ?_
   refine yr [3,5] [(3,[(0,.cells [.int .u8 l0.typ,.int .i64 l0.n,.int .u64 l0.time,.int .u8 l0.dot.actor.rep,.int .u32 l0.dot.actor.inc,.int .u64 l0.dot.seq,.str l0.text,.sl 5 (l0.items.map GItem.row),.sl 3 (l0.tombs.map GDot.row)])]),(5,[(0,.cells [.int .u8 l0.typ,.int .i64 l0.n,.int .u64 l0.time,.int .u8 l0.dot.actor.rep,.int .u32 l0.dot.actor.inc,.int .u64 l0.dot.seq,.str l0.text,.sl 5 (l0.items.map GItem.row),.sl 3 (l0.tombs.map GDot.row)])])] ⟨⟨rfl,trivial⟩,⟨rfl,trivial⟩,trivial⟩ xF (by kernel_rfl) ?_
   refine zo rfl rfl (zk rfl fo59x2 yo rfl) xa ?_
   refine zo rfl rfl (zy rfl wR yR rfl (zt rfl) (zb rfl)) xd ?_
   refine zo rfl rfl (zk rfl fo59x3 yo rfl) xq ?_
   refine qc rfl rfl (by rintro _ ⟨B2,T2,rfl,hk2⟩;exact zy rfl ty53.choose_spec.1 yD (keeps1 hk2) (zF (cs':=[.int .u8 l0.dot.actor.rep,.int .u32 l0.dot.actor.inc,.int .u64 l0.dot.seq]) ty53.choose_spec.2 rfl rfl) (zb rfl)) xr ?_
   refine zo rfl rfl (zk rfl fo59x4 yo rfl) xV ?_
   refine qc rfl rfl (by rintro _ ⟨B2,T2,rfl,hk2⟩;exact zy rfl ty9 xi (keeps1 hk2) (zt rfl) (zb rfl)) xU ?_
   refine zo rfl rfl (zk rfl fo59x2 yY rfl) wa ?_
   refine x7 rfl (FOk.cons (.inr (wC ⟨rfl,trivial⟩)) (FOk.cons (.inr (wC ⟨rfl,trivial⟩)) FOk.nil)) (by kernel_rfl) rfl (yk (cs':=[.int .u8 l0.typ,.int .i64 (0:Int),.int .u64 l0.time,.int .u8 (0:Int),.int .u32 (0:Int),.int .u64 (0:Int),.str ([]:yg),.osl none 5 (([]:List GItem).map GItem.row),.osl none 3 (([]:List GDot).map GDot.row)]) rfl wR wb xb (zb rfl) rfl rfl rfl rfl rfl) rfl ?_
   refine zo rfl rfl (zk rfl fo59x3 yY rfl) wh ?_
   refine x7 rfl (FOk.cons (.inr (wC ⟨rfl,trivial⟩)) (FOk.cons (.inr (wC ⟨rfl,trivial⟩)) FOk.nil)) (by kernel_rfl) rfl (yk (cs':=[.int .u8 l0.typ,.int .i64 (0:Int),.int .u64 l0.time,.int .u8 l0.dot.actor.rep,.int .u32 l0.dot.actor.inc,.int .u64 l0.dot.seq,.str ([]:yg),.osl none 5 (([]:List GItem).map GItem.row),.osl none 3 (([]:List GDot).map GDot.row)]) rfl ty53.choose_spec.1 xH xz (zb rfl) rfl rfl rfl rfl rfl) rfl ?_
   refine zo rfl rfl (zk rfl fo59x4 yY rfl) wu ?_
   refine x7 rfl (FOk.cons (.inr (wC ⟨rfl,trivial⟩)) (FOk.cons (.inr (wC ⟨rfl,trivial⟩)) FOk.nil)) (by kernel_rfl) rfl (yk (cs':=[.int .u8 l0.typ,.int .i64 (0:Int),.int .u64 l0.time,.int .u8 l0.dot.actor.rep,.int .u32 l0.dot.actor.inc,.int .u64 l0.dot.seq,.str l0.text,.osl none 5 (([]:List GItem).map GItem.row),.osl none 3 (([]:List GDot).map GDot.row)]) rfl ty9 xg xY (zb rfl) rfl rfl rfl rfl rfl) rfl ?_
   refine yc ?_
   refine zj (zn (zd ?_))
   refine zc rfl (zk rfl fo59x2 yo rfl) wB ?_
   refine zc rfl (zy rfl wR ww rfl (zt rfl) (zb rfl)) va ?_
   refine zc rfl (zr rfl vg rfl rfl) wV ?_
   refine zc rfl (ze rfl wX (zb rfl)) vm ?_
   refine zq rfl (fun hb=>zk rfl fo59x2 yo rfl) vu ?_
   refine zq rfl (fun hb=>zy rfl wR (zp vy hb) rfl (zt rfl) (zb rfl)) vt ?_
   refine wi hF (fun v4 hv4 hF=>?_)
   refine xN rfl (fun hb=>zz rfl rfl rfl (zg (zp vn hb) zu) (.cons (zb rfl) .nil)) (fun hb=>ok51 (hv4 hb)) vr ?_
   refine zq rfl (fun hb=>ze rfl (zp vU hb) (zb rfl)) wU ?_
   refine zq (zW rfl rfl rfl) (fun hb=>zk rfl fo59x3 yo rfl) w9 ?_
   refine zq (zW rfl rfl rfl) (fun hb=>zy rfl ty53.choose_spec.1 (zp wW hb) rfl (zF (cs':=[.int .u8 l0.dot.actor.rep,.int .u32 l0.dot.actor.inc,.int .u64 l0.dot.seq]) ty53.choose_spec.2 rfl rfl) (zb rfl)) wT ?_
   refine wi hF (fun v5 hv5 hF=>?_)
   refine xN (zW rfl rfl rfl) (fun hb=>zz rfl rfl rfl (zg (zp wL hb) zu) (.cons (zb rfl) .nil)) (fun hb=>ok52 (hv5 hb)) wS ?_
   refine zq rfl (fun hb=>zM rfl (zp wM hb) wP rfl (zS (fun ht=>gT2 hb ht))) w8 ?_
   refine zq rfl (fun hb=>ze rfl (zp vf hb) (zb rfl)) wZ ?_
   refine zq (zW rfl rfl rfl) (fun hb=>zk rfl fo59x4 yo rfl) vD ?_
   refine zq (zW rfl rfl rfl) (fun hb=>zy rfl ty9 (zp vJ hb) rfl (zt rfl) (zb rfl)) vC ?_
   refine wi hF (fun v6 hv6 hF=>?_)
   refine xN (zW rfl rfl rfl) (fun hb=>zz rfl rfl rfl (zg (zp vI hb) zu) (.cons (zb rfl) .nil)) (fun hb=>ok53 (hv6 hb)) (sk st0) ?_
   refine zq rfl (fun hb=>zM rfl (zp ve hb) (gk yd) rfl (zS (fun ht=>gT2 hb ht))) (sk st1) ?_
   refine zq rfl (fun hb=>qm rfl (zp (gk yo) hb) rfl) (sk xj) ?_
   refine zc rfl (zM rfl vo (gk yQ) rfl (zS (fun ht=>gT ht))) (sk wA) ?_
   refine zc rfl (ze rfl (gk yY) (zb rfl)) (sk yK) ?_
   refine zq rfl (fun hb=>zk rfl fo59x2 yo rfl) (sk xI) ?_
   refine zq rfl (fun hb=>zy rfl wR (zp (gk yX) hb) rfl (zt rfl) (zb rfl)) (sk xT) ?_
   refine zq rfl (fun hb=>zr rfl (zp (gk y5) hb) rfl rfl) (sk x9) ?_
   refine zq rfl (fun hb=>ze rfl (zp (gk xE) hb) (zb rfl)) (sk xS) ?_
   refine zq (zW rfl rfl rfl) (fun hb=>zk rfl fo59x3 yo rfl) (sk wE) ?_
   refine zq (zW rfl rfl rfl) (fun hb=>zy rfl ty53.choose_spec.1 (zp (gk x4) hb) rfl (zF (cs':=[.int .u8 l0.dot.actor.rep,.int .u32 l0.dot.actor.inc,.int .u64 l0.dot.seq]) ty53.choose_spec.2 rfl rfl) (zb rfl)) (sk yC) ?_
   refine zq (zW rfl rfl rfl) (fun hb=>vw (cs':=[.int .u8 (0:Int),.int .u32 (0:Int),.int .u64 (0:Int)]) rfl su53 ze53 pl53 yb .nil rfl rfl) (sk yz) ?_
   refine zq (zW rfl rfl rfl) (fun hb=>zr rfl (zp (gk yl) hb) (zp (gk yh) hb) (bin_ne pk53 rfl)) (sk yL) ?_
   refine zq (zW rfl rfl rfl) (fun hb=>ze rfl (zp (gk yJ) hb) (zb rfl)) (sk yO) ?_
   refine zq (zW rfl rfl rfl) (fun hb=>zk rfl fo59x4 yo rfl) (sk yS) ?_
   refine zq (zW rfl rfl rfl) (fun hb=>zy rfl ty9 (zp (gk yP) hb) rfl (zt rfl) (zb rfl)) (sk yW) ?_
   refine zq (zW rfl rfl rfl) (fun hb=>zr rfl (zp (gk yU) hb) rfl rfl) (sk xa) ?_
   refine zq (zW rfl rfl rfl) (fun hb=>zM rfl (zp (gk yE) hb) rfl (gk yR) (ya (fun ht=>gF2 hb ht))) (sk xd) ?_
   refine zq rfl (fun hb=>zM rfl (zp (gk xu) hb) (gk xb) rfl (zS (fun ht=>gT2 hb ht))) (sk xq) ?_
   refine zc rfl (zM rfl (gk yG) rfl (gk yD) (ya (fun ht=>gF ht))) (sk xr) ?_
   refine zf (zj ?_)
   refine zG (gk xz) hF (fun hc7 hF=>?_) (fun hc7 hF=>?_)
   ·refine zn (zd ?_)
    refine zc rfl (zi rfl rfl (zb rfl)) xj ?_
    refine zf (zj (zO ?_))
    refine zJ ?_
    refine zC ?_
    obtain rfl:=Option.some.inj hF
    refine zA rfl (zE yQ zB) (zD (leV.refl _) rfl ?_)
    exact ⟨rfl,rfl⟩
   ·refine zH (zY (zj (zn (zd ?_))))
    refine zc rfl (zy rfl ty59.choose_spec.1 yo rfl (zF (cs':=[.int .u8 l0.typ,.int .i64 l0.n,.int .u64 l0.time,.int .u8 l0.dot.actor.rep,.int .u32 l0.dot.actor.inc,.int .u64 l0.dot.seq,.str l0.text,.sl 5 (l0.items.map GItem.row),.sl 3 (l0.tombs.map GDot.row)]) ty59.choose_spec.2 rfl rfl) (zb rfl)) (sk (sk xT)) ?_
    refine zc rfl (zy rfl ty59.choose_spec.1 yY rfl (zF (cs':=[.int .u8 l0.typ,.int .i64 (0:Int),.int .u64 l0.time,.int .u8 l0.dot.actor.rep,.int .u32 l0.dot.actor.inc,.int .u64 l0.dot.seq,.str l0.text,.osl none 5 (([]:List GItem).map GItem.row),.osl none 3 (([]:List GDot).map GDot.row)]) ty59.choose_spec.2 rfl rfl) (zb rfl)) (sk (sk x9)) ?_
    refine zK hF (fun v8 hv8 hF=>?_)
    refine zU rfl (zz rfl rfl rfl (zg (gk (gk y5)) (zg (gk (gk xE)) zu)) (.cons (zb rfl) (.cons (zb rfl) .nil))) ((ok56 hv8).le (.eq (.cons (leV.agg (.eq (.eq (.eq (.eq (.eq (.eq (.eq (.cons (leV.osl _ _ _) (.cons (leV.osl _ _ _) leL.nil))))))))) rfl) leL.nil))) (sk (sk xS)) ?_
    refine zc rfl (zi rfl (gk (gk xu)) (zb rfl)) xj ?_
    refine zf (zj (zO ?_))
    obtain rfl:=Option.some.inj hF
    refine zA rfl (zE yQ zB) (zD (leV.refl _) rfl ?_)
    exact ⟨rfl,rfl⟩
  ·refine zn (zd ?_)
   refine zc rfl (zr rfl xu rfl rfl) (sk xU) ?_
   refine zc rfl (zi rfl (gk xY) (zb rfl)) (sk xV) ?_
   refine zf (zj ?_)
   refine zG (gk xi) hF (fun hc9 hF=>?_) (fun hc9 hF=>?_)
   ·refine zn ?_
    refine yr [3] [(3,[(0,.cells [.int .u8 l0.typ,.int .i64 l0.n,.int .u64 l0.time,.int .u8 l0.dot.actor.rep,.int .u32 l0.dot.actor.inc,.int .u64 l0.dot.seq,.str l0.text,.sl 5 (l0.items.map GItem.row),.sl 3 (l0.tombs.map GDot.row)])])] ⟨⟨rfl,trivial⟩,trivial⟩ xF (by kernel_rfl) ?_
    refine zo rfl rfl (zk rfl wq yo rfl) (sk wa) ?_
    refine zo rfl rfl (zy rfl ty57 (gk wb) rfl (zt rfl) (zb rfl)) (sk wh) ?_
    refine zo rfl rfl (zk rfl vh yo rfl) (sk wu) ?_
    refine qc rfl rfl (by rintro _ ⟨B2,T2,rfl,hk2⟩;exact zy rfl ty26 (gk xg) (keeps1 hk2) (zt rfl) (zb rfl)) (sk wB) ?_
    refine zo rfl rfl (zk rfl wq yY rfl) (sk va) ?_
    refine x7 rfl (FOk.cons (.inr (wC ⟨rfl,trivial⟩)) FOk.nil) (by kernel_rfl) rfl (yk (cs':=[.int .u8 l0.typ,.int .i64 (0:Int),.int .u64 (0:Int),.int .u8 (0:Int),.int .u32 (0:Int),.int .u64 (0:Int),.str ([]:yg),.sl 5 (l0.items.map GItem.row),.osl none 3 (([]:List GDot).map GDot.row)]) rfl ty57 (gk vg) (gk xH) (zb rfl) rfl rfl rfl rfl rfl) rfl ?_
    refine zo rfl rfl (zk rfl vh yY rfl) (sk wV) ?_
    refine x7 rfl (FOk.cons (.inr (wC ⟨rfl,trivial⟩)) FOk.nil) (by kernel_rfl) rfl (yk (cs':=[.int .u8 l0.typ,.int .i64 (0:Int),.int .u64 (0:Int),.int .u8 (0:Int),.int .u32 (0:Int),.int .u64 (0:Int),.str ([]:yg),.sl 5 (l0.items.map GItem.row),.sl 3 (l0.tombs.map GDot.row)]) rfl ty26 (gk wX) (gk ww) (zb rfl) rfl rfl rfl rfl rfl) rfl ?_
    refine yc ?_
    refine zj (zn (zd ?_))
    refine zc rfl (zk rfl wq yo rfl) (sk vm) ?_
    refine zc rfl (zy rfl ty57 (gk vo) rfl (zt rfl) (zb rfl)) (sk vu) ?_
    refine zK hF (fun v10 hv10 hF=>?_)
    refine zU rfl (zz rfl rfl rfl (zg (gk vy) (zg rfl zu)) (.cons (zb rfl) (.cons (zb rfl) .nil))) (ok54 hv10) (sk vt) ?_
    refine zc rfl (qm rfl (gk vn) rfl) (sk vr) ?_
    refine zc rfl (ze rfl (gk vU) (zb rfl)) (sk wU) ?_
    refine zq rfl (fun hb=>zy rfl ty59.choose_spec.1 yo rfl (zF (cs':=[.int .u8 l0.typ,.int .i64 l0.n,.int .u64 l0.time,.int .u8 l0.dot.actor.rep,.int .u32 l0.dot.actor.inc,.int .u64 l0.dot.seq,.str l0.text,.sl 5 (l0.items.map GItem.row),.sl 3 (l0.tombs.map GDot.row)]) ty59.choose_spec.2 rfl rfl) (zb rfl)) (sk w9) ?_
    refine wi hF (fun v11 hv11 hF=>?_)
    refine xN rfl (fun hb=>zz rfl rfl rfl (zg (zp (gk wW) hb) zu) (.cons (zb rfl) .nil)) (fun hb=>ok55 (hv11 hb)) (sk wT) ?_
    refine zq rfl (fun hb=>qm rfl (zp (gk wL) hb) rfl) (sk wS) ?_
    refine zc rfl (zM rfl (gk wM) rfl (gk wP) (ya (fun ht=>gF ht))) (sk w8) ?_
    refine zf (zj ?_)
    refine zG (gk vf) hF (fun hc12 hF=>?_) (fun hc12 hF=>?_)
    ·refine zn (zd ?_)
     refine zc rfl (zi rfl rfl (zb rfl)) xj ?_
     refine zf (zj (zO ?_))
     refine zJ ?_
     refine zC ?_
     obtain rfl:=Option.some.inj hF
     refine zA rfl (zE yQ zB) (zD (leV.refl _) rfl ?_)
     exact ⟨rfl,rfl⟩
    ·refine zH (zY (zj (zn (zd ?_))))
     refine zc rfl (zy rfl ty59.choose_spec.1 yo rfl (zF (cs':=[.int .u8 l0.typ,.int .i64 l0.n,.int .u64 l0.time,.int .u8 l0.dot.actor.rep,.int .u32 l0.dot.actor.inc,.int .u64 l0.dot.seq,.str l0.text,.sl 5 (l0.items.map GItem.row),.sl 3 (l0.tombs.map GDot.row)]) ty59.choose_spec.2 rfl rfl) (zb rfl)) (sk (sk xT)) ?_
     refine zc rfl (zy rfl ty59.choose_spec.1 yY rfl (zF (cs':=[.int .u8 l0.typ,.int .i64 (0:Int),.int .u64 (0:Int),.int .u8 (0:Int),.int .u32 (0:Int),.int .u64 (0:Int),.str ([]:yg),.sl 5 (l0.items.map GItem.row),.sl 3 (l0.tombs.map GDot.row)]) ty59.choose_spec.2 rfl rfl) (zb rfl)) (sk (sk x9)) ?_
     refine zK hF (fun v13 hv13 hF=>?_)
     refine zU rfl (zz rfl rfl rfl (zg (gk (gk y5)) (zg (gk (gk xE)) zu)) (.cons (zb rfl) (.cons (zb rfl) .nil))) (ok56 hv13) (sk (sk xS)) ?_
     refine zc rfl (zi rfl (gk (gk xu)) (zb rfl)) xj ?_
     refine zf (zj (zO ?_))
     obtain rfl:=Option.some.inj hF
     refine zA rfl (zE yQ zB) (zD (leV.refl _) rfl ?_)
     exact ⟨rfl,rfl⟩
   ·refine zn (zd ?_)
    refine zc rfl (zr rfl xu rfl rfl) (sk vD) ?_
    refine zc rfl (zi rfl (gk vJ) (zb rfl)) (sk wZ) ?_
    refine zf (zj ?_)
    refine zG (gk ve) hF (fun hc14 hF=>?_) (fun hc14 hF=>?_)
    ·refine zn (zd ?_)
     refine zc rfl (zk rfl wq yo rfl) (sk vC) ?_
     refine zc rfl (zy rfl ty57 (gk vI) rfl (zt rfl) (zb rfl)) (sk (sk st0)) ?_
     refine zc rfl (zk rfl wq yY rfl) (sk (sk st1)) ?_
     refine zc rfl (yk (cs':=[.int .u8 l0.typ,.int .i64 (0:Int),.int .u64 (0:Int),.int .u8 (0:Int),.int .u32 (0:Int),.int .u64 (0:Int),.str ([]:yg),.sl 5 (l0.items.map GItem.row),.osl none 3 (([]:List GDot).map GDot.row)]) rfl ty57 (gk (gk yo)) (gk (gk yd)) (zb rfl) rfl rfl rfl rfl rfl) rfl ?_
     refine zf (zj (zn (zd ?_)))
     refine zc rfl (zk rfl wq yo rfl) (sk (sk xj)) ?_
     refine zc rfl (zy rfl ty57 (gk (gk yQ)) rfl (zt rfl) (zb rfl)) (sk (sk wA)) ?_
     refine zK hF (fun v15 hv15 hF=>?_)
     refine zU rfl (zz rfl rfl rfl (zg (gk (gk yY)) (zg rfl zu)) (.cons (zb rfl) (.cons (zb rfl) .nil))) (ok54 hv15) (sk (sk yK)) ?_
     refine zc rfl (qm rfl (gk (gk yG)) rfl) (sk (sk xI)) ?_
     refine zf (zj ?_)
     refine zG (gk (gk yX)) hF (fun hc16 hF=>?_) (fun hc16 hF=>?_)
     ·refine zn (zd ?_)
      refine zc rfl (zi rfl rfl (zb rfl)) xj ?_
      refine zf (zj (zO ?_))
      refine zJ ?_
      refine zC ?_
      obtain rfl:=Option.some.inj hF
      refine zA rfl (zE yQ zB) (zD (leV.refl _) rfl ?_)
      exact ⟨rfl,rfl⟩
     ·refine zH (zY (zj (zn (zd ?_))))
      refine zc rfl (zy rfl ty59.choose_spec.1 yo rfl (zF (cs':=[.int .u8 l0.typ,.int .i64 l0.n,.int .u64 l0.time,.int .u8 l0.dot.actor.rep,.int .u32 l0.dot.actor.inc,.int .u64 l0.dot.seq,.str l0.text,.sl 5 (l0.items.map GItem.row),.sl 3 (l0.tombs.map GDot.row)]) ty59.choose_spec.2 rfl rfl) (zb rfl)) (sk (sk xT)) ?_
      refine zc rfl (zy rfl ty59.choose_spec.1 yY rfl (zF (cs':=[.int .u8 l0.typ,.int .i64 (0:Int),.int .u64 (0:Int),.int .u8 (0:Int),.int .u32 (0:Int),.int .u64 (0:Int),.str ([]:yg),.sl 5 (l0.items.map GItem.row),.osl none 3 (([]:List GDot).map GDot.row)]) ty59.choose_spec.2 rfl rfl) (zb rfl)) (sk (sk x9)) ?_
      refine zK hF (fun v17 hv17 hF=>?_)
      refine zU rfl (zz rfl rfl rfl (zg (gk (gk y5)) (zg (gk (gk xE)) zu)) (.cons (zb rfl) (.cons (zb rfl) .nil))) ((ok56 hv17).le (.eq (.cons (leV.agg (.eq (.eq (.eq (.eq (.eq (.eq (.eq (.eq (.cons (leV.osl _ _ _) leL.nil))))))))) rfl) leL.nil))) (sk (sk xS)) ?_
      refine zc rfl (zi rfl (gk (gk xu)) (zb rfl)) xj ?_
      refine zf (zj (zO ?_))
      obtain rfl:=Option.some.inj hF
      refine zA rfl (zE yQ zB) (zD (leV.refl _) rfl ?_)
      exact ⟨rfl,rfl⟩
    ·refine zn (zd ?_)
     refine zc rfl (zi rfl rfl (zb rfl)) xj ?_
     refine zf (zj (zO ?_))
     refine zJ ?_
     refine zC ?_
     obtain rfl:=Option.some.inj hF
     refine zA rfl (zE yQ zB) (zD (leV.refl _) rfl ?_)
     exact ⟨rfl,rfl⟩
theorem ok26N (n:Nat):∀ {t0:(List GNode)} {deep1:Int} {res:Bool} {h:AH} , qD n t0 deep1=some res→Spec Try.prog 26 [.sl 3 (t0.map GNode.row),.int .i64 deep1] h (fun rr hh=>rr=.bool res∧hh=h):=by
 induction n with
 | zero=>intro t0 deep1 res h  hF;simp [qD] at hF
 | succ n ih =>
  intro t0 deep1 res h  hF
  unfold qD at hF
  refine zw Try.func26 rfl (by kernel_rfl) (env:=[.sl 3 (t0.map GNode.row),.int .i64 deep1,za,za,za,za,za,za,za,za,za,za,za,za,za,za,za,za,za,za,za,za,za,za,za,za,za,za,za,za,za,za,za,za,za,za,za,za,za,za,za,za,za,za,za,za,za,za,za,za,za,za,za,za,za,za,za,za,za,za,za,za,za,za,za,za,za,za,za,za,za,za,za,za,za,za,za,za,za,za,za,za,za,za,za,za,za,za,za]) (by rfl) ?_
  refine zn (zd ?_)
  refine zc rfl (zi rfl rfl (zb rfl)) yK ?_
  refine zf (zj (zn (zn (zd ?_))))
  refine zc rfl (ze rfl yd (zb rfl)) wE ?_
  refine z7 rfl (zX rfl rfl rfl rfl qA x4 z8) yC fun hn1=>?_
  replace hn1:=xG hn1
  refine zc rfl (zr rfl yl rfl rfl) yz ?_
  refine zc rfl (ze rfl yh (zb rfl)) yL ?_
  refine zq rfl (fun hb=>ze rfl yo (zb rfl)) yO ?_
  refine zq rfl (fun hb=>zr rfl (zp yE hb) rfl rfl) yS ?_
  refine zc rfl (zM rfl yJ yP rfl (zS (fun ht=>gT ht))) yW ?_
  refine zf (zj ?_)
  refine zG yU hF (fun hc2 hF=>?_) (fun hc2 hF=>?_)
  ·refine zn (zd ?_)
   refine zc rfl (zi rfl rfl (zb rfl)) yK ?_
   refine zf (zj (zO (zC ?_)))
   obtain rfl:=Option.some.inj hF
   refine zA rfl (zE yG zB) (zD (leV.refl _) rfl ?_)
   exact ⟨rfl,rfl⟩
  ·refine zH (zj (zn (zn (zd ?_))))
   refine zc rfl (ze rfl yd (zb rfl)) xa ?_
   refine z7 rfl (zX rfl rfl rfl rfl qA yR z8) xd fun hn3=>?_
   replace hn3:=xG hn3
   refine zc rfl (ze rfl rfl (zb rfl)) xq ?_
   refine zf (zj (zI ?_))
   refine yw (fun (n1:Nat) (s1:Unit)=>yv [2,3,4,5,6,7,8,9,10,11,12,13,14,15,19,20,21,22,23,24,25,26,27,28,29,30,31,32,33,34,35,36,37,38,39,40,41,42,43,44,45,46,47,48,49,50,51,52,53,54,55,56,57,58,59,60,61,62,63,64,65,66,67,68,69,70,71,72,73,74,75,76,77,78,79,80,81,82,83,84,85,86,87,88] [(18,.int .i64 (n1:Int))]) (fun s1=>h.ext [] []) hF (fun _ _=>by simp only [yv,upd,List.set_cons_succ,List.set_cons_zero];try rfl) (wk.le (by exact (.eq (.eq (.d4 (.d4 (.d4 (.drop (.drop (.eq (.eq (.cons (leV.of_eq rfl) (.d16 (.d16 (.d16 (.d16 (.d4 (.drop (.drop leL.nil))))))))))))))))))) ?_
   intro n1 s1 hi1 hF
   refine zn (zd ?_)
   refine zc rfl (zr rfl yD xb rfl) xr ?_
   refine zf (zj (zn ?_))
   refine y7 xz hF (fun x1 o1 hl1 hx1 hF hK1=>?_) (fun hF=>?_)
   ·refine zH (zj (zn (zI (zn (zd ?_)))))
    refine zc rfl (ze rfl yD (zb rfl)) xV ?_
    refine zc rfl (we rfl qA yR yD qI (xl hx1) (GNode.row_eq _)) xU ?_
    refine zc rfl (yf rfl ty41.choose_spec.1 xY (zF (cs':=[.str x1.name,.sl 9 (x1.leaves.map GLeaf.row),.sl 3 (x1.subs.map GNode.row)]) ty41.choose_spec.2 rfl rfl) (zb rfl)) wa ?_
    refine zc rfl (xn (n:=0) rfl ze41 rfl) xT ?_
    refine zc rfl (zi rfl xi (zb rfl)) xI ?_
    refine zc rfl (yk (cs':=[.str x1.name,.sl 9 (x1.leaves.map GLeaf.row),.sl 3 (x1.subs.map GNode.row)]) rfl ty41.choose_spec.1 y5 wb (zb rfl) rfl rfl rfl rfl rfl) rfl ?_
    refine zf (zj (zn (zn ?_)))
    refine yr [2] [] trivial xF (by kernel_rfl) ?_
    refine zo rfl rfl (zk rfl fo41x0 y5 rfl) wh ?_
    refine zo rfl rfl (zy rfl ty9 xH rfl (zt rfl) (zb rfl)) wu ?_
    refine zK hF (fun v27 hv27 hF=>?_)
    refine xc rfl rfl (fun _=>zz rfl rfl rfl (zg xg zu) (.cons (zb rfl) .nil)) (by rintro _ ⟨B2,T2,rfl,hk2⟩;exact ok37 hv27) wB ?_
    refine zo rfl rfl (qm rfl ww rfl) va ?_
    refine zo rfl rfl (ze rfl vg (zb rfl)) wV ?_
    refine zx rfl rfl (fun hb=>ze rfl yX (zb rfl)) vm ?_
    refine zx rfl rfl (fun hb=>zr rfl (zp vo hb) rfl rfl) vu ?_
    refine zx rfl rfl (fun hb=>ze rfl (zp vy hb) (zb rfl)) vt ?_
    refine zx rfl (zW rfl rfl rfl) (fun hb=>ze rfl yd (zb rfl)) vr ?_
    refine zx rfl (zW rfl rfl rfl) (fun hb=>ze rfl yX (zb rfl)) wU ?_
    refine zx rfl (zW rfl rfl rfl) (fun hb=>zr rfl (zp wM hb) rfl rfl) w9 ?_
    refine wc hF (fun hg28 hF=>?_)
    refine zx rfl (zW rfl rfl rfl) (fun hb=>s_gidxRowE default rfl qA (zp vU hb) (zp wW hb) qI (hg28 hb) (GNode.row_eq _)) wT ?_
    refine zx rfl (zW rfl rfl rfl) (fun hb=>zk rfl fo41x0 (zp wL hb) rfl) wS ?_
    refine zx rfl (zW rfl rfl rfl) (fun hb=>yf rfl ty9 (zp wP hb) (zt rfl) (zb rfl)) w8 ?_
    refine zx rfl (zW rfl rfl rfl) (fun hb=>zk rfl fo41x0 y5 rfl) wZ ?_
    refine zx rfl (zW rfl rfl rfl) (fun hb=>zy rfl ty9 (zp ve hb) rfl (zt rfl) (zb rfl)) vD ?_
    refine zx rfl (zW rfl rfl rfl) (fun hb=>zr rfl (zp vf hb) (zp vJ hb) rfl) vC ?_
    refine zx rfl rfl (fun hb=>zM rfl (zp vn hb) vI rfl (zS (fun ht=>gT2 hb ht))) (sk st0) ?_
    refine zo rfl rfl (zM rfl wX rfl (gk yd) (ya (fun ht=>gF ht))) (sk st1) ?_
    refine zo rfl rfl (ze rfl (gk yo) (zb rfl)) (sk xj) ?_
    refine zx rfl rfl (fun hb=>zk rfl qz y5 rfl) (sk wA) ?_
    refine zx rfl rfl (fun hb=>zy rfl ty39 (zp (gk yY) hb) rfl (zt rfl) (zb rfl)) (sk yK) ?_
    refine draw_glen rfl rfl (fun hb=>zX rfl rfl rfl rfl el39 (zp (gk yG) hb) z8) (sk xI) ?_
    refine zx rfl rfl (fun hb=>zk rfl fo41x2 y5 rfl) (sk xT) ?_
    refine zx rfl rfl (fun hb=>zy rfl ty23 (zp (gk y5) hb) rfl (zt rfl) (zb rfl)) (sk x9) ?_
    refine draw_glen rfl rfl (fun hb=>zX rfl rfl rfl rfl qA (zp (gk xE) hb) z8) (sk xS) ?_
    refine zx rfl rfl (fun hb=>zr rfl (zp (gk yX) hb) (zp (gk xu) hb) rfl) (sk wE) ?_
    refine zx rfl rfl (fun hb=>zr rfl (zp (gk x4) hb) rfl rfl) (sk yC) ?_
    refine zo rfl rfl (zM rfl (gk yQ) rfl (gk yl) (ya (fun ht=>gF ht))) (sk yz) ?_
    refine zo rfl rfl (ze rfl (gk yh) (zb rfl)) (sk yL) ?_
    refine zx rfl rfl (fun hb=>zk rfl fo41x2 y5 rfl) (sk yO) ?_
    refine zx rfl rfl (fun hb=>zy rfl ty23 (zp (gk yE) hb) rfl (zt rfl) (zb rfl)) (sk yS) ?_
    refine zx rfl rfl (fun hb=>ze rfl yo (zb rfl)) (sk yW) ?_
    refine zx rfl rfl (fun hb=>zr rfl (zp (gk yU) hb) rfl rfl) (sk xa) ?_
    refine wi hF (fun v31 hv31 hF=>?_)
    refine vz rfl rfl (fun hb=>zz rfl rfl rfl (zg (zp (gk yP) hb) (zg (zp (gk yR) hb) zu)) (.cons (zb rfl) (.cons (zb rfl) .nil))) (fun hb=>ih (hv31 hb)) (sk xd) ?_
    refine zx rfl rfl (fun hb=>qm rfl (zp (gk xb) hb) rfl) (sk xq) ?_
    refine zo rfl rfl (zM rfl (gk yJ) rfl (gk yD) (ya (fun ht=>gF ht))) (sk xr) ?_
    refine yc ?_
    refine zj ?_
    refine zG (gk xz) hF (fun hc32 hF=>?_) (fun hc32 hF=>?_)
    ·refine zn (zd ?_)
     refine zc rfl (zi rfl rfl (zb rfl)) yK ?_
     refine zf (zj (zO (zC ?_)))
     refine zJ ?_
     refine zC ?_
     refine yp ?_
     obtain rfl:=Option.some.inj hF
     replace hF:=hK1
     refine zJ ?_
     refine zC ?_
     obtain rfl:=Option.some.inj hF
     refine zA rfl (zE yG zB) (zD (leV.refl _) rfl ?_)
     exact ⟨rfl,rfl⟩
    ·refine zH (zj (zn (zd ?_)))
     refine zc rfl (zk rfl qz y5 rfl) (sk xV) ?_
     refine zc rfl (zy rfl ty39 (gk xi) rfl (zt rfl) (zb rfl)) (sk xU) ?_
     refine z7 rfl (zX rfl rfl rfl rfl el39 (gk xY) z8) (sk wa) fun hn33=>?_
     replace hn33:=xG hn33
     refine zc rfl (ze rfl rfl (zb rfl)) (sk wh) ?_
     refine zf (zj (zI ?_))
     refine yw (fun (n2:Nat) (s2:Unit)=>yv [2,3,4,5,7,8,9,10,11,12,13,14,15,19,20,21,22,23,24,25,26,27,28,29,30,31,32,33,34,35,36,37,38,39,40,41,42,43,44,45,46,47,48,49,50,51,52,53,54,55,56,57,58,59,60,64,65,66,67,68,69,70,71,72,73,74,75,76,77,78,79,80,81,82,83,84,85,86,87,88] [(63,.int .i64 (n2:Int))]) (fun s2=>h.ext [.cells [.str x1.name,.sl 9 (x1.leaves.map GLeaf.row),.sl 3 (x1.subs.map GNode.row)]] []) hF (fun _ _=>by simp only [yv,upd,List.set_cons_succ,List.set_cons_zero];try rfl) (wk.le (by exact (.eq (.eq (.d4 (.eq (.d4 (.d4 (.drop (.eq (.eq (.eq (.d16 (.d16 (.d4 (.d4 (.drop (.drop (.eq (.eq (.cons (leV.of_eq rfl) (.d16 (.d4 (.d4 (.drop leL.nil))))))))))))))))))))))))) ?_
     intro n2 s2 hi2 hF
     refine zn (zd ?_)
     refine zc rfl (zr rfl (gk xH) (gk wb) rfl) (sk wu) ?_
     refine zf (zj (zn ?_))
     refine y7 (gk xg) hF (fun x2 o2 hl2 hx2 hF hK2=>?_) (fun hF=>?_)
     ·refine zH (zj (zn (zI (zn (zd ?_)))))
      refine zc rfl (ze rfl (gk xH) (zb rfl)) (sk wB) ?_
      refine zc rfl (yM rfl el39 (gk xY) (gk xH) qI (xl hx2)) (sk va) ?_
      refine zc rfl (yf rfl ty59.choose_spec.1 (gk vg) (zF (cs':=[.int .u8 x2.typ,.int .i64 x2.n,.int .u64 x2.time,.int .u8 x2.dot.actor.rep,.int .u32 x2.dot.actor.inc,.int .u64 x2.dot.seq,.str x2.text,.sl 5 (x2.items.map GItem.row),.sl 3 (x2.tombs.map GDot.row)]) ty59.choose_spec.2 rfl rfl) (zb rfl)) (sk wV) ?_
      refine zc rfl (xn (n:=1) rfl ze59 rfl) xS ?_
      refine zc rfl (zi rfl (gk ww) (zb rfl)) x9 ?_
      refine zc rfl (yk (cs':=[.int .u8 x2.typ,.int .i64 x2.n,.int .u64 x2.time,.int .u8 x2.dot.actor.rep,.int .u32 x2.dot.actor.inc,.int .u64 x2.dot.seq,.str x2.text,.sl 5 (x2.items.map GItem.row),.sl 3 (x2.tombs.map GDot.row)]) rfl ty59.choose_spec.1 xu (gk wX) (zb rfl) rfl rfl rfl rfl rfl) rfl ?_
      refine zf (zj (zn ?_))
      refine yr [1] [] trivial xF (by kernel_rfl) ?_
      refine zo rfl rfl (zy rfl ty59.choose_spec.1 xu rfl (zF (cs':=[.int .u8 x2.typ,.int .i64 x2.n,.int .u64 x2.time,.int .u8 x2.dot.actor.rep,.int .u32 x2.dot.actor.inc,.int .u64 x2.dot.seq,.str x2.text,.sl 5 (x2.items.map GItem.row),.sl 3 (x2.tombs.map GDot.row)]) ty59.choose_spec.2 rfl rfl) (zb rfl)) (sk vm) ?_
      refine zK hF (fun v43 hv43 hF=>?_)
      refine xc rfl rfl (fun _=>zz rfl rfl rfl (zg (gk vo) zu) (.cons (zb rfl) .nil)) (by rintro _ ⟨B2,T2,rfl,hk2⟩;exact ok38 hv43) (sk vu) ?_
      refine zo rfl rfl (qm rfl (gk vy) rfl) (sk vt) ?_
      refine zo rfl rfl (ze rfl (gk vn) (zb rfl)) (sk vr) ?_
      refine zx rfl rfl (fun hb=>ze rfl xE (zb rfl)) (sk wU) ?_
      refine zx rfl rfl (fun hb=>zr rfl (zp (gk wM) hb) rfl rfl) (sk w9) ?_
      refine zx rfl rfl (fun hb=>ze rfl (zp (gk wW) hb) (zb rfl)) (sk wT) ?_
      refine zx rfl (zW rfl rfl rfl) (fun hb=>zk rfl qz y5 rfl) (sk wS) ?_
      refine zx rfl (zW rfl rfl rfl) (fun hb=>zy rfl ty39 (zp (gk wP) hb) rfl (zt rfl) (zb rfl)) (sk w8) ?_
      refine zx rfl (zW rfl rfl rfl) (fun hb=>ze rfl xE (zb rfl)) (sk wZ) ?_
      refine zx rfl (zW rfl rfl rfl) (fun hb=>zr rfl (zp (gk ve) hb) rfl rfl) (sk vD) ?_
      refine wc hF (fun hg44 hF=>?_)
      refine zx rfl (zW rfl rfl rfl) (fun hb=>xM default rfl el39 (zp (gk vf) hb) (zp (gk vJ) hb) qI (hg44 hb)) (sk vC) ?_
      refine zx rfl (zW rfl rfl rfl) (fun hb=>zk rfl qb (zp (gk vI) hb) rfl) (sk (sk st0)) ?_
      refine zx rfl (zW rfl rfl rfl) (fun hb=>yf rfl ty5 (zp (gk (gk yd)) hb) (zt rfl) (zb rfl)) (sk (sk st1)) ?_
      refine zx rfl (zW rfl rfl rfl) (fun hb=>zk rfl qb xu rfl) (sk (sk xj)) ?_
      refine zx rfl (zW rfl rfl rfl) (fun hb=>zy rfl ty5 (zp (gk (gk yQ)) hb) rfl (zt rfl) (zb rfl)) (sk (sk wA)) ?_
      refine zx rfl (zW rfl rfl rfl) (fun hb=>zr rfl (zp (gk (gk yo)) hb) (zp (gk (gk yY)) hb) rfl) (sk (sk yK)) ?_
      refine zx rfl rfl (fun hb=>zM rfl (zp (gk wL) hb) (gk (gk yG)) rfl (zS (fun ht=>gT2 hb ht))) (sk (sk xI)) ?_
      refine zo rfl rfl (zM rfl (gk vU) rfl (gk (gk yX)) (ya (fun ht=>gF ht))) (sk (sk xT)) ?_
      refine yc ?_
      refine zj ?_
      refine zG (gk (gk y5)) hF (fun hc45 hF=>?_) (fun hc45 hF=>?_)
      ·refine zn (zd ?_)
       refine zc rfl (zi rfl rfl (zb rfl)) yK ?_
       refine zf (zj (zO ?_))
       refine zJ ?_
       refine zC ?_
       refine yp ?_
       obtain rfl:=Option.some.inj hF
       replace hF:=hK2
       refine zJ ?_
       refine zJ ?_
       refine zC ?_
       refine yp ?_
       obtain rfl:=Option.some.inj hF
       replace hF:=hK1
       refine zJ ?_
       refine zC ?_
       obtain rfl:=Option.some.inj hF
       refine zA rfl (zE yG zB) (zD (leV.refl _) rfl ?_)
       exact ⟨rfl,rfl⟩
      ·refine zH (zY (zj (zd ?_)))
       refine zc rfl (zr rfl (gk xH) rfl rfl) (sk (sk x9)) ?_
       refine zc rfl (ze rfl (gk (gk xE)) (zb rfl)) (sk wh) ?_
       refine zf (yi ?_)
       obtain rfl:=Option.some.inj hF
       exact ⟨(),hl2,hK2,wk.trans (wk.le (by exact (.eq (.eq (.d4 (.eq (.d4 (.d4 (.drop (.eq (.eq (.eq (.d16 (.d16 (.d4 (.d4 (.drop (.drop (.eq (.eq (.cons (leV.of_eq (qp (by omega) (by omega))) (.d16 (.d4 (.d4 (.drop leL.nil))))))))))))))))))))))))) (wD (by simp [z9,AV.low]) rfl rfl (by simp [Blk.low,z9,AV.low]))⟩
     ·refine yy ?_
      refine zT ?_
      refine zP ?_
      refine zQ ?_
      refine zY (zj (zd ?_))
      refine zc rfl (zr rfl yD rfl rfl) (sk (sk xS)) ?_
      refine zc rfl (ze rfl (gk (gk xu)) (zb rfl)) xq ?_
      refine zf (yi ?_)
      obtain rfl:=Option.some.inj hF
      exact ⟨(),hl1,hK1,wk.trans (wk.le (by exact (.eq (.eq (.d4 (.d4 (.d4 (.drop (.drop (.eq (.eq (.cons (leV.of_eq (qp (by omega) (by omega))) (.d16 (.d16 (.d16 (.d16 (.d4 (.drop (.drop leL.nil))))))))))))))))))) (wD (by simp [z9,AV.low]) rfl rfl (by simp [Blk.low,z9,AV.low]))⟩
   ·refine yy ?_
    refine zT ?_
    refine zP ?_
    refine zQ ?_
    refine zj (zn (zd ?_))
    refine zc rfl (zi rfl rfl (zb rfl)) yK ?_
    refine zf (zj (zO ?_))
    obtain rfl:=Option.some.inj hF
    refine zA rfl (zE yG zB) (zD (leV.refl _) rfl ?_)
    exact ⟨rfl,rfl⟩
theorem ok26 {t0:(List GNode)} {deep1:Int} {res:Bool} {h:AH}  (hF:treeXmay t0 deep1=some res):Spec Try.prog 26 [.sl 3 (t0.map GNode.row),.int .i64 deep1] h (fun rr hh=>rr=.bool res∧hh=h):=by
 obtain ⟨n,hn⟩:=anyN_is hF
 exact ok26N n  hn
theorem ok15 {t0:(List GNode)} {res:Bool} {h:AH}  (hF:treeMay t0=some res):Spec Try.prog 15 [.sl 3 (t0.map GNode.row)] h (fun rr hh=>rr=.bool res∧hh=h):=by
 unfold treeMay at hF
 refine zw Try.func15 rfl (by kernel_rfl) (env:=[.sl 3 (t0.map GNode.row),za,za,za,za]) (by rfl) ?_
 refine zn (zd ?_)
 refine zc rfl (zi rfl rfl (zb rfl)) xj ?_
 refine zf (zj (zn (zd ?_)))
 refine zc rfl (ze rfl yd (zb rfl)) wA ?_
 refine zK hF (fun v1 hv1 hF=>?_)
 refine zU rfl (zz rfl rfl rfl (zg yY (zg rfl zu)) (.cons (zb rfl) (.cons (zb rfl) .nil))) (ok26 hv1) yK ?_
 refine zc rfl (zi rfl yG (zb rfl)) xj ?_
 refine zf (zj (zO ?_))
 obtain rfl:=Option.some.inj hF
 refine zA rfl (zE yQ zB) (zD (leV.refl _) rfl ?_)
 exact ⟨rfl,rfl⟩
theorem ok17 {t0:(List GNode)} {res:(List GRow)} {h:AH}  (hF:qE t0=some res):Spec Try.prog 17 [.sl 3 (t0.map GNode.row)] h (fun rr hh=>rr=.sl 10 (res.map GRow.row)∧hh=h):=by
 unfold qE at hF
 refine zw Try.func17 rfl (by kernel_rfl) (env:=[.sl 3 (t0.map GNode.row),za,za,za,za,za,za,za,za]) (by rfl) ?_
 refine zn (zd ?_)
 refine zc rfl (zi rfl rfl (xk wo)) xj ?_
 refine zf (zj (zn (zn (zd ?_))))
 refine zc rfl (ze rfl yd (zb rfl)) wA ?_
 refine zK hF (fun v1 hv1 hF=>?_)
 refine zU rfl (zz rfl rfl rfl (zg yY zu) (.cons (zb rfl) .nil)) (ok15 hv1) yK ?_
 refine zc rfl (qm rfl yG rfl) xI ?_
 refine zf (zj ?_)
 refine zG yX hF (fun hc2 hF=>?_) (fun hc2 hF=>?_)
 ·refine zn (zd ?_)
  refine zc rfl (zi rfl rfl (xk wo)) xj ?_
  refine zf (zj (zO (zC ?_)))
  obtain rfl:=Option.some.inj hF
  refine zA rfl (zE yQ zB) (zD (leV.osl _ _ _) rfl ?_)
  exact ⟨rfl,rfl⟩
 ·refine zH (zj (zn (zd ?_)))
  refine zc rfl (ze rfl yd (zb rfl)) xT ?_
  refine zK hF (fun v3 hv3 hF=>?_)
  refine xD rfl (zz rfl rfl rfl (zg y5 (zg rfl zu)) (.cons (zb rfl) (.cons (xk el25) .nil))) (clo_ext rfl (n:=0) (B':=[.cells [.sl 3 (v3.1.map GNode.row)],.cells [.sl 1 (v3.2.map zR)]]) (caps:=[.ptr (h.blks.length+0) 0,.ptr (h.blks.length+1) 0]) ((ok29 hv3).le (.eq (.cons (leV.osl _ _ _) leL.nil))) rfl rfl rfl) x9 ?_
  refine zK hF (fun v4 hv4 hF=>?_)
  refine zU rfl (zz rfl rfl rfl (zg xE zu) (.cons (zb rfl) .nil)) (ok28 (fun S Hy nb nt hN hNt hC hE y idy hly hy s s' hF=>ok43 hN hNt hC hly hy (fun s=>by obtain ⟨L,M,e⟩:=hE s;rw [e];exact n_blk2 (j:=0) rfl rfl) (fun s=>by obtain ⟨L,M,e⟩:=hE s;rw [e];exact n_blk2 (j:=1) rfl rfl) hF) hv4) xS ?_
  refine zc rfl (zi rfl xu (zb rfl)) xj ?_
  refine zf (zj (zO ?_))
  obtain rfl:=Option.some.inj hF
  refine zA rfl (zE yQ zB) (zD (leV.refl _) rfl ?_)
  exact ⟨rfl,rfl⟩
theorem okM17 {t0:(List GNode)} {bl tl:Nat} {res:(List GRow)} {h:AH} (hbl:h.blks.length=bl) (htl:h.toks.length=tl) (hF:qE t0=some res):Spec Try.prog 17 [.sl 3 (t0.map GNode.row)] h (fun rr hh=>rr=.rsl bl tl 10 (res).length∧hh=h.ext [.row tl 10 (res.map GRow.row)] [(res).length]):=by
 unfold qE at hF
 subst hbl htl
 refine zw Try.func17 rfl (by kernel_rfl) (env:=[.sl 3 (t0.map GNode.row),za,za,za,za,za,za,za,za]) (by rfl) ?_
 refine zn (zd ?_)
 refine zc rfl (zi rfl rfl (xk wo)) xj ?_
 refine zf (zj (zn (zn (zd ?_))))
 refine zc rfl (ze rfl yd (zb rfl)) wA ?_
 refine zK hF (fun v1 hv1 hF=>?_)
 refine zU rfl (zz rfl rfl rfl (zg yY zu) (.cons (zb rfl) .nil)) (ok15 hv1) yK ?_
 refine zc rfl (qm rfl yG rfl) xI ?_
 refine zf (zj ?_)
 refine zG yX hF (fun hc2 hF=>?_) (fun hc2 hF=>?_)
 ·refine zn (zd ?_)
  refine zc rfl (zi rfl rfl (xk wo)) xj ?_
  refine zf (zj (zO (zC ?_)))
  obtain rfl:=Option.some.inj hF
  refine zA rfl (zE yQ zB) (fin_row1 hds_nil ?_)
  exact ⟨rfl,rfl⟩
 ·refine zH (zj (zn (zd ?_)))
  refine zc rfl (ze rfl yd (zb rfl)) xT ?_
  refine zK hF (fun v3 hv3 hF=>?_)
  refine xD rfl (zz rfl rfl rfl (zg y5 (zg rfl zu)) (.cons (zb rfl) (.cons (xk el25) .nil))) (clo_ext rfl (n:=0) (B':=[.cells [.sl 3 (v3.1.map GNode.row)],.cells [.sl 1 (v3.2.map zR)]]) (caps:=[.ptr (h.blks.length+0) 0,.ptr (h.blks.length+1) 0]) ((ok29 hv3).le (.eq (.cons (leV.osl _ _ _) leL.nil))) rfl rfl rfl) x9 ?_
  refine zK hF (fun v4 hv4 hF=>?_)
  refine xD rfl (zz rfl rfl rfl (zg xE zu) (.cons (zb rfl) .nil)) (row_newv (v':=.rsl (h.blks.length+2) (h.toks.length+0) 10 ((v4).length)) (B':=[.cells [.sl 3 (v3.1.map GNode.row)],.cells [.sl 1 (v3.2.map zR)],.row (h.toks.length+0) 10 (v4.map GRow.row)]) (T':=[(v4).length]) (okM28 (by rw [ext_bl];rfl) (by rw [wj];rfl) (fun S Hy nb nt hN hNt hC hE y idy hly hy s s' hF=>ok43 hN hNt hC hly hy (fun s=>by obtain ⟨L,M,e⟩:=hE s;rw [e];exact n_blk2 (j:=0) rfl rfl) (fun s=>by obtain ⟨L,M,e⟩:=hE s;rw [e];exact n_blk2 (j:=1) rfl rfl) hF) hv4) rfl rfl rfl) xS ?_
  refine zc rfl (zi rfl xu (zb rfl)) xj ?_
  refine zf (zj (zO ?_))
  obtain rfl:=Option.some.inj hF
  refine zA rfl (zE yQ zB) (fin_row1 (hds_row (j:=2) (i:=0) rfl (by simp)) ?_)
  exact ⟨by simp only [List.length_map];try rfl,by simp only [List.length_map];try rfl⟩
theorem ok39 {tl:Nat} {b0:(List UInt8)} {n1:Int} {res:(List UInt8)} {h:AH} (htl:h.toks.length=tl) (hF:xL b0 n1=some res):Spec Try.prog 39 [.osl (some tl) 1 (b0.map yH),.int .u64 n1] (h.ext [] [b0.length]) (fun rr hh=>rr=.osl (some tl) 1 (res.map yH)∧hh=h.ext [] [res.length]):=by
 unfold xL at hF
 subst htl
 refine yA Try.func39 rfl (by kernel_rfl) (env:=[.osl (some (h.toks.length+0)) 1 (b0.map yH),.int .u64 n1,za,za,za,za,za,za,za,za,za,za,za,za,za,za,za,za,za,za]) (by rfl) ?_
 refine zn (zd ?_)
 refine zc rfl (zi rfl rfl (xk el75)) yK ?_
 refine zf (zj (zn (zI ?_)))
 refine wn (fun (s1:(List UInt8)×Int)=>yv [2,3,4,5,6,7,8,9,10,11,12,13,14,15,16,17,18,19] [(0,.osl (some (h.toks.length+0)) 1 (s1.1.map yH)),(1,.int .u64 s1.2)]) (fun s1=>h.ext [] [(s1.1).length]) hF (fun _=>by simp only [yv,upd,List.set_cons_succ,List.set_cons_zero];try rfl) (wk.le (by exact (.cons (leV.of_eq rfl) (.cons (leV.of_eq rfl) (.d16 (.drop (.drop leL.nil))))))) ?_
 intro n1 s1 o1 hF hK1
 refine zn (zn (zd ?_))
 refine zc rfl (ze rfl yo (zb rfl)) xI ?_
 refine zc rfl (zr rfl yX rfl rfl) xT ?_
 refine zf (zj ?_)
 refine zG y5 hF (fun hc6 hF=>?_) (fun hc6 hF=>?_)
 ·refine zH (zj (zI (zn (zd ?_))))
  refine zc rfl (ze rfl yd (zb rfl)) x9 ?_
  refine zc rfl (ze rfl yo (zb rfl)) xS ?_
  refine zc rfl (y6 rfl wR ty5 xu rfl) wE ?_
  refine zc rfl (zr rfl x4 rfl rfl) yC ?_
  refine wc hF (fun hm7 hF=>?_)
  refine zc rfl (yn (es:=([(UInt8.ofNat (IntKind.wrap .u8 (((BitVec.ofInt (IntKind.bits .u8) (IntKind.wrap .u8 (s1.2)) ||| BitVec.ofInt (IntKind.bits .u8) (128:Int)).toNat:Int))).toNat)]:List UInt8).map yH) rfl el75 ze5 rfl rfl (zZ yl yb) (.cons (zb rfl) .nil) rfl rfl (by simp only [List.map_cons,List.map_nil,yH,byte_of hm7];rfl)) yz ?_
  refine wc hF (fun hm8 hF=>?_)
  refine zc rfl (e_appT (j:=0) (T':=[((s1.1++([(UInt8.ofNat (IntKind.wrap .u8 (((BitVec.ofInt (IntKind.bits .u8) (IntKind.wrap .u8 (s1.2)) ||| BitVec.ofInt (IntKind.bits .u8) (128:Int)).toNat:Int))).toNat)]:List UInt8))).length]) rfl rfl rfl rfl el75 el75 xE yh (zb rfl) (zb rfl) news_osl hm8 rfl rfl) yL ?_
  refine zc rfl (zi rfl yJ (zb rfl)) st0 ?_
  refine zf (zj (zd ?_))
  refine zc rfl (ze rfl yo (zb rfl)) yO ?_
  refine zc rfl (zr rfl yE rfl rfl) yS ?_
  refine zc rfl (zi rfl yP (zb rfl)) st1 ?_
  refine zf (zY (yi ?_))
  obtain rfl:=Option.some.inj hF
  exact ⟨((s1.1++([(UInt8.ofNat (IntKind.wrap .u8 (((BitVec.ofInt (IntKind.bits .u8) (IntKind.wrap .u8 (s1.2)) ||| BitVec.ofInt (IntKind.bits .u8) (128:Int)).toNat:Int))).toNat)]:List UInt8)),(Int.fdiv s1.2 (2 ^ (min (7:Int).toNat (IntKind.bits .u64))))),hK1,wk.le (by exact (.cons (leV.of_eq rfl) (.cons (leV.of_eq rfl) (.d16 (.drop (.drop leL.nil))))))⟩
 ·refine yy ?_
  refine zT ?_
  refine zP ?_
  obtain rfl:=Option.some.inj hF
  replace hF:=hK1
  refine zQ ?_
  refine zj (zn (zd ?_))
  refine zc rfl (ze rfl yd (zb rfl)) yW ?_
  refine zc rfl (ze rfl yo (zb rfl)) xa ?_
  refine zc rfl (y6 rfl wR ty5 yR rfl) xd ?_
  refine wc hF (fun hm11 hF=>?_)
  refine zc rfl (yn (es:=([(UInt8.ofNat (IntKind.wrap .u8 (s1.2)).toNat)]:List UInt8).map yH) rfl el75 ze5 rfl rfl (zZ xb yb) (.cons (zb rfl) .nil) rfl rfl (by simp only [List.map_cons,List.map_nil,yH,byte_of hm11];rfl)) xq ?_
  refine wc hF (fun hm12 hF=>?_)
  refine zc rfl (e_appT (j:=0) (T':=[((s1.1++([(UInt8.ofNat (IntKind.wrap .u8 (s1.2)).toNat)]:List UInt8))).length]) rfl rfl rfl rfl el75 el75 yU yD (zb rfl) (zb rfl) news_osl hm12 rfl rfl) xr ?_
  refine zc rfl (zi rfl xz (zb rfl)) yK ?_
  refine zf (zj (zO ?_))
  obtain rfl:=Option.some.inj hF
  refine zA rfl (zE yG zB) (fin_tok ?_)
  exact ⟨rfl,rfl⟩
theorem ok40 {tl:Nat} {b0:(List UInt8)} {s1:yg} {res:(List UInt8)} {h:AH} (htl:h.toks.length=tl) (hF:qe b0 s1=some res):Spec Try.prog 40 [.osl (some tl) 1 (b0.map yH),.str s1] (h.ext [] [b0.length]) (fun rr hh=>rr=.osl (some tl) 1 (res.map yH)∧hh=h.ext [] [res.length]):=by
 unfold qe at hF
 subst htl
 refine yA Try.func40 rfl (by kernel_rfl) (env:=[.osl (some (h.toks.length+0)) 1 (b0.map yH),.str s1,za,za,za,za,za,za,za,za,za,za]) (by rfl) ?_
 refine zn (zd ?_)
 refine zc rfl (zi rfl rfl (xk el75)) yK ?_
 refine zf (zj (zn (zd ?_)))
 refine zc rfl (ze rfl yd (zb rfl)) xI ?_
 refine zc rfl (ze rfl yo (zb rfl)) xT ?_
 refine z7 rfl (wJ rfl rfl rfl rfl ty9 y5) x9 fun hn1=>?_
 replace hn1:=xG hn1
 refine zc rfl (y6 rfl ty3 wR xE rfl) xS ?_
 refine zK hF (fun v2 hv2 hF=>?_)
 refine xD rfl (zz rfl rfl rfl (zg yX (zg xu zu)) (.cons (zb rfl) (.cons (zb rfl) .nil))) (xw (T1:=[]) (T':=[(v2).length]) (ok39 (by rw [wj];rfl) hv2) rfl rfl) wE ?_
 refine zc rfl (ze rfl yo (zb rfl)) yC ?_
 refine wc hF (fun hm3 hF=>?_)
 refine zc rfl (e_appST (j:=0) (T':=[((v2++s1)).length]) rfl rfl rfl rfl el75 ty9 x4 yl (zb rfl) (zb rfl) news_str hm3 rfl rfl) yz ?_
 refine zc rfl (zi rfl yh (zb rfl)) yK ?_
 refine zf (zj (zO ?_))
 obtain rfl:=Option.some.inj hF
 refine zA rfl (zE yG zB) (fin_tok ?_)
 exact ⟨rfl,rfl⟩
theorem ok57 {tl:Nat} {b0:(List UInt8)} {n1:Int} {res:(List UInt8)} {h:AH} (htl:h.toks.length=tl) (hF:codeInt b0 n1=some res):Spec Try.prog 57 [.osl (some tl) 1 (b0.map yH),.int .i64 n1] (h.ext [] [b0.length]) (fun rr hh=>rr=.osl (some tl) 1 (res.map yH)∧hh=h.ext [] [res.length]):=by
 unfold codeInt at hF
 subst htl
 refine yA Try.func57 rfl (by kernel_rfl) (env:=[.osl (some (h.toks.length+0)) 1 (b0.map yH),.int .i64 n1,za,za,za,za,za,za,za,za,za,za,za,za]) (by rfl) ?_
 refine zn (zd ?_)
 refine zc rfl (zi rfl rfl (xk el75)) yK ?_
 refine zf (zj (zn (zd ?_)))
 refine zc rfl (ze rfl yd (zb rfl)) xI ?_
 refine zc rfl (ze rfl yo (zb rfl)) xT ?_
 refine zc rfl (y6 rfl ty2 wR y5 rfl) x9 ?_
 refine zc rfl (zr rfl xE rfl rfl) xS ?_
 refine zc rfl (ze rfl yo (zb rfl)) wE ?_
 refine zc rfl (zr rfl x4 rfl rfl) yC ?_
 refine zc rfl (y6 rfl ty2 wR yl rfl) yz ?_
 refine zc rfl (zr rfl xu yh rfl) yL ?_
 refine zK hF (fun v1 hv1 hF=>?_)
 refine xD rfl (zz rfl rfl rfl (zg yX (zg yJ zu)) (.cons (zb rfl) (.cons (zb rfl) .nil))) (xw (T1:=[]) (T':=[(v1).length]) (ok39 (by rw [wj];rfl) hv1) rfl rfl) yO ?_
 refine zc rfl (zi rfl yE (zb rfl)) yK ?_
 refine zf (zj (zO ?_))
 obtain rfl:=Option.some.inj hF
 refine zA rfl (zE yG zB) (fin_tok ?_)
 exact ⟨rfl,rfl⟩
theorem ok58 {tl:Nat} {b0:(List UInt8)} {d1:GDot} {res:(List UInt8)} {h:AH} (htl:h.toks.length=tl) (hF:xZ b0 d1=some res):Spec Try.prog 58 [.osl (some tl) 1 (b0.map yH),.agg [.int .u8 d1.actor.rep,.int .u32 d1.actor.inc,.int .u64 d1.seq]] (h.ext [] [b0.length]) (fun rr hh=>rr=.osl (some tl) 1 (res.map yH)∧hh=h.ext [] [res.length]):=by
 unfold xZ at hF
 subst htl
 refine yA Try.func58 rfl (by kernel_rfl) (env:=[.osl (some (h.toks.length+0)) 1 (b0.map yH),.agg [.int .u8 d1.actor.rep,.int .u32 d1.actor.inc,.int .u64 d1.seq],za,za,za,za,za,za,za,za,za,za,za,za,za,za,za,za,za,za,za,za,za,za]) (by rfl) ?_
 refine zn (zd ?_)
 refine zc rfl (xP (n:=0) rfl yd (zb rfl) rfl rfl) xj ?_
 refine zc rfl (xP (n:=1) rfl yo (zb rfl) rfl rfl) wA ?_
 refine zc rfl (zi rfl rfl (xk el75)) yK ?_
 refine zf (zj (zn (zd ?_)))
 refine zc rfl (s_makeFunc rfl rfl rfl) xT ?_
 refine zc rfl (zi rfl y5 (zb rfl)) xI ?_
 refine zf (zj (zn (zd ?_)))
 refine zc rfl (ze rfl yX (zb rfl)) x9 ?_
 refine zc rfl (zk rfl qP yY rfl) xS ?_
 refine zc rfl (zk rfl fo51x0 xu rfl) wE ?_
 refine zc rfl (zy rfl ty5 x4 rfl (zt rfl) (zb rfl)) yC ?_
 refine zc rfl (y6 rfl ty5 wR yl rfl) yz ?_
 refine zK hF (fun v1 hv1 hF=>?_)
 refine ops_inl (args:=[.int .u64 (IntKind.wrap .u64 (d1.actor.rep)),.ptr (h.blks.length+0) 0]) (X:=Unit) (v:=.tup []) (H':=fun _=>h.ext [.cells [.osl (some (h.toks.length+0)) 1 (v1.map yH)],.cells [.int .u8 d1.actor.rep,.int .u32 d1.actor.inc,.int .u64 d1.seq]] [(v1).length]) rfl (s_callC rfl rfl xE (zg yh zu) (.cons (zb rfl) .nil) rfl) ?_ yL (fun _=>?_)
 ·replace hF:=hv1
  refine yA Try.func70 rfl (by kernel_rfl) (env:=[.int .u64 (IntKind.wrap .u64 (d1.actor.rep)),.ptr (h.blks.length+0) 0,za,za,za,za]) (by rfl) ?_
  refine zd ?_
  refine zc rfl (zy rfl ty75 yo rfl (zt rfl) (zb rfl)) wA ?_
  refine zc rfl (ze rfl yd (zb rfl)) yK ?_
  refine zK hF (fun v3 hv3 hF=>?_)
  refine xD rfl (zz rfl rfl rfl (zg yY (zg yG zu)) (.cons (zb rfl) (.cons (zb rfl) .nil))) (xw (T1:=[]) (T':=[(v3).length]) (ok39 (by rw [wj];rfl) hv3) rfl rfl) xI ?_
  refine zc rfl (yk (cs':=[.osl (some (h.toks.length+0)) 1 (v3.map yH)]) rfl ty75 yo yX (zb rfl) rfl rfl rfl rfl rfl) rfl ?_
  refine zf (vF ?_)
  obtain rfl:=Option.some.inj hF
  refine xf rfl zB (x5 ?_)
  exact ⟨rfl,(),rfl⟩
 ·refine zf (zj (zn (zd ?_)))
  refine zc rfl (ze rfl yX (zb rfl)) yO ?_
  refine zc rfl (zk rfl qP yY rfl) yS ?_
  refine zc rfl (zk rfl fo51x1 yP rfl) yW ?_
  refine zc rfl (zy rfl ty49 yU rfl (zt rfl) (zb rfl)) xa ?_
  refine zc rfl (y6 rfl ty49 wR yR rfl) xd ?_
  refine zK hF (fun v4 hv4 hF=>?_)
  refine ops_inl (args:=[.int .u64 (IntKind.wrap .u64 (d1.actor.inc)),.ptr (h.blks.length+0) 0]) (X:=Unit) (v:=.tup []) (H':=fun _=>h.ext [.cells [.osl (some (h.toks.length+0)) 1 (v4.map yH)],.cells [.int .u8 d1.actor.rep,.int .u32 d1.actor.inc,.int .u64 d1.seq]] [(v4).length]) rfl (s_callC rfl rfl yE (zg xb zu) (.cons (zb rfl) .nil) rfl) ?_ xq (fun _=>?_)
  ·replace hF:=hv4
   refine yA Try.func70 rfl (by kernel_rfl) (env:=[.int .u64 (IntKind.wrap .u64 (d1.actor.inc)),.ptr (h.blks.length+0) 0,za,za,za,za]) (by rfl) ?_
   refine zd ?_
   refine zc rfl (zy rfl ty75 yo rfl (zt rfl) (zb rfl)) wA ?_
   refine zc rfl (ze rfl yd (zb rfl)) yK ?_
   refine zK hF (fun v6 hv6 hF=>?_)
   refine xD rfl (zz rfl rfl rfl (zg yY (zg yG zu)) (.cons (zb rfl) (.cons (zb rfl) .nil))) (xw (T1:=[]) (T':=[(v6).length]) (ok39 (by rw [wj];rfl) hv6) rfl rfl) xI ?_
   refine zc rfl (yk (cs':=[.osl (some (h.toks.length+0)) 1 (v6.map yH)]) rfl ty75 yo yX (zb rfl) rfl rfl rfl rfl rfl) rfl ?_
   refine zf (vF ?_)
   obtain rfl:=Option.some.inj hF
   refine xf rfl zB (x5 ?_)
   exact ⟨rfl,(),rfl⟩
  ·refine zf (zj (zn (zd ?_)))
   refine zc rfl (ze rfl yX (zb rfl)) xr ?_
   refine zc rfl (zk rfl fo53x1 yY rfl) xV ?_
   refine zc rfl (zy rfl wR xi rfl (zt rfl) (zb rfl)) xU ?_
   refine zK hF (fun v7 hv7 hF=>?_)
   refine ops_inl (args:=[.int .u64 d1.seq,.ptr (h.blks.length+0) 0]) (X:=Unit) (v:=.tup []) (H':=fun _=>h.ext [.cells [.osl (some (h.toks.length+0)) 1 (v7.map yH)],.cells [.int .u8 d1.actor.rep,.int .u32 d1.actor.inc,.int .u64 d1.seq]] [(v7).length]) rfl (s_callC rfl rfl xz (zg xY zu) (.cons (zb rfl) .nil) rfl) ?_ wa (fun _=>?_)
   ·replace hF:=hv7
    refine yA Try.func70 rfl (by kernel_rfl) (env:=[.int .u64 d1.seq,.ptr (h.blks.length+0) 0,za,za,za,za]) (by rfl) ?_
    refine zd ?_
    refine zc rfl (zy rfl ty75 yo rfl (zt rfl) (zb rfl)) wA ?_
    refine zc rfl (ze rfl yd (zb rfl)) yK ?_
    refine zK hF (fun v9 hv9 hF=>?_)
    refine xD rfl (zz rfl rfl rfl (zg yY (zg yG zu)) (.cons (zb rfl) (.cons (zb rfl) .nil))) (xw (T1:=[]) (T':=[(v9).length]) (ok39 (by rw [wj];rfl) hv9) rfl rfl) xI ?_
    refine zc rfl (yk (cs':=[.osl (some (h.toks.length+0)) 1 (v9.map yH)]) rfl ty75 yo yX (zb rfl) rfl rfl rfl rfl rfl) rfl ?_
    refine zf (vF ?_)
    obtain rfl:=Option.some.inj hF
    refine xf rfl zB (x5 ?_)
    exact ⟨rfl,(),rfl⟩
   ·refine zf (zj (zn (zd ?_)))
    refine zc rfl (zy rfl ty75 yQ rfl (zt rfl) (zb rfl)) wh ?_
    refine zc rfl (zi rfl xH (zb rfl)) yK ?_
    refine zf (zj (zO ?_))
    obtain rfl:=Option.some.inj hF
    refine zA rfl (zE yG zB) (fin_tok ?_)
    exact ⟨rfl,rfl⟩
theorem ok41 {tl:Nat} {b0:(List UInt8)} {l1:GLeaf} {res:(List UInt8)} {h:AH} (htl:h.toks.length=tl) (hF:vq b0 l1=some res):Spec Try.prog 41 [.osl (some tl) 1 (b0.map yH),.agg [.int .u8 l1.typ,.int .i64 l1.n,.int .u64 l1.time,.int .u8 l1.dot.actor.rep,.int .u32 l1.dot.actor.inc,.int .u64 l1.dot.seq,.str l1.text,.sl 5 (l1.items.map GItem.row),.sl 3 (l1.tombs.map GDot.row)]] (h.ext [] [b0.length]) (fun rr hh=>rr=.osl (some tl) 1 (res.map yH)∧hh=h.ext [] [res.length]):=by
 unfold vq at hF
 subst htl
 refine yA Try.func41 rfl (by kernel_rfl) (env:=[.osl (some (h.toks.length+0)) 1 (b0.map yH),.agg [.int .u8 l1.typ,.int .i64 l1.n,.int .u64 l1.time,.int .u8 l1.dot.actor.rep,.int .u32 l1.dot.actor.inc,.int .u64 l1.dot.seq,.str l1.text,.sl 5 (l1.items.map GItem.row),.sl 3 (l1.tombs.map GDot.row)],za,za,za,za,za,za,za,za,za,za,za,za,za,za,za,za,za,za,za,za,za,za,za,za,za,za,za,za,za,za,za,za,za,za,za,za,za,za,za,za,za,za,za,za,za,za,za,za,za,za,za,za,za,za,za,za,za,za,za,za,za,za,za,za,za,za]) (by rfl) ?_
 refine zn (zd ?_)
 refine zc rfl (xP (n:=0) rfl yo (zb rfl) rfl rfl) wA ?_
 refine zc rfl (zi rfl rfl (xk el75)) yK ?_
 refine zf (zj (zn ?_))
 refine yr [6,9] [(6,[(0,.cells [.int .u8 l1.typ,.int .i64 l1.n,.int .u64 l1.time,.int .u8 l1.dot.actor.rep,.int .u32 l1.dot.actor.inc,.int .u64 l1.dot.seq,.str l1.text,.sl 5 (l1.items.map GItem.row),.sl 3 (l1.tombs.map GDot.row)])]),(9,[(0,.cells [.int .u8 l1.typ,.int .i64 l1.n,.int .u64 l1.time,.int .u8 l1.dot.actor.rep,.int .u32 l1.dot.actor.inc,.int .u64 l1.dot.seq,.str l1.text,.sl 5 (l1.items.map GItem.row),.sl 3 (l1.tombs.map GDot.row)])])] ⟨⟨rfl,trivial⟩,⟨rfl,trivial⟩,trivial⟩ xF (by kernel_rfl) ?_
 refine zo rfl rfl (ze rfl yd (zb rfl)) wE ?_
 refine zo rfl rfl (zk rfl qb yY rfl) yC ?_
 refine zo rfl rfl (zy rfl ty5 yl rfl (zt rfl) (zb rfl)) yz ?_
 refine zo rfl rfl (y6 rfl ty5 wR yh rfl) yL ?_
 refine zK hF (fun v1 hv1 hF=>?_)
 refine xA rfl (FOk.cons (.inr (wC ⟨rfl,trivial⟩)) (FOk.cons (.inr (wC ⟨rfl,trivial⟩)) FOk.nil)) (by rfl) rfl (zz rfl rfl rfl (zg x4 (zg yJ zu)) (.cons (zb rfl) (.cons (zb rfl) .nil))) (xw (T1:=[]) (T':=[(v1).length]) (ok39 (by rw [wj];rfl) hv1) rfl rfl) yO ?_
 refine zo rfl rfl (zk rfl fo59x1 yY rfl) yS ?_
 refine qc rfl rfl (by rintro _ ⟨B2,T2,rfl,hk2⟩;exact zy rfl ty2 yP (keeps1 hk2) (zt rfl) (zb rfl)) yW ?_
 refine zK hF (fun v2 hv2 hF=>?_)
 refine xA rfl (FOk.cons (.inr (wC ⟨rfl,trivial⟩)) (FOk.cons (.inr (wC ⟨rfl,trivial⟩)) FOk.nil)) (by rfl) rfl (zz rfl rfl rfl (zg yE (zg yU zu)) (.cons (zb rfl) (.cons (zb rfl) .nil))) (xw (T1:=[]) (T':=[(v2).length]) (ok57 (by rw [wj];rfl) hv2) rfl rfl) xa ?_
 refine zo rfl rfl (zk rfl fo59x2 yY rfl) xd ?_
 refine qc rfl rfl (by rintro _ ⟨B2,T2,rfl,hk2⟩;exact zy rfl wR xb (keeps1 hk2) (zt rfl) (zb rfl)) xq ?_
 refine zK hF (fun v3 hv3 hF=>?_)
 refine xA rfl (FOk.cons (.inr (wC ⟨rfl,trivial⟩)) (FOk.cons (.inr (wC ⟨rfl,trivial⟩)) FOk.nil)) (by rfl) rfl (zz rfl rfl rfl (zg yR (zg yD zu)) (.cons (zb rfl) (.cons (zb rfl) .nil))) (xw (T1:=[]) (T':=[(v3).length]) (ok39 (by rw [wj];rfl) hv3) rfl rfl) xr ?_
 refine zo rfl rfl (zi rfl xz (zb rfl)) st0 ?_
 refine yc ?_
 refine zj (zn ?_)
 refine yr [5,8] [(5,[(0,.cells [.int .u8 l1.typ,.int .i64 l1.n,.int .u64 l1.time,.int .u8 l1.dot.actor.rep,.int .u32 l1.dot.actor.inc,.int .u64 l1.dot.seq,.str l1.text,.sl 5 (l1.items.map GItem.row),.sl 3 (l1.tombs.map GDot.row)])]),(8,[(0,.cells [.int .u8 l1.typ,.int .i64 l1.n,.int .u64 l1.time,.int .u8 l1.dot.actor.rep,.int .u32 l1.dot.actor.inc,.int .u64 l1.dot.seq,.str l1.text,.sl 5 (l1.items.map GItem.row),.sl 3 (l1.tombs.map GDot.row)])])] ⟨⟨rfl,trivial⟩,⟨rfl,trivial⟩,trivial⟩ xF (by kernel_rfl) ?_
 refine zo rfl rfl (ze rfl yd (zb rfl)) xV ?_
 refine zo rfl rfl (zk rfl fo59x3 yY rfl) xU ?_
 refine zo rfl rfl (zy rfl ty53.choose_spec.1 xY rfl (zF (cs':=[.int .u8 l1.dot.actor.rep,.int .u32 l1.dot.actor.inc,.int .u64 l1.dot.seq]) ty53.choose_spec.2 rfl rfl) (zb rfl)) wa ?_
 refine zK hF (fun v4 hv4 hF=>?_)
 refine xA rfl (FOk.cons (.inr (wC ⟨rfl,trivial⟩)) (FOk.cons (.inr (wC ⟨rfl,trivial⟩)) FOk.nil)) (by rfl) rfl (zz rfl rfl rfl (zg xi (zg wb zu)) (.cons (zb rfl) (.cons (zb rfl) .nil))) (xw (T1:=[]) (T':=[(v4).length]) (ok58 (by rw [wj];rfl) hv4) rfl rfl) wh ?_
 refine zo rfl rfl (zk rfl fo59x4 yY rfl) wu ?_
 refine qc rfl rfl (by rintro _ ⟨B2,T2,rfl,hk2⟩;exact zy rfl ty9 xg (keeps1 hk2) (zt rfl) (zb rfl)) wB ?_
 refine zK hF (fun v5 hv5 hF=>?_)
 refine xA rfl (FOk.cons (.inr (wC ⟨rfl,trivial⟩)) (FOk.cons (.inr (wC ⟨rfl,trivial⟩)) FOk.nil)) (by rfl) rfl (zz rfl rfl rfl (zg xH (zg ww zu)) (.cons (zb rfl) (.cons (zb rfl) .nil))) (xw (T1:=[]) (T':=[(v5).length]) (ok40 (by rw [wj];rfl) hv5) rfl rfl) va ?_
 refine zo rfl rfl (zk rfl wq yY rfl) wV ?_
 refine qc rfl rfl (by rintro _ ⟨B2,T2,rfl,hk2⟩;exact zy rfl ty57 wX (keeps1 hk2) (zt rfl) (zb rfl)) vm ?_
 refine draw_len rfl rfl (zX rfl rfl rfl rfl vV vo z8) vu ?_
 refine zo rfl rfl (y6 rfl ty3 wR vy rfl) vt ?_
 refine zK hF (fun v7 hv7 hF=>?_)
 refine xA rfl (FOk.cons (.inr (wC ⟨rfl,trivial⟩)) (FOk.cons (.inr (wC ⟨rfl,trivial⟩)) FOk.nil)) (by rfl) rfl (zz rfl rfl rfl (zg vg (zg vn zu)) (.cons (zb rfl) (.cons (zb rfl) .nil))) (xw (T1:=[]) (T':=[(v7).length]) (ok39 (by rw [wj];rfl) hv7) rfl rfl) vr ?_
 refine zo rfl rfl (zi rfl vU (zb rfl)) st0 ?_
 refine yc ?_
 refine zj (zn (zn (zd ?_)))
 refine zc rfl (zk rfl wq yY rfl) wU ?_
 refine zc rfl (zy rfl ty57 wM rfl (zt rfl) (zb rfl)) w9 ?_
 refine z7 rfl (zX rfl rfl rfl rfl vV wW z8) wT fun hn8=>?_
 replace hn8:=xG hn8
 refine zc rfl (ze rfl rfl (zb rfl)) wS ?_
 refine zf (zj (zI ?_))
 refine yw (fun (n1:Nat) (s1:(List UInt8))=>yv [1,2,4,5,6,7,8,9,10,11,12,13,14,15,16,17,18,19,20,21,22,23,24,25,26,27,28,29,30,31,32,36,37,38,39,40,41,42,43,44,45,46,47,48,49,50,51,52,53,54,55,56,57,58,59,60,61,62,63,64,65,66,67] [(0,.osl (some (h.toks.length+0)) 1 (s1.map yH)),(35,.int .i64 (n1:Int))]) (fun s1=>h.ext [.cells [.int .u8 l1.typ,.int .i64 l1.n,.int .u64 l1.time,.int .u8 l1.dot.actor.rep,.int .u32 l1.dot.actor.inc,.int .u64 l1.dot.seq,.str l1.text,.sl 5 (l1.items.map GItem.row),.sl 3 (l1.tombs.map GDot.row)]] [(s1).length]) hF (fun _ _=>by simp only [yv,upd,List.set_cons_succ,List.set_cons_zero];try rfl) (wk.le (by exact (.cons (leV.of_eq rfl) (.drop (.drop (.eq (.d16 (.d4 (.d4 (.d4 (.drop (.eq (.eq (.cons (leV.of_eq rfl) (.d16 (.d16 leL.nil)))))))))))))))) ?_
 intro n1 s1 hi1 hF
 refine zn (zd ?_)
 refine zc rfl (zr rfl wP wL rfl) w8 ?_
 refine zf (zj (zn ?_))
 refine y7 vf hF (fun x1 o1 hl1 hx1 hF hK1=>?_) (fun hF=>?_)
 ·refine zH (zj (zn (zI (zn (zd ?_)))))
  refine zc rfl (yM rfl vV wW wP qI (xl hx1)) wZ ?_
  refine zc rfl (yf rfl ty56.choose_spec.1 ve (zF (cs':=[.int .u64 x1.time,.int .u8 x1.dot.actor.rep,.int .u32 x1.dot.actor.inc,.int .u64 x1.dot.seq,.str x1.text]) ty56.choose_spec.2 rfl rfl) (zb rfl)) vD ?_
  refine zc rfl (xn (n:=1) rfl ze56 rfl) xT ?_
  refine zc rfl (yk (cs':=[.int .u64 x1.time,.int .u8 x1.dot.actor.rep,.int .u32 x1.dot.actor.inc,.int .u64 x1.dot.seq,.str x1.text]) rfl ty56.choose_spec.1 y5 vJ (zb rfl) rfl rfl rfl rfl rfl) rfl ?_
  refine zf (zj ?_)
  refine yr [5,8] [(5,[(1,.cells [.int .u64 x1.time,.int .u8 x1.dot.actor.rep,.int .u32 x1.dot.actor.inc,.int .u64 x1.dot.seq,.str x1.text])]),(8,[(1,.cells [.int .u64 x1.time,.int .u8 x1.dot.actor.rep,.int .u32 x1.dot.actor.inc,.int .u64 x1.dot.seq,.str x1.text])])] ⟨⟨rfl,trivial⟩,⟨rfl,trivial⟩,trivial⟩ xF (by kernel_rfl) ?_
  refine zo rfl rfl (ze rfl yd (zb rfl)) vC ?_
  refine zo rfl rfl (zk rfl fo56x0 y5 rfl) (sk st0) ?_
  refine zo rfl rfl (zy rfl wR (gk yd) rfl (zt rfl) (zb rfl)) (sk st1) ?_
  refine zK hF (fun v25 hv25 hF=>?_)
  refine xA rfl (FOk.cons (.inr (wC ⟨rfl,trivial⟩)) (FOk.cons (.inr (wC ⟨rfl,trivial⟩)) FOk.nil)) (by rfl) rfl (zz rfl rfl rfl (zg vI (zg (gk yo) zu)) (.cons (zb rfl) (.cons (zb rfl) .nil))) (xw (T1:=[]) (T':=[(v25).length]) (ok39 (by rw [wj];rfl) hv25) rfl rfl) (sk xj) ?_
  refine zo rfl rfl (zk rfl fo56x1 y5 rfl) (sk wA) ?_
  refine qc rfl rfl (by rintro _ ⟨B2,T2,rfl,hk2⟩;exact zy rfl ty53.choose_spec.1 (gk yY) (keeps1 hk2) (zF (cs':=[.int .u8 x1.dot.actor.rep,.int .u32 x1.dot.actor.inc,.int .u64 x1.dot.seq]) ty53.choose_spec.2 rfl rfl) (zb rfl)) (sk yK) ?_
  refine zK hF (fun v26 hv26 hF=>?_)
  refine xA rfl (FOk.cons (.inr (wC ⟨rfl,trivial⟩)) (FOk.cons (.inr (wC ⟨rfl,trivial⟩)) FOk.nil)) (by rfl) rfl (zz rfl rfl rfl (zg (gk yQ) (zg (gk yG) zu)) (.cons (zb rfl) (.cons (zb rfl) .nil))) (xw (T1:=[]) (T':=[(v26).length]) (ok58 (by rw [wj];rfl) hv26) rfl rfl) (sk xI) ?_
  refine zo rfl rfl (zk rfl fo56x2 y5 rfl) (sk xT) ?_
  refine qc rfl rfl (by rintro _ ⟨B2,T2,rfl,hk2⟩;exact zy rfl ty9 (gk y5) (keeps1 hk2) (zt rfl) (zb rfl)) (sk x9) ?_
  refine zK hF (fun v27 hv27 hF=>?_)
  refine xA rfl (FOk.cons (.inr (wC ⟨rfl,trivial⟩)) (FOk.cons (.inr (wC ⟨rfl,trivial⟩)) FOk.nil)) (by rfl) rfl (zz rfl rfl rfl (zg (gk yX) (zg (gk xE) zu)) (.cons (zb rfl) (.cons (zb rfl) .nil))) (xw (T1:=[]) (T':=[(v27).length]) (ok40 (by rw [wj];rfl) hv27) rfl rfl) (sk xS) ?_
  refine zo rfl rfl (zi rfl (gk xu) (zb rfl)) st0 ?_
  refine yc ?_
  refine zY (zj (zd ?_))
  refine zc rfl (zr rfl wP rfl rfl) (sk wE) ?_
  refine zc rfl (ze rfl (gk x4) (zb rfl)) wS ?_
  refine zf (yi ?_)
  obtain rfl:=Option.some.inj hF
  exact ⟨v27,hl1,hK1,wk.trans (wk.le (by exact (.cons (leV.of_eq rfl) (.drop (.drop (.eq (.d16 (.d4 (.d4 (.d4 (.drop (.eq (.eq (.cons (leV.of_eq (qp (by omega) (by omega))) (.d16 (.d16 leL.nil)))))))))))))))) (wD (by simp [z9,AV.low]) rfl rfl (by simp [Blk.low,z9,AV.low]))⟩
 ·refine yy ?_
  refine zT ?_
  refine zP ?_
  refine zQ ?_
  refine zj (zn (zd ?_))
  refine zc rfl (ze rfl yd (zb rfl)) (sk yC) ?_
  refine zc rfl (zk rfl vh yY rfl) (sk yz) ?_
  refine zc rfl (zy rfl ty26 (gk yh) rfl (zt rfl) (zb rfl)) (sk yL) ?_
  refine z7 rfl (zX rfl rfl rfl rfl qK (gk yJ) z8) (sk yO) fun hn28=>?_
  replace hn28:=xG hn28
  refine zc rfl (y6 rfl ty3 wR (gk yE) rfl) (sk yS) ?_
  refine zK hF (fun v29 hv29 hF=>?_)
  refine xD rfl (zz rfl rfl rfl (zg (gk yl) (zg (gk yP) zu)) (.cons (zb rfl) (.cons (zb rfl) .nil))) (xw (T1:=[]) (T':=[(v29).length]) (ok39 (by rw [wj];rfl) hv29) rfl rfl) (sk yW) ?_
  refine zc rfl (zi rfl (gk yU) (zb rfl)) st0 ?_
  refine zf (zj (zn (zn (zd ?_))))
  refine zc rfl (zk rfl vh yY rfl) (sk xa) ?_
  refine zc rfl (zy rfl ty26 (gk yR) rfl (zt rfl) (zb rfl)) (sk xd) ?_
  refine z7 rfl (zX rfl rfl rfl rfl qK (gk xb) z8) (sk xq) fun hn30=>?_
  replace hn30:=xG hn30
  refine zc rfl (ze rfl rfl (zb rfl)) (sk xr) ?_
  refine zf (zj (zI ?_))
  refine yw (fun (n2:Nat) (s2:(List UInt8))=>yv [1,2,3,4,5,6,7,8,9,10,11,12,13,14,15,16,17,18,19,20,21,22,23,24,25,26,27,28,29,30,31,32,33,34,35,36,37,38,39,40,41,42,43,44,45,46,47,48,49,50,51,52,53,54,55,56,60,61,62,63,64,65,66,67] [(0,.osl (some (h.toks.length+0)) 1 (s2.map yH)),(59,.int .i64 (n2:Int))]) (fun s2=>h.ext [.cells [.int .u8 l1.typ,.int .i64 l1.n,.int .u64 l1.time,.int .u8 l1.dot.actor.rep,.int .u32 l1.dot.actor.inc,.int .u64 l1.dot.seq,.str l1.text,.sl 5 (l1.items.map GItem.row),.sl 3 (l1.tombs.map GDot.row)]] [(s2).length]) hF (fun _ _=>by simp only [yv,upd,List.set_cons_succ,List.set_cons_zero];try rfl) (wk.le (by exact (.cons (leV.of_eq rfl) (.d16 (.d16 (.d16 (.d4 (.d4 (.eq (.eq (.cons (leV.of_eq rfl) (.d4 (.d4 leL.nil))))))))))))) ?_
  intro n2 s2 hi2 hF
  refine zn (zd ?_)
  refine zc rfl (zr rfl (gk xz) (gk yD) rfl) (sk xV) ?_
  refine zf (zj (zn ?_))
  refine y7 (gk xi) hF (fun x2 o2 hl2 hx2 hF hK2=>?_) (fun hF=>?_)
  ·refine zH (zj (zn (zI (zn (zd ?_)))))
   refine zc rfl (yM rfl qK (gk xb) (gk xz) qI (xl hx2)) (sk xU) ?_
   refine zc rfl (yf rfl ty53.choose_spec.1 (gk xY) (zF (cs':=[.int .u8 x2.actor.rep,.int .u32 x2.actor.inc,.int .u64 x2.seq]) ty53.choose_spec.2 rfl rfl) (zb rfl)) (sk wa) ?_
   refine zc rfl (xn (n:=1) rfl ze53 rfl) xS ?_
   refine zc rfl (yk (cs':=[.int .u8 x2.actor.rep,.int .u32 x2.actor.inc,.int .u64 x2.seq]) rfl ty53.choose_spec.1 xu (gk wb) (zb rfl) rfl rfl rfl rfl rfl) rfl ?_
   refine zf (zj (zd ?_))
   refine zc rfl (ze rfl yd (zb rfl)) (sk wh) ?_
   refine zc rfl (zy rfl ty53.choose_spec.1 xu rfl (zF (cs':=[.int .u8 x2.actor.rep,.int .u32 x2.actor.inc,.int .u64 x2.seq]) ty53.choose_spec.2 rfl rfl) (zb rfl)) (sk wu) ?_
   refine zK hF (fun v45 hv45 hF=>?_)
   refine xD rfl (zz rfl rfl rfl (zg (gk xH) (zg (gk xg) zu)) (.cons (zb rfl) (.cons (zb rfl) .nil))) (xw (T1:=[]) (T':=[(v45).length]) (ok58 (by rw [wj];rfl) hv45) rfl rfl) (sk wB) ?_
   refine zc rfl (zi rfl (gk ww) (zb rfl)) st0 ?_
   refine zf (zY (zj (zd ?_)))
   refine zc rfl (zr rfl (gk xz) rfl rfl) (sk va) ?_
   refine zc rfl (ze rfl (gk vg) (zb rfl)) (sk xr) ?_
   refine zf (yi ?_)
   obtain rfl:=Option.some.inj hF
   exact ⟨v45,hl2,hK2,wk.trans (wk.le (by exact (.cons (leV.of_eq rfl) (.d16 (.d16 (.d16 (.d4 (.d4 (.eq (.eq (.cons (leV.of_eq (qp (by omega) (by omega))) (.d4 (.d4 leL.nil))))))))))))) (wD (by simp [z9,AV.low]) rfl rfl (by simp [Blk.low,z9,AV.low]))⟩
  ·refine yy ?_
   refine zT ?_
   refine zP ?_
   refine zQ ?_
   refine zj (zn (zd ?_))
   refine zc rfl (ze rfl yd (zb rfl)) (sk wV) ?_
   refine zc rfl (zi rfl (gk wX) (zb rfl)) yK ?_
   refine zf (zj (zO ?_))
   obtain rfl:=Option.some.inj hF
   refine zA rfl (zE yG zB) (fin_tok ?_)
   exact ⟨rfl,rfl⟩
theorem ok27N (n:Nat):∀ {tl:Nat} {b0:(List UInt8)} {t1:(List GNode)} {res:(List UInt8)} {h:AH} (htl:h.toks.length=tl),wH n b0 t1=some res→Spec Try.prog 27 [.osl (some tl) 1 (b0.map yH),.sl 3 (t1.map GNode.row)] (h.ext [] [b0.length]) (fun rr hh=>rr=.osl (some tl) 1 (res.map yH)∧hh=h.ext [] [res.length]):=by
 induction n with
 | zero=>intro tl b0 t1 res h htl hF;simp [wH] at hF
 | succ n ih =>
  intro tl b0 t1 res h htl hF
  unfold wH at hF
  subst htl
  refine yA Try.func27 rfl (by kernel_rfl) (env:=[.osl (some (h.toks.length+0)) 1 (b0.map yH),.sl 3 (t1.map GNode.row),za,za,za,za,za,za,za,za,za,za,za,za,za,za,za,za,za,za,za,za,za,za,za,za,za,za,za,za,za,za,za,za,za,za,za,za,za,za,za,za,za,za,za,za]) (by rfl) ?_
  refine zn (zd ?_)
  refine zc rfl (zi rfl rfl (xk el75)) yK ?_
  refine zf (zj (zn (zd ?_)))
  refine zc rfl (ze rfl yd (zb rfl)) wE ?_
  refine zc rfl (ze rfl yo (zb rfl)) yC ?_
  refine z7 rfl (zX rfl rfl rfl rfl qA yl z8) yz fun hn1=>?_
  replace hn1:=xG hn1
  refine zc rfl (y6 rfl ty3 wR yh rfl) yL ?_
  refine zK hF (fun v2 hv2 hF=>?_)
  refine xD rfl (zz rfl rfl rfl (zg x4 (zg yJ zu)) (.cons (zb rfl) (.cons (zb rfl) .nil))) (xw (T1:=[]) (T':=[(v2).length]) (ok39 (by rw [wj];rfl) hv2) rfl rfl) yO ?_
  refine zc rfl (zi rfl yE (zb rfl)) st0 ?_
  refine zf (zj (zn (zn (zd ?_))))
  refine zc rfl (ze rfl yo (zb rfl)) yS ?_
  refine z7 rfl (zX rfl rfl rfl rfl qA yP z8) yW fun hn3=>?_
  replace hn3:=xG hn3
  refine zc rfl (ze rfl rfl (zb rfl)) xa ?_
  refine zf (zj (zI ?_))
  refine yw (fun (n1:Nat) (s1:(List UInt8))=>yv [1,2,3,4,5,6,7,8,9,10,11,12,13,17,18,19,20,21,22,23,24,25,26,27,28,29,30,31,32,33,34,35,36,37,38,39,40,41,42,43,44,45] [(0,.osl (some (h.toks.length+0)) 1 (s1.map yH)),(16,.int .i64 (n1:Int))]) (fun s1=>h.ext [] [(s1).length]) hF (fun _ _=>by simp only [yv,upd,List.set_cons_succ,List.set_cons_zero];try rfl) (wk.le (by exact (.cons (leV.of_eq rfl) (.d4 (.d4 (.d4 (.drop (.eq (.eq (.cons (leV.of_eq rfl) (.d16 (.d4 (.d4 (.d4 (.drop leL.nil))))))))))))))) ?_
  intro n1 s1 hi1 hF
  refine zn (zd ?_)
  refine zc rfl (zr rfl yR yU rfl) xd ?_
  refine zf (zj (zn ?_))
  refine y7 xb hF (fun x1 o1 hl1 hx1 hF hK1=>?_) (fun hF=>?_)
  ·refine zH (zj (zn (zI (zn (zd ?_)))))
   refine zc rfl (we rfl qA yP yR qI (xl hx1) (GNode.row_eq _)) xq ?_
   refine zc rfl (yf rfl ty41.choose_spec.1 yD (zF (cs':=[.str x1.name,.sl 9 (x1.leaves.map GLeaf.row),.sl 3 (x1.subs.map GNode.row)]) ty41.choose_spec.2 rfl rfl) (zb rfl)) xr ?_
   refine zc rfl (xn (n:=0) rfl ze41 rfl) xT ?_
   refine zc rfl (yk (cs':=[.str x1.name,.sl 9 (x1.leaves.map GLeaf.row),.sl 3 (x1.subs.map GNode.row)]) rfl ty41.choose_spec.1 y5 xz (zb rfl) rfl rfl rfl rfl rfl) rfl ?_
   refine zf (zj (zn ?_))
   refine yr [5] [(5,[(0,.cells [.str x1.name,.sl 9 (x1.leaves.map GLeaf.row),.sl 3 (x1.subs.map GNode.row)])])] ⟨⟨rfl,trivial⟩,trivial⟩ xF (by kernel_rfl) ?_
   refine zo rfl rfl (ze rfl yd (zb rfl)) xV ?_
   refine zo rfl rfl (zk rfl fo41x0 y5 rfl) xU ?_
   refine zo rfl rfl (zy rfl ty9 xY rfl (zt rfl) (zb rfl)) wa ?_
   refine zK hF (fun v23 hv23 hF=>?_)
   refine xA rfl (FOk.cons (.inr (wC ⟨rfl,trivial⟩)) FOk.nil) (by rfl) rfl (zz rfl rfl rfl (zg xi (zg wb zu)) (.cons (zb rfl) (.cons (zb rfl) .nil))) (xw (T1:=[]) (T':=[(v23).length]) (ok40 (by rw [wj];rfl) hv23) rfl rfl) wh ?_
   refine zo rfl rfl (zk rfl qz y5 rfl) wu ?_
   refine qc rfl rfl (by rintro _ ⟨B2,T2,rfl,hk2⟩;exact zy rfl ty39 xg (keeps1 hk2) (zt rfl) (zb rfl)) wB ?_
   refine draw_len rfl rfl (zX rfl rfl rfl rfl el39 ww z8) va ?_
   refine zo rfl rfl (y6 rfl ty3 wR vg rfl) wV ?_
   refine zK hF (fun v25 hv25 hF=>?_)
   refine xA rfl (FOk.cons (.inr (wC ⟨rfl,trivial⟩)) FOk.nil) (by rfl) rfl (zz rfl rfl rfl (zg xH (zg wX zu)) (.cons (zb rfl) (.cons (zb rfl) .nil))) (xw (T1:=[]) (T':=[(v25).length]) (ok39 (by rw [wj];rfl) hv25) rfl rfl) vm ?_
   refine zo rfl rfl (zi rfl vo (zb rfl)) st0 ?_
   refine yc ?_
   refine zj (zn (zn (zd ?_)))
   refine zc rfl (zk rfl qz y5 rfl) vu ?_
   refine zc rfl (zy rfl ty39 vy rfl (zt rfl) (zb rfl)) vt ?_
   refine z7 rfl (zX rfl rfl rfl rfl el39 vn z8) vr fun hn26=>?_
   replace hn26:=xG hn26
   refine zc rfl (ze rfl rfl (zb rfl)) wU ?_
   refine zf (zj (zI ?_))
   refine yw (fun (n2:Nat) (s2:(List UInt8))=>yv [1,2,3,4,5,7,8,9,10,11,12,13,17,18,19,20,21,22,23,24,25,26,27,28,29,33,34,35,36,37,38,39,40,41,42,43,44,45] [(0,.osl (some (h.toks.length+0)) 1 (s2.map yH)),(32,.int .i64 (n2:Int))]) (fun s2=>h.ext [.cells [.str x1.name,.sl 9 (x1.leaves.map GLeaf.row),.sl 3 (x1.subs.map GNode.row)]] [(s2).length]) hF (fun _ _=>by simp only [yv,upd,List.set_cons_succ,List.set_cons_zero];try rfl) (wk.le (by exact (.cons (leV.of_eq rfl) (.d4 (.drop (.eq (.d4 (.drop (.drop (.drop (.eq (.eq (.eq (.d4 (.d4 (.d4 (.drop (.eq (.eq (.cons (leV.of_eq rfl) (.d4 (.d4 (.d4 (.drop leL.nil)))))))))))))))))))))))) ?_
   intro n2 s2 hi2 hF
   refine zn (zd ?_)
   refine zc rfl (zr rfl wM vU rfl) w9 ?_
   refine zf (zj (zn ?_))
   refine y7 wW hF (fun x2 o2 hl2 hx2 hF hK2=>?_) (fun hF=>?_)
   ·refine zH (zj (zn (zI (zn (zd ?_)))))
    refine zc rfl (yM rfl el39 vn wM qI (xl hx2)) wT ?_
    refine zc rfl (yf rfl ty59.choose_spec.1 wL (zF (cs':=[.int .u8 x2.typ,.int .i64 x2.n,.int .u64 x2.time,.int .u8 x2.dot.actor.rep,.int .u32 x2.dot.actor.inc,.int .u64 x2.dot.seq,.str x2.text,.sl 5 (x2.items.map GItem.row),.sl 3 (x2.tombs.map GDot.row)]) ty59.choose_spec.2 rfl rfl) (zb rfl)) wS ?_
    refine zc rfl (xn (n:=1) rfl ze59 rfl) xS ?_
    refine zc rfl (yk (cs':=[.int .u8 x2.typ,.int .i64 x2.n,.int .u64 x2.time,.int .u8 x2.dot.actor.rep,.int .u32 x2.dot.actor.inc,.int .u64 x2.dot.seq,.str x2.text,.sl 5 (x2.items.map GItem.row),.sl 3 (x2.tombs.map GDot.row)]) rfl ty59.choose_spec.1 xu wP (zb rfl) rfl rfl rfl rfl rfl) rfl ?_
    refine zf (zj (zd ?_))
    refine zc rfl (ze rfl yd (zb rfl)) w8 ?_
    refine zc rfl (zy rfl ty59.choose_spec.1 xu rfl (zF (cs':=[.int .u8 x2.typ,.int .i64 x2.n,.int .u64 x2.time,.int .u8 x2.dot.actor.rep,.int .u32 x2.dot.actor.inc,.int .u64 x2.dot.seq,.str x2.text,.sl 5 (x2.items.map GItem.row),.sl 3 (x2.tombs.map GDot.row)]) ty59.choose_spec.2 rfl rfl) (zb rfl)) wZ ?_
    refine zK hF (fun v35 hv35 hF=>?_)
    refine xD rfl (zz rfl rfl rfl (zg vf (zg ve zu)) (.cons (zb rfl) (.cons (zb rfl) .nil))) (xw (T1:=[]) (T':=[(v35).length]) (ok41 (by rw [wj];rfl) hv35) rfl rfl) vD ?_
    refine zc rfl (zi rfl vJ (zb rfl)) st0 ?_
    refine zf (zY (zj (zd ?_)))
    refine zc rfl (zr rfl wM rfl rfl) vC ?_
    refine zc rfl (ze rfl vI (zb rfl)) wU ?_
    refine zf (yi ?_)
    obtain rfl:=Option.some.inj hF
    exact ⟨v35,hl2,hK2,wk.trans (wk.le (by exact (.cons (leV.of_eq rfl) (.d4 (.drop (.eq (.d4 (.drop (.drop (.drop (.eq (.eq (.eq (.d4 (.d4 (.d4 (.drop (.eq (.eq (.cons (leV.of_eq (qp (by omega) (by omega))) (.d4 (.d4 (.d4 (.drop leL.nil)))))))))))))))))))))))) (wD (by simp [z9,AV.low]) rfl rfl (by simp [Blk.low,z9,AV.low]))⟩
   ·refine yy ?_
    refine zT ?_
    refine zP ?_
    refine zQ ?_
    refine zj (zd ?_)
    refine zc rfl (ze rfl yd (zb rfl)) (sk st0) ?_
    refine zc rfl (zk rfl fo41x2 y5 rfl) (sk st1) ?_
    refine zc rfl (zy rfl ty23 (gk yo) rfl (zt rfl) (zb rfl)) (sk xj) ?_
    refine zK hF (fun v36 hv36 hF=>?_)
    refine xD rfl (zz rfl rfl rfl (zg (gk yd) (zg (gk yQ) zu)) (.cons (zb rfl) (.cons (zb rfl) .nil))) (xw (T1:=[]) (T':=[(v36).length]) (ih (by rw [wj];rfl) hv36) rfl rfl) (sk wA) ?_
    refine zc rfl (zi rfl (gk yY) (zb rfl)) st0 ?_
    refine zf (zY (zj (zd ?_)))
    refine zc rfl (zr rfl yR rfl rfl) (sk yK) ?_
    refine zc rfl (ze rfl (gk yG) (zb rfl)) xa ?_
    refine zf (yi ?_)
    obtain rfl:=Option.some.inj hF
    exact ⟨v36,hl1,hK1,wk.trans (wk.le (by exact (.cons (leV.of_eq rfl) (.d4 (.d4 (.d4 (.drop (.eq (.eq (.cons (leV.of_eq (qp (by omega) (by omega))) (.d16 (.d4 (.d4 (.d4 (.drop leL.nil))))))))))))))) (wD (by simp [z9,AV.low]) rfl rfl (by simp [Blk.low,z9,AV.low]))⟩
  ·refine yy ?_
   refine zT ?_
   refine zP ?_
   refine zQ ?_
   refine zj (zn (zd ?_))
   refine zc rfl (ze rfl yd (zb rfl)) (sk xI) ?_
   refine zc rfl (zi rfl (gk yX) (zb rfl)) yK ?_
   refine zf (zj (zO ?_))
   obtain rfl:=Option.some.inj hF
   refine zA rfl (zE yG zB) (fin_tok ?_)
   exact ⟨rfl,rfl⟩
theorem ok27 {tl:Nat} {b0:(List UInt8)} {t1:(List GNode)} {res:(List UInt8)} {h:AH} (htl:h.toks.length=tl) (hF:statePut b0 t1=some res):Spec Try.prog 27 [.osl (some tl) 1 (b0.map yH),.sl 3 (t1.map GNode.row)] (h.ext [] [b0.length]) (fun rr hh=>rr=.osl (some tl) 1 (res.map yH)∧hh=h.ext [] [res.length]):=by
 obtain ⟨n,hn⟩:=anyN_is hF
 exact ok27N n htl hn
theorem ok16 {name0:yg} {t1:(List GNode)} {res:GQuota} {h:AH}  (hF:vP name0 t1=some res):Spec Try.prog 16 [.str name0,.sl 3 (t1.map GNode.row)] h (fun rr hh=>rr=.agg [.str res.name,.int .i64 res.leaves,.int .i64 res.items,.int .i64 res.tombs,.int .i64 res.bytes]∧hh=h):=by
 unfold vP at hF
 refine zw Try.func16 rfl (by kernel_rfl) (env:=[.str name0,.sl 3 (t1.map GNode.row),za,za,za,za,za,za,za,za,za,za,za,za,za,za,za,za,za,za,za,za,za,za,za,za,za,za,za,za,za,za,za,za,za,za,za,za,za,za,za,za]) (by rfl) ?_
 refine zn (zd ?_)
 refine zc rfl (xn (n:=0) rfl ze36 rfl) yK ?_
 refine zf (zj (zn (zd ?_)))
 refine zc rfl (ze rfl yd (zb rfl)) xS ?_
 refine zc rfl (ze rfl yo (zb rfl)) wE ?_
 refine zK hF (fun v1 hv1 hF=>?_)
 refine xD rfl (zz rfl rfl rfl (zg rfl (zg x4 zu)) (.cons (xk el75) (.cons (zb rfl) .nil))) (tok_call0 (m:=0) (T':=[(v1).length]) (ok27 (by rw [wj];rfl) hv1) rfl rfl) yC ?_
 refine z7 rfl (zX rfl rfl rfl rfl el75 yl lenMapO) yz fun hn2=>?_
 replace hn2:=xG hn2
 refine zc rfl (vw (cs':=[.str name0,.int .i64 (0:Int),.int .i64 (0:Int),.int .i64 (0:Int),.int .i64 ((v1).length:Int)]) rfl su36 ze36 pl36 (zZ xu (zZ yh yb)) (.cons (zb rfl) (.cons (zb rfl) .nil)) rfl rfl) yL ?_
 refine zc rfl (xn (n:=1) rfl ze36 rfl) xI ?_
 refine zc rfl (yk (cs':=[.str name0,.int .i64 (0:Int),.int .i64 (0:Int),.int .i64 (0:Int),.int .i64 ((v1).length:Int)]) rfl ty36.choose_spec.1 yX yJ (zb rfl) rfl rfl rfl rfl rfl) rfl ?_
 refine zf (zj (zn (zn (zd ?_))))
 refine zc rfl (ze rfl yo (zb rfl)) yO ?_
 refine zK hF (fun v3 hv3 hF=>?_)
 refine zU rfl (zz rfl rfl rfl (zg yE zu) (.cons (zb rfl) .nil)) (ok17 hv3) yS ?_
 refine z7 rfl (zX rfl rfl rfl rfl wo yP z8) yW fun hn4=>?_
 replace hn4:=xG hn4
 refine zc rfl (ze rfl rfl (zb rfl)) xa ?_
 refine zf (zj (zI ?_))
 refine yw (fun (n1:Nat) (s1:Int×Int×Int)=>yv [0,1,2,3,6,7,8,9,10,11,12,13,17,18,19,20,21,22,23,24,25,26,27,28,29,30,31,32,33,34,35,36,37,38,39,40,41] [(16,.int .i64 (n1:Int))]) (fun s1=>h.ext [.cells [.str ([]:yg),.int .i64 (0:Int),.int .i64 (0:Int),.int .i64 (0:Int),.int .i64 (0:Int)],.cells [.str name0,.int .i64 s1.1,.int .i64 s1.2.1,.int .i64 s1.2.2,.int .i64 ((v1).length:Int)]] [(v1).length]) hF (fun _ _=>by simp only [yv,upd,List.set_cons_succ,List.set_cons_zero];try rfl) (wk.le (by exact (.d4 (.eq (.eq (.d4 (.d4 (.eq (.eq (.cons (leV.of_eq rfl) (.d16 (.d4 (.d4 (.drop leL.nil)))))))))))))) ?_
 intro n1 s1 hi1 hF
 refine zn (zd ?_)
 refine zc rfl (zr rfl yR yU rfl) xd ?_
 refine zf (zj (zn ?_))
 refine y7 xb hF (fun x1 o1 hl1 hx1 hF hK1=>?_) (fun hF=>?_)
 ·refine zH (zj (zn (zI (zn (zd ?_)))))
  refine zc rfl (yM rfl wo yP yR qI (xl hx1)) xq ?_
  refine zc rfl (yf rfl ty63.choose_spec.1 yD (zF (cs':=[.sl 1 (x1.path.map zR),.int .u8 x1.leaf.typ,.int .i64 x1.leaf.n,.int .u64 x1.leaf.time,.int .u8 x1.leaf.dot.actor.rep,.int .u32 x1.leaf.dot.actor.inc,.int .u64 x1.leaf.dot.seq,.str x1.leaf.text,.sl 5 (x1.leaf.items.map GItem.row),.sl 3 (x1.leaf.tombs.map GDot.row)]) ty63.choose_spec.2 rfl rfl) (zb rfl)) xr ?_
  refine zc rfl (xn (n:=2) rfl ze63 rfl) x9 ?_
  refine zc rfl (yk (cs':=[.sl 1 (x1.path.map zR),.int .u8 x1.leaf.typ,.int .i64 x1.leaf.n,.int .u64 x1.leaf.time,.int .u8 x1.leaf.dot.actor.rep,.int .u32 x1.leaf.dot.actor.inc,.int .u64 x1.leaf.dot.seq,.str x1.leaf.text,.sl 5 (x1.leaf.items.map GItem.row),.sl 3 (x1.leaf.tombs.map GDot.row)]) rfl ty63.choose_spec.1 xE xz (zb rfl) rfl rfl rfl rfl rfl) rfl ?_
  refine zf (zj (zn (zd ?_)))
  refine zc rfl (zk rfl fo36x1 yX rfl) xV ?_
  refine zc rfl (zy rfl ty3 xi rfl (zt rfl) (zb rfl)) xU ?_
  refine zc rfl (zr rfl xY rfl rfl) wa ?_
  refine zc rfl (zk rfl fo36x1 yX rfl) wh ?_
  refine zc rfl (yk (cs':=[.str name0,.int .i64 (IntKind.wrap .i64 (s1.1+(1:Int))),.int .i64 s1.2.1,.int .i64 s1.2.2,.int .i64 ((v1).length:Int)]) rfl ty3 xH wb (zb rfl) rfl rfl rfl rfl rfl) rfl ?_
  refine zf (zj (zn (zd ?_)))
  refine zc rfl (zk rfl fo36x2 yX rfl) wu ?_
  refine zc rfl (zy rfl ty3 xg rfl (zt rfl) (zb rfl)) wB ?_
  refine zc rfl (zk rfl fo63x1 xE rfl) va ?_
  refine zc rfl (zk rfl wq vg rfl) wV ?_
  refine zc rfl (zy rfl ty57 wX rfl (zt rfl) (zb rfl)) vm ?_
  refine z7 rfl (zX rfl rfl rfl rfl vV vo z8) vu fun hn20=>?_
  replace hn20:=xG hn20
  refine zc rfl (zr rfl ww vy rfl) vt ?_
  refine zc rfl (zk rfl fo36x2 yX rfl) vr ?_
  refine zc rfl (yk (cs':=[.str name0,.int .i64 (IntKind.wrap .i64 (s1.1+(1:Int))),.int .i64 (IntKind.wrap .i64 (s1.2.1+((x1.leaf.items).length:Int))),.int .i64 s1.2.2,.int .i64 ((v1).length:Int)]) rfl ty3 vU vn (zb rfl) rfl rfl rfl rfl rfl) rfl ?_
  refine zf (zj (zd ?_))
  refine zc rfl (zk rfl fo36x3 yX rfl) wU ?_
  refine zc rfl (zy rfl ty3 wM rfl (zt rfl) (zb rfl)) w9 ?_
  refine zc rfl (zk rfl fo63x1 xE rfl) wT ?_
  refine zc rfl (zk rfl vh wL rfl) wS ?_
  refine zc rfl (zy rfl ty26 wP rfl (zt rfl) (zb rfl)) w8 ?_
  refine z7 rfl (zX rfl rfl rfl rfl qK vf z8) wZ fun hn21=>?_
  replace hn21:=xG hn21
  refine zc rfl (zr rfl wW ve rfl) vD ?_
  refine zc rfl (zk rfl fo36x3 yX rfl) vC ?_
  refine zc rfl (yk (cs':=[.str name0,.int .i64 (IntKind.wrap .i64 (s1.1+(1:Int))),.int .i64 (IntKind.wrap .i64 (s1.2.1+((x1.leaf.items).length:Int))),.int .i64 (IntKind.wrap .i64 (s1.2.2+((x1.leaf.tombs).length:Int))),.int .i64 ((v1).length:Int)]) rfl ty3 vI vJ (zb rfl) rfl rfl rfl rfl rfl) rfl ?_
  refine zf (zY (zj (zd ?_)))
  refine zc rfl (zr rfl yR rfl rfl) (sk st0) ?_
  refine zc rfl (ze rfl (gk yd) (zb rfl)) xa ?_
  refine zf (yi ?_)
  obtain rfl:=Option.some.inj hF
  exact ⟨((IntKind.wrap .i64 (s1.1+(1:Int))),(IntKind.wrap .i64 (s1.2.1+((x1.leaf.items).length:Int))),(IntKind.wrap .i64 (s1.2.2+((x1.leaf.tombs).length:Int)))),hl1,hK1,wk.trans (wk.le (by exact (.d4 (.eq (.eq (.d4 (.d4 (.eq (.eq (.cons (leV.of_eq (qp (by omega) (by omega))) (.d16 (.d4 (.d4 (.drop leL.nil)))))))))))))) (wD (by simp [z9,AV.low]) rfl rfl (by simp [Blk.low,z9,AV.low]))⟩
 ·refine yy ?_
  refine zT ?_
  refine zP ?_
  refine zQ ?_
  refine zj (zn (zd ?_))
  refine zc rfl (zy rfl ty36.choose_spec.1 yX rfl (zF (cs':=[.str name0,.int .i64 s1.1,.int .i64 s1.2.1,.int .i64 s1.2.2,.int .i64 ((v1).length:Int)]) ty36.choose_spec.2 rfl rfl) (zb rfl)) (sk st1) ?_
  refine zc rfl (yk (cs':=[.str name0,.int .i64 s1.1,.int .i64 s1.2.1,.int .i64 s1.2.2,.int .i64 ((v1).length:Int)]) rfl ty36.choose_spec.1 yG (gk yo) (zb rfl) rfl rfl rfl rfl rfl) rfl ?_
  refine zf (zj (zO ?_))
  obtain rfl:=Option.some.inj hF
  refine zA rfl (rl_cell ty36.choose_spec.1 yG rfl (zF (cs':=[.str name0,.int .i64 s1.1,.int .i64 s1.2.1,.int .i64 s1.2.2,.int .i64 ((v1).length:Int)]) ty36.choose_spec.2 rfl rfl) (zb rfl) zB) (zD (leV.refl _) rfl ?_)
  exact ⟨rfl,rfl⟩
theorem ok7 {t0:(List GNode)} {res:((List GQuota)×Int)} {h:AH}  (hF:q9 t0=some res):Spec Try.prog 7 [.sl 3 (t0.map GNode.row)] h (fun rr hh=>rr=.tup [.sl 5 (res.1.map GQuota.row),.int .i64 res.2]∧hh=h):=by
 unfold q9 at hF
 refine zw Try.func7 rfl (by kernel_rfl) (env:=[.sl 3 (t0.map GNode.row),za,za,za,za,za,za,za,za,za,za,za,za,za,za,za,za,za,za,za,za,za,za,za,za,za,za,za,za]) (by rfl) ?_
 refine zn (zd ?_)
 refine zc rfl (zi rfl rfl (xk el31)) xj ?_
 refine zc rfl (zi rfl rfl (zb rfl)) wA ?_
 refine zf (zj (zn (zn (zd ?_))))
 refine zc rfl (ze rfl yd (zb rfl)) xT ?_
 refine zK hF (fun v1 hv1 hF=>?_)
 refine zU rfl (zz rfl rfl rfl (zg y5 zu) (.cons (zb rfl) .nil)) (ok15 hv1) x9 ?_
 refine zc rfl (qm rfl xE rfl) xS ?_
 refine zf (zj ?_)
 refine zG xu hF (fun hc2 hF=>?_) (fun hc2 hF=>?_)
 ·refine zn (zd ?_)
  refine zc rfl (zi rfl rfl (xk el31)) xj ?_
  refine zc rfl (zi rfl rfl (zb rfl)) wA ?_
  refine zf (zj (zO (zC ?_)))
  obtain rfl:=Option.some.inj hF
  refine q_retL rfl (zE yQ (zE yY zB)) (zD (leV.tup (.cons (leV.osl _ _ _) (.eq leL.nil))) rfl ?_)
  exact ⟨rfl,rfl⟩
 ·refine zH (zj (zn (zn (zd ?_))))
  refine zc rfl (ze rfl yd (zb rfl)) wE ?_
  refine z7 rfl (zX rfl rfl rfl rfl qA x4 z8) yC fun hn3=>?_
  replace hn3:=xG hn3
  refine zc rfl (ze rfl rfl (zb rfl)) yz ?_
  refine zf (zj (zI ?_))
  refine yw (fun (n1:Nat) (s1:(List GQuota))=>yv [1,3,4,5,6,7,8,12,13,14,15,16,17,18,19,20,21,22,23,24,25,26,27,28] [(2,.osl (some (h.toks.length+0)) 5 (s1.map GQuota.row)),(11,.int .i64 (n1:Int))]) (fun s1=>h.ext [] [(s1).length]) hF (fun _ _=>by simp only [yv,upd,List.set_cons_succ,List.set_cons_zero];try rfl) (wk.trans (wk_tok yQ rfl xj rfl) (wk.le (by exact (.eq (.drop (.cons (leV.of_eq rfl) (.d4 (.drop (.drop (.eq (.eq (.cons (leV.of_eq rfl) (.d16 (.drop leL.nil)))))))))))))) ?_
  intro n1 s1 hi1 hF
  refine zn (zd ?_)
  refine zc rfl (zr rfl yh yl rfl) yL ?_
  refine zf (zj (zn ?_))
  refine y7 yJ hF (fun x1 o1 hl1 hx1 hF hK1=>?_) (fun hF=>?_)
  ·refine zH (zj (zn (zI (zn (zd ?_)))))
   refine zc rfl (ze rfl yh (zb rfl)) yO ?_
   refine zc rfl (we rfl qA x4 yh qI (xl hx1) (GNode.row_eq _)) yS ?_
   refine zc rfl (yf rfl ty41.choose_spec.1 yP (zF (cs':=[.str x1.name,.sl 9 (x1.leaves.map GLeaf.row),.sl 3 (x1.subs.map GNode.row)]) ty41.choose_spec.2 rfl rfl) (zb rfl)) yW ?_
   refine zc rfl (xn (n:=0) rfl ze41 rfl) xI ?_
   refine zc rfl (zi rfl yE (zb rfl)) yK ?_
   refine zc rfl (yk (cs':=[.str x1.name,.sl 9 (x1.leaves.map GLeaf.row),.sl 3 (x1.subs.map GNode.row)]) rfl ty41.choose_spec.1 yX yU (zb rfl) rfl rfl rfl rfl rfl) rfl ?_
   refine zf (zj ?_)
   refine yr [8] [] trivial xF (by kernel_rfl) ?_
   refine zo rfl rfl (ze rfl yQ (zb rfl)) xa ?_
   refine zo rfl rfl (zk rfl fo41x0 yX rfl) xd ?_
   refine zo rfl rfl (zy rfl ty9 xb rfl (zt rfl) (zb rfl)) xq ?_
   refine zo rfl rfl (ze rfl yd (zb rfl)) xr ?_
   refine zo rfl rfl (ze rfl yG (zb rfl)) xV ?_
   refine zo rfl rfl (ze rfl yG (zb rfl)) xU ?_
   refine zo rfl rfl (zr rfl xY rfl rfl) wa ?_
   refine zK hF (fun m11 hm11 hF=>?_)
   refine zo rfl rfl (s_slcSl rfl qA xz (.inl rfl) (.some xi) (.some wb) hm11) wh ?_
   refine zK hF (fun v12 hv12 hF=>?_)
   refine xc rfl rfl (fun _=>zz rfl rfl rfl (zg yD (zg xH zu)) (.cons (zb rfl) (.cons (zb rfl) .nil))) (by rintro _ ⟨B2,T2,rfl,hk2⟩;exact ok16 hv12) wu ?_
   refine zo rfl rfl (yn (es:=([v12]:List GQuota).map GQuota.row) rfl el31 ze36 rfl rfl (zZ xg yb) (.cons (zb rfl) .nil) rfl rfl rfl) wB ?_
   refine wc hF (fun hm13 hF=>?_)
   refine draw_okH rfl (FOk.cons (.inr (wC trivial)) FOk.nil) (by rfl) rfl (e_appT (j:=0) (T':=[((s1++([v12]:List GQuota))).length]) rfl rfl rfl rfl el31 el31 yR ww (zb rfl) (zb rfl) news_osl hm13 rfl rfl) va ?_
   refine zo rfl rfl (zi rfl vg (zb rfl)) xj ?_
   refine yc ?_
   refine zY (zj (zd ?_))
   refine zc rfl (zr rfl yh rfl rfl) wV ?_
   refine zc rfl (ze rfl wX (zb rfl)) yz ?_
   refine zf (yi ?_)
   obtain rfl:=Option.some.inj hF
   exact ⟨(s1++([v12]:List GQuota)),hl1,hK1,wk.trans (wk.le (by exact (.eq (.drop (.cons (leV.of_eq rfl) (.d4 (.drop (.drop (.eq (.eq (.cons (leV.of_eq (qp (by omega) (by omega))) (.d16 (.drop leL.nil))))))))))))) (wD (by simp [z9,AV.low]) rfl rfl (by simp [Blk.low,z9,AV.low]))⟩
  ·refine yy ?_
   refine zT ?_
   refine zP ?_
   refine zQ ?_
   refine zj (zn (zd ?_))
   refine zc rfl (ze rfl yQ (zb rfl)) vm ?_
   refine zc rfl (zi rfl vo (zb rfl)) xj ?_
   refine zc rfl (zi rfl rfl (zb rfl)) wA ?_
   refine zf (zj (zO ?_))
   obtain rfl:=Option.some.inj hF
   refine q_retL rfl (zE yQ (zE yY zB)) (zD (leV.tup (.cons (leV.osl _ _ _) (.eq leL.nil))) rfl ?_)
   exact ⟨rfl,rfl⟩
theorem ok6  {res:Bool} {h:AH}  (hF:qG  = some res):Spec Try.prog 6 [] h (fun rr hh=>rr=.bool res∧hh=h):=by
 unfold qG at hF
 refine zw Try.func6 rfl (by kernel_rfl) (env:=[za,za,za,za,za,za,za,za,za,za,za,za,za,za,za,za,za,za,za,za,za,za,za,za,za,za,za,za,za,za,za,za,za,za,za,za,za,za,za,za,za,za,za,za,za,za,za,za,za,za,za,za,za,za,za,za,za,za,za,za,za,za,za,za,za,za,za,za]) (by rfl) ?_
 refine zn (zd ?_)
 refine zc rfl (zi rfl rfl (zb rfl)) st0 ?_
 refine zf (zj (zn (zd ?_)))
 refine zc rfl (zi rfl rfl (zb rfl)) st1 ?_
 refine zf (zj (zn (zd ?_)))
 refine zc rfl (ze rfl yo (zb rfl)) xI ?_
 refine zK hF (fun v1 hv1 hF=>?_)
 refine zU rfl (zz rfl rfl yX (zg rfl zu) (.cons (zb rfl) .nil)) (ok14 hv1) xT ?_
 refine zc rfl (vw (cs':=[.int .u64 (0:Int),.int .u8 v1.actor.rep,.int .u32 v1.actor.inc,.int .u64 v1.seq,.str ([]:yg)]) rfl su56 ze56 pl56 (zZ y5 yb) (.cons (zb rfl) .nil) rfl rfl) x9 ?_
 refine zc rfl (ze rfl yo (zb rfl)) xS ?_
 refine zK hF (fun v2 hv2 hF=>?_)
 refine zU rfl (zz rfl rfl xu (zg rfl zu) (.cons (zb rfl) .nil)) (ok14 hv2) wE ?_
 refine zc rfl (vw (cs':=[.int .u64 (0:Int),.int .u8 v2.actor.rep,.int .u32 v2.actor.inc,.int .u64 v2.seq,.str ([]:yg)]) rfl su56 ze56 pl56 (zZ x4 yb) (.cons (zb rfl) .nil) rfl rfl) yC ?_
 refine zc rfl (yn (es:=([(GItem.mk (0:Int) v1 ([]:yg)),(GItem.mk (0:Int) v2 ([]:yg))]:List GItem).map GItem.row) rfl vV ze56 rfl rfl (zZ xE (zZ yl yb)) (.cons (zb rfl) (.cons (zb rfl) .nil)) rfl rfl rfl) yz ?_
 refine zc rfl (ze rfl yo (zb rfl)) yL ?_
 refine zK hF (fun v3 hv3 hF=>?_)
 refine zU rfl (zz rfl rfl yJ (zg rfl zu) (.cons (zb rfl) .nil)) (ok14 hv3) yO ?_
 refine zc rfl (yn (es:=([v3]:List GDot).map GDot.row) rfl qK ze53 rfl rfl (zZ yE yb) (.cons (zb rfl) .nil) rfl rfl rfl) yS ?_
 refine zc rfl (vw (cs':=[.int .u8 (3:Int),.int .i64 (0:Int),.int .u64 (0:Int),.int .u8 (0:Int),.int .u32 (0:Int),.int .u64 (0:Int),.str ([]:yg),.osl none 5 (([(GItem.mk (0:Int) v1 ([]:yg)),(GItem.mk (0:Int) v2 ([]:yg))]:List GItem).map GItem.row),.osl none 3 (([v3]:List GDot).map GDot.row)]) rfl su59 ze59 pl59 (zZ rfl (zZ yh (zZ yP yb))) (.cons (zb rfl) (.cons (zb rfl) (.cons (zb rfl) .nil))) rfl rfl) yW ?_
 refine zc rfl (xn (n:=0) rfl ze59 rfl) xj ?_
 refine zc rfl (yk (cs':=[.int .u8 (3:Int),.int .i64 (0:Int),.int .u64 (0:Int),.int .u8 (0:Int),.int .u32 (0:Int),.int .u64 (0:Int),.str ([]:yg),.osl none 5 (([(GItem.mk (0:Int) v1 ([]:yg)),(GItem.mk (0:Int) v2 ([]:yg))]:List GItem).map GItem.row),.osl none 3 (([v3]:List GDot).map GDot.row)]) rfl ty59.choose_spec.1 yQ yU (zb rfl) rfl rfl rfl rfl rfl) rfl ?_
 refine zf (zj (zn (zd ?_)))
 refine zc rfl (zy rfl ty59.choose_spec.1 yQ rfl (zF (cs':=[.int .u8 (3:Int),.int .i64 (0:Int),.int .u64 (0:Int),.int .u8 (0:Int),.int .u32 (0:Int),.int .u64 (0:Int),.str ([]:yg),.osl none 5 (([(GItem.mk (0:Int) v1 ([]:yg)),(GItem.mk (0:Int) v2 ([]:yg))]:List GItem).map GItem.row),.osl none 3 (([v3]:List GDot).map GDot.row)]) ty59.choose_spec.2 rfl rfl) (zb rfl)) xd ?_
 refine zc rfl (yn (es:=([(GLeaf.mk (3:Int) (0:Int) (0:Int) (GDot.mk (GActor.mk (0:Int) (0:Int)) (0:Int)) ([]:yg) ([(GItem.mk (0:Int) v1 ([]:yg)),(GItem.mk (0:Int) v2 ([]:yg))]:List GItem) ([v3]:List GDot))]:List GLeaf).map GLeaf.row) rfl el39 ze59 rfl rfl (zZ xb yb) (.cons (zb rfl) .nil) rfl rfl rfl) xq ?_
 refine zc rfl (vw (cs':=[.str ([98]:yg),.osl none 9 (([(GLeaf.mk (3:Int) (0:Int) (0:Int) (GDot.mk (GActor.mk (0:Int) (0:Int)) (0:Int)) ([]:yg) ([(GItem.mk (0:Int) v1 ([]:yg)),(GItem.mk (0:Int) v2 ([]:yg))]:List GItem) ([v3]:List GDot))]:List GLeaf).map GLeaf.row),.osl none 3 (([]:List GNode).map GNode.row)]) rfl su41 ze41 pl41 (zZ rfl (zZ yD yb)) (.cons (zb rfl) (.cons (zb rfl) .nil)) rfl rfl) xr ?_
 refine zc rfl (yn (es:=([(GNode.mk ([98]:yg) ([(GLeaf.mk (3:Int) (0:Int) (0:Int) (GDot.mk (GActor.mk (0:Int) (0:Int)) (0:Int)) ([]:yg) ([(GItem.mk (0:Int) v1 ([]:yg)),(GItem.mk (0:Int) v2 ([]:yg))]:List GItem) ([v3]:List GDot))]:List GLeaf) ([]:List GNode))]:List GNode).map GNode.row) rfl qA ze41 rfl rfl (zZ xz yb) (.cons (zb rfl) .nil) rfl rfl (by simp only [List.map_cons,List.map_nil,GNode.row_eq];rfl)) xV ?_
 refine zc rfl (vw (cs':=[.str ([97]:yg),.osl none 9 (([]:List GLeaf).map GLeaf.row),.osl none 3 (([(GNode.mk ([98]:yg) ([(GLeaf.mk (3:Int) (0:Int) (0:Int) (GDot.mk (GActor.mk (0:Int) (0:Int)) (0:Int)) ([]:yg) ([(GItem.mk (0:Int) v1 ([]:yg)),(GItem.mk (0:Int) v2 ([]:yg))]:List GItem) ([v3]:List GDot))]:List GLeaf) ([]:List GNode))]:List GNode).map GNode.row)]) rfl su41 ze41 pl41 (zZ rfl (zZ xi yb)) (.cons (zb rfl) (.cons (zb rfl) .nil)) rfl rfl) xU ?_
 refine zc rfl (yn (es:=([(GNode.mk ([97]:yg) ([]:List GLeaf) ([(GNode.mk ([98]:yg) ([(GLeaf.mk (3:Int) (0:Int) (0:Int) (GDot.mk (GActor.mk (0:Int) (0:Int)) (0:Int)) ([]:yg) ([(GItem.mk (0:Int) v1 ([]:yg)),(GItem.mk (0:Int) v2 ([]:yg))]:List GItem) ([v3]:List GDot))]:List GLeaf) ([]:List GNode))]:List GNode))]:List GNode).map GNode.row) rfl qA ze41 rfl rfl (zZ xY yb) (.cons (zb rfl) .nil) rfl rfl (by simp only [List.map_cons,List.map_nil,GNode.row_eq];rfl)) wa ?_
 refine zK hF (fun v4 hv4 hF=>?_)
 refine zU rfl (zz rfl rfl rfl (zg wb zu) (.cons (zb rfl) .nil)) ((ok7 hv4).le (.cons (leV.osl _ _ _) leL.nil)) wh ?_
 refine zc rfl (ze rfl xH (zb rfl)) xa ?_
 refine zc rfl (vb rfl yR rfl (zb rfl)) wu ?_
 refine zc rfl (vb rfl yR rfl (zb rfl)) wB ?_
 refine zc rfl (zi rfl xg (zb rfl)) wA ?_
 refine zc rfl (zi rfl ww (zb rfl)) yK ?_
 refine zf (zj (zn (zd ?_)))
 refine zc rfl (ze rfl yG (zb rfl)) va ?_
 refine zc rfl (zr rfl vg rfl rfl) wV ?_
 refine zc rfl (ze rfl wX (zb rfl)) vm ?_
 refine zq rfl (fun hb=>ze rfl yY (zb rfl)) vu ?_
 refine vc rfl (fun hb=>zX rfl rfl rfl rfl el31 (zp vy hb) z8) vt fun hn5=>?_
 refine zq rfl (fun hb=>zr rfl (zp vn hb) rfl rfl) vr ?_
 refine zc rfl (zM rfl vo vU rfl (zS (fun ht=>gT ht))) wU ?_
 refine zc rfl (ze rfl wM (zb rfl)) w9 ?_
 refine zq rfl (fun hb=>ze rfl yY (zb rfl)) wT ?_
 refine wc hF (fun hg6 hF=>?_)
 refine zq rfl (fun hb=>xM default rfl el31 (zp wL hb) rfl qI (hg6 hb)) wS ?_
 refine zq rfl (fun hb=>zk rfl fo36x0 (zp wP hb) rfl) w8 ?_
 refine zq rfl (fun hb=>yf rfl ty9 (zp vf hb) (zt rfl) (zb rfl)) wZ ?_
 refine zq rfl (fun hb=>zr rfl (zp ve hb) rfl rfl) vD ?_
 refine zc rfl (zM rfl wW vJ rfl (zS (fun ht=>gT ht))) vC ?_
 refine zc rfl (ze rfl vI (zb rfl)) (sk st0) ?_
 refine zq rfl (fun hb=>ze rfl yY (zb rfl)) (sk st1) ?_
 refine wc hF (fun hg7 hF=>?_)
 refine zq rfl (fun hb=>xM default rfl el31 (zp (gk yo) hb) rfl qI (hg7 hb)) (sk xj) ?_
 refine zq rfl (fun hb=>zk rfl fo36x1 (zp (gk yQ) hb) rfl) (sk wA) ?_
 refine zq rfl (fun hb=>yf rfl ty3 (zp (gk yY) hb) (zt rfl) (zb rfl)) (sk yK) ?_
 refine zq rfl (fun hb=>zr rfl (zp (gk yG) hb) rfl rfl) (sk xI) ?_
 refine zc rfl (zM rfl (gk yd) (gk yX) rfl (zS (fun ht=>gT ht))) (sk xT) ?_
 refine zc rfl (ze rfl (gk y5) (zb rfl)) (sk x9) ?_
 refine zq rfl (fun hb=>ze rfl yY (zb rfl)) (sk xS) ?_
 refine wc hF (fun hg8 hF=>?_)
 refine zq rfl (fun hb=>xM default rfl el31 (zp (gk xu) hb) rfl qI (hg8 hb)) (sk wE) ?_
 refine zq rfl (fun hb=>zk rfl fo36x2 (zp (gk x4) hb) rfl) (sk yC) ?_
 refine zq rfl (fun hb=>yf rfl ty3 (zp (gk yl) hb) (zt rfl) (zb rfl)) (sk yz) ?_
 refine zq rfl (fun hb=>zr rfl (zp (gk yh) hb) rfl rfl) (sk yL) ?_
 refine zc rfl (zM rfl (gk xE) (gk yJ) rfl (zS (fun ht=>gT ht))) (sk yO) ?_
 refine zc rfl (ze rfl (gk yE) (zb rfl)) (sk yS) ?_
 refine zq rfl (fun hb=>ze rfl yY (zb rfl)) (sk yW) ?_
 refine wc hF (fun hg9 hF=>?_)
 refine zq rfl (fun hb=>xM default rfl el31 (zp (gk yU) hb) rfl qI (hg9 hb)) (sk xa) ?_
 refine zq rfl (fun hb=>zk rfl fo36x3 (zp (gk yR) hb) rfl) (sk xd) ?_
 refine zq rfl (fun hb=>yf rfl ty3 (zp (gk xb) hb) (zt rfl) (zb rfl)) (sk xq) ?_
 refine zq rfl (fun hb=>zr rfl (zp (gk yD) hb) rfl rfl) (sk xr) ?_
 refine zc rfl (zM rfl (gk yP) (gk xz) rfl (zS (fun ht=>gT ht))) (sk xV) ?_
 refine zc rfl (ze rfl (gk xi) (zb rfl)) (sk xU) ?_
 refine zq rfl (fun hb=>ze rfl yY (zb rfl)) (sk wa) ?_
 refine wc hF (fun hg10 hF=>?_)
 refine zq rfl (fun hb=>xM default rfl el31 (zp (gk wb) hb) rfl qI (hg10 hb)) (sk wh) ?_
 refine zq rfl (fun hb=>zk rfl fo36x4 (zp (gk xH) hb) rfl) (sk wu) ?_
 refine zq rfl (fun hb=>yf rfl ty3 (zp (gk xg) hb) (zt rfl) (zb rfl)) (sk wB) ?_
 refine zq rfl (fun hb=>zr rfl (zp (gk ww) hb) rfl rfl) (sk va) ?_
 refine zc rfl (zM rfl (gk xY) (gk vg) rfl (zS (fun ht=>gT ht))) (sk wV) ?_
 refine zc rfl (zi rfl (gk wX) (zb rfl)) st0 ?_
 refine zf (zj (zO ?_))
 obtain rfl:=Option.some.inj hF
 refine zA rfl (zE yd zB) (zD (leV.refl _) rfl ?_)
 exact ⟨rfl,rfl⟩
theorem ok8 {t0:(List GNode)} {res:(GQuota×Int)} {h:AH}  (hF:meterAll t0=some res):Spec Try.prog 8 [.sl 3 (t0.map GNode.row)] h (fun rr hh=>rr=.tup [.agg [.str res.1.name,.int .i64 res.1.leaves,.int .i64 res.1.items,.int .i64 res.1.tombs,.int .i64 res.1.bytes],.int .i64 res.2]∧hh=h):=by
 unfold meterAll at hF
 refine zw Try.func8 rfl (by kernel_rfl) (env:=[.sl 3 (t0.map GNode.row),za,za,za,za,za,za,za,za,za]) (by rfl) ?_
 refine zn (zd ?_)
 refine zc rfl (xn (n:=0) rfl ze36 rfl) xj ?_
 refine zc rfl (zi rfl rfl (zb rfl)) wA ?_
 refine zf (zj (zn (zn (zd ?_))))
 refine zc rfl (ze rfl yd (zb rfl)) yK ?_
 refine zK hF (fun v1 hv1 hF=>?_)
 refine zU rfl (zz rfl rfl rfl (zg yG zu) (.cons (zb rfl) .nil)) (ok15 hv1) xI ?_
 refine zc rfl (qm rfl yX rfl) xT ?_
 refine zf (zj ?_)
 refine zG y5 hF (fun hc2 hF=>?_) (fun hc2 hF=>?_)
 ·refine zn (zd ?_)
  refine zc rfl (vw (cs':=[.str ([]:yg),.int .i64 (0:Int),.int .i64 (0:Int),.int .i64 (0:Int),.int .i64 (0:Int)]) rfl su36 ze36 pl36 yb .nil rfl rfl) x9 ?_
  refine zc rfl (yk (cs':=[.str ([]:yg),.int .i64 (0:Int),.int .i64 (0:Int),.int .i64 (0:Int),.int .i64 (0:Int)]) rfl ty36.choose_spec.1 yQ xE (zb rfl) rfl rfl rfl rfl rfl) rfl ?_
  refine zc rfl (zi rfl rfl (zb rfl)) wA ?_
  refine zf (zj (zO (zC ?_)))
  obtain rfl:=Option.some.inj hF
  refine q_retL rfl (rl_cell ty36.choose_spec.1 yQ rfl (zF (cs':=[.str ([]:yg),.int .i64 (0:Int),.int .i64 (0:Int),.int .i64 (0:Int),.int .i64 (0:Int)]) ty36.choose_spec.2 rfl rfl) (zb rfl) (zE yY zB)) (zD (leV.refl _) rfl ?_)
  exact ⟨rfl,rfl⟩
 ·refine zH (zj (zn (zd ?_)))
  refine zc rfl (ze rfl yd (zb rfl)) xS ?_
  refine zK hF (fun v3 hv3 hF=>?_)
  refine zU rfl (zz rfl rfl rfl (zg rfl (zg xu zu)) (.cons (zb rfl) (.cons (zb rfl) .nil))) (ok16 hv3) wE ?_
  refine zc rfl (yk (cs':=[.str v3.name,.int .i64 v3.leaves,.int .i64 v3.items,.int .i64 v3.tombs,.int .i64 v3.bytes]) rfl ty36.choose_spec.1 yQ x4 (zb rfl) rfl rfl rfl rfl rfl) rfl ?_
  refine zc rfl (zi rfl rfl (zb rfl)) wA ?_
  refine zf (zj (zO ?_))
  obtain rfl:=Option.some.inj hF
  refine q_retL rfl (rl_cell ty36.choose_spec.1 yQ rfl (zF (cs':=[.str v3.name,.int .i64 v3.leaves,.int .i64 v3.items,.int .i64 v3.tombs,.int .i64 v3.bytes]) ty36.choose_spec.2 rfl rfl) (zb rfl) (zE yY zB)) (zD (leV.refl _) rfl ?_)
  exact ⟨rfl,rfl⟩
end Go.Vv
