/- Each function that the law reaches computes what its reading says; printed by a program. -/
import Derived.Test.YtomfgjifjecioaaGreatW2
namespace Go.Vv
open Go Go.Proofs
set_option maxRecDepth 100000
set_option maxHeartbeats 1000000
set_option linter.unusedSimpArgs false
set_option linter.unusedVariables false
/-! varve/varveref04.IsName -/
theorem ok34 {s0:zH} {res:Bool} {h:AH}  (hF:ref04IsName s0=some res):Spec Tryz.prog 34 [.str s0] h (fun rr hh=>rr=.bool res∧hh=h):=by
 unfold ref04IsName at hF
 refine zt Tryz.func34 rfl (by kernel_rfl) (env:=[.str s0,za,za,za,za,za,za,za,za,za,za,za,za,za,za,za,za,za,za,za,za,za,za,za,za,za,za,za,za,za,za,za,za,za,za,za,za,za,za,za,za,za,za,za,za]) (by rfl) ?_
 refine zk (zd ?_)
 refine zc rfl (zi rfl rfl (zb rfl)) xe ?_
 refine ze (zj (zk (zk (zd ?_))))
 refine zc rfl (zf rfl yr (zb rfl)) xy ?_
 refine ya rfl (vM rfl rfl rfl rfl ty9 yM) xF fun hn1=>?_
 replace hn1:=xu hn1
 refine zc rfl (zy rfl yU rfl rfl) xJ ?_
 refine zc rfl (zf rfl xC (zb rfl)) xP ?_
 refine zp rfl (fun hb=>zf rfl yr (zb rfl)) ww ?_
 refine xA rfl (fun hb=>vM rfl rfl rfl rfl ty9 (zn xQ hb)) yI fun hn2=>?_
 refine zp rfl (fun hb=>zy rfl (zn yB hb) rfl rfl) yN ?_
 refine zc rfl (zM rfl xl rfl yA (z8 (fun ht=>gF ht))) yS ?_
 refine ze (zj ?_)
 refine zN yP hF (fun hc3 hF=>?_) (fun hc3 hF=>?_)
 ·refine zk (zd ?_)
  refine zc rfl (zi rfl rfl (zb rfl)) xe ?_
  refine ze (zj (zJ (zx ?_)))
  obtain rfl:=Option.some.inj hF
  refine zz rfl (zD yW zF) (zA (leV.refl _) rfl ?_)
  exact ⟨rfl,rfl⟩
 ·refine zK (zj (zk (zk (zd ?_))))
  refine zc rfl (zi rfl rfl (zb rfl)) wd ?_
  refine ze (zj (zQ ?_))
  refine yv (fun (n1:Nat) (s1:Unit)=>yO [1,2,4,5,6,7,8,9,10,11,12,13,14,15,16,17,18,19,20,21,22,23,24,25,26,27,28,29,30,31,32,33,34,35,36,37,38,39,40,41,42,43,44] [(3,.int .i64 (n1:Int))]) (fun s1=>h.ext [] []) hF (fun _ _=>by simp only [yO,upd,List.set_cons_succ,List.set_cons_zero];try rfl) (wk.le (by exact (.eq (.drop (.drop (.cons (leV.of_eq rfl) (.d16 (.d16 (.d4 (.d4 (.drop leL.nil))))))))))) ?_
  intro n1 s1 hi1 hF
  refine zk (zk (zd ?_))
  refine zc rfl (zf rfl xw (zb rfl)) yV ?_
  refine zc rfl (zf rfl yr (zb rfl)) y4 ?_
  refine ya rfl (vM rfl rfl rfl rfl ty9 yX) y8 fun hn10=>?_
  replace hn10:=xu hn10
  refine zc rfl (zy rfl yD yT rfl) xg ?_
  refine ze (zj ?_)
  refine yK xf hF (fun x1 o1 hl1 hx1 hF hK1=>?_) (fun hF=>?_)
  ·refine zK (zj (zk (zQ (zk (zd ?_)))))
   refine zc rfl (zf rfl yr (zb rfl)) xK ?_
   refine zc rfl (zf rfl xw (zb rfl)) x4 ?_
   refine zc rfl (s_idxStr rfl ty9 xI x5 (yL hx1)) x9 ?_
   refine zc rfl (zi rfl x6 (zb rfl)) yz ?_
   refine ze (zj (zk (zd ?_)))
   refine zc rfl (zf rfl ym (zb rfl)) wl ?_
   refine zc rfl (zy rfl wi rfl rfl) x8 ?_
   refine zc rfl (zf rfl xX (zb rfl)) we ?_
   refine zp rfl (fun hb=>zf rfl ym (zb rfl)) wo ?_
   refine zp rfl (fun hb=>zy rfl (zn wm hb) rfl rfl) wK ?_
   refine zc rfl (zM rfl wa wI rfl (zX (fun ht=>gT ht))) wR ?_
   refine zc rfl (zf rfl wV (zb rfl)) wQ ?_
   refine zp rfl (fun hb=>zf rfl ym (zb rfl)) w9 ?_
   refine zp rfl (fun hb=>zy rfl (zn vb hb) rfl rfl) w8 ?_
   refine zp rfl (fun hb=>zf rfl (zn vm hb) (zb rfl)) vh ?_
   refine zp (z7 rfl rfl rfl) (fun hb=>zf rfl ym (zb rfl)) vz ?_
   refine zp (z7 rfl rfl rfl) (fun hb=>zy rfl (zn vk hb) rfl rfl) vw ?_
   refine zp rfl (fun hb=>zM rfl (zn vl hb) vC rfl (zX (fun ht=>gT2 hb ht))) vu ?_
   refine zc rfl (zM rfl wN rfl vj (z8 (fun ht=>gF ht))) vt ?_
   refine zc rfl (zf rfl vB (zb rfl)) vg ?_
   refine zp rfl (fun hb=>zf rfl ym (zb rfl)) vr ?_
   refine zp rfl (fun hb=>zy rfl (zn vA hb) rfl rfl) vK ?_
   refine zp rfl (fun hb=>zf rfl (zn vO hb) (zb rfl)) vJ ?_
   refine zp (z7 rfl rfl rfl) (fun hb=>zf rfl ym (zb rfl)) (sk st0) ?_
   refine zp (z7 rfl rfl rfl) (fun hb=>zy rfl (zn (gk yr) hb) rfl rfl) (sk st1) ?_
   refine zp rfl (fun hb=>zM rfl (zn vG hb) (gk yE) rfl (zX (fun ht=>gT2 hb ht))) (sk xe) ?_
   refine zc rfl (zM rfl va rfl (gk yW) (z8 (fun ht=>gF ht))) (sk wd) ?_
   refine zc rfl (xT rfl (gk xw) rfl) (sk yz) ?_
   refine ze (zj ?_)
   refine zN (gk ym) hF (fun hc11 hF=>?_) (fun hc11 hF=>?_)
   ·refine zk (zd ?_)
    refine zc rfl (zi rfl rfl (zb rfl)) xe ?_
    refine ze (zj (zJ ?_))
    refine zG ?_
    refine zx ?_
    refine yd ?_
    obtain rfl:=Option.some.inj hF
    replace hF:=hK1
    refine zG ?_
    refine zx ?_
    obtain rfl:=Option.some.inj hF
    refine zz rfl (zD yW zF) (zA (leV.refl _) rfl ?_)
    exact ⟨rfl,rfl⟩
   ·refine zK (yh (zj (zd ?_)))
    refine zc rfl (zf rfl xw (zb rfl)) xr ?_
    refine zc rfl (zy rfl xp rfl rfl) xD ?_
    refine zc rfl (zi rfl xB (zb rfl)) wd ?_
    refine ze (yH ?_)
    obtain rfl:=Option.some.inj hF
    exact ⟨(),hl1,hK1,wk.le (by exact (.eq (.drop (.drop (.cons (leV.of_eq (vf (by omega) (by omega))) (.d16 (.d16 (.d4 (.d4 (.drop leL.nil))))))))))⟩
  ·refine yR ?_
   refine zZ ?_
   refine zU ?_
   refine zV ?_
   refine zj (zk (zd ?_))
   refine zc rfl (zi rfl rfl (zb rfl)) xe ?_
   refine ze (zj (zJ ?_))
   obtain rfl:=Option.some.inj hF
   refine zz rfl (zD yW zF) (zA (leV.refl _) rfl ?_)
   exact ⟨rfl,rfl⟩
/-! varve/varveref07.may -/
theorem ok18N (n:Nat):∀ {t0:(List GNode)} {deep1:Int} {res:Bool} {h:AH} , vY n t0 deep1=some res→Spec Tryz.prog 18 [.sl 3 (t0.map GNode.row),.int .i64 deep1] h (fun rr hh=>rr=.bool res∧hh=h):=by
 induction n with
 | zero=>intro t0 deep1 res h  hF;simp [vY] at hF
 | succ n ih =>
  intro t0 deep1 res h  hF
  unfold vY at hF
  refine zt Tryz.func18 rfl (by kernel_rfl) (env:=[.sl 3 (t0.map GNode.row),.int .i64 deep1,za,za,za,za,za,za,za,za,za,za,za,za,za,za,za,za,za,za,za,za,za,za,za,za,za,za,za,za,za,za,za,za,za,za,za,za,za,za,za,za,za,za,za,za,za,za,za,za,za,za,za,za,za,za,za,za,za,za,za,za,za,za,za,za,za,za,za,za,za,za,za,za,za,za,za,za,za,za,za,za,za,za,za,za,za,za,za,za,za,za,za,za,za]) (by rfl) ?_
  refine zk (zd ?_)
  refine zc rfl (zi rfl rfl (zb rfl)) yz ?_
  refine ze (zj (zk (zk (zd ?_))))
  refine zc rfl (zi rfl rfl (zb rfl)) xy ?_
  refine ze (zj (zQ ?_))
  refine yv (fun (n1:Nat) (s1:Unit)=>yO [2,3,4,6,7,8,9,10,11,12,13,14,15,16,17,18,19,20,21,22,23,24,25,26,27,28,29,30,31,32,33,34,35,36,37,38,39,40,41,42,43,44,45,46,47,48,49,50,51,52,53,54,55,56,57,58,59,60,61,62,63,64,65,66,67,68,69,70,71,72,73,74,75,76,77,78,79,80,81,82,83,84,85,86,87,88,89,90,91,92,93,94] [(5,.int .i64 (n1:Int))]) (fun s1=>h.ext [] []) hF (fun _ _=>by simp only [yO,upd,List.set_cons_succ,List.set_cons_zero];try rfl) (wk.le (by exact (.eq (.eq (.drop (.drop (.drop (.cons (leV.of_eq rfl) (.d16 (.d16 (.d16 (.d16 (.d16 (.d4 (.d4 (.drop leL.nil)))))))))))))))) ?_
  intro n1 s1 hi1 hF
  refine zk (zk (zd ?_))
  refine zc rfl (zf rfl yM (zb rfl)) xP ?_
  refine zc rfl (zf rfl yr (zb rfl)) ww ?_
  refine ya rfl (zR rfl rfl rfl rfl xn xQ yb) yI fun hn30=>?_
  replace hn30:=xu hn30
  refine zc rfl (zy rfl xl yB rfl) yN ?_
  refine ze (zj ?_)
  refine yK yA hF (fun x1 o1 hl1 hx1 hF hK1=>?_) (fun hF=>?_)
  ·refine zK (zj (zk (zQ (zk (zd ?_)))))
   refine zc rfl (zf rfl yr (zb rfl)) y4 ?_
   refine zc rfl (zf rfl yM (zb rfl)) y8 ?_
   refine zc rfl (xL rfl xn yX yT wZ (yL hx1) (GNode.row_eq _)) xg ?_
   refine zc rfl (yf rfl ty48.choose_spec.1 xf (zI (cs':=[.str x1.name,.sl 9 (x1.leaves.map GLeaf.row),.sl 3 (x1.subs.map GNode.row)]) ty48.choose_spec.2 rfl rfl) (zb rfl)) xr ?_
   refine zc rfl (xc (n:=0) rfl ze48 rfl) xF ?_
   refine zc rfl (ye (cs':=[.str x1.name,.sl 9 (x1.leaves.map GLeaf.row),.sl 3 (x1.subs.map GNode.row)]) rfl ty48.choose_spec.1 yU xp (zb rfl) rfl rfl rfl rfl rfl) rfl ?_
   refine ze (zj (zk (zk ?_)))
   refine yJ [] [] trivial mixed (by kernel_rfl) ?_
   refine zq rfl rfl (zf rfl yE (zb rfl)) xD ?_
   refine zq rfl rfl (zy rfl xB rfl rfl) xK ?_
   refine zq rfl rfl (zf rfl xI (zb rfl)) x4 ?_
   refine zB rfl rfl (fun hb=>zg rfl fo48x0 yU rfl) x9 ?_
   refine zB rfl rfl (fun hb=>zu rfl ty9 (zn x6 hb) rfl (zr rfl) (zb rfl)) wl ?_
   refine yQ hF (fun v31 hv31 hF=>?_)
   refine w5 rfl rfl (fun hb=>zC rfl rfl rfl (zo (zn wi hb) zw) (.cons (zb rfl) .nil)) (fun hb=>ok34 (hv31 hb)) x8 ?_
   refine zB rfl rfl (fun hb=>xT rfl (zn xX hb) rfl) we ?_
   refine zq rfl rfl (zM rfl x5 rfl wa (z8 (fun ht=>gF ht))) wo ?_
   refine zq rfl rfl (zf rfl wm (zb rfl)) wK ?_
   refine zB rfl rfl (fun hb=>zf rfl yM (zb rfl)) wR ?_
   refine zB rfl rfl (fun hb=>zy rfl (zn wV hb) rfl rfl) wQ ?_
   refine zB rfl rfl (fun hb=>zf rfl (zn wN hb) (zb rfl)) w9 ?_
   refine zB rfl (z7 rfl rfl rfl) (fun hb=>zf rfl yr (zb rfl)) w8 ?_
   refine zB rfl (z7 rfl rfl rfl) (fun hb=>zf rfl yM (zb rfl)) vh ?_
   refine zB rfl (z7 rfl rfl rfl) (fun hb=>zy rfl (zn vl hb) rfl rfl) vz ?_
   refine wC hF (fun hg32 hF=>?_)
   refine zB rfl (z7 rfl rfl rfl) (fun hb=>qF default rfl xn (zn vm hb) (zn vk hb) wZ (hg32 hb) (GNode.row_eq _)) vw ?_
   refine zB rfl (z7 rfl rfl rfl) (fun hb=>zg rfl fo48x0 (zn vC hb) rfl) vu ?_
   refine zB rfl (z7 rfl rfl rfl) (fun hb=>yf rfl ty9 (zn vj hb) (zr rfl) (zb rfl)) vt ?_
   refine zB rfl (z7 rfl rfl rfl) (fun hb=>zg rfl fo48x0 yU rfl) vg ?_
   refine zB rfl (z7 rfl rfl rfl) (fun hb=>zu rfl ty9 (zn va hb) rfl (zr rfl) (zb rfl)) vr ?_
   refine zB rfl (z7 rfl rfl rfl) (fun hb=>zy rfl (zn vB hb) (zn vA hb) rfl) vK ?_
   refine zB rfl rfl (fun hb=>zM rfl (zn vb hb) vO rfl (zX (fun ht=>gT2 hb ht))) vJ ?_
   refine zq rfl rfl (zM rfl wI rfl vG (z8 (fun ht=>gF ht))) (sk st0) ?_
   refine zq rfl rfl (zf rfl (gk yr) (zb rfl)) (sk st1) ?_
   refine zB rfl rfl (fun hb=>zg rfl xY yU rfl) (sk xe) ?_
   refine zB rfl rfl (fun hb=>zu rfl ty46 (zn (gk yW) hb) rfl (zr rfl) (zb rfl)) (sk wd) ?_
   refine draw_glen rfl rfl (fun hb=>zR rfl rfl rfl rfl wc (zn (gk xw) hb) yb) (sk yz) ?_
   refine zB rfl rfl (fun hb=>zy rfl (zn (gk ym) hb) rfl rfl) (sk xy) ?_
   refine zB rfl rfl (fun hb=>zf rfl (zn (gk yM) hb) (zb rfl)) (sk xF) ?_
   refine zB rfl (z7 rfl rfl rfl) (fun hb=>zg rfl fo48x2 yU rfl) (sk xJ) ?_
   refine zB rfl (z7 rfl rfl rfl) (fun hb=>zu rfl ty23 (zn (gk xC) hb) rfl (zr rfl) (zb rfl)) (sk xP) ?_
   refine draw_glen rfl (z7 rfl rfl rfl) (fun hb=>zR rfl rfl rfl rfl xn (zn (gk xl) hb) yb) (sk ww) ?_
   refine zB rfl (z7 rfl rfl rfl) (fun hb=>zy rfl (zn (gk xQ) hb) rfl rfl) (sk yI) ?_
   refine zB rfl rfl (fun hb=>zM rfl (zn (gk yU) hb) (gk yB) rfl (zX (fun ht=>gT2 hb ht))) (sk yN) ?_
   refine zq rfl rfl (zM rfl (gk yE) rfl (gk yA) (z8 (fun ht=>gF ht))) (sk yS) ?_
   refine zq rfl rfl (zf rfl (gk yP) (zb rfl)) (sk yV) ?_
   refine zB rfl rfl (fun hb=>zg rfl fo48x2 yU rfl) (sk y4) ?_
   refine zB rfl rfl (fun hb=>zu rfl ty23 (zn (gk yX) hb) rfl (zr rfl) (zb rfl)) (sk y8) ?_
   refine zB rfl rfl (fun hb=>zf rfl yE (zb rfl)) (sk xg) ?_
   refine zB rfl rfl (fun hb=>zy rfl (zn (gk xf) hb) rfl rfl) (sk xr) ?_
   refine yQ hF (fun v35 hv35 hF=>?_)
   refine w5 rfl rfl (fun hb=>zC rfl rfl rfl (zo (zn (gk yT) hb) (zo (zn (gk xp) hb) zw)) (.cons (zb rfl) (.cons (zb rfl) .nil))) (fun hb=>ih (hv35 hb)) (sk xD) ?_
   refine zB rfl rfl (fun hb=>xT rfl (zn (gk xB) hb) rfl) (sk xK) ?_
   refine zq rfl rfl (zM rfl (gk yD) rfl (gk xI) (z8 (fun ht=>gF ht))) (sk x4) ?_
   refine yo ?_
   refine zj ?_
   refine zN (gk x5) hF (fun hc36 hF=>?_) (fun hc36 hF=>?_)
   ·refine zk (zd ?_)
    refine zc rfl (zi rfl rfl (zb rfl)) yz ?_
    refine ze (zj (zJ (zx ?_)))
    refine zG ?_
    refine zx ?_
    refine yd ?_
    obtain rfl:=Option.some.inj hF
    replace hF:=hK1
    refine zG ?_
    refine zx ?_
    obtain rfl:=Option.some.inj hF
    refine zz rfl (zD ym zF) (zA (leV.refl _) rfl ?_)
    exact ⟨rfl,rfl⟩
   ·refine zK (zj (zk (zd ?_)))
    refine zc rfl (zi rfl rfl (zb rfl)) xJ ?_
    refine ze (zj (zQ ?_))
    refine yv (fun (n2:Nat) (s2:Unit)=>yO [2,3,4,8,9,10,11,12,13,14,15,16,17,18,19,20,21,22,23,24,25,26,27,28,29,30,31,32,33,34,35,36,37,38,39,40,41,42,43,44,45,46,47,48,49,50,51,52,53,54,55,56,57,58,59,60,61,62,63,64,65,66,67,68,69,70,71,72,73,74,75,76,77,78,79,80,81,82,83,84,85,86,87,88,89,90,91,92,93,94] [(7,.int .i64 (n2:Int))]) (fun s2=>h.ext [.cells [.str x1.name,.sl 9 (x1.leaves.map GLeaf.row),.sl 3 (x1.subs.map GNode.row)]] []) hF (fun _ _=>by simp only [yO,upd,List.set_cons_succ,List.set_cons_zero];try rfl) (wk.le (by exact (.eq (.eq (.drop (.drop (.drop (.eq (.eq (.cons (leV.of_eq rfl) (.d16 (.d16 (.d16 (.d16 (.d16 (.d4 (.drop (.drop (.drop leL.nil))))))))))))))))))) ?_
    intro n2 s2 hi2 hF
    refine zk (zk (zd ?_))
    refine zc rfl (zf rfl xC (zb rfl)) (sk x9) ?_
    refine zc rfl (zg rfl xY yU rfl) (sk wl) ?_
    refine zc rfl (zu rfl ty46 (gk wi) rfl (zr rfl) (zb rfl)) (sk x8) ?_
    refine ya rfl (zR rfl rfl rfl rfl wc (gk xX) yb) (sk we) fun hn49=>?_
    replace hn49:=xu hn49
    refine zc rfl (zy rfl (gk x6) (gk wa) rfl) (sk wo) ?_
    refine ze (zj ?_)
    refine yK (gk wm) hF (fun x2 o2 hl2 hx2 hF hK2=>?_) (fun hF=>?_)
    ·refine zK (zj (zk (zQ (zk ?_))))
     refine yJ [5] [] trivial mixed (by kernel_rfl) ?_
     refine zq rfl rfl (zg rfl xY yU rfl) (sk wQ) ?_
     refine zq rfl rfl (zu rfl ty46 (gk wN) rfl (zr rfl) (zb rfl)) (sk w9) ?_
     refine zq rfl rfl (zf rfl xC (zb rfl)) (sk w8) ?_
     refine zq rfl rfl (yk rfl wc (gk vb) (gk vm) wZ (yL hx2)) (sk vh) ?_
     refine zq rfl rfl (yf rfl ty45.choose_spec.1 (gk vl) (zI (cs':=[.int .u8 x2.typ,.int .i64 x2.n,.int .u64 x2.time,.int .u8 x2.dot.actor.rep,.int .u32 x2.dot.actor.inc,.int .u64 x2.dot.seq,.str x2.text,.sl 5 (x2.items.map GItem.row),.sl 3 (x2.tombs.map GDot.row)]) ty45.choose_spec.2 rfl rfl) (zb rfl)) (sk vz) ?_
     refine zO hF (fun v50 hv50 hF=>?_)
     refine yw rfl rfl (fun _=>zC rfl rfl rfl (zo (gk vk) zw) (.cons (zb rfl) .nil)) (by rintro _ ⟨B2,T2,rfl,hk2⟩;exact ok35 hv50) (sk vw) ?_
     refine zq rfl rfl (xT rfl (gk vC) rfl) (sk vu) ?_
     refine zq rfl rfl (zf rfl (gk vj) (zb rfl)) (sk vt) ?_
     refine zB rfl rfl (fun hb=>zf rfl xC (zb rfl)) (sk vg) ?_
     refine zB rfl rfl (fun hb=>zy rfl (zn (gk va) hb) rfl rfl) (sk vr) ?_
     refine zB rfl rfl (fun hb=>zf rfl (zn (gk vA) hb) (zb rfl)) (sk vK) ?_
     refine zB rfl (z7 rfl rfl rfl) (fun hb=>zg rfl xY yU rfl) (sk vJ) ?_
     refine zB rfl (z7 rfl rfl rfl) (fun hb=>zu rfl ty46 (zn (gk vG) hb) rfl (zr rfl) (zb rfl)) (sk (sk st0)) ?_
     refine zB rfl (z7 rfl rfl rfl) (fun hb=>zf rfl xC (zb rfl)) (sk (sk st1)) ?_
     refine zB rfl (z7 rfl rfl rfl) (fun hb=>zy rfl (zn (gk (gk yE)) hb) rfl rfl) (sk (sk xe)) ?_
     refine wC hF (fun hg51 hF=>?_)
     refine zB rfl (z7 rfl rfl rfl) (fun hb=>xM default rfl wc (zn (gk (gk yr)) hb) (zn (gk (gk yW)) hb) wZ (hg51 hb)) (sk (sk wd)) ?_
     refine zB rfl (z7 rfl rfl rfl) (fun hb=>zg rfl xV (zn (gk (gk xw)) hb) rfl) (sk (sk yz)) ?_
     refine zB rfl (z7 rfl rfl rfl) (fun hb=>yf rfl ty5 (zn (gk (gk ym)) hb) (zr rfl) (zb rfl)) (sk (sk xy)) ?_
     refine zB rfl (z7 rfl rfl rfl) (fun hb=>zg rfl xY yU rfl) (sk (sk xF)) ?_
     refine zB rfl (z7 rfl rfl rfl) (fun hb=>zu rfl ty46 (zn (gk (gk yU)) hb) rfl (zr rfl) (zb rfl)) (sk (sk xJ)) ?_
     refine zB rfl (z7 rfl rfl rfl) (fun hb=>zf rfl xC (zb rfl)) (sk (sk xP)) ?_
     refine wC hF (fun hg52 hF=>?_)
     refine zB rfl (z7 rfl rfl rfl) (fun hb=>xM default rfl wc (zn (gk (gk xC)) hb) (zn (gk (gk xl)) hb) wZ (hg52 hb)) (sk (sk ww)) ?_
     refine zB rfl (z7 rfl rfl rfl) (fun hb=>zg rfl xV (zn (gk (gk xQ)) hb) rfl) (sk (sk yI)) ?_
     refine zB rfl (z7 rfl rfl rfl) (fun hb=>yf rfl ty5 (zn (gk (gk yB)) hb) (zr rfl) (zb rfl)) (sk (sk yN)) ?_
     refine zB rfl (z7 rfl rfl rfl) (fun hb=>zy rfl (zn (gk (gk yM)) hb) (zn (gk (gk yA)) hb) rfl) (sk (sk yS)) ?_
     refine zB rfl rfl (fun hb=>zM rfl (zn (gk vO) hb) (gk (gk yP)) rfl (zX (fun ht=>gT2 hb ht))) (sk (sk yV)) ?_
     refine zq rfl rfl (zM rfl (gk vB) rfl (gk (gk yD)) (z8 (fun ht=>gF ht))) (sk (sk y4)) ?_
     refine yo ?_
     refine zj ?_
     refine zN (gk (gk yX)) hF (fun hc53 hF=>?_) (fun hc53 hF=>?_)
     ·refine zk (zd ?_)
      refine zc rfl (zi rfl rfl (zb rfl)) yz ?_
      refine ze (zj (zJ ?_))
      refine zG ?_
      refine zx ?_
      refine yd ?_
      obtain rfl:=Option.some.inj hF
      replace hF:=hK2
      refine zG ?_
      refine zG ?_
      refine zx ?_
      refine yd ?_
      obtain rfl:=Option.some.inj hF
      replace hF:=hK1
      refine zG ?_
      refine zx ?_
      obtain rfl:=Option.some.inj hF
      refine zz rfl (zD ym zF) (zA (leV.refl _) rfl ?_)
      exact ⟨rfl,rfl⟩
     ·refine zK (yh (zj (zd ?_)))
      refine zc rfl (zf rfl xC (zb rfl)) (sk wK) ?_
      refine zc rfl (zy rfl (gk wI) rfl rfl) (sk wR) ?_
      refine zc rfl (zi rfl (gk wV) (zb rfl)) xJ ?_
      refine ze (yH ?_)
      obtain rfl:=Option.some.inj hF
      exact ⟨(),hl2,hK2,wk.le (by exact (.eq (.eq (.drop (.drop (.drop (.eq (.eq (.cons (leV.of_eq (vf (by omega) (by omega))) (.d16 (.d16 (.d16 (.d16 (.d16 (.d4 (.drop (.drop (.drop leL.nil))))))))))))))))))⟩
    ·refine yR ?_
     refine zZ ?_
     refine zU ?_
     refine zV ?_
     refine yh (zj (zd ?_))
     refine zc rfl (zf rfl yM (zb rfl)) yS ?_
     refine zc rfl (zy rfl yP rfl rfl) yV ?_
     refine zc rfl (zi rfl yD (zb rfl)) xy ?_
     refine ze (yH ?_)
     obtain rfl:=Option.some.inj hF
     exact ⟨(),hl1,hK1,wk.trans (wk.le (by exact (.eq (.eq (.drop (.drop (.drop (.cons (leV.of_eq (vf (by omega) (by omega))) (.d16 (.d16 (.d16 (.d16 (.d16 (.d4 (.d4 (.drop leL.nil)))))))))))))))) (xN (by simp [yi,AV.low]) rfl rfl (by simp [Blk.low,yi,AV.low]))⟩
  ·refine yR ?_
   refine zZ ?_
   refine zU ?_
   refine zV ?_
   refine zj (zk (zd ?_))
   refine zc rfl (zi rfl rfl (zb rfl)) yz ?_
   refine ze (zj (zJ ?_))
   obtain rfl:=Option.some.inj hF
   refine zz rfl (zD ym zF) (zA (leV.refl _) rfl ?_)
   exact ⟨rfl,rfl⟩
theorem ok18 {t0:(List GNode)} {deep1:Int} {res:Bool} {h:AH}  (hF:ref07Xmay t0 deep1=some res):Spec Tryz.prog 18 [.sl 3 (t0.map GNode.row),.int .i64 deep1] h (fun rr hh=>rr=.bool res∧hh=h):=by
 obtain ⟨n,hn⟩:=anyN_is hF
 exact ok18N n  hn
/-! varve/varveref07.May -/
theorem ok7 {t0:(List GNode)} {res:Bool} {h:AH}  (hF:ref07May t0=some res):Spec Tryz.prog 7 [.sl 3 (t0.map GNode.row)] h (fun rr hh=>rr=.bool res∧hh=h):=by
 unfold ref07May at hF
 refine zt Tryz.func7 rfl (by kernel_rfl) (env:=[.sl 3 (t0.map GNode.row),za,za,za,za]) (by rfl) ?_
 refine zk (zd ?_)
 refine zc rfl (zi rfl rfl (zb rfl)) xe ?_
 refine ze (zj (zk (zd ?_)))
 refine zc rfl (zf rfl yr (zb rfl)) wd ?_
 refine zO hF (fun v1 hv1 hF=>?_)
 refine zL rfl (zC rfl rfl rfl (zo xw (zo rfl zw)) (.cons (zb rfl) (.cons (zb rfl) .nil))) (ok18 hv1) yz ?_
 refine zc rfl (zi rfl ym (zb rfl)) xe ?_
 refine ze (zj (zJ ?_))
 obtain rfl:=Option.some.inj hF
 refine zz rfl (zD yW zF) (zA (leV.refl _) rfl ?_)
 exact ⟨rfl,rfl⟩
/-! slices.IndexFunc[[]string,string] -/
theorem ok86 {s0:(List zH)} {f1:(zH→Option Bool)} {ff1:FuncId} {af1 kf1:List AV} {res:Int} {h:AH} (hf1:∀ x0 v (L:List Blk) (M:List Nat),f1 x0=some v→Spec Tryz.prog ff1 (af1++[.str x0]++kf1) (h.ext L M) (fun rr hh=>rr=.bool v∧hh=h.ext L M)) (hF:wH s0 f1=some res):Spec Tryz.prog 86 [.sl 1 (s0.map zP),.fn (.func ff1) af1 kf1] h (fun rr hh=>rr=.int .i64 res∧hh=h):=by
 unfold wH at hF
 refine yC Tryz.func86 rfl (by kernel_rfl) (env:=[.sl 1 (s0.map zP),.fn (.func ff1) af1 kf1,za,za,za,za,za,za,za,za,za,za,za,za,za,za,za,za,za]) (by rfl) (fun hlow hC=>?_)
 simp only [yi,AV.low,Bool.and_eq_true,Bool.true_and,and_true] at hlow
 have hlaf1:∀ n m,h.blks.length≤n→h.toks.length≤m→yi n m af1=true:=fun n m h1 h2=>yY h1 h2 _ (by simp [hlow])
 have hlkf1:∀ n m,h.blks.length≤n→h.toks.length≤m→yi n m kf1=true:=fun n m h1 h2=>yY h1 h2 _ (by simp [hlow])
 refine zk (zd ?_)
 refine zc rfl (zi rfl rfl (zb rfl)) yz ?_
 refine ze (zj (zk (zk (zd ?_))))
 refine zc rfl (zf rfl yr (zb rfl)) xF ?_
 refine ya rfl (zR rfl rfl rfl rfl wA yU yb) xJ fun hn1=>?_
 replace hn1:=xu hn1
 refine zc rfl (zf rfl rfl (zb rfl)) xP ?_
 refine ze (zj (zQ ?_))
 refine yv (fun (n1:Nat) (s1:Unit)=>yO [2,3,4,5,6,9,10,11,12,13,14,15,16,17,18] [(8,.int .i64 (n1:Int))]) (fun s1=>h.ext [] []) hF (fun _ _=>by simp only [yO,upd,List.set_cons_succ,List.set_cons_zero];try rfl) (wk.le (by exact (.eq (.eq (.d4 (.drop (.eq (.cons (leV.of_eq rfl) (.d4 (.d4 (.drop (.drop leL.nil)))))))))))) ?_
 intro n1 s1 hi1 hF
 refine zk (zd ?_)
 refine zc rfl (zy rfl xl xC rfl) ww ?_
 refine ze (zj (zk ?_))
 refine yK xQ hF (fun x1 o1 hl1 hx1 hF hK1=>?_) (fun hF=>?_)
 ·refine zK (zj (zk (zQ (zk (zd ?_)))))
  refine zc rfl (zf rfl xl (zb rfl)) yI ?_
  refine zc rfl (zi rfl yB (zb rfl)) xy ?_
  refine ze (zj (zk (zd ?_)))
  refine zc rfl (zf rfl yE (zb rfl)) yN ?_
  refine zc rfl (zf rfl yr (zb rfl)) yS ?_
  refine zc rfl (zf rfl yM (zb rfl)) yV ?_
  refine zc rfl (yk rfl wA yP yD wZ (yL hx1)) y4 ?_
  refine zc rfl (yf rfl ty9 yX (zr rfl) (zb rfl)) y8 ?_
  refine zO hF (fun v7 hv7 hF=>?_)
  refine zL rfl (s_callC rfl rfl yA (zo yT zw) (.cons (zb rfl) .nil) rfl) (hf1 _ _ _ _ hv7) xg ?_
  refine ze (zj ?_)
  refine zN xf hF (fun hc8 hF=>?_) (fun hc8 hF=>?_)
  ·refine zk (zd ?_)
   refine zc rfl (zf rfl yM (zb rfl)) xr ?_
   refine zc rfl (zi rfl xp (zb rfl)) yz ?_
   refine ze (zj (zJ ?_))
   refine zG ?_
   refine zx ?_
   refine yd ?_
   obtain rfl:=Option.some.inj hF
   replace hF:=hK1
   refine zG ?_
   refine zx ?_
   obtain rfl:=Option.some.inj hF
   refine zz rfl (zD ym zF) (zA (leV.refl _) rfl ?_)
   exact ⟨rfl,rfl⟩
  ·refine zK (yh (zj (zd ?_)))
   refine zc rfl (zy rfl xl rfl rfl) xD ?_
   refine zc rfl (zf rfl xB (zb rfl)) xP ?_
   refine ze (yH ?_)
   obtain rfl:=Option.some.inj hF
   exact ⟨(),hl1,hK1,wk.le (by exact (.eq (.eq (.d4 (.drop (.eq (.cons (leV.of_eq (vf (by omega) (by omega))) (.d4 (.d4 (.drop (.drop leL.nil)))))))))))⟩
 ·refine yR ?_
  refine zZ ?_
  refine zU ?_
  refine zV ?_
  refine zj (zk (zd ?_))
  refine zc rfl (zi rfl rfl (zb rfl)) yz ?_
  refine ze (zj (zJ ?_))
  obtain rfl:=Option.some.inj hF
  refine zz rfl (zD ym zF) (zA (leV.refl _) rfl ?_)
  exact ⟨rfl,rfl⟩
/-! slices.ContainsFunc[[]string,string] -/
theorem ok60 {s0:(List zH)} {f1:(zH→Option Bool)} {ff1:FuncId} {af1 kf1:List AV} {res:Bool} {h:AH} (hf1:∀ x0 v (L:List Blk) (M:List Nat),f1 x0=some v→Spec Tryz.prog ff1 (af1++[.str x0]++kf1) (h.ext L M) (fun rr hh=>rr=.bool v∧hh=h.ext L M)) (hF:xh s0 f1=some res):Spec Tryz.prog 60 [.sl 1 (s0.map zP),.fn (.func ff1) af1 kf1] h (fun rr hh=>rr=.bool res∧hh=h):=by
 unfold xh at hF
 refine yC Tryz.func60 rfl (by kernel_rfl) (env:=[.sl 1 (s0.map zP),.fn (.func ff1) af1 kf1,za,za,za,za,za,za,za]) (by rfl) (fun hlow hC=>?_)
 simp only [yi,AV.low,Bool.and_eq_true,Bool.true_and,and_true] at hlow
 have hlaf1:∀ n m,h.blks.length≤n→h.toks.length≤m→yi n m af1=true:=fun n m h1 h2=>yY h1 h2 _ (by simp [hlow])
 have hlkf1:∀ n m,h.blks.length≤n→h.toks.length≤m→yi n m kf1=true:=fun n m h1 h2=>yY h1 h2 _ (by simp [hlow])
 refine zk (zd ?_)
 refine zc rfl (zi rfl rfl (zb rfl)) yz ?_
 refine ze (zj (zk (zd ?_)))
 refine zc rfl (zf rfl yr (zb rfl)) xy ?_
 refine zc rfl (zf rfl yE (zb rfl)) xF ?_
 refine zO hF (fun v1 hv1 hF=>?_)
 refine zL rfl (zC rfl rfl rfl (zo yM (zo yU zw)) (.cons (zb rfl) (.cons (zb rfl) .nil))) (ok86 (fun x0 v L M hv=>by rw [wb];exact hf1 x0 v _ _ hv) hv1) xJ ?_
 refine zc rfl (zy rfl xC rfl rfl) xP ?_
 refine zc rfl (zi rfl xl (zb rfl)) yz ?_
 refine ze (zj (zJ ?_))
 obtain rfl:=Option.some.inj hF
 refine zz rfl (zD ym zF) (zA (leV.refl _) rfl ?_)
 exact ⟨rfl,rfl⟩
/-! varve/op.MayPath 1 -/
theorem ok61 {s0:zH} {res:Bool} {h:AH}  (hF:opMayPathC1 s0=some res):Spec Tryz.prog 61 [.str s0] h (fun rr hh=>rr=.bool res∧hh=h):=by
 unfold opMayPathC1 at hF
 refine zt Tryz.func61 rfl (by kernel_rfl) (env:=[.str s0,za,za,za,za,za]) (by rfl) ?_
 refine zk (zd ?_)
 refine zc rfl (zi rfl rfl (zb rfl)) xe ?_
 refine ze (zj (zk (zd ?_)))
 refine zc rfl (zf rfl yr (zb rfl)) wd ?_
 refine zO hF (fun v1 hv1 hF=>?_)
 refine zL rfl (zC rfl rfl rfl (zo xw zw) (.cons (zb rfl) .nil)) (ok62 hv1) yz ?_
 refine zc rfl (xT rfl ym rfl) xy ?_
 refine zc rfl (zi rfl yM (zb rfl)) xe ?_
 refine ze (zj (zJ ?_))
 obtain rfl:=Option.some.inj hF
 refine zz rfl (zD yW zF) (zA (leV.refl _) rfl ?_)
 exact ⟨rfl,rfl⟩
/-! varve/op.MayPath -/
theorem ok24 {p0:(List zH)} {res:Bool} {h:AH}  (hF:opMayPath p0=some res):Spec Tryz.prog 24 [.sl 1 (p0.map zP)] h (fun rr hh=>rr=.bool res∧hh=h):=by
 unfold opMayPath at hF
 refine zt Tryz.func24 rfl (by kernel_rfl) (env:=[.sl 1 (p0.map zP),za,za,za,za,za,za,za,za,za,za,za,za,za,za,za]) (by rfl) ?_
 refine zk (zd ?_)
 refine zc rfl (zi rfl rfl (zb rfl)) xe ?_
 refine ze (zj (zk (zd ?_)))
 refine zc rfl (zf rfl yr (zb rfl)) wd ?_
 refine ya rfl (zR rfl rfl rfl rfl wA xw yb) yz fun hn1=>?_
 replace hn1:=xu hn1
 refine zc rfl (zy rfl ym rfl rfl) xy ?_
 refine zc rfl (zf rfl yM (zb rfl)) xF ?_
 refine zp rfl (fun hb=>zf rfl yr (zb rfl)) xJ ?_
 refine xA rfl (fun hb=>zR rfl rfl rfl rfl wA (zn xC hb) yb) xP fun hn2=>?_
 refine zp rfl (fun hb=>zy rfl (zn xl hb) rfl rfl) ww ?_
 refine zc rfl (zM rfl yU xQ rfl (zX (fun ht=>gT ht))) yI ?_
 refine zc rfl (zf rfl yB (zb rfl)) yN ?_
 refine zp rfl (fun hb=>zf rfl yr (zb rfl)) yS ?_
 refine yQ hF (fun v3 hv3 hF=>?_)
 refine yj rfl (fun hb=>zC rfl rfl rfl (zo (zn yP hb) (zo rfl zw)) (.cons (zb rfl) (.cons (zb rfl) .nil))) (fun hb=>ok60 (fun _ v L M hv=>ok61  hv) (hv3 hb)) yV ?_
 refine zp rfl (fun hb=>xT rfl (zn yD hb) rfl) y4 ?_
 refine zc rfl (zM rfl yA yX rfl (zX (fun ht=>gT ht))) y8 ?_
 refine zc rfl (zi rfl yT (zb rfl)) xe ?_
 refine ze (zj (zJ ?_))
 obtain rfl:=Option.some.inj hF
 refine zz rfl (zD yW zF) (zA (leV.refl _) rfl ?_)
 exact ⟨rfl,rfl⟩
/-! varve/diff.side -/
theorem ok25 {there0:Bool} {l1:GLeaf} {kind2:Int} {res:Bool} {h:AH}  (hF:vn there0 l1 kind2=some res):Spec Tryz.prog 25 [.bool there0,.agg [.int .u8 l1.typ,.int .i64 l1.n,.int .u64 l1.time,.int .u8 l1.dot.actor.rep,.int .u32 l1.dot.actor.inc,.int .u64 l1.dot.seq,.str l1.text,.sl 5 (l1.items.map GItem.row),.sl 3 (l1.tombs.map GDot.row)],.int .u8 kind2] h (fun rr hh=>rr=.bool res∧hh=h):=by
 unfold vn at hF
 refine zt Tryz.func25 rfl (by kernel_rfl) (env:=[.bool there0,.agg [.int .u8 l1.typ,.int .i64 l1.n,.int .u64 l1.time,.int .u8 l1.dot.actor.rep,.int .u32 l1.dot.actor.inc,.int .u64 l1.dot.seq,.str l1.text,.sl 5 (l1.items.map GItem.row),.sl 3 (l1.tombs.map GDot.row)],.int .u8 kind2,za,za,za,za,za,za,za,za,za,za,za,za,za,za,za,za,za]) (by rfl) ?_
 refine zk (zd ?_)
 refine zc rfl (xq (n:=0) rfl yE (zb rfl) rfl rfl) yz ?_
 refine zc rfl (zi rfl rfl (zb rfl)) xF ?_
 refine ze (zj (zk (zk (zd ?_))))
 refine zc rfl (zf rfl yr (zb rfl)) xJ ?_
 refine zc rfl (xT rfl xC rfl) xP ?_
 refine ze (zj ?_)
 refine zN xl hF (fun hc1 hF=>?_) (fun hc1 hF=>?_)
 ·refine zk (zd ?_)
  refine zc rfl (zu rfl ty45.choose_spec.1 ym rfl (zI (cs':=[.int .u8 l1.typ,.int .i64 l1.n,.int .u64 l1.time,.int .u8 l1.dot.actor.rep,.int .u32 l1.dot.actor.inc,.int .u64 l1.dot.seq,.str l1.text,.sl 5 (l1.items.map GItem.row),.sl 3 (l1.tombs.map GDot.row)]) ty45.choose_spec.2 rfl rfl) (zb rfl)) ww ?_
  refine zc rfl (ql (cs':=[.int .u8 (0:Int),.int .i64 (0:Int),.int .u64 (0:Int),.int .u8 (0:Int),.int .u32 (0:Int),.int .u64 (0:Int),.str ([]:zH),.osl none 5 (([]:List GItem).map GItem.row),.osl none 3 (([]:List GDot).map GDot.row)]) rfl su45 ze45 pl45 yl .nil rfl rfl) yI ?_
  refine zO hF (fun v2 hv2 hF=>?_)
  refine zL rfl (zC rfl rfl rfl (zo xQ (zo yB zw)) (.cons (zb rfl) (.cons (zb rfl) .nil))) ((ok21 hv2).le (.eq (.cons (leV.agg (.eq (.eq (.eq (.eq (.eq (.eq (.eq (.cons (leV.osl _ _ _) (.cons (leV.osl _ _ _) leL.nil))))))))) rfl) leL.nil))) yN ?_
  refine zc rfl (zi rfl yA (zb rfl)) xF ?_
  refine ze (zj (zJ (zx ?_)))
  obtain rfl:=Option.some.inj hF
  refine zz rfl (zD yU zF) (zA (leV.refl _) rfl ?_)
  exact ⟨rfl,rfl⟩
 ·refine zK (zj (zk (zd ?_)))
  refine zc rfl (zg rfl xV ym rfl) yS ?_
  refine zc rfl (zu rfl ty5 yP rfl (zr rfl) (zb rfl)) yV ?_
  refine zc rfl (zf rfl yW (zb rfl)) y4 ?_
  refine zc rfl (zy rfl yD yX rfl) y8 ?_
  refine zc rfl (zf rfl yT (zb rfl)) xg ?_
  refine zp rfl (fun hb=>zu rfl ty45.choose_spec.1 ym rfl (zI (cs':=[.int .u8 l1.typ,.int .i64 l1.n,.int .u64 l1.time,.int .u8 l1.dot.actor.rep,.int .u32 l1.dot.actor.inc,.int .u64 l1.dot.seq,.str l1.text,.sl 5 (l1.items.map GItem.row),.sl 3 (l1.tombs.map GDot.row)]) ty45.choose_spec.2 rfl rfl) (zb rfl)) xr ?_
  refine yQ hF (fun v3 hv3 hF=>?_)
  refine yj rfl (fun hb=>zC rfl rfl rfl (zo (zn xp hb) zw) (.cons (zb rfl) .nil)) (fun hb=>ok63 (hv3 hb)) xD ?_
  refine zc rfl (zM rfl xf xB rfl (zX (fun ht=>gT ht))) xK ?_
  refine zc rfl (zi rfl xI (zb rfl)) xF ?_
  refine ze (zj (zJ ?_))
  obtain rfl:=Option.some.inj hF
  refine zz rfl (zD yU zF) (zA (leV.refl _) rfl ?_)
  exact ⟨rfl,rfl⟩
/-! varve/diff.May -/
theorem ok10 {l0:(List GEdit)} {res:Bool} {h:AH}  (hF:diffMay l0=some res):Spec Tryz.prog 10 [.sl 22 (l0.map GEdit.row)] h (fun rr hh=>rr=.bool res∧hh=h):=by
 unfold diffMay at hF
 refine zt Tryz.func10 rfl (by kernel_rfl) (env:=[.sl 22 (l0.map GEdit.row),za,za,za,za,za,za,za,za,za,za,za,za,za,za,za,za,za,za,za,za,za,za,za,za,za,za,za,za,za,za,za,za,za,za,za,za,za,za,za,za,za,za,za,za,za,za,za,za,za,za,za,za,za,za,za,za,za,za,za,za,za,za,za,za,za,za,za,za,za,za,za,za,za,za,za,za,za,za,za,za,za,za,za,za,za,za,za,za]) (by rfl) ?_
 refine zk (zd ?_)
 refine zc rfl (zi rfl rfl (zb rfl)) xe ?_
 refine ze (zj (zk (zk (zd ?_))))
 refine zc rfl (zf rfl yr (zb rfl)) xJ ?_
 refine ya rfl (zR rfl rfl rfl rfl el26 xC yb) xP fun hn1=>?_
 replace hn1:=xu hn1
 refine zc rfl (zf rfl rfl (zb rfl)) ww ?_
 refine ze (zj (zQ ?_))
 refine yv (fun (n1:Nat) (s1:Unit)=>yO [1,2,3,4,5,6,10,11,12,13,14,15,16,17,18,19,20,21,22,23,24,25,26,27,28,29,30,31,32,33,34,35,36,37,38,39,40,41,42,43,44,45,46,47,48,49,50,51,52,53,54,55,56,57,58,59,60,61,62,63,64,65,66,67,68,69,70,71,72,73,74,75,76,77,78,79,80,81,82,83,84,85,86,87,88] [(9,.int .i64 (n1:Int))]) (fun s1=>h.ext [] []) hF (fun _ _=>by simp only [yO,upd,List.set_cons_succ,List.set_cons_zero];try rfl) (wk.le (by exact (.eq (.d4 (.drop (.drop (.eq (.eq (.cons (leV.of_eq rfl) (.d16 (.d16 (.d16 (.d16 (.d4 (.d4 (.d4 (.drop (.drop (.drop leL.nil))))))))))))))))))) ?_
 intro n1 s1 hi1 hF
 refine zk (zd ?_)
 refine zc rfl (zy rfl xQ xl rfl) yI ?_
 refine ze (zj (zk ?_))
 refine yK yB hF (fun x1 o1 hl1 hx1 hF hK1=>?_) (fun hF=>?_)
 ·refine zK (zj (zk (zQ (zk (zd ?_)))))
  refine zc rfl (zf rfl xQ (zb rfl)) yN ?_
  refine zc rfl (yk rfl el26 xC xQ wZ (yL hx1)) yS ?_
  refine zc rfl (yf rfl ty51.choose_spec.1 yP (zI (cs':=[.sl 1 (x1.path.map zP),.int .u8 x1.typ,.bool x1.had,.bool x1.has,.int .u8 x1.was.typ,.int .i64 x1.was.n,.int .u64 x1.was.time,.int .u8 x1.was.dot.actor.rep,.int .u32 x1.was.dot.actor.inc,.int .u64 x1.was.dot.seq,.str x1.was.text,.sl 5 (x1.was.items.map GItem.row),.sl 3 (x1.was.tombs.map GDot.row),.int .u8 x1.is.typ,.int .i64 x1.is.n,.int .u64 x1.is.time,.int .u8 x1.is.dot.actor.rep,.int .u32 x1.is.dot.actor.inc,.int .u64 x1.is.dot.seq,.str x1.is.text,.sl 5 (x1.is.items.map GItem.row),.sl 3 (x1.is.tombs.map GDot.row)]) ty51.choose_spec.2 rfl rfl) (zb rfl)) yV ?_
  refine zc rfl (xc (n:=0) rfl ze51 rfl) yz ?_
  refine zc rfl (zi rfl yA (zb rfl)) wd ?_
  refine zc rfl (ye (cs':=[.sl 1 (x1.path.map zP),.int .u8 x1.typ,.bool x1.had,.bool x1.has,.int .u8 x1.was.typ,.int .i64 x1.was.n,.int .u64 x1.was.time,.int .u8 x1.was.dot.actor.rep,.int .u32 x1.was.dot.actor.inc,.int .u64 x1.was.dot.seq,.str x1.was.text,.sl 5 (x1.was.items.map GItem.row),.sl 3 (x1.was.tombs.map GDot.row),.int .u8 x1.is.typ,.int .i64 x1.is.n,.int .u64 x1.is.time,.int .u8 x1.is.dot.actor.rep,.int .u32 x1.is.dot.actor.inc,.int .u64 x1.is.dot.seq,.str x1.is.text,.sl 5 (x1.is.items.map GItem.row),.sl 3 (x1.is.tombs.map GDot.row)]) rfl ty51.choose_spec.1 ym yD (zb rfl) rfl rfl rfl rfl rfl) rfl ?_
  refine ze (zj (zk (zd ?_)))
  refine zc rfl (zg rfl fo51x1 ym rfl) y4 ?_
  refine zc rfl (zu rfl ty5 yX rfl (zr rfl) (zb rfl)) y8 ?_
  refine zc rfl (zy rfl yT rfl rfl) xg ?_
  refine zc rfl (zf rfl xf (zb rfl)) xr ?_
  refine zp rfl (fun hb=>zg rfl fo51x1 ym rfl) xD ?_
  refine zp rfl (fun hb=>zu rfl ty5 (zn xB hb) rfl (zr rfl) (zb rfl)) xK ?_
  refine zp rfl (fun hb=>zy rfl (zn xI hb) rfl rfl) x4 ?_
  refine zc rfl (zM rfl xp x5 rfl (zX (fun ht=>gT ht))) x9 ?_
  refine zc rfl (zi rfl x6 (zb rfl)) xy ?_
  refine ze (zj (zk (zd ?_)))
  refine zc rfl (zg rfl fo51x2 ym rfl) wl ?_
  refine zc rfl (zu rfl ty4 wi rfl (zr rfl) (zb rfl)) x8 ?_
  refine zc rfl (zf rfl xX (zb rfl)) we ?_
  refine zp rfl (fun hb=>zg rfl fo51x3 ym rfl) wo ?_
  refine zp rfl (fun hb=>zu rfl ty4 (zn wm hb) rfl (zr rfl) (zb rfl)) wK ?_
  refine zc rfl (zM rfl wa wI rfl (zX (fun ht=>gT ht))) wR ?_
  refine zc rfl (zf rfl wV (zb rfl)) wQ ?_
  refine zp rfl (fun hb=>zg rfl fo51x4 ym rfl) w9 ?_
  refine zp rfl (fun hb=>zu rfl ty45.choose_spec.1 (zn vb hb) rfl (zI (cs':=[.int .u8 x1.was.typ,.int .i64 x1.was.n,.int .u64 x1.was.time,.int .u8 x1.was.dot.actor.rep,.int .u32 x1.was.dot.actor.inc,.int .u64 x1.was.dot.seq,.str x1.was.text,.sl 5 (x1.was.items.map GItem.row),.sl 3 (x1.was.tombs.map GDot.row)]) ty45.choose_spec.2 rfl rfl) (zb rfl)) w8 ?_
  refine zp rfl (fun hb=>zg rfl fo51x5 ym rfl) vh ?_
  refine zp rfl (fun hb=>zu rfl ty45.choose_spec.1 (zn vl hb) rfl (zI (cs':=[.int .u8 x1.is.typ,.int .i64 x1.is.n,.int .u64 x1.is.time,.int .u8 x1.is.dot.actor.rep,.int .u32 x1.is.dot.actor.inc,.int .u64 x1.is.dot.seq,.str x1.is.text,.sl 5 (x1.is.items.map GItem.row),.sl 3 (x1.is.tombs.map GDot.row)]) ty45.choose_spec.2 rfl rfl) (zb rfl)) vz ?_
  refine yQ hF (fun v13 hv13 hF=>?_)
  refine yj rfl (fun hb=>zC rfl rfl rfl (zo (zn vm hb) (zo (zn vk hb) zw)) (.cons (zb rfl) (.cons (zb rfl) .nil))) (fun hb=>ok21 (hv13 hb)) vw ?_
  refine zc rfl (zM rfl wN vC rfl (zX (fun ht=>gT ht))) vu ?_
  refine zc rfl (zi rfl vj (zb rfl)) xF ?_
  refine ze (zj (zk (zk (zd ?_))))
  refine zc rfl (zg rfl fo51x0 ym rfl) vt ?_
  refine zc rfl (zu rfl ty49 vB rfl (zr rfl) (zb rfl)) vg ?_
  refine zO hF (fun v14 hv14 hF=>?_)
  refine zL rfl (zC rfl rfl rfl (zo va zw) (.cons (zb rfl) .nil)) (ok24 hv14) vr ?_
  refine zc rfl (xT rfl vA rfl) vK ?_
  refine zc rfl (zf rfl vO (zb rfl)) vJ ?_
  refine zp rfl (fun hb=>zf rfl yM (zb rfl)) (sk st0) ?_
  refine zp rfl (fun hb=>xT rfl (zn (gk yr) hb) rfl) (sk st1) ?_
  refine zc rfl (zM rfl vG rfl (gk yE) (z8 (fun ht=>gF ht))) (sk xe) ?_
  refine zc rfl (zf rfl (gk yW) (zb rfl)) (sk wd) ?_
  refine zp rfl (fun hb=>zg rfl fo51x2 ym rfl) (sk yz) ?_
  refine zp rfl (fun hb=>zu rfl ty4 (zn (gk ym) hb) rfl (zr rfl) (zb rfl)) (sk xy) ?_
  refine zp rfl (fun hb=>xT rfl (zn (gk yM) hb) rfl) (sk xF) ?_
  refine zp rfl (fun hb=>zf rfl (zn (gk yU) hb) (zb rfl)) (sk xJ) ?_
  refine zp (z7 rfl rfl rfl) (fun hb=>zg rfl fo51x3 ym rfl) (sk xP) ?_
  refine zp (z7 rfl rfl rfl) (fun hb=>zu rfl ty4 (zn (gk xl) hb) rfl (zr rfl) (zb rfl)) (sk ww) ?_
  refine zp (z7 rfl rfl rfl) (fun hb=>xT rfl (zn (gk xQ) hb) rfl) (sk yI) ?_
  refine zp rfl (fun hb=>zM rfl (zn (gk xC) hb) (gk yB) rfl (zX (fun ht=>gT2 hb ht))) (sk yN) ?_
  refine zc rfl (zM rfl (gk xw) rfl (gk yA) (z8 (fun ht=>gF ht))) (sk yS) ?_
  refine zc rfl (zf rfl (gk yP) (zb rfl)) (sk yV) ?_
  refine zp rfl (fun hb=>zf rfl yU (zb rfl)) (sk y4) ?_
  refine zc rfl (zM rfl (gk yD) rfl (gk yX) (z8 (fun ht=>gF ht))) (sk y8) ?_
  refine zc rfl (zf rfl (gk yT) (zb rfl)) (sk xg) ?_
  refine zp rfl (fun hb=>zg rfl fo51x2 ym rfl) (sk xr) ?_
  refine zp rfl (fun hb=>zu rfl ty4 (zn (gk xp) hb) rfl (zr rfl) (zb rfl)) (sk xD) ?_
  refine zp rfl (fun hb=>zg rfl fo51x4 ym rfl) (sk xK) ?_
  refine zp rfl (fun hb=>zu rfl ty45.choose_spec.1 (zn (gk xI) hb) rfl (zI (cs':=[.int .u8 x1.was.typ,.int .i64 x1.was.n,.int .u64 x1.was.time,.int .u8 x1.was.dot.actor.rep,.int .u32 x1.was.dot.actor.inc,.int .u64 x1.was.dot.seq,.str x1.was.text,.sl 5 (x1.was.items.map GItem.row),.sl 3 (x1.was.tombs.map GDot.row)]) ty45.choose_spec.2 rfl rfl) (zb rfl)) (sk x4) ?_
  refine zp rfl (fun hb=>zg rfl fo51x1 ym rfl) (sk x9) ?_
  refine zp rfl (fun hb=>zu rfl ty5 (zn (gk x6) hb) rfl (zr rfl) (zb rfl)) (sk wl) ?_
  refine yQ hF (fun v15 hv15 hF=>?_)
  refine yj rfl (fun hb=>zC rfl rfl rfl (zo (zn (gk xB) hb) (zo (zn (gk x5) hb) (zo (zn (gk wi) hb) zw))) (.cons (zb rfl) (.cons (zb rfl) (.cons (zb rfl) .nil)))) (fun hb=>ok25 (hv15 hb)) (sk x8) ?_
  refine zp rfl (fun hb=>xT rfl (zn (gk xX) hb) rfl) (sk we) ?_
  refine zc rfl (zM rfl (gk xf) rfl (gk wa) (z8 (fun ht=>gF ht))) (sk wo) ?_
  refine zc rfl (zf rfl (gk wm) (zb rfl)) (sk wK) ?_
  refine zp rfl (fun hb=>zg rfl fo51x3 ym rfl) (sk wR) ?_
  refine zp rfl (fun hb=>zu rfl ty4 (zn (gk wV) hb) rfl (zr rfl) (zb rfl)) (sk wQ) ?_
  refine zp rfl (fun hb=>zg rfl fo51x5 ym rfl) (sk w9) ?_
  refine zp rfl (fun hb=>zu rfl ty45.choose_spec.1 (zn (gk vb) hb) rfl (zI (cs':=[.int .u8 x1.is.typ,.int .i64 x1.is.n,.int .u64 x1.is.time,.int .u8 x1.is.dot.actor.rep,.int .u32 x1.is.dot.actor.inc,.int .u64 x1.is.dot.seq,.str x1.is.text,.sl 5 (x1.is.items.map GItem.row),.sl 3 (x1.is.tombs.map GDot.row)]) ty45.choose_spec.2 rfl rfl) (zb rfl)) (sk w8) ?_
  refine zp rfl (fun hb=>zg rfl fo51x1 ym rfl) (sk vh) ?_
  refine zp rfl (fun hb=>zu rfl ty5 (zn (gk vl) hb) rfl (zr rfl) (zb rfl)) (sk vz) ?_
  refine yQ hF (fun v16 hv16 hF=>?_)
  refine yj rfl (fun hb=>zC rfl rfl rfl (zo (zn (gk wN) hb) (zo (zn (gk vm) hb) (zo (zn (gk vk) hb) zw))) (.cons (zb rfl) (.cons (zb rfl) (.cons (zb rfl) .nil)))) (fun hb=>ok25 (hv16 hb)) (sk vw) ?_
  refine zp rfl (fun hb=>xT rfl (zn (gk vC) hb) rfl) (sk vu) ?_
  refine zc rfl (zM rfl (gk wI) rfl (gk vj) (z8 (fun ht=>gF ht))) (sk vt) ?_
  refine ze (zj ?_)
  refine zN (gk vB) hF (fun hc17 hF=>?_) (fun hc17 hF=>?_)
  ·refine zk (zd ?_)
   refine zc rfl (zi rfl rfl (zb rfl)) xe ?_
   refine ze (zj (zJ (zx ?_)))
   refine zG ?_
   refine zx ?_
   refine yd ?_
   obtain rfl:=Option.some.inj hF
   replace hF:=hK1
   refine zG ?_
   refine zx ?_
   obtain rfl:=Option.some.inj hF
   refine zz rfl (zD yW zF) (zA (leV.refl _) rfl ?_)
   exact ⟨rfl,rfl⟩
  ·refine zK (zj (zk ?_))
   refine yJ [] [] trivial mixed (by kernel_rfl) ?_
   refine zq rfl rfl (zf rfl xw (zb rfl)) (sk vg) ?_
   refine zq rfl rfl (zy rfl (gk va) rfl rfl) (sk vr) ?_
   refine zq rfl rfl (zf rfl (gk vA) (zb rfl)) (sk vK) ?_
   refine zB rfl rfl (fun hb=>zf rfl yr (zb rfl)) (sk vJ) ?_
   refine zB rfl rfl (fun hb=>zf rfl xw (zb rfl)) (sk (sk st0)) ?_
   refine zB rfl rfl (fun hb=>zy rfl (zn (gk (gk yr)) hb) rfl rfl) (sk (sk st1)) ?_
   refine wC hF (fun hg18 hF=>?_)
   refine zB rfl rfl (fun hb=>xM default rfl el26 (zn (gk vG) hb) (zn (gk (gk yE)) hb) wZ (hg18 hb)) (sk (sk xe)) ?_
   refine zB rfl rfl (fun hb=>yf rfl ty51.choose_spec.1 (zn (gk (gk yW)) hb) (zI (cs':=[.sl 1 ((((l0).getD (IntKind.wrap .i64 ((n1:Int) - (1:Int))).toNat default).path).map zP),.int .u8 (((l0).getD (IntKind.wrap .i64 ((n1:Int) - (1:Int))).toNat default).typ),.bool (((l0).getD (IntKind.wrap .i64 ((n1:Int) - (1:Int))).toNat default).had),.bool (((l0).getD (IntKind.wrap .i64 ((n1:Int) - (1:Int))).toNat default).has),.int .u8 (((l0).getD (IntKind.wrap .i64 ((n1:Int) - (1:Int))).toNat default).was.typ),.int .i64 (((l0).getD (IntKind.wrap .i64 ((n1:Int) - (1:Int))).toNat default).was.n),.int .u64 (((l0).getD (IntKind.wrap .i64 ((n1:Int) - (1:Int))).toNat default).was.time),.int .u8 (((l0).getD (IntKind.wrap .i64 ((n1:Int) - (1:Int))).toNat default).was.dot.actor.rep),.int .u32 (((l0).getD (IntKind.wrap .i64 ((n1:Int) - (1:Int))).toNat default).was.dot.actor.inc),.int .u64 (((l0).getD (IntKind.wrap .i64 ((n1:Int) - (1:Int))).toNat default).was.dot.seq),.str (((l0).getD (IntKind.wrap .i64 ((n1:Int) - (1:Int))).toNat default).was.text),.sl 5 ((((l0).getD (IntKind.wrap .i64 ((n1:Int) - (1:Int))).toNat default).was.items).map GItem.row),.sl 3 ((((l0).getD (IntKind.wrap .i64 ((n1:Int) - (1:Int))).toNat default).was.tombs).map GDot.row),.int .u8 (((l0).getD (IntKind.wrap .i64 ((n1:Int) - (1:Int))).toNat default).is.typ),.int .i64 (((l0).getD (IntKind.wrap .i64 ((n1:Int) - (1:Int))).toNat default).is.n),.int .u64 (((l0).getD (IntKind.wrap .i64 ((n1:Int) - (1:Int))).toNat default).is.time),.int .u8 (((l0).getD (IntKind.wrap .i64 ((n1:Int) - (1:Int))).toNat default).is.dot.actor.rep),.int .u32 (((l0).getD (IntKind.wrap .i64 ((n1:Int) - (1:Int))).toNat default).is.dot.actor.inc),.int .u64 (((l0).getD (IntKind.wrap .i64 ((n1:Int) - (1:Int))).toNat default).is.dot.seq),.str (((l0).getD (IntKind.wrap .i64 ((n1:Int) - (1:Int))).toNat default).is.text),.sl 5 ((((l0).getD (IntKind.wrap .i64 ((n1:Int) - (1:Int))).toNat default).is.items).map GItem.row),.sl 3 ((((l0).getD (IntKind.wrap .i64 ((n1:Int) - (1:Int))).toNat default).is.tombs).map GDot.row)]) ty51.choose_spec.2 rfl rfl) (zb rfl)) (sk (sk wd)) ?_
   refine zB rfl rfl (fun hb=>zu rfl ty51.choose_spec.1 ym rfl (zI (cs':=[.sl 1 (x1.path.map zP),.int .u8 x1.typ,.bool x1.had,.bool x1.has,.int .u8 x1.was.typ,.int .i64 x1.was.n,.int .u64 x1.was.time,.int .u8 x1.was.dot.actor.rep,.int .u32 x1.was.dot.actor.inc,.int .u64 x1.was.dot.seq,.str x1.was.text,.sl 5 (x1.was.items.map GItem.row),.sl 3 (x1.was.tombs.map GDot.row),.int .u8 x1.is.typ,.int .i64 x1.is.n,.int .u64 x1.is.time,.int .u8 x1.is.dot.actor.rep,.int .u32 x1.is.dot.actor.inc,.int .u64 x1.is.dot.seq,.str x1.is.text,.sl 5 (x1.is.items.map GItem.row),.sl 3 (x1.is.tombs.map GDot.row)]) ty51.choose_spec.2 rfl rfl) (zb rfl)) (sk (sk yz)) ?_
   refine yQ hF (fun v19 hv19 hF=>?_)
   refine w5 rfl rfl (fun hb=>zC rfl rfl rfl (zo (zn (gk (gk xw)) hb) (zo (zn (gk (gk ym)) hb) zw)) (.cons (zb rfl) (.cons (zb rfl) .nil))) (fun hb=>ok26 (hv19 hb)) (sk (sk xy)) ?_
   refine zB rfl rfl (fun hb=>zy rfl (zn (gk (gk yM)) hb) rfl rfl) (sk (sk xF)) ?_
   refine zq rfl rfl (zM rfl (gk vO) (gk (gk yU)) rfl (zX (fun ht=>gT ht))) (sk (sk xJ)) ?_
   refine yo ?_
   refine zj ?_
   refine zN (gk (gk xC)) hF (fun hc20 hF=>?_) (fun hc20 hF=>?_)
   ·refine zk (zd ?_)
    refine zc rfl (zi rfl rfl (zb rfl)) xe ?_
    refine ze (zj (zJ ?_))
    refine zG ?_
    refine zx ?_
    refine yd ?_
    obtain rfl:=Option.some.inj hF
    replace hF:=hK1
    refine zG ?_
    refine zx ?_
    obtain rfl:=Option.some.inj hF
    refine zz rfl (zD yW zF) (zA (leV.refl _) rfl ?_)
    exact ⟨rfl,rfl⟩
   ·refine zK (yh (zj (zd ?_)))
    refine zc rfl (zy rfl xQ rfl rfl) (sk (sk xP)) ?_
    refine zc rfl (zf rfl (gk (gk xl)) (zb rfl)) ww ?_
    refine ze (yH ?_)
    obtain rfl:=Option.some.inj hF
    exact ⟨(),hl1,hK1,wk.trans (wk.le (by exact (.eq (.d4 (.drop (.drop (.eq (.eq (.cons (leV.of_eq (vf (by omega) (by omega))) (.d16 (.d16 (.d16 (.d16 (.d4 (.d4 (.d4 (.drop (.drop (.drop leL.nil))))))))))))))))))) (xN (by simp [yi,AV.low]) rfl rfl (by simp [Blk.low,yi,AV.low]))⟩
 ·refine yR ?_
  refine zZ ?_
  refine zU ?_
  refine zV ?_
  refine zj (zk (zd ?_))
  refine zc rfl (zi rfl rfl (zb rfl)) xe ?_
  refine ze (zj (zJ ?_))
  obtain rfl:=Option.some.inj hF
  refine zz rfl (zD yW zF) (zA (leV.refl _) rfl ?_)
  exact ⟨rfl,rfl⟩
/-! varve/paths.MayPattern 1 -/
theorem ok80 {s0:zH} {res:Bool} {h:AH}  (hF:vV s0=some res):Spec Tryz.prog 80 [.str s0] h (fun rr hh=>rr=.bool res∧hh=h):=by
 unfold vV at hF
 refine zt Tryz.func80 rfl (by kernel_rfl) (env:=[.str s0,za,za,za,za,za,za,za,za,za]) (by rfl) ?_
 refine zk (zd ?_)
 refine zc rfl (zi rfl rfl (zb rfl)) xe ?_
 refine ze (zj (zk (zd ?_)))
 refine zc rfl (zf rfl yr (zb rfl)) wd ?_
 refine zc rfl (zy rfl xw rfl rfl) yz ?_
 refine zc rfl (zf rfl ym (zb rfl)) xy ?_
 refine zp rfl (fun hb=>zf rfl yr (zb rfl)) xF ?_
 refine yQ hF (fun v1 hv1 hF=>?_)
 refine yj rfl (fun hb=>zC rfl rfl rfl (zo (zn yU hb) zw) (.cons (zb rfl) .nil)) (fun hb=>ok62 (hv1 hb)) xJ ?_
 refine zp rfl (fun hb=>xT rfl (zn xC hb) rfl) xP ?_
 refine zc rfl (zM rfl yM xl rfl (zX (fun ht=>gT ht))) ww ?_
 refine zc rfl (zi rfl xQ (zb rfl)) xe ?_
 refine ze (zj (zJ ?_))
 obtain rfl:=Option.some.inj hF
 refine zz rfl (zD yW zF) (zA (leV.refl _) rfl ?_)
 exact ⟨rfl,rfl⟩
/-! varve/paths.parts -/
theorem ok79 {p0:(List zH)} {res:((List zH)×Bool)} {h:AH}  (hF:qN p0=some res):Spec Tryz.prog 79 [.sl 1 (p0.map zP)] h (fun rr hh=>rr=.tup [.sl 1 (res.1.map zP),.bool res.2]∧hh=h):=by
 unfold qN at hF
 refine zt Tryz.func79 rfl (by kernel_rfl) (env:=[.sl 1 (p0.map zP),za,za,za,za,za,za,za,za,za,za,za,za,za,za,za,za,za,za,za,za,za]) (by rfl) ?_
 refine zk (zd ?_)
 refine zc rfl (zi rfl rfl (xk wA)) xe ?_
 refine zc rfl (zi rfl rfl (zb rfl)) wd ?_
 refine ze (zj (zk (zk (zd ?_))))
 refine zc rfl (zf rfl yr (zb rfl)) xy ?_
 refine ya rfl (zR rfl rfl rfl rfl wA yM yb) xF fun hn1=>?_
 replace hn1:=xu hn1
 refine zc rfl (zi rfl yU (zb rfl)) yz ?_
 refine ze (zj (zk (zd ?_)))
 refine zc rfl (zf rfl ym (zb rfl)) xJ ?_
 refine zc rfl (zy rfl xC rfl rfl) xP ?_
 refine zc rfl (zf rfl xl (zb rfl)) ww ?_
 refine zp rfl (fun hb=>zf rfl yr (zb rfl)) yI ?_
 refine zp rfl (fun hb=>zf rfl ym (zb rfl)) yN ?_
 refine zp rfl (fun hb=>zy rfl (zn yA hb) rfl rfl) yS ?_
 refine wC hF (fun hg2 hF=>?_)
 refine zp rfl (fun hb=>xM default rfl wA (zn yB hb) (zn yP hb) wZ (hg2 hb)) yV ?_
 refine zp rfl (fun hb=>yf rfl ty9 (zn yD hb) (zr rfl) (zb rfl)) y4 ?_
 refine zp rfl (fun hb=>zy rfl (zn yX hb) rfl rfl) y8 ?_
 refine zc rfl (zM rfl xQ yT rfl (zX (fun ht=>gT ht))) xg ?_
 refine ze (zj ?_)
 refine zN xf hF (fun hc3 hF=>?_) (fun hc3 hF=>?_)
 ·refine zk (zd ?_)
  refine zc rfl (zf rfl yr (zb rfl)) xr ?_
  refine zc rfl (zf rfl ym (zb rfl)) xD ?_
  refine zc rfl (zy rfl xB rfl rfl) xK ?_
  refine zO hF (fun m4 hm4 hF=>?_)
  refine zc rfl (s_slcSl rfl wA xp (.inl rfl) .none (.some xI) hm4) x4 ?_
  refine zc rfl (zi rfl x5 (zb rfl)) xe ?_
  refine zc rfl (zi rfl rfl (zb rfl)) wd ?_
  refine ze (zj (zJ (zx ?_)))
  obtain rfl:=Option.some.inj hF
  refine qX rfl (zD yW (zD xw zF)) (zA (leV.refl _) rfl ?_)
  exact ⟨rfl,rfl⟩
 ·refine zK (zj (zk (zd ?_)))
  refine zc rfl (zf rfl yr (zb rfl)) x9 ?_
  refine zc rfl (zi rfl x6 (zb rfl)) xe ?_
  refine zc rfl (zi rfl rfl (zb rfl)) wd ?_
  refine ze (zj (zJ ?_))
  obtain rfl:=Option.some.inj hF
  refine qX rfl (zD yW (zD xw zF)) (zA (leV.refl _) rfl ?_)
  exact ⟨rfl,rfl⟩
/-! varve/paths.MayPattern -/
theorem ok36 {p0:(List zH)} {res:Bool} {h:AH}  (hF:wP p0=some res):Spec Tryz.prog 36 [.sl 1 (p0.map zP)] h (fun rr hh=>rr=.bool res∧hh=h):=by
 unfold wP at hF
 refine zt Tryz.func36 rfl (by kernel_rfl) (env:=[.sl 1 (p0.map zP),za,za,za,za,za,za,za,za,za,za,za,za,za,za,za,za,za,za,za,za,za,za,za,za,za,za,za]) (by rfl) ?_
 refine zk (zd ?_)
 refine zc rfl (zi rfl rfl (zb rfl)) xe ?_
 refine ze (zj (zk (zd ?_)))
 refine zc rfl (zf rfl yr (zb rfl)) xJ ?_
 refine zO hF (fun v1 hv1 hF=>?_)
 refine zL rfl (zC rfl rfl rfl (zo xC zw) (.cons (zb rfl) .nil)) (ok79 hv1) xP ?_
 refine zc rfl (zf rfl xl (zb rfl)) xF ?_
 refine zc rfl (yG rfl yU rfl (zb rfl)) ww ?_
 refine zc rfl (yG rfl yU rfl (zb rfl)) yI ?_
 refine zc rfl (zi rfl xQ (zb rfl)) wd ?_
 refine zc rfl (zi rfl yB (zb rfl)) yz ?_
 refine ze (zj (zk (zd ?_)))
 refine zc rfl (zi rfl rfl (zb rfl)) xy ?_
 refine ze (zj (zk (zd ?_)))
 refine zc rfl (zf rfl xw (zb rfl)) yN ?_
 refine ya rfl (zR rfl rfl rfl rfl wA yA yb) yS fun hn2=>?_
 replace hn2:=xu hn2
 refine zc rfl (zy rfl yP rfl rfl) yV ?_
 refine zc rfl (zf rfl yD (zb rfl)) y4 ?_
 refine zp rfl (fun hb=>zf rfl ym (zb rfl)) y8 ?_
 refine zc rfl (zM rfl yX rfl yT (z8 (fun ht=>gF ht))) xg ?_
 refine zc rfl (zf rfl xf (zb rfl)) xr ?_
 refine zp rfl (fun hb=>zf rfl xw (zb rfl)) xD ?_
 refine xA rfl (fun hb=>zR rfl rfl rfl rfl wA (zn xB hb) yb) xK fun hn3=>?_
 refine zp rfl (fun hb=>zy rfl (zn xI hb) rfl rfl) x4 ?_
 refine zc rfl (zM rfl xp x5 rfl (zX (fun ht=>gT ht))) x9 ?_
 refine zc rfl (zf rfl x6 (zb rfl)) wl ?_
 refine zp rfl (fun hb=>zf rfl xw (zb rfl)) x8 ?_
 refine zp rfl (fun hb=>zf rfl yM (zb rfl)) we ?_
 refine yQ hF (fun v4 hv4 hF=>?_)
 refine yj rfl (fun hb=>zC rfl rfl rfl (zo (zn xX hb) (zo (zn wa hb) zw)) (.cons (zb rfl) (.cons (zb rfl) .nil))) (fun hb=>ok60 (fun _ v L M hv=>ok80  hv) (hv4 hb)) wo ?_
 refine zp rfl (fun hb=>xT rfl (zn wm hb) rfl) wK ?_
 refine zc rfl (zM rfl wi wI rfl (zX (fun ht=>gT ht))) wR ?_
 refine zc rfl (zi rfl wV (zb rfl)) xe ?_
 refine ze (zj (zJ ?_))
 obtain rfl:=Option.some.inj hF
 refine zz rfl (zD yW zF) (zA (leV.refl _) rfl ?_)
 exact ⟨rfl,rfl⟩
/-! varve/paths.Match -/
theorem ok39 {p0:(List zH)} {path1:(List zH)} {res:Bool} {h:AH}  (hF:pathsMatch p0 path1=some res):Spec Tryz.prog 39 [.sl 1 (p0.map zP),.sl 1 (path1.map zP)] h (fun rr hh=>rr=.bool res∧hh=h):=by
 unfold pathsMatch at hF
 refine zt Tryz.func39 rfl (by kernel_rfl) (env:=[.sl 1 (p0.map zP),.sl 1 (path1.map zP),za,za,za,za,za,za,za,za,za,za,za,za,za,za,za,za,za,za,za,za,za,za,za,za,za,za,za,za,za,za,za,za,za,za,za,za,za,za,za,za,za,za,za,za,za,za,za,za,za,za,za,za,za,za,za,za]) (by rfl) ?_
 refine zk (zd ?_)
 refine zc rfl (zi rfl rfl (zb rfl)) yz ?_
 refine ze (zj (zk (zd ?_)))
 refine zc rfl (zf rfl yr (zb rfl)) yI ?_
 refine zO hF (fun v1 hv1 hF=>?_)
 refine zL rfl (zC rfl rfl rfl (zo yB zw) (.cons (zb rfl) .nil)) (ok79 hv1) yN ?_
 refine zc rfl (zf rfl yA (zb rfl)) ww ?_
 refine zc rfl (yG rfl xQ rfl (zb rfl)) yS ?_
 refine zc rfl (yG rfl xQ rfl (zb rfl)) yV ?_
 refine zc rfl (zi rfl yP (zb rfl)) xy ?_
 refine zc rfl (zi rfl yD (zb rfl)) xF ?_
 refine ze (zj (zk (zk (zd ?_))))
 refine zc rfl (zf rfl yr (zb rfl)) y4 ?_
 refine zO hF (fun v2 hv2 hF=>?_)
 refine zL rfl (zC rfl rfl rfl (zo yX zw) (.cons (zb rfl) .nil)) (ok36 hv2) y8 ?_
 refine zc rfl (xT rfl yT rfl) xg ?_
 refine zc rfl (zf rfl xf (zb rfl)) xr ?_
 refine zp rfl (fun hb=>zf rfl yE (zb rfl)) xD ?_
 refine yQ hF (fun v3 hv3 hF=>?_)
 refine yj rfl (fun hb=>zC rfl rfl rfl (zo (zn xB hb) zw) (.cons (zb rfl) .nil)) (fun hb=>ok24 (hv3 hb)) xK ?_
 refine zp rfl (fun hb=>xT rfl (zn xI hb) rfl) x4 ?_
 refine zc rfl (zM rfl xp rfl x5 (z8 (fun ht=>gF ht))) x9 ?_
 refine zc rfl (zf rfl x6 (zb rfl)) wl ?_
 refine zp rfl (fun hb=>zf rfl yE (zb rfl)) x8 ?_
 refine xA rfl (fun hb=>zR rfl rfl rfl rfl wA (zn xX hb) yb) we fun hn4=>?_
 refine zp rfl (fun hb=>zf rfl yM (zb rfl)) wo ?_
 refine xA rfl (fun hb=>zR rfl rfl rfl rfl wA (zn wm hb) yb) wK fun hn5=>?_
 refine zp rfl (fun hb=>zy rfl (zn wa hb) (zn wI hb) rfl) wR ?_
 refine zc rfl (zM rfl wi rfl wV (z8 (fun ht=>gF ht))) wQ ?_
 refine zc rfl (zf rfl wN (zb rfl)) w9 ?_
 refine zp rfl (fun hb=>zf rfl yE (zb rfl)) w8 ?_
 refine xA rfl (fun hb=>zR rfl rfl rfl rfl wA (zn vm hb) yb) vh fun hn6=>?_
 refine zp rfl (fun hb=>zf rfl yM (zb rfl)) vz ?_
 refine xA rfl (fun hb=>zR rfl rfl rfl rfl wA (zn vk hb) yb) vw fun hn7=>?_
 refine zp rfl (fun hb=>zy rfl (zn vl hb) (zn vC hb) rfl) vu ?_
 refine zp rfl (fun hb=>zf rfl (zn vj hb) (zb rfl)) vt ?_
 refine zp (z7 rfl rfl rfl) (fun hb=>zf rfl yU (zb rfl)) vg ?_
 refine zp (z7 rfl rfl rfl) (fun hb=>xT rfl (zn va hb) rfl) vr ?_
 refine zp rfl (fun hb=>zM rfl (zn vB hb) vA rfl (zX (fun ht=>gT2 hb ht))) vK ?_
 refine zc rfl (zM rfl vb rfl vO (z8 (fun ht=>gF ht))) vJ ?_
 refine ze (zj ?_)
 refine zN vG hF (fun hc8 hF=>?_) (fun hc8 hF=>?_)
 ·refine zk (zd ?_)
  refine zc rfl (zi rfl rfl (zb rfl)) yz ?_
  refine ze (zj (zJ (zx ?_)))
  obtain rfl:=Option.some.inj hF
  refine zz rfl (zD ym zF) (zA (leV.refl _) rfl ?_)
  exact ⟨rfl,rfl⟩
 ·refine zK (zj (zk (zk (zd ?_))))
  refine zc rfl (zf rfl yM (zb rfl)) (sk st0) ?_
  refine ya rfl (zR rfl rfl rfl rfl wA (gk yr) yb) (sk st1) fun hn9=>?_
  replace hn9:=xu hn9
  refine zc rfl (zf rfl rfl (zb rfl)) (sk xe) ?_
  refine ze (zj (zQ ?_))
  refine yv (fun (n1:Nat) (s1:Unit)=>yO [0,2,3,4,5,6,7,8,9,10,11,12,13,14,15,16,17,18,19,20,21,22,23,24,25,26,27,28,29,30,31,32,33,34,35,36,37,38,39,43,44,45,46,47,48,49,50,51,52,53,54,55,56,57] [(42,.int .i64 (n1:Int))]) (fun s1=>h.ext [] []) hF (fun _ _=>by simp only [yO,upd,List.set_cons_succ,List.set_cons_zero];try rfl) (wk.le (by exact (.drop (.eq (.d16 (.d16 (.d4 (.drop (.drop (.eq (.eq (.cons (leV.of_eq rfl) (.d4 (.d4 (.d4 (.drop (.drop (.drop leL.nil)))))))))))))))))) ?_
  intro n1 s1 hi1 hF
  refine zk (zd ?_)
  refine zc rfl (zy rfl (gk yW) (gk yE) rfl) (sk wd) ?_
  refine ze (zj (zk ?_))
  refine yK (gk xw) hF (fun x1 o1 hl1 hx1 hF hK1=>?_) (fun hF=>?_)
  ·refine zK (zj (zk (zQ (zk (zd ?_)))))
   refine zc rfl (zf rfl (gk yW) (zb rfl)) (sk yz) ?_
   refine zc rfl (yk rfl wA (gk yr) (gk yW) wZ (yL hx1)) (sk xy) ?_
   refine zc rfl (yf rfl ty9 (gk yM) (zr rfl) (zb rfl)) (sk xF) ?_
   refine zc rfl (zi rfl (gk ym) (zb rfl)) xJ ?_
   refine zc rfl (zi rfl (gk yU) (zb rfl)) xP ?_
   refine ze (zj (zk (zd ?_)))
   refine zc rfl (zf rfl xl (zb rfl)) (sk xJ) ?_
   refine zc rfl (zy rfl (gk xC) rfl rfl) (sk xP) ?_
   refine zc rfl (zf rfl (gk xl) (zb rfl)) (sk ww) ?_
   refine zp rfl (fun hb=>zf rfl xl (zb rfl)) (sk yI) ?_
   refine zp rfl (fun hb=>zf rfl yE (zb rfl)) (sk yN) ?_
   refine zp rfl (fun hb=>zf rfl xC (zb rfl)) (sk yS) ?_
   refine wC hF (fun hg15 hF=>?_)
   refine zp rfl (fun hb=>xM default rfl wA (zn (gk yA) hb) (zn (gk yP) hb) wZ (hg15 hb)) (sk yV) ?_
   refine zp rfl (fun hb=>yf rfl ty9 (zn (gk yD) hb) (zr rfl) (zb rfl)) (sk y4) ?_
   refine zp rfl (fun hb=>zy rfl (zn (gk yB) hb) (zn (gk yX) hb) rfl) (sk y8) ?_
   refine zc rfl (zM rfl (gk xQ) (gk yT) rfl (zX (fun ht=>gT ht))) (sk xg) ?_
   refine ze (zj ?_)
   refine zN (gk xf) hF (fun hc16 hF=>?_) (fun hc16 hF=>?_)
   ·refine zk (zd ?_)
    refine zc rfl (zi rfl rfl (zb rfl)) yz ?_
    refine ze (zj (zJ ?_))
    refine zG ?_
    refine zx ?_
    refine yd ?_
    obtain rfl:=Option.some.inj hF
    replace hF:=hK1
    refine zG ?_
    refine zx ?_
    obtain rfl:=Option.some.inj hF
    refine zz rfl (zD ym zF) (zA (leV.refl _) rfl ?_)
    exact ⟨rfl,rfl⟩
   ·refine zK (yh (zj (zd ?_)))
    refine zc rfl (zy rfl (gk yW) rfl rfl) (sk xr) ?_
    refine zc rfl (zf rfl (gk xp) (zb rfl)) (sk xe) ?_
    refine ze (yH ?_)
    obtain rfl:=Option.some.inj hF
    exact ⟨(),hl1,hK1,wk.le (by exact (.drop (.eq (.d16 (.d16 (.d4 (.drop (.drop (.eq (.eq (.cons (leV.of_eq (vf (by omega) (by omega))) (.d4 (.d4 (.d4 (.drop (.drop (.drop leL.nil)))))))))))))))))⟩
  ·refine yR ?_
   refine zZ ?_
   refine zU ?_
   refine zV ?_
   refine zj (zk (zd ?_))
   refine zc rfl (zi rfl rfl (zb rfl)) yz ?_
   refine ze (zj (zJ ?_))
   obtain rfl:=Option.some.inj hF
   refine zz rfl (zD ym zF) (zA (leV.refl _) rfl ?_)
   exact ⟨rfl,rfl⟩
/-! varve/paths.Select 1 -/
theorem ok38 {path0:(List zH)} {c0:(List zH)} {i0:Nat} {res:Bool} {h:AH} (hb0:h.blk i0=some (.cells [.sl 1 (c0.map zP)])) (hF:pathsSelectC1 path0 c0=some res):Spec Tryz.prog 38 [.sl 1 (path0.map zP),.ptr i0 0] h (fun rr hh=>rr=.bool res∧hh=h):=by
 unfold pathsSelectC1 at hF
 refine zt Tryz.func38 rfl (by kernel_rfl) (env:=[.sl 1 (path0.map zP),.ptr i0 0,za,za,za,za,za]) (by rfl) ?_
 refine zk (zd ?_)
 refine zc rfl (zi rfl rfl (zb rfl)) wd ?_
 refine ze (zj (zk (zd ?_)))
 refine zc rfl (b_load rfl ty49 yE hb0 (zr rfl) (zb rfl)) yz ?_
 refine zc rfl (zf rfl yr (zb rfl)) xy ?_
 refine zO hF (fun v1 hv1 hF=>?_)
 refine zL rfl (zC rfl rfl rfl (zo ym (zo yM zw)) (.cons (zb rfl) (.cons (zb rfl) .nil))) (ok39 hv1) xF ?_
 refine zc rfl (zi rfl yU (zb rfl)) wd ?_
 refine ze (zj (zJ ?_))
 obtain rfl:=Option.some.inj hF
 refine zz rfl (zD xw zF) (zA (leV.refl _) rfl ?_)
 exact ⟨rfl,rfl⟩
/-! varve/paths.kept -/
theorem ok37N (n:Nat):∀ {t0:(List GNode)} {ahead1:(List zH)} {is2:((List zH)→Option Bool)} {fis2:FuncId} {ais2 kis2:List AV} {res:(List GNode)} {h:AH} (his2:∀ x0 v (L:List Blk) (M:List Nat),is2 x0=some v→Spec Tryz.prog fis2 (ais2++[.sl 1 (x0.map zP)]++kis2) (h.ext L M) (fun rr hh=>rr=.bool v∧hh=h.ext L M)),qa n t0 ahead1 is2=some res→Spec Tryz.prog 37 [.sl 3 (t0.map GNode.row),.sl 1 (ahead1.map zP),.fn (.func fis2) ais2 kis2] h (fun rr hh=>rr=.sl 3 (res.map GNode.row)∧hh=h):=by
 induction n with
 | zero=>intro t0 ahead1 is2 fis2 ais2 kis2 res h his2 hF;simp [qa] at hF
 | succ n ih =>
  intro t0 ahead1 is2 fis2 ais2 kis2 res h his2 hF
  unfold qa at hF
  refine yC Tryz.func37 rfl (by kernel_rfl) (env:=[.sl 3 (t0.map GNode.row),.sl 1 (ahead1.map zP),.fn (.func fis2) ais2 kis2,za,za,za,za,za,za,za,za,za,za,za,za,za,za,za,za,za,za,za,za,za,za,za,za,za,za,za,za,za,za,za,za,za,za,za,za,za,za,za,za,za,za,za,za,za,za,za,za,za,za,za,za,za,za,za,za,za,za,za,za,za,za]) (by rfl) (fun hlow hC=>?_)
  simp only [yi,AV.low,Bool.and_eq_true,Bool.true_and,and_true] at hlow
  have hlais2:∀ n m,h.blks.length≤n→h.toks.length≤m→yi n m ais2=true:=fun n m h1 h2=>yY h1 h2 _ (by simp [hlow])
  have hlkis2:∀ n m,h.blks.length≤n→h.toks.length≤m→yi n m kis2=true:=fun n m h1 h2=>yY h1 h2 _ (by simp [hlow])
  refine zk (zd ?_)
  refine zc rfl (zi rfl rfl (xk xn)) xF ?_
  refine ze (zj (zk (zk (zd ?_))))
  refine zc rfl (zf rfl yr (zb rfl)) yV ?_
  refine ya rfl (zR rfl rfl rfl rfl xn yD yb) y4 fun hn1=>?_
  replace hn1:=xu hn1
  refine zc rfl (zf rfl rfl (zb rfl)) y8 ?_
  refine ze (zj (zQ ?_))
  refine yv (fun (n1:Nat) (s1:(List GNode))=>yO [0,3,4,5,7,8,9,10,11,12,16,17,18,19,20,21,22,23,24,25,26,27,28,29,30,31,32,33,34,35,36,37,38,39,40,41,42,43,44,45,46,47,48,49,50,51,52,53,54,55,56,57,58,59,60,61,62,63,64] [(6,.osl (some (h.toks.length+0)) 3 (s1.map GNode.row)),(15,.int .i64 (n1:Int))]) (fun s1=>h.ext [] [(s1).length]) hF (fun _ _=>by simp only [yO,upd,List.set_cons_succ,List.set_cons_zero];try rfl) (wk.trans (wk_tok yU rfl xF rfl) (wk.le (by exact (.drop (.eq (.eq (.drop (.drop (.drop (.cons (leV.of_eq rfl) (.d4 (.drop (.drop (.eq (.eq (.cons (leV.of_eq rfl) (.d16 (.d16 (.d16 (.drop leL.nil)))))))))))))))))))) ?_
  intro n1 s1 hi1 hF
  refine zk (zd ?_)
  refine zc rfl (zy rfl yT yX rfl) xg ?_
  refine ze (zj (zk ?_))
  refine yK xf hF (fun x1 o1 hl1 hx1 hF hK1=>?_) (fun hF=>?_)
  ·refine zK (zj (zk (zQ (zk (zd ?_)))))
   refine zc rfl (xL rfl xn yD yT wZ (yL hx1) (GNode.row_eq _)) xr ?_
   refine zc rfl (yf rfl ty48.choose_spec.1 xp (zI (cs':=[.str x1.name,.sl 9 (x1.leaves.map GLeaf.row),.sl 3 (x1.subs.map GNode.row)]) ty48.choose_spec.2 rfl rfl) (zb rfl)) xD ?_
   refine zc rfl (xc (n:=0) rfl ze48 rfl) xP ?_
   refine zc rfl (ye (cs':=[.str x1.name,.sl 9 (x1.leaves.map GLeaf.row),.sl 3 (x1.subs.map GNode.row)]) rfl ty48.choose_spec.1 xl xB (zb rfl) rfl rfl rfl rfl rfl) rfl ?_
   refine ze (zj (zk ?_))
   refine yJ [] [] trivial mixed (by kernel_rfl) ?_
   refine zq rfl rfl (zf rfl yE (zb rfl)) xK ?_
   refine zO hF (fun v32 hv32 hF=>?_)
   refine w6 rfl FOk.nil (by rfl) rfl (zC rfl rfl rfl (zo xI zw) (.cons (zb rfl) .nil)) (own_ext (T':=[(s1).length,(v32).length]) (ok59 hv32) (m:=1) rfl rfl) x4 ?_
   refine zq rfl rfl (zg rfl fo48x0 xl rfl) x9 ?_
   refine zq rfl rfl (zu rfl ty9 x6 rfl (zr rfl) (zb rfl)) wl ?_
   refine zq rfl rfl (yu (es:=([x1.name]:List zH).map zP) rfl wA ze9 rfl rfl (yg wi yl) (.cons (zb rfl) .nil) rfl rfl rfl) x8 ?_
   refine wC hF (fun hm33 hF=>?_)
   refine draw_okH rfl FOk.nil (by rfl) rfl (e_appT (j:=1) (T':=[(s1).length,((v32++([x1.name]:List zH))).length]) rfl rfl rfl rfl wA wA x5 xX (zb rfl) (zb rfl) qZ hm33 rfl rfl) we ?_
   refine zq rfl rfl (zi rfl wa (zb rfl)) ww ?_
   refine yo ?_
   refine zj (zk ?_)
   refine yJ [1,3,6] [(1,[(0,.cells [.str x1.name,.sl 9 (x1.leaves.map GLeaf.row),.sl 3 (x1.subs.map GNode.row)])]),(3,[(0,.cells [.str x1.name,.sl 9 (x1.leaves.map GLeaf.row),.sl 3 (x1.subs.map GNode.row)])])] ⟨⟨rfl,trivial⟩,⟨rfl,trivial⟩,trivial⟩ mixed (by kernel_rfl) ?_
   refine zq rfl rfl (zg rfl fo48x0 xl rfl) wo ?_
   refine draw_okN rfl rfl (by rintro _ ⟨B2,T2,rfl,hk2⟩;exact zu rfl ty9 wm (keeps1 hk2) (zr rfl) (zb rfl)) wK ?_
   refine zq rfl rfl (zg rfl fo48x2 xl rfl) wR ?_
   refine draw_okN rfl rfl (by rintro _ ⟨B2,T2,rfl,hk2⟩;exact zu rfl ty23 wV (keeps1 hk2) (zr rfl) (zb rfl)) wQ ?_
   refine zq rfl rfl (zf rfl xQ (zb rfl)) w9 ?_
   refine zq rfl rfl (zf rfl yW (zb rfl)) w8 ?_
   refine zO hF (fun v34 hv34 hF=>?_)
   refine yw rfl rfl (fun _=>zC rfl rfl rfl (zo wN (zo vb (zo vm zw))) (.cons (zb rfl) (.cons (zb rfl) (.cons (zb rfl) .nil)))) (by rintro _ ⟨B2,T2,rfl,hk2⟩;exact (ih (fun x0 v L M hv=>by rw [wb];exact his2 x0 v _ _ hv) hv34).le (.eq (.cons (leV.osl _ _ _) (.eq leL.nil)))) vh ?_
   refine zq rfl rfl (ql (cs':=[.str x1.name,.osl none 9 (([]:List GLeaf).map GLeaf.row),.sl 3 (v34.map GNode.row)]) rfl su48 ze48 pl48 (yg wI (yg vl yl)) (.cons (zb rfl) (.cons (zb rfl) .nil)) rfl rfl) vz ?_
   refine xa rfl (FOk.cons (.inr (xU ⟨rfl,trivial⟩)) (FOk.cons (.inr (xU ⟨rfl,trivial⟩)) (FOk.cons (.inr (xU trivial)) FOk.nil))) (by kernel_rfl) rfl (xc (n:=1) rfl ze48 rfl) yI ?_
   refine xa rfl (FOk.cons (.inr (xU ⟨rfl,trivial⟩)) (FOk.cons (.inr (xU ⟨rfl,trivial⟩)) (FOk.cons (.inr (xU trivial)) FOk.nil))) (by kernel_rfl) rfl (ye (cs':=[.str x1.name,.osl none 9 (([]:List GLeaf).map GLeaf.row),.sl 3 (v34.map GNode.row)]) rfl ty48.choose_spec.1 yB vk (zb rfl) rfl rfl rfl rfl rfl) rfl ?_
   refine yo ?_
   refine zj (zk (zk (zd ?_)))
   refine zc rfl (zg rfl xY xl rfl) vw ?_
   refine zc rfl (zu rfl ty46 vC rfl (zr rfl) (zb rfl)) vu ?_
   refine ya rfl (zR rfl rfl rfl rfl wc vj yb) vt fun hn35=>?_
   replace hn35:=xu hn35
   refine zc rfl (zf rfl rfl (zb rfl)) vg ?_
   refine ze (zj (zQ ?_))
   refine yv (fun (n2:Nat) (s2:(List GLeaf))=>yO [0,3,4,5,7,8,11,12,16,17,18,19,20,21,22,23,24,25,26,27,28,29,30,31,32,33,37,38,39,40,41,42,43,44,45,46,47,48,49,50,51,52,53,54,55,56,57,58,59,60,61,62,63,64] [(36,.int .i64 (n2:Int))]) (fun s2=>h.ext [.cells [.str x1.name,.sl 9 (x1.leaves.map GLeaf.row),.sl 3 (x1.subs.map GNode.row)],.cells [.str x1.name,.osl (some (h.toks.length+2)) 9 (s2.map GLeaf.row),.sl 3 (v34.map GNode.row)]] [(s1).length,((v32++([x1.name]:List zH))).length,(s2).length]) hF (fun _ _=>by simp only [yO,upd,List.set_cons_succ,List.set_cons_zero];try rfl) (wk.trans (wk_tokB (j:=1) rfl yE rfl st1 rfl rfl) (wk.le (by exact (.drop (.eq (.eq (.drop (.drop (.drop (.eq (.drop (.drop (.eq (.eq (.drop (.drop (.eq (.eq (.eq (.d16 (.drop (.drop (.eq (.eq (.cons (leV.of_eq rfl) (.d16 (.d4 (.d4 (.d4 leL.nil))))))))))))))))))))))))))))) ?_
   intro n2 s2 hi2 hF
   refine zk (zd ?_)
   refine zc rfl (zy rfl va vB rfl) vr ?_
   refine ze (zj (zk ?_))
   refine yK vA hF (fun x2 o2 hl2 hx2 hF hK2=>?_) (fun hF=>?_)
   ·refine zK (zj (zk (zQ (zk (zd ?_)))))
    refine zc rfl (yk rfl wc vj va wZ (yL hx2)) vK ?_
    refine zc rfl (yf rfl ty45.choose_spec.1 vO (zI (cs':=[.int .u8 x2.typ,.int .i64 x2.n,.int .u64 x2.time,.int .u8 x2.dot.actor.rep,.int .u32 x2.dot.actor.inc,.int .u64 x2.dot.seq,.str x2.text,.sl 5 (x2.items.map GItem.row),.sl 3 (x2.tombs.map GDot.row)]) ty45.choose_spec.2 rfl rfl) (zb rfl)) vJ ?_
    refine zc rfl (xc (n:=2) rfl ze45 rfl) yS ?_
    refine zc rfl (ye (cs':=[.int .u8 x2.typ,.int .i64 x2.n,.int .u64 x2.time,.int .u8 x2.dot.actor.rep,.int .u32 x2.dot.actor.inc,.int .u64 x2.dot.seq,.str x2.text,.sl 5 (x2.items.map GItem.row),.sl 3 (x2.tombs.map GDot.row)]) rfl ty45.choose_spec.1 yP vG (zb rfl) rfl rfl rfl rfl rfl) rfl ?_
    refine ze (zj (zk (zd ?_)))
    refine zc rfl (zf rfl yW (zb rfl)) (sk st0) ?_
    refine zc rfl (zf rfl xQ (zb rfl)) (sk st1) ?_
    refine zO hF (fun v49 hv49 hF=>?_)
    refine zL rfl (s_callC rfl rfl (gk yr) (zo (gk yE) zw) (.cons (zb rfl) .nil) rfl) ((his2 _ _ _ _ hv49).le (leL.app (leL.pre (.cons (leV.osl _ _ _) leL.nil)))) (sk xe) ?_
    refine ze (zj ?_)
    refine zN (gk yW) hF (fun hc50 hF=>?_) (fun hc50 hF=>?_)
    ·refine yJ [3] [] trivial mixed (by kernel_rfl) ?_
     refine zq rfl rfl (zg rfl xY yB rfl) (sk wd) ?_
     refine zq rfl rfl (zu rfl ty46 (gk xw) rfl (zr rfl) (zb rfl)) (sk yz) ?_
     refine zq rfl rfl (zu rfl ty45.choose_spec.1 yP rfl (zI (cs':=[.int .u8 x2.typ,.int .i64 x2.n,.int .u64 x2.time,.int .u8 x2.dot.actor.rep,.int .u32 x2.dot.actor.inc,.int .u64 x2.dot.seq,.str x2.text,.sl 5 (x2.items.map GItem.row),.sl 3 (x2.tombs.map GDot.row)]) ty45.choose_spec.2 rfl rfl) (zb rfl)) (sk xy) ?_
     refine zO hF (fun v51 hv51 hF=>?_)
     refine yw rfl rfl (fun _=>zC rfl rfl rfl (zo (gk yM) zw) (.cons (zb rfl) .nil)) (by rintro _ ⟨B2,T2,rfl,hk2⟩;exact ok68 hv51) (sk xF) ?_
     refine zq rfl rfl (yu (es:=([v51]:List GLeaf).map GLeaf.row) rfl wc ze45 rfl rfl (yg (gk yU) yl) (.cons (zb rfl) .nil) rfl rfl rfl) (sk xJ) ?_
     refine wC hF (fun hm52 hF=>?_)
     refine draw_okH rfl (FOk.cons (.inr (xU trivial)) FOk.nil) (by rfl) rfl (e_appT (j:=2) (T':=[(s1).length,((v32++([x1.name]:List zH))).length,((s2++([v51]:List GLeaf))).length]) rfl rfl rfl rfl wc wc (gk ym) (gk xC) (zb rfl) (zb rfl) qZ hm52 rfl rfl) (sk xP) ?_
     refine zq rfl rfl (zg rfl xY yB rfl) (sk ww) ?_
     refine xa rfl (FOk.cons (.inr (xU trivial)) FOk.nil) (by kernel_rfl) rfl (ye (cs':=[.str x1.name,.osl (some (h.toks.length+2)) 9 ((s2++([v51]:List GLeaf)).map GLeaf.row),.sl 3 (v34.map GNode.row)]) rfl ty46 (gk xQ) (gk xl) (zb rfl) rfl rfl rfl rfl rfl) rfl ?_
     refine yo ?_
     refine yh (zj (zd ?_))
     refine zc rfl (zy rfl va rfl rfl) (sk yI) ?_
     refine zc rfl (zf rfl (gk yB) (zb rfl)) vg ?_
     refine ze (yH ?_)
     obtain rfl:=Option.some.inj hF
     exact ⟨(s2++([v51]:List GLeaf)),hl2,hK2,wk.trans (wk.le (by exact (.drop (.eq (.eq (.drop (.drop (.drop (.eq (.drop (.drop (.eq (.eq (.drop (.drop (.eq (.eq (.eq (.d16 (.drop (.drop (.eq (.eq (.cons (leV.of_eq (vf (by omega) (by omega))) (.d16 (.d4 (.d4 (.d4 leL.nil)))))))))))))))))))))))))))) (xN (by simp [yi,AV.low,hlais2,hlkis2]) rfl rfl (by simp [Blk.low,yi,AV.low,hlais2,hlkis2]))⟩
    ·refine zK (yh (zj (zd ?_)))
     refine zc rfl (zy rfl va rfl rfl) (sk yI) ?_
     refine zc rfl (zf rfl (gk yB) (zb rfl)) vg ?_
     refine ze (yH ?_)
     obtain rfl:=Option.some.inj hF
     exact ⟨s2,hl2,hK2,wk.trans (wk.le (by exact (.drop (.eq (.eq (.drop (.drop (.drop (.eq (.drop (.drop (.eq (.eq (.drop (.drop (.eq (.eq (.eq (.d16 (.drop (.drop (.eq (.eq (.cons (leV.of_eq (vf (by omega) (by omega))) (.d16 (.d4 (.d4 (.d4 leL.nil)))))))))))))))))))))))))))) (xN (by simp [yi,AV.low,hlais2,hlkis2]) rfl rfl (by simp [Blk.low,yi,AV.low,hlais2,hlkis2]))⟩
   ·refine yR ?_
    refine zZ ?_
    refine zU ?_
    refine zV ?_
    refine zj (zk (zd ?_))
    refine zc rfl (zg rfl xY yB rfl) (sk yN) ?_
    refine zc rfl (zu rfl ty46 (gk yA) rfl (zr rfl) (zb rfl)) (sk yS) ?_
    refine ya rfl (zR rfl rfl rfl rfl wc (gk yP) lenMapO) (sk yV) fun hn53=>?_
    replace hn53:=xu hn53
    refine zc rfl (zg rfl fo48x2 yB rfl) (sk y4) ?_
    refine zc rfl (zu rfl ty23 (gk yX) rfl (zr rfl) (zb rfl)) (sk y8) ?_
    refine ya rfl (zR rfl rfl rfl rfl xn (gk yT) yb) (sk xg) fun hn54=>?_
    replace hn54:=xu hn54
    refine zc rfl (zy rfl (gk yD) (gk xf) rfl) (sk xr) ?_
    refine zc rfl (zy rfl (gk xp) rfl rfl) (sk xD) ?_
    refine ze (zj ?_)
    refine zN (gk xB) hF (fun hc55 hF=>?_) (fun hc55 hF=>?_)
    ·refine zd ?_
     refine zc rfl (zf rfl yU (zb rfl)) (sk xK) ?_
     refine zc rfl (zu rfl ty48.choose_spec.1 yB rfl (zI (cs':=[.str x1.name,.osl (some (h.toks.length+2)) 9 (s2.map GLeaf.row),.sl 3 (v34.map GNode.row)]) ty48.choose_spec.2 rfl rfl) (zb rfl)) (sk x4) ?_
     refine zc rfl (yu (es:=([(GNode.mk x1.name s2 v34)]:List GNode).map GNode.row) rfl xn ze48 rfl rfl (yg (gk x5) yl) (.cons (zb rfl) .nil) rfl rfl (by simp only [List.map_cons,List.map_nil,GNode.row_eq];rfl)) (sk x9) ?_
     refine wC hF (fun hm56 hF=>?_)
     refine zc rfl (e_appT (j:=0) (T':=[((s1++([(GNode.mk x1.name s2 v34)]:List GNode))).length,((v32++([x1.name]:List zH))).length,(s2).length]) rfl rfl rfl rfl xn xn (gk xI) (gk x6) (zb rfl) (zb rfl) qZ hm56 rfl rfl) (sk wl) ?_
     refine zc rfl (zi rfl (gk wi) (zb rfl)) xF ?_
     refine ze (yh (zj (zd ?_)))
     refine zc rfl (zy rfl yT rfl rfl) (sk x8) ?_
     refine zc rfl (zf rfl (gk xX) (zb rfl)) y8 ?_
     refine ze (yH ?_)
     obtain rfl:=Option.some.inj hF
     exact ⟨(s1++([(GNode.mk x1.name s2 v34)]:List GNode)),hl1,hK1,wk.trans (wk.le (by exact (.drop (.eq (.eq (.drop (.drop (.drop (.cons (leV.of_eq rfl) (.d4 (.drop (.drop (.eq (.eq (.cons (leV.of_eq (vf (by omega) (by omega))) (.d16 (.d16 (.d16 (.drop leL.nil))))))))))))))))))) (xN (by simp [yi,AV.low,hlais2,hlkis2]) rfl rfl (by simp [Blk.low,yi,AV.low,hlais2,hlkis2]))⟩
    ·refine zK (yh (zj (zd ?_)))
     refine zc rfl (zy rfl yT rfl rfl) (sk x8) ?_
     refine zc rfl (zf rfl (gk xX) (zb rfl)) y8 ?_
     refine ze (yH ?_)
     obtain rfl:=Option.some.inj hF
     exact ⟨s1,hl1,hK1,wk.trans (wk.le (by exact (.drop (.eq (.eq (.drop (.drop (.drop (.cons (leV.of_eq rfl) (.d4 (.drop (.drop (.eq (.eq (.cons (leV.of_eq (vf (by omega) (by omega))) (.d16 (.d16 (.d16 (.drop leL.nil))))))))))))))))))) (xN (by simp [yi,AV.low,hlais2,hlkis2]) rfl rfl (by simp [Blk.low,yi,AV.low,hlais2,hlkis2]))⟩
  ·refine yR ?_
   refine zZ ?_
   refine zU ?_
   refine zV ?_
   refine zj (zk (zd ?_))
   refine zc rfl (zf rfl yU (zb rfl)) (sk we) ?_
   refine zc rfl (zi rfl (gk wa) (zb rfl)) xF ?_
   refine ze (zj (zJ ?_))
   obtain rfl:=Option.some.inj hF
   refine zz rfl (zD yU zF) (zA (leV.osl _ _ _) rfl ?_)
   exact ⟨rfl,rfl⟩
theorem ok37 {t0:(List GNode)} {ahead1:(List zH)} {is2:((List zH)→Option Bool)} {fis2:FuncId} {ais2 kis2:List AV} {res:(List GNode)} {h:AH} (his2:∀ x0 v (L:List Blk) (M:List Nat),is2 x0=some v→Spec Tryz.prog fis2 (ais2++[.sl 1 (x0.map zP)]++kis2) (h.ext L M) (fun rr hh=>rr=.bool v∧hh=h.ext L M)) (hF:pathsXkept t0 ahead1 is2=some res):Spec Tryz.prog 37 [.sl 3 (t0.map GNode.row),.sl 1 (ahead1.map zP),.fn (.func fis2) ais2 kis2] h (fun rr hh=>rr=.sl 3 (res.map GNode.row)∧hh=h):=by
 obtain ⟨n,hn⟩:=anyN_is hF
 exact ok37N n his2 hn
/-! varve/paths.Select -/
theorem ok19 {t0:(List GNode)} {p1:(List zH)} {res:((List GNode)×Int)} {h:AH}  (hF:qb t0 p1=some res):Spec Tryz.prog 19 [.sl 3 (t0.map GNode.row),.sl 1 (p1.map zP)] h (fun rr hh=>rr=.tup [.sl 3 (res.1.map GNode.row),.int .i64 res.2]∧hh=h):=by
 unfold qb at hF
 refine zt Tryz.func19 rfl (by kernel_rfl) (env:=[.sl 3 (t0.map GNode.row),.sl 1 (p1.map zP),za,za,za,za,za,za,za,za,za,za,za,za,za,za,za]) (by rfl) ?_
 refine zk (zd ?_)
 refine zc rfl (xq (n:=0) rfl yE (zb rfl) rfl rfl) wd ?_
 refine zc rfl (zi rfl rfl (xk xn)) yz ?_
 refine zc rfl (zi rfl rfl (zb rfl)) xy ?_
 refine ze (zj (zk (zk (zd ?_))))
 refine zc rfl (zf rfl yr (zb rfl)) xF ?_
 refine zO hF (fun v1 hv1 hF=>?_)
 refine zL rfl (zC rfl rfl rfl (zo yU zw) (.cons (zb rfl) .nil)) (ok14 hv1) xJ ?_
 refine zc rfl (xT rfl xC rfl) xP ?_
 refine zc rfl (zf rfl xl (zb rfl)) ww ?_
 refine zp rfl (fun hb=>zu rfl ty49 xw rfl (zr rfl) (zb rfl)) yI ?_
 refine yQ hF (fun v2 hv2 hF=>?_)
 refine yj rfl (fun hb=>zC rfl rfl rfl (zo (zn yB hb) zw) (.cons (zb rfl) .nil)) (fun hb=>ok36 (hv2 hb)) yN ?_
 refine zp rfl (fun hb=>xT rfl (zn yA hb) rfl) yS ?_
 refine zc rfl (zM rfl xQ rfl yP (z8 (fun ht=>gF ht))) yV ?_
 refine ze (zj ?_)
 refine zN yD hF (fun hc3 hF=>?_) (fun hc3 hF=>?_)
 ·refine zk (zd ?_)
  refine zc rfl (zi rfl rfl (xk xn)) yz ?_
  refine zc rfl (zi rfl rfl (zb rfl)) xy ?_
  refine ze (zj (zJ (zx ?_)))
  obtain rfl:=Option.some.inj hF
  refine qX rfl (zD ym (zD yM zF)) (zA (leV.tup (.cons (leV.osl _ _ _) (.eq leL.nil))) rfl ?_)
  exact ⟨rfl,rfl⟩
 ·refine zK (zj (zk (zd ?_)))
  refine zc rfl (zf rfl yr (zb rfl)) y4 ?_
  refine zc rfl (s_makeFunc rfl rfl rfl) y8 ?_
  refine zO hF (fun v4 hv4 hF=>?_)
  refine zL rfl (zC rfl rfl rfl (zo yX (zo rfl (zo yT zw))) (.cons (zb rfl) (.cons (xk wA) (.cons (zb rfl) .nil)))) ((ok37 (fun _ v L M hv=>ok38 (blk_ext2 (j:=0) rfl) hv) hv4).le (.eq (.cons (leV.osl _ _ _) (.eq leL.nil)))) xg ?_
  refine zc rfl (zi rfl xf (zb rfl)) yz ?_
  refine zc rfl (zi rfl rfl (zb rfl)) xy ?_
  refine ze (zj (zJ ?_))
  obtain rfl:=Option.some.inj hF
  refine qX rfl (zD ym (zD yM zF)) (zA (leV.refl _) rfl ?_)
  exact ⟨rfl,rfl⟩
/-! slices.IndexFunc[varve/api.Tree,varve/api.Node] -/
theorem ok81 {s0:(List GNode)} {f1:(GNode→Option Bool)} {ff1:FuncId} {af1 kf1:List AV} {res:Int} {h:AH} (hf1:∀ x0 v (L:List Blk) (M:List Nat),f1 x0=some v→Spec Tryz.prog ff1 (af1++[.agg [.str x0.name,.sl 9 (x0.leaves.map GLeaf.row),.sl 3 (x0.subs.map GNode.row)]]++kf1) (h.ext L M) (fun rr hh=>rr=.bool v∧hh=h.ext L M)) (hF:wn s0 f1=some res):Spec Tryz.prog 81 [.sl 3 (s0.map GNode.row),.fn (.func ff1) af1 kf1] h (fun rr hh=>rr=.int .i64 res∧hh=h):=by
 unfold wn at hF
 refine yC Tryz.func81 rfl (by kernel_rfl) (env:=[.sl 3 (s0.map GNode.row),.fn (.func ff1) af1 kf1,za,za,za,za,za,za,za,za,za,za,za,za,za,za,za,za,za]) (by rfl) (fun hlow hC=>?_)
 simp only [yi,AV.low,Bool.and_eq_true,Bool.true_and,and_true] at hlow
 have hlaf1:∀ n m,h.blks.length≤n→h.toks.length≤m→yi n m af1=true:=fun n m h1 h2=>yY h1 h2 _ (by simp [hlow])
 have hlkf1:∀ n m,h.blks.length≤n→h.toks.length≤m→yi n m kf1=true:=fun n m h1 h2=>yY h1 h2 _ (by simp [hlow])
 refine zk (zd ?_)
 refine zc rfl (zi rfl rfl (zb rfl)) yz ?_
 refine ze (zj (zk (zk (zd ?_))))
 refine zc rfl (zf rfl yr (zb rfl)) xF ?_
 refine ya rfl (zR rfl rfl rfl rfl xn yU yb) xJ fun hn1=>?_
 replace hn1:=xu hn1
 refine zc rfl (zf rfl rfl (zb rfl)) xP ?_
 refine ze (zj (zQ ?_))
 refine yv (fun (n1:Nat) (s1:Unit)=>yO [2,3,4,5,6,9,10,11,12,13,14,15,16,17,18] [(8,.int .i64 (n1:Int))]) (fun s1=>h.ext [] []) hF (fun _ _=>by simp only [yO,upd,List.set_cons_succ,List.set_cons_zero];try rfl) (wk.le (by exact (.eq (.eq (.d4 (.drop (.eq (.cons (leV.of_eq rfl) (.d4 (.d4 (.drop (.drop leL.nil)))))))))))) ?_
 intro n1 s1 hi1 hF
 refine zk (zd ?_)
 refine zc rfl (zy rfl xl xC rfl) ww ?_
 refine ze (zj (zk ?_))
 refine yK xQ hF (fun x1 o1 hl1 hx1 hF hK1=>?_) (fun hF=>?_)
 ·refine zK (zj (zk (zQ (zk (zd ?_)))))
  refine zc rfl (zf rfl xl (zb rfl)) yI ?_
  refine zc rfl (zi rfl yB (zb rfl)) xy ?_
  refine ze (zj (zk (zd ?_)))
  refine zc rfl (zf rfl yE (zb rfl)) yN ?_
  refine zc rfl (zf rfl yr (zb rfl)) yS ?_
  refine zc rfl (zf rfl yM (zb rfl)) yV ?_
  refine zc rfl (xL rfl xn yP yD wZ (yL hx1) (GNode.row_eq _)) y4 ?_
  refine zc rfl (yf rfl ty48.choose_spec.1 yX (zI (cs':=[.str x1.name,.sl 9 (x1.leaves.map GLeaf.row),.sl 3 (x1.subs.map GNode.row)]) ty48.choose_spec.2 rfl rfl) (zb rfl)) y8 ?_
  refine zO hF (fun v7 hv7 hF=>?_)
  refine zL rfl (s_callC rfl rfl yA (zo yT zw) (.cons (zb rfl) .nil) rfl) (hf1 _ _ _ _ hv7) xg ?_
  refine ze (zj ?_)
  refine zN xf hF (fun hc8 hF=>?_) (fun hc8 hF=>?_)
  ·refine zk (zd ?_)
   refine zc rfl (zf rfl yM (zb rfl)) xr ?_
   refine zc rfl (zi rfl xp (zb rfl)) yz ?_
   refine ze (zj (zJ ?_))
   refine zG ?_
   refine zx ?_
   refine yd ?_
   obtain rfl:=Option.some.inj hF
   replace hF:=hK1
   refine zG ?_
   refine zx ?_
   obtain rfl:=Option.some.inj hF
   refine zz rfl (zD ym zF) (zA (leV.refl _) rfl ?_)
   exact ⟨rfl,rfl⟩
  ·refine zK (yh (zj (zd ?_)))
   refine zc rfl (zy rfl xl rfl rfl) xD ?_
   refine zc rfl (zf rfl xB (zb rfl)) xP ?_
   refine ze (yH ?_)
   obtain rfl:=Option.some.inj hF
   exact ⟨(),hl1,hK1,wk.le (by exact (.eq (.eq (.d4 (.drop (.eq (.cons (leV.of_eq (vf (by omega) (by omega))) (.d4 (.d4 (.drop (.drop leL.nil)))))))))))⟩
 ·refine yR ?_
  refine zZ ?_
  refine zU ?_
  refine zV ?_
  refine zj (zk (zd ?_))
  refine zc rfl (zi rfl rfl (zb rfl)) yz ?_
  refine ze (zj (zJ ?_))
  obtain rfl:=Option.some.inj hF
  refine zz rfl (zD ym zF) (zA (leV.refl _) rfl ?_)
  exact ⟨rfl,rfl⟩
/-! varve/tree.linear 1 -/
theorem ok82 {n0:GNode} {c0:zH} {i0:Nat} {res:Bool} {h:AH} (hb0:h.blk i0=some (.cells [.str c0])) (hF:treeXlinearC1 n0 c0=some res):Spec Tryz.prog 82 [.agg [.str n0.name,.sl 9 (n0.leaves.map GLeaf.row),.sl 3 (n0.subs.map GNode.row)],.ptr i0 0] h (fun rr hh=>rr=.bool res∧hh=h):=by
 unfold treeXlinearC1 at hF
 refine zt Tryz.func82 rfl (by kernel_rfl) (env:=[.agg [.str n0.name,.sl 9 (n0.leaves.map GLeaf.row),.sl 3 (n0.subs.map GNode.row)],.ptr i0 0,za,za,za,za,za,za]) (by rfl) ?_
 refine zk (zd ?_)
 refine zc rfl (xq (n:=0) rfl yr (zb rfl) rfl rfl) xe ?_
 refine zc rfl (zi rfl rfl (zb rfl)) wd ?_
 refine ze (zj (zk (zd ?_)))
 refine zc rfl (zg rfl fo48x0 yW rfl) yz ?_
 refine zc rfl (zu rfl ty9 ym rfl (zr rfl) (zb rfl)) xy ?_
 refine zc rfl (b_load rfl ty9 yE hb0 (zr rfl) (zb rfl)) xF ?_
 refine zc rfl (zy rfl yM yU rfl) xJ ?_
 refine zc rfl (zi rfl xC (zb rfl)) wd ?_
 refine ze (zj (zJ ?_))
 obtain rfl:=Option.some.inj hF
 refine zz rfl (zD xw zF) (zA (leV.refl _) rfl ?_)
 exact ⟨rfl,rfl⟩
/-! varve/tree.linear -/
theorem ok40 {t0:(List GNode)} {name1:zH} {res:(GNode×Bool)} {h:AH}  (hF:qK t0 name1=some res):Spec Tryz.prog 40 [.sl 3 (t0.map GNode.row),.str name1] h (fun rr hh=>rr=.tup [.agg [.str res.1.name,.sl 9 (res.1.leaves.map GLeaf.row),.sl 3 (res.1.subs.map GNode.row)],.bool res.2]∧hh=h):=by
 unfold qK at hF
 refine zt Tryz.func40 rfl (by kernel_rfl) (env:=[.sl 3 (t0.map GNode.row),.str name1,za,za,za,za,za,za,za,za,za,za,za,za,za,za,za]) (by rfl) ?_
 refine zk (zd ?_)
 refine zc rfl (xq (n:=0) rfl yE (zb rfl) rfl rfl) wd ?_
 refine zc rfl (xc (n:=1) rfl ze48 rfl) yz ?_
 refine zc rfl (zi rfl rfl (zb rfl)) xy ?_
 refine ze (zj (zk (zd ?_)))
 refine zc rfl (zf rfl yr (zb rfl)) xJ ?_
 refine zc rfl (s_makeFunc rfl rfl rfl) xP ?_
 refine zO hF (fun v1 hv1 hF=>?_)
 refine zL rfl (zC rfl rfl rfl (zo xC (zo xl zw)) (.cons (zb rfl) (.cons (zb rfl) .nil))) (ok81 (fun _ v L M hv=>ok82 (blk_ext2 (j:=0) rfl) hv) hv1) ww ?_
 refine zc rfl (zi rfl xQ (zb rfl)) xF ?_
 refine ze (zj (zk (zk (zd ?_))))
 refine zc rfl (zf rfl yU (zb rfl)) yI ?_
 refine zc rfl (zy rfl yB rfl rfl) yN ?_
 refine ze (zj ?_)
 refine zN yA hF (fun hc2 hF=>?_) (fun hc2 hF=>?_)
 ·refine zk (zd ?_)
  refine zc rfl (ql (cs':=[.str ([]:zH),.osl none 9 (([]:List GLeaf).map GLeaf.row),.osl none 3 (([]:List GNode).map GNode.row)]) rfl su48 ze48 pl48 yl .nil rfl rfl) yS ?_
  refine zc rfl (ye (cs':=[.str ([]:zH),.osl none 9 (([]:List GLeaf).map GLeaf.row),.osl none 3 (([]:List GNode).map GNode.row)]) rfl ty48.choose_spec.1 ym yP (zb rfl) rfl rfl rfl rfl rfl) rfl ?_
  refine zc rfl (zi rfl rfl (zb rfl)) xy ?_
  refine ze (zj (zJ (zx ?_)))
  obtain rfl:=Option.some.inj hF
  refine qX rfl (rl_cell ty48.choose_spec.1 ym rfl (zI (cs':=[.str ([]:zH),.osl none 9 (([]:List GLeaf).map GLeaf.row),.osl none 3 (([]:List GNode).map GNode.row)]) ty48.choose_spec.2 rfl rfl) (zb rfl) (zD yM zF)) (zA (leV.tup (.cons (leV.agg (.eq (.cons (leV.osl _ _ _) (.cons (leV.osl _ _ _) leL.nil))) rfl) (.eq leL.nil))) rfl ?_)
  exact ⟨rfl,rfl⟩
 ·refine zK (zj (zk (zd ?_)))
  refine zc rfl (zf rfl yr (zb rfl)) yV ?_
  refine zc rfl (zf rfl yU (zb rfl)) y4 ?_
  refine zO hF (fun y3 hy3 hF=>?_)
  refine zc rfl (xL rfl xn yD yX wZ hy3 (GNode.row_eq _)) y8 ?_
  refine zc rfl (yf rfl ty48.choose_spec.1 yT (zI (cs':=[.str y3.name,.sl 9 (y3.leaves.map GLeaf.row),.sl 3 (y3.subs.map GNode.row)]) ty48.choose_spec.2 rfl rfl) (zb rfl)) xg ?_
  refine zc rfl (ye (cs':=[.str y3.name,.sl 9 (y3.leaves.map GLeaf.row),.sl 3 (y3.subs.map GNode.row)]) rfl ty48.choose_spec.1 ym xf (zb rfl) rfl rfl rfl rfl rfl) rfl ?_
  refine zc rfl (zi rfl rfl (zb rfl)) xy ?_
  refine ze (zj (zJ ?_))
  obtain rfl:=Option.some.inj hF
  refine qX rfl (rl_cell ty48.choose_spec.1 ym rfl (zI (cs':=[.str y3.name,.sl 9 (y3.leaves.map GLeaf.row),.sl 3 (y3.subs.map GNode.row)]) ty48.choose_spec.2 rfl rfl) (zb rfl) (zD yM zF)) (zA (leV.refl _) rfl ?_)
  exact ⟨rfl,rfl⟩
/-! slices.IndexFunc[[]varve/api.Leaf,varve/api.Leaf] -/
theorem ok41 {s0:(List GLeaf)} {f1:(GLeaf→Option Bool)} {ff1:FuncId} {af1 kf1:List AV} {res:Int} {h:AH} (hf1:∀ x0 v (L:List Blk) (M:List Nat),f1 x0=some v→Spec Tryz.prog ff1 (af1++[.agg [.int .u8 x0.typ,.int .i64 x0.n,.int .u64 x0.time,.int .u8 x0.dot.actor.rep,.int .u32 x0.dot.actor.inc,.int .u64 x0.dot.seq,.str x0.text,.sl 5 (x0.items.map GItem.row),.sl 3 (x0.tombs.map GDot.row)]]++kf1) (h.ext L M) (fun rr hh=>rr=.bool v∧hh=h.ext L M)) (hF:yF s0 f1=some res):Spec Tryz.prog 41 [.sl 9 (s0.map GLeaf.row),.fn (.func ff1) af1 kf1] h (fun rr hh=>rr=.int .i64 res∧hh=h):=by
 unfold yF at hF
 refine yC Tryz.func41 rfl (by kernel_rfl) (env:=[.sl 9 (s0.map GLeaf.row),.fn (.func ff1) af1 kf1,za,za,za,za,za,za,za,za,za,za,za,za,za,za,za,za,za]) (by rfl) (fun hlow hC=>?_)
 simp only [yi,AV.low,Bool.and_eq_true,Bool.true_and,and_true] at hlow
 have hlaf1:∀ n m,h.blks.length≤n→h.toks.length≤m→yi n m af1=true:=fun n m h1 h2=>yY h1 h2 _ (by simp [hlow])
 have hlkf1:∀ n m,h.blks.length≤n→h.toks.length≤m→yi n m kf1=true:=fun n m h1 h2=>yY h1 h2 _ (by simp [hlow])
 refine zk (zd ?_)
 refine zc rfl (zi rfl rfl (zb rfl)) yz ?_
 refine ze (zj (zk (zk (zd ?_))))
 refine zc rfl (zf rfl yr (zb rfl)) xF ?_
 refine ya rfl (zR rfl rfl rfl rfl wc yU yb) xJ fun hn1=>?_
 replace hn1:=xu hn1
 refine zc rfl (zf rfl rfl (zb rfl)) xP ?_
 refine ze (zj (zQ ?_))
 refine yv (fun (n1:Nat) (s1:Unit)=>yO [2,3,4,5,6,9,10,11,12,13,14,15,16,17,18] [(8,.int .i64 (n1:Int))]) (fun s1=>h.ext [] []) hF (fun _ _=>by simp only [yO,upd,List.set_cons_succ,List.set_cons_zero];try rfl) (wk.le (by exact (.eq (.eq (.d4 (.drop (.eq (.cons (leV.of_eq rfl) (.d4 (.d4 (.drop (.drop leL.nil)))))))))))) ?_
 intro n1 s1 hi1 hF
 refine zk (zd ?_)
 refine zc rfl (zy rfl xl xC rfl) ww ?_
 refine ze (zj (zk ?_))
 refine yK xQ hF (fun x1 o1 hl1 hx1 hF hK1=>?_) (fun hF=>?_)
 ·refine zK (zj (zk (zQ (zk (zd ?_)))))
  refine zc rfl (zf rfl xl (zb rfl)) yI ?_
  refine zc rfl (zi rfl yB (zb rfl)) xy ?_
  refine ze (zj (zk (zd ?_)))
  refine zc rfl (zf rfl yE (zb rfl)) yN ?_
  refine zc rfl (zf rfl yr (zb rfl)) yS ?_
  refine zc rfl (zf rfl yM (zb rfl)) yV ?_
  refine zc rfl (yk rfl wc yP yD wZ (yL hx1)) y4 ?_
  refine zc rfl (yf rfl ty45.choose_spec.1 yX (zI (cs':=[.int .u8 x1.typ,.int .i64 x1.n,.int .u64 x1.time,.int .u8 x1.dot.actor.rep,.int .u32 x1.dot.actor.inc,.int .u64 x1.dot.seq,.str x1.text,.sl 5 (x1.items.map GItem.row),.sl 3 (x1.tombs.map GDot.row)]) ty45.choose_spec.2 rfl rfl) (zb rfl)) y8 ?_
  refine zO hF (fun v7 hv7 hF=>?_)
  refine zL rfl (s_callC rfl rfl yA (zo yT zw) (.cons (zb rfl) .nil) rfl) (hf1 _ _ _ _ hv7) xg ?_
  refine ze (zj ?_)
  refine zN xf hF (fun hc8 hF=>?_) (fun hc8 hF=>?_)
  ·refine zk (zd ?_)
   refine zc rfl (zf rfl yM (zb rfl)) xr ?_
   refine zc rfl (zi rfl xp (zb rfl)) yz ?_
   refine ze (zj (zJ ?_))
   refine zG ?_
   refine zx ?_
   refine yd ?_
   obtain rfl:=Option.some.inj hF
   replace hF:=hK1
   refine zG ?_
   refine zx ?_
   obtain rfl:=Option.some.inj hF
   refine zz rfl (zD ym zF) (zA (leV.refl _) rfl ?_)
   exact ⟨rfl,rfl⟩
  ·refine zK (yh (zj (zd ?_)))
   refine zc rfl (zy rfl xl rfl rfl) xD ?_
   refine zc rfl (zf rfl xB (zb rfl)) xP ?_
   refine ze (yH ?_)
   obtain rfl:=Option.some.inj hF
   exact ⟨(),hl1,hK1,wk.le (by exact (.eq (.eq (.d4 (.drop (.eq (.cons (leV.of_eq (vf (by omega) (by omega))) (.d4 (.d4 (.drop (.drop leL.nil)))))))))))⟩
 ·refine yR ?_
  refine zZ ?_
  refine zU ?_
  refine zV ?_
  refine zj (zk (zd ?_))
  refine zc rfl (zi rfl rfl (zb rfl)) yz ?_
  refine ze (zj (zJ ?_))
  obtain rfl:=Option.some.inj hF
  refine zz rfl (zD ym zF) (zA (leV.refl _) rfl ?_)
  exact ⟨rfl,rfl⟩
theorem okR41 {bl tl:Nat} {s0:(List GLeaf)} {f1:(GLeaf→Option Bool)} {ff1:FuncId} {af1 kf1:List AV} {res:Int} {h:AH} (hbl:h.blks.length=bl) (htl:h.toks.length=tl) (hf1:∀ x0 v (L:List Blk) (M:List Nat),f1 x0=some v→Spec Tryz.prog ff1 (af1++[.agg [.int .u8 x0.typ,.int .i64 x0.n,.int .u64 x0.time,.int .u8 x0.dot.actor.rep,.int .u32 x0.dot.actor.inc,.int .u64 x0.dot.seq,.str x0.text,.sl 5 (x0.items.map GItem.row),.sl 3 (x0.tombs.map GDot.row)]]++kf1) (h.ext L M) (fun rr hh=>rr=.bool v∧hh=h.ext L M)) (hlaf1:∀ n m,h.blks.length≤n→h.toks.length≤m→yi n m af1=true) (hlkf1:∀ n m,h.blks.length≤n→h.toks.length≤m→yi n m kf1=true) (hF:yF s0 f1=some res):Spec Tryz.prog 41 [.rsl bl tl 9 s0.length,.fn (.func ff1) af1 kf1] (h.ext [.row tl 9 (s0.map GLeaf.row)] [s0.length]) (fun rr hh=>rr=.int .i64 res∧hh=h.ext [.row tl 9 (s0.map GLeaf.row)] [s0.length]):=by
 unfold yF at hF
 subst hbl htl
 refine spec_of_body_R Tryz.func41 rfl (by kernel_rfl) (env:=[.rsl h.blks.length h.toks.length 9 s0.length,.fn (.func ff1) af1 kf1,za,za,za,za,za,za,za,za,za,za,za,za,za,za,za,za,za]) (by rfl) ?_
 refine zk (zd ?_)
 refine zc rfl (zi rfl rfl (zb rfl)) yz ?_
 refine ze (zj (zk (zk (zd ?_))))
 refine zc rfl (zf rfl yr (zb rfl)) xF ?_
 refine ya rfl (zR rfl rfl rfl rfl wc yU rfl) xJ fun hn1=>?_
 replace hn1:=xu hn1
 refine zc rfl (zf rfl rfl (zb rfl)) xP ?_
 refine ze (zj (zQ ?_))
 refine yv (fun (n1:Nat) (s1:Unit)=>yO [2,3,4,5,6,9,10,11,12,13,14,15,16,17,18] [(8,.int .i64 (n1:Int))]) (fun s1=>h.ext [.row (h.toks.length+0) 9 (s0.map GLeaf.row)] [s0.length]) hF (fun _ _=>by simp only [yO,upd,List.set_cons_succ,List.set_cons_zero];try rfl) (wk.le (by exact (.eq (.eq (.d4 (.drop (.eq (.cons (leV.of_eq rfl) (.d4 (.d4 (.drop (.drop leL.nil)))))))))))) ?_
 intro n1 s1 hi1 hF
 refine zk (zd ?_)
 refine zc rfl (zy rfl xl xC rfl) ww ?_
 refine ze (zj (zk ?_))
 refine yK xQ hF (fun x1 o1 hl1 hx1 hF hK1=>?_) (fun hF=>?_)
 ·refine zK (zj (zk (zQ (zk (zd ?_)))))
  refine zc rfl (zf rfl xl (zb rfl)) yI ?_
  refine zc rfl (zi rfl yB (zb rfl)) xy ?_
  refine ze (zj (zk (zd ?_)))
  refine zc rfl (zf rfl yE (zb rfl)) yN ?_
  refine zc rfl (zf rfl yr (zb rfl)) yS ?_
  refine zc rfl (zf rfl yM (zb rfl)) yV ?_
  refine zc rfl (e_idxR rfl wc yP yD (idxRn (yL hx1) rfl)) y4 ?_
  refine zc rfl (e_ldR (off:=0) (i:=0) (q:=h.toks.length+0) (z:=(n1:Int).toNat) (row:=GLeaf.row) (fun _=>rfl) rfl ty45.choose_spec.1 (by decide) yX rfl rfl (idxR (yL hx1)).2.2 (zI (cs':=[.int .u8 x1.typ,.int .i64 x1.n,.int .u64 x1.time,.int .u8 x1.dot.actor.rep,.int .u32 x1.dot.actor.inc,.int .u64 x1.dot.seq,.str x1.text,.sl 5 (x1.items.map GItem.row),.sl 3 (x1.tombs.map GDot.row)]) ty45.choose_spec.2 rfl rfl) (zb rfl)) y8 ?_
  refine zO hF (fun v8 hv8 hF=>?_)
  refine zL rfl (s_callC rfl rfl yA (zo yT zw) (.cons (zb rfl) .nil) rfl) (hf1 _ _ _ _ hv8) xg ?_
  refine ze (zj ?_)
  refine zN xf hF (fun hc9 hF=>?_) (fun hc9 hF=>?_)
  ·refine zk (zd ?_)
   refine zc rfl (zf rfl yM (zb rfl)) xr ?_
   refine zc rfl (zi rfl xp (zb rfl)) yz ?_
   refine ze (zj (zJ ?_))
   refine zG ?_
   refine zx ?_
   refine yd ?_
   obtain rfl:=Option.some.inj hF
   replace hF:=hK1
   refine zG ?_
   refine zx ?_
   obtain rfl:=Option.some.inj hF
   refine zz rfl (zD ym zF) (fin_extR (L:=[]) (M:=[]) rfl rfl (leV.refl _) rfl ?_)
   exact ⟨rfl,rfl⟩
  ·refine zK (yh (zj (zd ?_)))
   refine zc rfl (zy rfl xl rfl rfl) xD ?_
   refine zc rfl (zf rfl xB (zb rfl)) xP ?_
   refine ze (yH ?_)
   obtain rfl:=Option.some.inj hF
   exact ⟨(),hl1,hK1,wk.le (by exact (.eq (.eq (.d4 (.drop (.eq (.cons (leV.of_eq (vf (by omega) (by omega))) (.d4 (.d4 (.drop (.drop leL.nil)))))))))))⟩
 ·refine yR ?_
  refine zZ ?_
  refine zU ?_
  refine zV ?_
  refine zj (zk (zd ?_))
  refine zc rfl (zi rfl rfl (zb rfl)) yz ?_
  refine ze (zj (zJ ?_))
  obtain rfl:=Option.some.inj hF
  refine zz rfl (zD ym zF) (fin_extR (L:=[]) (M:=[]) rfl rfl (leV.refl _) rfl ?_)
  exact ⟨rfl,rfl⟩
/-! varve/tree.Leaf 1 -/
theorem ok42 {l0:GLeaf} {c0:Int} {i0:Nat} {res:Bool} {h:AH} (hb0:h.blk i0=some (.cells [.int .u8 c0])) (hF:treeLeafC1 l0 c0=some res):Spec Tryz.prog 42 [.agg [.int .u8 l0.typ,.int .i64 l0.n,.int .u64 l0.time,.int .u8 l0.dot.actor.rep,.int .u32 l0.dot.actor.inc,.int .u64 l0.dot.seq,.str l0.text,.sl 5 (l0.items.map GItem.row),.sl 3 (l0.tombs.map GDot.row)],.ptr i0 0] h (fun rr hh=>rr=.bool res∧hh=h):=by
 unfold treeLeafC1 at hF
 refine zt Tryz.func42 rfl (by kernel_rfl) (env:=[.agg [.int .u8 l0.typ,.int .i64 l0.n,.int .u64 l0.time,.int .u8 l0.dot.actor.rep,.int .u32 l0.dot.actor.inc,.int .u64 l0.dot.seq,.str l0.text,.sl 5 (l0.items.map GItem.row),.sl 3 (l0.tombs.map GDot.row)],.ptr i0 0,za,za,za,za,za,za]) (by rfl) ?_
 refine zk (zd ?_)
 refine zc rfl (xq (n:=0) rfl yr (zb rfl) rfl rfl) xe ?_
 refine zc rfl (zi rfl rfl (zb rfl)) wd ?_
 refine ze (zj (zk (zd ?_)))
 refine zc rfl (zg rfl xV yW rfl) yz ?_
 refine zc rfl (zu rfl ty5 ym rfl (zr rfl) (zb rfl)) xy ?_
 refine zc rfl (b_load rfl ty5 yE hb0 (zr rfl) (zb rfl)) xF ?_
 refine zc rfl (zy rfl yM yU rfl) xJ ?_
 refine zc rfl (zi rfl xC (zb rfl)) wd ?_
 refine ze (zj (zJ ?_))
 obtain rfl:=Option.some.inj hF
 refine zz rfl (zD xw zF) (zA (leV.refl _) rfl ?_)
 exact ⟨rfl,rfl⟩
/-! varve/leaf.New -/
theorem ok43 {kind0:Int} {res:GLeaf} {h:AH}  (hF:leafNew kind0=some res):Spec Tryz.prog 43 [.int .u8 kind0] h (fun rr hh=>rr=.agg [.int .u8 res.typ,.int .i64 res.n,.int .u64 res.time,.int .u8 res.dot.actor.rep,.int .u32 res.dot.actor.inc,.int .u64 res.dot.seq,.str res.text,.sl 5 (res.items.map GItem.row),.sl 3 (res.tombs.map GDot.row)]∧hh=h):=by
 unfold leafNew at hF
 refine zt Tryz.func43 rfl (by kernel_rfl) (env:=[.int .u8 kind0,za,za,za,za,za,za,za,za,za,za,za]) (by rfl) ?_
 refine zk (zd ?_)
 refine zc rfl (xc (n:=0) rfl ze45 rfl) xe ?_
 refine ze (zj (zk (zk (zd ?_))))
 refine zc rfl (zf rfl yr (zb rfl)) wd ?_
 refine zc rfl (zy rfl xw rfl rfl) yz ?_
 refine zc rfl (zf rfl ym (zb rfl)) xy ?_
 refine zp rfl (fun hb=>zf rfl yr (zb rfl)) xF ?_
 refine zp rfl (fun hb=>zy rfl (zn yU hb) rfl rfl) xJ ?_
 refine zc rfl (zM rfl yM rfl xC (z8 (fun ht=>gF ht))) xP ?_
 refine ze (zj ?_)
 refine zN xl hF (fun hc1 hF=>?_) (fun hc1 hF=>?_)
 ·refine zk (zd ?_)
  refine zc rfl (ql (cs':=[.int .u8 (0:Int),.int .i64 (0:Int),.int .u64 (0:Int),.int .u8 (0:Int),.int .u32 (0:Int),.int .u64 (0:Int),.str ([]:zH),.osl none 5 (([]:List GItem).map GItem.row),.osl none 3 (([]:List GDot).map GDot.row)]) rfl su45 ze45 pl45 yl .nil rfl rfl) ww ?_
  refine zc rfl (ye (cs':=[.int .u8 (0:Int),.int .i64 (0:Int),.int .u64 (0:Int),.int .u8 (0:Int),.int .u32 (0:Int),.int .u64 (0:Int),.str ([]:zH),.osl none 5 (([]:List GItem).map GItem.row),.osl none 3 (([]:List GDot).map GDot.row)]) rfl ty45.choose_spec.1 yW xQ (zb rfl) rfl rfl rfl rfl rfl) rfl ?_
  refine ze (zj (zJ (zx ?_)))
  obtain rfl:=Option.some.inj hF
  refine zz rfl (rl_cell ty45.choose_spec.1 yW rfl (zI (cs':=[.int .u8 (0:Int),.int .i64 (0:Int),.int .u64 (0:Int),.int .u8 (0:Int),.int .u32 (0:Int),.int .u64 (0:Int),.str ([]:zH),.osl none 5 (([]:List GItem).map GItem.row),.osl none 3 (([]:List GDot).map GDot.row)]) ty45.choose_spec.2 rfl rfl) (zb rfl) zF) (zA (leV.agg (.eq (.eq (.eq (.eq (.eq (.eq (.eq (.cons (leV.osl _ _ _) (.cons (leV.osl _ _ _) leL.nil))))))))) rfl) rfl ?_)
  exact ⟨rfl,rfl⟩
 ·refine zK (zj (zk (zd ?_)))
  refine zc rfl (zf rfl yr (zb rfl)) yI ?_
  refine zc rfl (ql (cs':=[.int .u8 kind0,.int .i64 (0:Int),.int .u64 (0:Int),.int .u8 (0:Int),.int .u32 (0:Int),.int .u64 (0:Int),.str ([]:zH),.osl none 5 (([]:List GItem).map GItem.row),.osl none 3 (([]:List GDot).map GDot.row)]) rfl su45 ze45 pl45 (yg yB yl) (.cons (zb rfl) .nil) rfl rfl) yN ?_
  refine zc rfl (ye (cs':=[.int .u8 kind0,.int .i64 (0:Int),.int .u64 (0:Int),.int .u8 (0:Int),.int .u32 (0:Int),.int .u64 (0:Int),.str ([]:zH),.osl none 5 (([]:List GItem).map GItem.row),.osl none 3 (([]:List GDot).map GDot.row)]) rfl ty45.choose_spec.1 yW yA (zb rfl) rfl rfl rfl rfl rfl) rfl ?_
  refine ze (zj (zJ ?_))
  obtain rfl:=Option.some.inj hF
  refine zz rfl (rl_cell ty45.choose_spec.1 yW rfl (zI (cs':=[.int .u8 kind0,.int .i64 (0:Int),.int .u64 (0:Int),.int .u8 (0:Int),.int .u32 (0:Int),.int .u64 (0:Int),.str ([]:zH),.osl none 5 (([]:List GItem).map GItem.row),.osl none 3 (([]:List GDot).map GDot.row)]) ty45.choose_spec.2 rfl rfl) (zb rfl) zF) (zA (leV.agg (.eq (.eq (.eq (.eq (.eq (.eq (.eq (.cons (leV.osl _ _ _) (.cons (leV.osl _ _ _) leL.nil))))))))) rfl) rfl ?_)
  exact ⟨rfl,rfl⟩
/-! varve/tree.Leaf -/
theorem ok20 {t0:(List GNode)} {path1:(List zH)} {kind2:Int} {res:(GLeaf×Bool)} {h:AH}  (hF:treeLeaf t0 path1 kind2=some res):Spec Tryz.prog 20 [.sl 3 (t0.map GNode.row),.sl 1 (path1.map zP),.int .u8 kind2] h (fun rr hh=>rr=.tup [.agg [.int .u8 res.1.typ,.int .i64 res.1.n,.int .u64 res.1.time,.int .u8 res.1.dot.actor.rep,.int .u32 res.1.dot.actor.inc,.int .u64 res.1.dot.seq,.str res.1.text,.sl 5 (res.1.items.map GItem.row),.sl 3 (res.1.tombs.map GDot.row)],.bool res.2]∧hh=h):=by
 unfold treeLeaf at hF
 refine zt Tryz.func20 rfl (by kernel_rfl) (env:=[.sl 3 (t0.map GNode.row),.sl 1 (path1.map zP),.int .u8 kind2,za,za,za,za,za,za,za,za,za,za,za,za,za,za,za,za,za,za,za,za,za,za,za,za,za,za,za,za,za,za,za,za,za,za,za,za,za,za,za,za,za,za,za,za,za,za,za,za,za,za,za,za,za,za,za,za,za,za,za,za,za,za,za]) (by rfl) ?_
 refine zk (zd ?_)
 refine zc rfl (xq (n:=0) rfl yW (zb rfl) rfl rfl) xy ?_
 refine zc rfl (xc (n:=1) rfl ze45 rfl) xF ?_
 refine zc rfl (zi rfl rfl (zb rfl)) xJ ?_
 refine ze (zj (zk (zd ?_)))
 refine zc rfl (xc (n:=2) rfl ze48 rfl) xP ?_
 refine ze (zj (zk (zd ?_)))
 refine zc rfl (zf rfl yE (zb rfl)) y4 ?_
 refine ya rfl (zR rfl rfl rfl rfl wA yX yb) y8 fun hn1=>?_
 replace hn1:=xu hn1
 refine zc rfl (zy rfl yT rfl rfl) xg ?_
 refine zc rfl (zi rfl xf (zb rfl)) ww ?_
 refine ze (zj ?_)
 refine r_join (fun (s1:Bool×zH×(List GLeaf)×(List GNode))=>yO [0,1,2,3,4,7,10,11,12,13,14,15,16,17,18,19,20,21,22,23,24,25,26,27,28,29,30,31,32,33,34,35,36,37,38,39,40,41,42,43,44,45,46,47,48,49,50,51,52,53,54,55,56,57,58,59,60,61,62,63,64,65] [(9,.bool s1.1)]) (fun s1=>h.ext [.cells [.int .u8 kind2],.cells [.int .u8 (0:Int),.int .i64 (0:Int),.int .u64 (0:Int),.int .u8 (0:Int),.int .u32 (0:Int),.int .u64 (0:Int),.str ([]:zH),.osl none 5 (([]:List GItem).map GItem.row),.osl none 3 (([]:List GDot).map GDot.row)],.cells [.str s1.2.1,.sl 9 (s1.2.2.1.map GLeaf.row),.sl 3 (s1.2.2.2.map GNode.row)]] []) hF (fun _=>by simp only [yO,upd,List.set_cons_succ,List.set_cons_zero];try rfl) (fun o1 hF hK1=>?_) (fun s1 hF=>?_)
 ·refine zk (zd ?_)
  refine zc rfl (zf rfl yE (zb rfl)) xr ?_
  refine ya rfl (zR rfl rfl rfl rfl wA xp yb) xD fun hn26=>?_
  replace hn26:=xu hn26
  refine zc rfl (zf rfl rfl (zb rfl)) xK ?_
  refine ze (zj (zQ ?_))
  refine yv (fun (n2:Nat) (s2:(List GNode)×Bool×zH×(List GLeaf)×(List GNode))=>yO [1,2,3,4,7,10,11,12,13,14,15,16,20,21,22,23,24,25,26,27,28,29,30,31,32,33,34,35,36,37,38,39,40,41,42,43,44,45,46,47,48,49,50,51,52,53,54,55,56,57,58,59,60,61,62,63,64,65] [(0,.sl 3 (s2.1.map GNode.row)),(9,.bool s2.2.1),(19,.int .i64 (n2:Int))]) (fun s2=>h.ext [.cells [.int .u8 kind2],.cells [.int .u8 (0:Int),.int .i64 (0:Int),.int .u64 (0:Int),.int .u8 (0:Int),.int .u32 (0:Int),.int .u64 (0:Int),.str ([]:zH),.osl none 5 (([]:List GItem).map GItem.row),.osl none 3 (([]:List GDot).map GDot.row)],.cells [.str s2.2.2.1,.sl 9 (s2.2.2.2.1.map GLeaf.row),.sl 3 (s2.2.2.2.2.map GNode.row)]] []) hF (fun _ _=>by simp only [yO,upd,List.set_cons_succ,List.set_cons_zero];try rfl) (wk.trans (wk_leB (j:=2) rfl (by exact (.eq (.cons (leV.osl _ _ _) (.cons (leV.osl _ _ _) leL.nil)))) rfl rfl) (wk.le (by exact (.cons (leV.of_eq rfl) (.d4 (.eq (.eq (.drop (.eq (.cons (leV.of_eq rfl) (.d4 (.drop (.drop (.drop (.eq (.eq (.cons (leV.of_eq rfl) (.d16 (.d16 (.d4 (.d4 (.d4 (.drop (.drop leL.nil)))))))))))))))))))))))) ?_
  intro n2 s2 hi2 hF
  refine zk (zd ?_)
  refine zc rfl (zy rfl xI xB rfl) x4 ?_
  refine ze (zj (zk ?_))
  refine yK x5 hF (fun x2 o2 hl2 hx2 hF hK2=>?_) (fun hF=>?_)
  ·refine zK (zj (zk (zQ (zk (zd ?_)))))
   refine zc rfl (yk rfl wA xp xI wZ (yL hx2)) x9 ?_
   refine zc rfl (yf rfl ty9 x6 (zr rfl) (zb rfl)) wl ?_
   refine zc rfl (zi rfl wi (zb rfl)) yN ?_
   refine ze (zj (zk (zk (zd ?_))))
   refine zc rfl (zf rfl yr (zb rfl)) we ?_
   refine zc rfl (zf rfl yA (zb rfl)) wo ?_
   refine zO hF (fun v47 hv47 hF=>?_)
   refine zL rfl (zC rfl rfl rfl (zo wa (zo wm zw)) (.cons (zb rfl) (.cons (zb rfl) .nil))) (ok40 hv47) wK ?_
   refine zc rfl (zf rfl wI (zb rfl)) x8 ?_
   refine zc rfl (yG rfl xX rfl (zb rfl)) wR ?_
   refine zc rfl (yG rfl xX rfl (zb rfl)) wQ ?_
   refine zc rfl (ye (cs':=[.str v47.1.name,.sl 9 (v47.1.leaves.map GLeaf.row),.sl 3 (v47.1.subs.map GNode.row)]) rfl ty48.choose_spec.1 xl wV (zb rfl) rfl rfl rfl rfl rfl) rfl ?_
   refine zc rfl (zi rfl wN (zb rfl)) ww ?_
   refine ze (zj (zk (zd ?_)))
   refine zc rfl (zf rfl xQ (zb rfl)) w9 ?_
   refine zc rfl (xT rfl vb rfl) w8 ?_
   refine ze (zj ?_)
   refine zN vm hF (fun hc48 hF=>?_) (fun hc48 hF=>?_)
   ·refine yR ?_
    refine zZ ?_
    refine q_block_miss (by decide) ?_
    refine zZ ?_
    refine zU ?_
    obtain rfl:=Option.some.inj hF
    replace hF:=hK2
    refine zV ?_
    refine q_join ?_
    obtain rfl:=Option.some.inj hF
    exact ⟨(v47.2,v47.1.name,v47.1.leaves,v47.1.subs),hK1,wk.le (by exact (.d4 (.drop (.eq (.eq (.drop (.eq (.cons (leV.of_eq rfl) (.d16 (.d16 (.d16 (.d4 (.d4 leL.nil)))))))))))))⟩
   ·refine zK (zj (zd ?_))
    refine zc rfl (zg rfl fo48x2 xl rfl) vh ?_
    refine zc rfl (zu rfl ty23 vl rfl (zr rfl) (zb rfl)) vz ?_
    refine zc rfl (zi rfl vk (zb rfl)) st0 ?_
    refine ze (yh (zj (zd ?_)))
    refine zc rfl (zy rfl xI rfl rfl) vw ?_
    refine zc rfl (zf rfl vC (zb rfl)) xK ?_
    refine ze (yH ?_)
    obtain rfl:=Option.some.inj hF
    exact ⟨(v47.1.subs,v47.2,v47.1.name,v47.1.leaves,v47.1.subs),hl2,hK2,wk.le (by exact (.cons (leV.of_eq rfl) (.d4 (.eq (.eq (.drop (.eq (.cons (leV.of_eq rfl) (.d4 (.drop (.drop (.drop (.eq (.eq (.cons (leV.of_eq (vf (by omega) (by omega))) (.d16 (.d16 (.d4 (.d4 (.d4 (.drop (.drop leL.nil))))))))))))))))))))))⟩
  ·refine yR ?_
   refine zZ ?_
   refine zU ?_
   refine zV ?_
   refine q_join ?_
   obtain rfl:=Option.some.inj hF
   exact ⟨(s2.2.1,s2.2.2.1,s2.2.2.2.1,s2.2.2.2.2),hK1,wk.le (by exact (.d4 (.drop (.eq (.eq (.drop (.eq (.cons (leV.of_eq rfl) (.d16 (.d16 (.d16 (.d4 (.d4 leL.nil)))))))))))))⟩
 ·refine zk (zd ?_)
  refine zc rfl (zg rfl xY xl rfl) vu ?_
  refine zc rfl (zu rfl ty46 vj rfl (zr rfl) (zb rfl)) vt ?_
  refine zc rfl (s_makeFunc rfl rfl rfl) vg ?_
  refine zO hF (fun v49 hv49 hF=>?_)
  refine zL rfl (zC rfl rfl rfl (zo vB (zo va zw)) (.cons (zb rfl) (.cons (zb rfl) .nil))) (ok41 (fun _ v L M hv=>ok42 (blk_ext2 (j:=0) rfl) hv) hv49) vr ?_
  refine zc rfl (zi rfl vA (zb rfl)) yS ?_
  refine ze (zj (zk (zk (zd ?_))))
  refine zc rfl (zf rfl xQ (zb rfl)) vK ?_
  refine zc rfl (xT rfl vO rfl) vJ ?_
  refine zc rfl (zf rfl vG (zb rfl)) (sk st0) ?_
  refine zp rfl (fun hb=>zf rfl yP (zb rfl)) (sk st1) ?_
  refine zp rfl (fun hb=>zy rfl (zn (gk yE) hb) rfl rfl) (sk xe) ?_
  refine zc rfl (zM rfl (gk yr) rfl (gk yW) (z8 (fun ht=>gF ht))) (sk wd) ?_
  refine zc rfl (zf rfl (gk xw) (zb rfl)) (sk yz) ?_
  refine zp rfl (fun hb=>zu rfl ty5 yM rfl (zr rfl) (zb rfl)) (sk xy) ?_
  refine yQ hF (fun v50 hv50 hF=>?_)
  refine yj rfl (fun hb=>zC rfl rfl rfl (zo (zn (gk yM) hb) zw) (.cons (zb rfl) .nil)) (fun hb=>ok43 (hv50 hb)) (sk xF) ?_
  refine zp rfl (fun hb=>s_field rfl xV ty5 (zn (gk yU) hb) rfl (zb rfl)) (sk xJ) ?_
  refine zp rfl (fun hb=>zy rfl (zn (gk xC) hb) rfl rfl) (sk xP) ?_
  refine zc rfl (zM rfl (gk ym) rfl (gk xl) (z8 (fun ht=>gF ht))) (sk ww) ?_
  refine ze (zj ?_)
  refine zN (gk xQ) hF (fun hc51 hF=>?_) (fun hc51 hF=>?_)
  ·refine zk (zd ?_)
   refine zc rfl (zu rfl ty5 yM rfl (zr rfl) (zb rfl)) (sk yI) ?_
   refine zO hF (fun v52 hv52 hF=>?_)
   refine zL rfl (zC rfl rfl rfl (zo (gk yB) zw) (.cons (zb rfl) .nil)) (ok43 hv52) (sk yN) ?_
   refine zc rfl (ye (cs':=[.int .u8 v52.typ,.int .i64 v52.n,.int .u64 v52.time,.int .u8 v52.dot.actor.rep,.int .u32 v52.dot.actor.inc,.int .u64 v52.dot.seq,.str v52.text,.sl 5 (v52.items.map GItem.row),.sl 3 (v52.tombs.map GDot.row)]) rfl ty45.choose_spec.1 yU (gk yA) (zb rfl) rfl rfl rfl rfl rfl) rfl ?_
   refine zc rfl (zi rfl rfl (zb rfl)) xJ ?_
   refine ze (zj (zJ (zx ?_)))
   obtain rfl:=Option.some.inj hF
   refine qX rfl (rl_cell ty45.choose_spec.1 yU rfl (zI (cs':=[.int .u8 v52.typ,.int .i64 v52.n,.int .u64 v52.time,.int .u8 v52.dot.actor.rep,.int .u32 v52.dot.actor.inc,.int .u64 v52.dot.seq,.str v52.text,.sl 5 (v52.items.map GItem.row),.sl 3 (v52.tombs.map GDot.row)]) ty45.choose_spec.2 rfl rfl) (zb rfl) (zD xC zF)) (zA (leV.refl _) rfl ?_)
   exact ⟨rfl,rfl⟩
  ·refine zK (zj (zk (zd ?_)))
   refine zc rfl (zg rfl xY xl rfl) (sk yS) ?_
   refine zc rfl (zu rfl ty46 (gk yP) rfl (zr rfl) (zb rfl)) (sk yV) ?_
   refine zc rfl (zf rfl yP (zb rfl)) (sk y4) ?_
   refine zO hF (fun y53 hy53 hF=>?_)
   refine zc rfl (yk rfl wc (gk yD) (gk yX) wZ hy53) (sk y8) ?_
   refine zc rfl (yf rfl ty45.choose_spec.1 (gk yT) (zI (cs':=[.int .u8 y53.typ,.int .i64 y53.n,.int .u64 y53.time,.int .u8 y53.dot.actor.rep,.int .u32 y53.dot.actor.inc,.int .u64 y53.dot.seq,.str y53.text,.sl 5 (y53.items.map GItem.row),.sl 3 (y53.tombs.map GDot.row)]) ty45.choose_spec.2 rfl rfl) (zb rfl)) (sk xg) ?_
   refine zc rfl (xc (n:=3) rfl ze45 rfl) yV ?_
   refine zc rfl (ye (cs':=[.int .u8 y53.typ,.int .i64 y53.n,.int .u64 y53.time,.int .u8 y53.dot.actor.rep,.int .u32 y53.dot.actor.inc,.int .u64 y53.dot.seq,.str y53.text,.sl 5 (y53.items.map GItem.row),.sl 3 (y53.tombs.map GDot.row)]) rfl ty45.choose_spec.1 yD (gk xf) (zb rfl) rfl rfl rfl rfl rfl) rfl ?_
   refine ze (zj (zk ?_))
   refine yJ [] [] trivial mixed (by kernel_rfl) ?_
   refine zq rfl rfl (zg rfl xO yD rfl) (sk xr) ?_
   refine zq rfl rfl (zu rfl qU (gk xp) rfl (zr rfl) (zb rfl)) (sk xD) ?_
   refine zO hF (fun v54 hv54 hF=>?_)
   refine w6 rfl FOk.nil (by rfl) rfl (zC rfl rfl rfl (zo (gk xB) zw) (.cons (zb rfl) .nil)) (own_ext (T':=[(v54).length]) (ok44 hv54) (m:=0) rfl rfl) (sk xK) ?_
   refine zq rfl rfl (zg rfl wj yD rfl) (sk x4) ?_
   refine zq rfl rfl (zu rfl ty43 (gk x5) rfl (zr rfl) (zb rfl)) (sk x9) ?_
   refine zO hF (fun v55 hv55 hF=>?_)
   refine w6 rfl FOk.nil (by rfl) rfl (zC rfl rfl rfl (zo (gk x6) zw) (.cons (zb rfl) .nil)) (own_ext (T':=[(v54).length,(v55).length]) (ok45 hv55) (m:=1) rfl rfl) (sk wl) ?_
   refine zq rfl rfl (zg rfl xO yD rfl) (sk x8) ?_
   refine xa rfl FOk.nil (by kernel_rfl) rfl (ye (cs':=[.int .u8 y53.typ,.int .i64 y53.n,.int .u64 y53.time,.int .u8 y53.dot.actor.rep,.int .u32 y53.dot.actor.inc,.int .u64 y53.dot.seq,.str y53.text,.osl (some (h.toks.length+0)) 5 (v54.map GItem.row),.sl 3 (y53.tombs.map GDot.row)]) rfl qU (gk xX) (gk xI) (zb rfl) rfl rfl rfl rfl rfl) rfl ?_
   refine zq rfl rfl (zg rfl wj yD rfl) (sk we) ?_
   refine xa rfl FOk.nil (by kernel_rfl) rfl (ye (cs':=[.int .u8 y53.typ,.int .i64 y53.n,.int .u64 y53.time,.int .u8 y53.dot.actor.rep,.int .u32 y53.dot.actor.inc,.int .u64 y53.dot.seq,.str y53.text,.osl (some (h.toks.length+0)) 5 (v54.map GItem.row),.osl (some (h.toks.length+1)) 3 (v55.map GDot.row)]) rfl ty43 (gk wa) (gk wi) (zb rfl) rfl rfl rfl rfl rfl) rfl ?_
   refine yo ?_
   refine zj (zk (zd ?_))
   refine zc rfl (zu rfl ty45.choose_spec.1 yD rfl (zI (cs':=[.int .u8 y53.typ,.int .i64 y53.n,.int .u64 y53.time,.int .u8 y53.dot.actor.rep,.int .u32 y53.dot.actor.inc,.int .u64 y53.dot.seq,.str y53.text,.osl (some (h.toks.length+0)) 5 (v54.map GItem.row),.osl (some (h.toks.length+1)) 3 (v55.map GDot.row)]) ty45.choose_spec.2 rfl rfl) (zb rfl)) (sk wo) ?_
   refine zc rfl (ye (cs':=[.int .u8 y53.typ,.int .i64 y53.n,.int .u64 y53.time,.int .u8 y53.dot.actor.rep,.int .u32 y53.dot.actor.inc,.int .u64 y53.dot.seq,.str y53.text,.osl (some (h.toks.length+0)) 5 (v54.map GItem.row),.osl (some (h.toks.length+1)) 3 (v55.map GDot.row)]) rfl ty45.choose_spec.1 yU (gk wm) (zb rfl) rfl rfl rfl rfl rfl) rfl ?_
   refine zc rfl (zi rfl rfl (zb rfl)) xJ ?_
   refine ze (zj (zJ ?_))
   obtain rfl:=Option.some.inj hF
   refine qX rfl (rl_cell ty45.choose_spec.1 yU rfl (zI (cs':=[.int .u8 y53.typ,.int .i64 y53.n,.int .u64 y53.time,.int .u8 y53.dot.actor.rep,.int .u32 y53.dot.actor.inc,.int .u64 y53.dot.seq,.str y53.text,.osl (some (h.toks.length+0)) 5 (v54.map GItem.row),.osl (some (h.toks.length+1)) 3 (v55.map GDot.row)]) ty45.choose_spec.2 rfl rfl) (zb rfl) (zD xC zF)) (zA (leV.tup (.cons (leV.agg (.eq (.eq (.eq (.eq (.eq (.eq (.eq (.cons (leV.osl _ _ _) (.cons (leV.osl _ _ _) leL.nil))))))))) rfl) (.eq leL.nil))) rfl ?_)
   exact ⟨rfl,rfl⟩
/-! slices.Clone[varve/api.Tree,varve/api.Node] -/
theorem ok58 {s0:(List GNode)} {res:(List GNode)} {h:AH}  (hF:wv s0=some res):Spec Tryz.prog 58 [.sl 3 (s0.map GNode.row)] h (OwnK h 3 res.length (res.map GNode.row)):=by
 unfold wv at hF
 refine zt Tryz.func58 rfl (by kernel_rfl) (env:=[.sl 3 (s0.map GNode.row),za,za,za,za,za,za,za]) (by rfl) ?_
 refine zk (zd ?_)
 refine zc rfl (zi rfl rfl (xk xn)) xe ?_
 refine ze (zj (zk (zk (zd ?_))))
 refine zc rfl (zf rfl yr (zb rfl)) wd ?_
 refine ops_nilqE rfl rfl xn xw wZ rfl (fun _=>yz) hF (fun b1 hb1 hF=>?_)
 refine ze (zj ?_)
 refine zN ym hF (fun hc2 hF=>?_) (fun hc2 hF=>?_)
 ·refine zk (zd ?_)
  refine zc rfl (zi rfl rfl (xk xn)) xe ?_
  refine ze (zj (zJ (zx ?_)))
  obtain rfl:=Option.some.inj hF
  refine zz rfl (zD yW zF) (fin_own0 (row:=GNode.row) (L:=([]:List GNode)) ?_)
  exact ⟨rfl,rfl⟩
 ·refine zK (zj (zk (zd ?_)))
  refine zc rfl (yu (es:=([]:List GNode).map GNode.row) rfl xn ze48 rfl rfl yl .nil rfl rfl (by simp only [List.map_cons,List.map_nil,GNode.row_eq];rfl)) xy ?_
  refine zc rfl (zf rfl yr (zb rfl)) xF ?_
  refine wC hF (fun hm3 hF=>?_)
  refine zc rfl (e_appN (m:=0) (T':=[((([]:List GNode)++s0)).length]) rfl rfl rfl rfl xn xn yM yU (zb rfl) (zb rfl) news_sl hm3 rfl rfl) xJ ?_
  refine zc rfl (zi rfl xC (zb rfl)) xe ?_
  refine ze (zj (zJ ?_))
  obtain rfl:=Option.some.inj hF
  refine zz rfl (zD yW zF) (fin_own ?_)
  exact ⟨rfl,rfl⟩
/-! slices.BinarySearchFunc[varve/api.Tree,varve/api.Node,string] -/
theorem ok48 {x0:(List GNode)} {target1:zH} {cmp2:(GNode→zH→Option Int)} {fcmp2:FuncId} {acmp2 kcmp2:List AV} {res:(Int×Bool)} {h:AH} (hcmp2:∀ x0 x1 v (L:List Blk) (M:List Nat),cmp2 x0 x1=some v→Spec Tryz.prog fcmp2 (acmp2++[.agg [.str x0.name,.sl 9 (x0.leaves.map GLeaf.row),.sl 3 (x0.subs.map GNode.row)],.str x1]++kcmp2) (h.ext L M) (fun rr hh=>rr=.int .i64 v∧hh=h.ext L M)) (hF:yc x0 target1 cmp2=some res):Spec Tryz.prog 48 [.sl 3 (x0.map GNode.row),.str target1,.fn (.func fcmp2) acmp2 kcmp2] h (fun rr hh=>rr=.tup [.int .i64 res.1,.bool res.2]∧hh=h):=by
 unfold yc at hF
 refine yC Tryz.func48 rfl (by kernel_rfl) (env:=[.sl 3 (x0.map GNode.row),.str target1,.fn (.func fcmp2) acmp2 kcmp2,za,za,za,za,za,za,za,za,za,za,za,za,za,za,za,za,za,za,za,za,za,za,za,za,za,za,za,za,za,za,za,za,za,za,za,za,za,za,za,za,za,za,za,za,za,za]) (by rfl) (fun hlow hC=>?_)
 simp only [yi,AV.low,Bool.and_eq_true,Bool.true_and,and_true] at hlow
 have hlacmp2:∀ n m,h.blks.length≤n→h.toks.length≤m→yi n m acmp2=true:=fun n m h1 h2=>yY h1 h2 _ (by simp [hlow])
 have hlkcmp2:∀ n m,h.blks.length≤n→h.toks.length≤m→yi n m kcmp2=true:=fun n m h1 h2=>yY h1 h2 _ (by simp [hlow])
 refine zk (zd ?_)
 refine zc rfl (zi rfl rfl (zb rfl)) xF ?_
 refine zc rfl (zi rfl rfl (zb rfl)) xJ ?_
 refine ze (zj (zk (zd ?_)))
 refine zc rfl (zf rfl yr (zb rfl)) yS ?_
 refine ya rfl (zR rfl rfl rfl rfl xn yP yb) yV fun hn1=>?_
 replace hn1:=xu hn1
 refine zc rfl (zi rfl yD (zb rfl)) xP ?_
 refine ze (zj (zk (zd ?_)))
 refine zc rfl (zf rfl xl (zb rfl)) y4 ?_
 refine zc rfl (zi rfl rfl (zb rfl)) ww ?_
 refine zc rfl (zi rfl yX (zb rfl)) yI ?_
 refine ze (zj (zk (zQ ?_)))
 refine r_loopWF (fun (s1:Int×Int)=>yO [3,4,5,6,7,11,12,13,14,15,16,17,18,19,20,21,22,23,24,25,26,27,28,29,30,31,32,33,34,35,36,37,38,39,40,41,42,43,44,45,46,47,48] [(9,.int .i64 s1.1),(10,.int .i64 s1.2)]) (fun s1=>h.ext [] []) hF (fun _=>by simp only [yO,upd,List.set_cons_succ,List.set_cons_zero];try rfl) (wk.le (by exact (.eq (.eq (.eq (.d4 (.drop (.eq (.cons (leV.of_eq rfl) (.cons (leV.of_eq rfl) (.d16 (.d16 (.d4 (.drop (.drop leL.nil))))))))))))))) ?_
 intro n1 s1 o1 hF hK1
 refine zk (zk (zd ?_))
 refine zc rfl (zf rfl xQ (zb rfl)) y8 ?_
 refine zc rfl (zf rfl yB (zb rfl)) xg ?_
 refine zc rfl (zy rfl yT xf rfl) xr ?_
 refine ze (zj ?_)
 refine zN xp hF (fun hc8 hF=>?_) (fun hc8 hF=>?_)
 ·refine zK (zj (zQ (zk (zd ?_))))
  refine zc rfl (zf rfl xQ (zb rfl)) xD ?_
  refine zc rfl (zf rfl yB (zb rfl)) xK ?_
  refine zc rfl (zy rfl xB xI rfl) x4 ?_
  refine zc rfl (s_convert rfl ty3 ty119 x5 rfl) x9 ?_
  refine zc rfl (zy rfl x6 rfl rfl) wl ?_
  refine zc rfl (s_convert rfl ty119 ty3 wi rfl) x8 ?_
  refine zc rfl (zi rfl xX (zb rfl)) yN ?_
  refine ze (zj (zk (zd ?_)))
  refine zc rfl (zf rfl yW (zb rfl)) we ?_
  refine zc rfl (zf rfl yr (zb rfl)) wo ?_
  refine zc rfl (zf rfl yA (zb rfl)) wK ?_
  refine zO hF (fun y9 hy9 hF=>?_)
  refine zc rfl (xL rfl xn wm wI wZ hy9 (GNode.row_eq _)) wR ?_
  refine zc rfl (yf rfl ty48.choose_spec.1 wV (zI (cs':=[.str y9.name,.sl 9 (y9.leaves.map GLeaf.row),.sl 3 (y9.subs.map GNode.row)]) ty48.choose_spec.2 rfl rfl) (zb rfl)) wQ ?_
  refine zc rfl (zf rfl yE (zb rfl)) w9 ?_
  refine zO hF (fun v10 hv10 hF=>?_)
  refine zL rfl (s_callC rfl rfl wa (zo wN (zo vb zw)) (.cons (zb rfl) (.cons (zb rfl) .nil)) rfl) (hcmp2 _ _ _ _ _ hv10) w8 ?_
  refine zc rfl (zy rfl vm rfl rfl) vh ?_
  refine ze (zj ?_)
  refine zN vl hF (fun hc11 hF=>?_) (fun hc11 hF=>?_)
  ·refine zd ?_
   refine zc rfl (zf rfl yA (zb rfl)) vz ?_
   refine zc rfl (zy rfl vk rfl rfl) vw ?_
   refine zc rfl (zi rfl vC (zb rfl)) ww ?_
   refine ze (yh (yH ?_))
   obtain rfl:=Option.some.inj hF
   exact ⟨((IntKind.wrap .i64 ((IntKind.wrap .i64 ((Int.fdiv (IntKind.wrap .u64 ((IntKind.wrap .i64 (s1.1+s1.2)))) (2 ^ (min (1:Int).toNat (IntKind.bits .u64))))))+(1:Int))),s1.2),hK1,wk.le (by exact (.eq (.eq (.eq (.d4 (.drop (.eq (.cons (leV.of_eq rfl) (.cons (leV.of_eq rfl) (.d16 (.d16 (.d4 (.drop (.drop leL.nil))))))))))))))⟩
  ·refine zd ?_
   refine zc rfl (zf rfl yA (zb rfl)) vu ?_
   refine zc rfl (zi rfl vj (zb rfl)) yI ?_
   refine ze (yh (yH ?_))
   obtain rfl:=Option.some.inj hF
   exact ⟨(s1.1,(IntKind.wrap .i64 ((Int.fdiv (IntKind.wrap .u64 ((IntKind.wrap .i64 (s1.1+s1.2)))) (2 ^ (min (1:Int).toNat (IntKind.bits .u64))))))),hK1,wk.le (by exact (.eq (.eq (.eq (.d4 (.drop (.eq (.cons (leV.of_eq rfl) (.cons (leV.of_eq rfl) (.d16 (.d16 (.d4 (.drop (.drop leL.nil))))))))))))))⟩
 ·refine yR ?_
  refine zZ ?_
  refine zU ?_
  obtain rfl:=Option.some.inj hF
  replace hF:=hK1
  refine zV ?_
  refine zj (zk (zd ?_))
  refine zc rfl (zf rfl xQ (zb rfl)) vt ?_
  refine zc rfl (zf rfl xQ (zb rfl)) vg ?_
  refine zc rfl (zf rfl xl (zb rfl)) vr ?_
  refine zc rfl (zy rfl va vA rfl) vK ?_
  refine zc rfl (zf rfl vO (zb rfl)) vJ ?_
  refine zp rfl (fun hb=>zf rfl yW (zb rfl)) (sk st0) ?_
  refine zp rfl (fun hb=>zf rfl yr (zb rfl)) (sk st1) ?_
  refine zp rfl (fun hb=>zf rfl xQ (zb rfl)) (sk xe) ?_
  refine wC hF (fun hg14 hF=>?_)
  refine zp rfl (fun hb=>qF default rfl xn (zn (gk yE) hb) (zn (gk yW) hb) wZ (hg14 hb) (GNode.row_eq _)) (sk wd) ?_
  refine zp rfl (fun hb=>yf rfl ty48.choose_spec.1 (zn (gk xw) hb) (zI (cs':=[.str (((x0).getD s1.1.toNat default).name),.sl 9 ((((x0).getD s1.1.toNat default).leaves).map GLeaf.row),.sl 3 ((((x0).getD s1.1.toNat default).subs).map GNode.row)]) ty48.choose_spec.2 rfl rfl) (zb rfl)) (sk yz) ?_
  refine zp rfl (fun hb=>zf rfl yE (zb rfl)) (sk xy) ?_
  refine yQ hF (fun v15 hv15 hF=>?_)
  refine yj rfl (fun hb=>s_callC rfl rfl (zn (gk yr) hb) (zo (zn (gk ym) hb) (zo (zn (gk yM) hb) zw)) (.cons (zb rfl) (.cons (zb rfl) .nil)) rfl) (fun hb=>hcmp2 _ _ _ _ _ (hv15 hb)) (sk xF) ?_
  refine zp rfl (fun hb=>zy rfl (zn (gk yU) hb) rfl rfl) (sk xJ) ?_
  refine zc rfl (zM rfl vG (gk xC) rfl (zX (fun ht=>gT ht))) (sk xP) ?_
  refine zc rfl (zi rfl vB (zb rfl)) xF ?_
  refine zc rfl (zi rfl (gk xl) (zb rfl)) xJ ?_
  refine ze (zj (zJ ?_))
  obtain rfl:=Option.some.inj hF
  refine qX rfl (zD yU (zD xC zF)) (zA (leV.refl _) rfl ?_)
  exact ⟨rfl,rfl⟩
/-! strings.Compare -/
def scmpTryzRen:Go.Shelf.Ren :=
  { f:=fun x=>match x with
      | 106=>50
      | 213=>83
      | 265=>108
      | n=>n
    t:=fun x=>match x with
      | 3=>3
      | 9=>9
      | n=>n
    g:=fun n=>n }
theorem scmpTryzLays:Go.Proofs.Lays.n106 Tryz.prog scmpTryzRen where
  mixed:=mixed
  f106:=Tryz.func50.trans (by kernel_rfl)
  f213:=Tryz.func83.trans (by kernel_rfl)
  f265:=Tryz.func108.trans (by kernel_rfl)
  t3:=Tryz.underlying3
  a3:=Tryz.isAgg3
  z3:=Tryz.sizeOf3
  v3:=Tryz.zeroValue3
  t9:=Tryz.underlying9
  a9:=Tryz.isAgg9
  z9:=Tryz.sizeOf9
  v9:=Tryz.zeroValue9
theorem ok50 {p0:zH} {p1:zH} {res:Int} {h:AH} (hF:stringsCompare p0 p1=some res):Spec Tryz.prog 50 [.str p0,.str p1] h (fun rr hh=>rr=.int .i64 res∧hh=h):=by
 obtain rfl:=Option.some.inj hF
 exact spec_scompare scmpTryzLays
/-! varve/diff.lay 1 -/
theorem ok49 {n0:GNode} {name1:zH} {res:Int} {h:AH}  (hF:qf n0 name1=some res):Spec Tryz.prog 49 [.agg [.str n0.name,.sl 9 (n0.leaves.map GLeaf.row),.sl 3 (n0.subs.map GNode.row)],.str name1] h (fun rr hh=>rr=.int .i64 res∧hh=h):=by
 unfold qf at hF
 refine zt Tryz.func49 rfl (by kernel_rfl) (env:=[.agg [.str n0.name,.sl 9 (n0.leaves.map GLeaf.row),.sl 3 (n0.subs.map GNode.row)],.str name1,za,za,za,za,za,za,za]) (by rfl) ?_
 refine zk (zd ?_)
 refine zc rfl (xq (n:=0) rfl yr (zb rfl) rfl rfl) xe ?_
 refine zc rfl (zi rfl rfl (zb rfl)) yz ?_
 refine ze (zj (zk (zd ?_)))
 refine zc rfl (zg rfl fo48x0 yW rfl) xy ?_
 refine zc rfl (zu rfl ty9 yM rfl (zr rfl) (zb rfl)) xF ?_
 refine zc rfl (zf rfl yE (zb rfl)) xJ ?_
 refine zO hF (fun v1 hv1 hF=>?_)
 refine zL rfl (zC rfl rfl rfl (zo yU (zo xC zw)) (.cons (zb rfl) (.cons (zb rfl) .nil))) (ok50 hv1) xP ?_
 refine zc rfl (zi rfl xl (zb rfl)) yz ?_
 refine ze (zj (zJ ?_))
 obtain rfl:=Option.some.inj hF
 refine zz rfl (zD ym zF) (zA (leV.refl _) rfl ?_)
 exact ⟨rfl,rfl⟩
/-! slices.DeleteFunc[[]varve/api.Leaf,varve/api.Leaf] -/
theorem ok51 {qs0:Option Nat} {s0:(List GLeaf)} {del1:(GLeaf→Option Bool)} {fdel1:FuncId} {adel1 kdel1:List AV} {res:(List GLeaf)} {h:AH} (hdel1:∀ x0 v (L:List Blk) (M:List Nat),del1 x0=some v→Spec Tryz.prog fdel1 (adel1++[.agg [.int .u8 x0.typ,.int .i64 x0.n,.int .u64 x0.time,.int .u8 x0.dot.actor.rep,.int .u32 x0.dot.actor.inc,.int .u64 x0.dot.seq,.str x0.text,.sl 5 (x0.items.map GItem.row),.sl 3 (x0.tombs.map GDot.row)]]++kdel1) (h.ext L M) (fun rr hh=>rr=.bool v∧hh=h.ext L M)) (hF:wS s0 del1=some res):Spec Tryz.prog 51 [.osl qs0 9 (s0.map GLeaf.row),.fn (.func fdel1) adel1 kdel1] h (fun rr hh=>rr=.osl qs0 9 (res.map GLeaf.row)∧hh=h):=by
 unfold wS at hF
 refine yC Tryz.func51 rfl (by kernel_rfl) (env:=[.osl qs0 9 (s0.map GLeaf.row),.fn (.func fdel1) adel1 kdel1,za,za,za,za,za,za,za,za,za,za,za,za,za,za,za,za,za,za,za,za,za,za,za,za,za,za,za,za,za,za,za,za,za,za,za,za,za,za,za,za]) (by rfl) (fun hlow hC=>?_)
 have hlowq:=osl_low (lowL_get 0 hlow rfl)
 simp only [yi,AV.low,Bool.and_eq_true,Bool.true_and,and_true] at hlow
 have hladel1:∀ n m,h.blks.length≤n→h.toks.length≤m→yi n m adel1=true:=fun n m h1 h2=>yY h1 h2 _ (by simp [hlow])
 have hlkdel1:∀ n m,h.blks.length≤n→h.toks.length≤m→yi n m kdel1=true:=fun n m h1 h2=>yY h1 h2 _ (by simp [hlow])
 refine zk (zd ?_)
 refine zc rfl (zi rfl rfl (xk wc)) yz ?_
 refine ze (zj (zk (zd ?_)))
 refine zc rfl (zf rfl yr (zb rfl)) xP ?_
 refine zc rfl (zf rfl yE (zb rfl)) ww ?_
 refine zO hF (fun v1 hv1 hF=>?_)
 refine zL rfl (zC rfl rfl rfl (zo xl (zo xQ zw)) (.cons (zb rfl) (.cons (zb rfl) .nil))) ((ok41 (fun x0 v L M hv=>by rw [wb];exact hdel1 x0 v _ _ hv) hv1).le (.cons (leV.osl _ _ _) (.eq leL.nil))) yI ?_
 refine zc rfl (zi rfl yB (zb rfl)) xy ?_
 refine ze (zj (zk (zk (zd ?_))))
 refine zc rfl (zf rfl yM (zb rfl)) yN ?_
 refine zc rfl (zy rfl yA rfl rfl) yS ?_
 refine ze (zj ?_)
 refine zN yP hF (fun hc2 hF=>?_) (fun hc2 hF=>?_)
 ·refine zk (zd ?_)
  refine zc rfl (zf rfl yr (zb rfl)) yV ?_
  refine zc rfl (zi rfl yD (zb rfl)) yz ?_
  refine ze (zj (zJ (zx ?_)))
  obtain rfl:=Option.some.inj hF
  refine zz rfl (zD ym zF) (zA (leV.refl _) (hlowq _ _) ?_)
  exact ⟨rfl,rfl⟩
 ·cases hF
theorem same51 {s0:(List GLeaf)} {del1:(GLeaf→Option Bool)} {res:(List GLeaf)} (hF:wS s0 del1=some res):s0=res:=by
  unfold wS at hF
  refine zO hF (fun _ _ hF=>?_)
  split at hF
  · exact Option.some.inj hF
  · cases hF
theorem okR51 {bl tl:Nat} {s0:(List GLeaf)} {del1:(GLeaf→Option Bool)} {fdel1:FuncId} {adel1 kdel1:List AV} {res:(List GLeaf)} {h:AH} (hbl:h.blks.length=bl) (htl:h.toks.length=tl) (hdel1:∀ x0 v (L:List Blk) (M:List Nat),del1 x0=some v→Spec Tryz.prog fdel1 (adel1++[.agg [.int .u8 x0.typ,.int .i64 x0.n,.int .u64 x0.time,.int .u8 x0.dot.actor.rep,.int .u32 x0.dot.actor.inc,.int .u64 x0.dot.seq,.str x0.text,.sl 5 (x0.items.map GItem.row),.sl 3 (x0.tombs.map GDot.row)]]++kdel1) (h.ext L M) (fun rr hh=>rr=.bool v∧hh=h.ext L M)) (hladel1:∀ n m,h.blks.length≤n→h.toks.length≤m→yi n m adel1=true) (hlkdel1:∀ n m,h.blks.length≤n→h.toks.length≤m→yi n m kdel1=true) (hF:xG s0 del1=some res):Spec Tryz.prog 51 [.rsl bl tl 9 s0.length,.fn (.func fdel1) adel1 kdel1] (h.ext [.row tl 9 (s0.map GLeaf.row)] [s0.length]) (TurnK h bl tl 9 res.length (res.map GLeaf.row)):=by
 unfold xG at hF
 subst hbl htl
 refine spec_of_body_R Tryz.func51 rfl (by kernel_rfl) (env:=[.rsl h.blks.length h.toks.length 9 s0.length,.fn (.func fdel1) adel1 kdel1,za,za,za,za,za,za,za,za,za,za,za,za,za,za,za,za,za,za,za,za,za,za,za,za,za,za,za,za,za,za,za,za,za,za,za,za,za,za,za,za]) (by rfl) ?_
 refine zk (zd ?_)
 refine zc rfl (zi rfl rfl (xk wc)) yz ?_
 refine ze (zj (zk (zd ?_)))
 refine zc rfl (zf rfl yr (zb rfl)) xP ?_
 refine zc rfl (zf rfl yE (zb rfl)) ww ?_
 refine zO hF (fun v1 hv1 hF=>?_)
 refine zL rfl (zC rfl rfl rfl (zo xl (zo xQ zw)) (.cons (zb rfl) (.cons (zb rfl) .nil))) (row_read (B1:=[]) (T1:=[]) (okR41 (by simp [AH.ext]) (by simp [AH.ext]) (fun x0 v L M hv=>by rw [wb];exact hdel1 x0 v _ _ hv) (fun n m h1 h2=>hladel1 n m (by simp [AH.ext] at h1;omega) (by simp [AH.ext] at h2;omega)) (fun n m h1 h2=>hlkdel1 n m (by simp [AH.ext] at h1;omega) (by simp [AH.ext] at h2;omega)) hv1) rfl rfl) yI ?_
 refine zc rfl (zi rfl yB (zb rfl)) xy ?_
 refine ze (zj (zk (zk (zd ?_))))
 refine zc rfl (zf rfl yM (zb rfl)) yN ?_
 refine zc rfl (zy rfl yA rfl rfl) yS ?_
 refine ze (zj ?_)
 refine zN yP hF (fun hc2 hF=>?_) (fun hc2 hF=>?_)
 ·refine zk (zd ?_)
  refine zc rfl (zf rfl yr (zb rfl)) yV ?_
  refine zc rfl (zi rfl yD (zb rfl)) yz ?_
  refine ze (zj (zJ (zx ?_)))
  obtain rfl:=Option.some.inj hF
  refine zz rfl (zD ym zF) (fin_turn0 (row:=GLeaf.row) ?_)
  exact ⟨rfl,_,rfl⟩
 ·refine zK (zj (zk (zk (zd ?_))))
  refine zc rfl (zf rfl yM (zb rfl)) y4 ?_
  refine zc rfl (zy rfl yX rfl rfl) y8 ?_
  refine zc rfl (zi rfl yT (zb rfl)) xF ?_
  refine ze (zj (zQ ?_))
  refine r_loopWF (fun (s1:Int×Int×(List GLeaf))=>yO [2,3,4,7,8,9,10,11,12,13,14,15,16,17,18,19,20,21,22,23,24,25,26,27,28,29,30,31,32,33,34,35,36,37,38,39,40,41] [(5,.int .i64 s1.1),(6,.int .i64 s1.2.1)]) (fun s1=>h.ext [.row (h.toks.length+0) 9 (s1.2.2.map GLeaf.row)] [s0.length]) hF (fun _=>by simp only [yO,upd,List.set_cons_succ,List.set_cons_zero];try rfl) (wk.le (by exact (.eq (.eq (.drop (.drop (.drop (.cons (leV.of_eq rfl) (.cons (leV.of_eq rfl) (.d16 (.d16 (.drop (.drop (.drop leL.nil)))))))))))))) ?_
  intro n1 s1 o1 hF hK1
  refine wC hF (fun hr1 hF=>?_)
  refine zk (zk (zd ?_))
  refine zc rfl (zf rfl yU (zb rfl)) xg ?_
  refine zc rfl (zf rfl yr (zb rfl)) xr ?_
  refine ya rfl (zR rfl rfl rfl rfl wc xp rfl) xD fun hn12=>?_
  refine zc rfl (zy rfl xf xB rfl) xK ?_
  refine ze (zj ?_)
  refine zN xI hF (fun hc13 hF=>?_) (fun hc13 hF=>?_)
  ·refine zK (zj (zk (zQ (zk (zd ?_)))))
   refine zc rfl (zf rfl yr (zb rfl)) wl ?_
   refine zc rfl (zf rfl yU (zb rfl)) x8 ?_
   refine zO hF (fun y14 hy14 hF=>?_)
   refine zc rfl (e_idxR rfl wc wi xX (idxRn hy14 hr1)) we ?_
   refine zc rfl (e_ldR (off:=0) (i:=0) (q:=h.toks.length+0) (z:=s1.2.1.toNat) (row:=GLeaf.row) (fun _=>rfl) rfl ty45.choose_spec.1 (by decide) wa rfl hr1 (idxR hy14).2.2 (zI (cs':=[.int .u8 y14.typ,.int .i64 y14.n,.int .u64 y14.time,.int .u8 y14.dot.actor.rep,.int .u32 y14.dot.actor.inc,.int .u64 y14.dot.seq,.str y14.text,.sl 5 (y14.items.map GItem.row),.sl 3 (y14.tombs.map GDot.row)]) ty45.choose_spec.2 rfl rfl) (zb rfl)) wo ?_
   refine zc rfl (xc (n:=1) rfl ze45 rfl) xJ ?_
   refine zc rfl (ye (cs':=[.int .u8 y14.typ,.int .i64 y14.n,.int .u64 y14.time,.int .u8 y14.dot.actor.rep,.int .u32 y14.dot.actor.inc,.int .u64 y14.dot.seq,.str y14.text,.sl 5 (y14.items.map GItem.row),.sl 3 (y14.tombs.map GDot.row)]) rfl ty45.choose_spec.1 xC wm (zb rfl) rfl rfl rfl rfl rfl) rfl ?_
   refine ze (zj (zk (zd ?_)))
   refine zc rfl (zf rfl yE (zb rfl)) wK ?_
   refine zc rfl (zu rfl ty45.choose_spec.1 xC rfl (zI (cs':=[.int .u8 y14.typ,.int .i64 y14.n,.int .u64 y14.time,.int .u8 y14.dot.actor.rep,.int .u32 y14.dot.actor.inc,.int .u64 y14.dot.seq,.str y14.text,.sl 5 (y14.items.map GItem.row),.sl 3 (y14.tombs.map GDot.row)]) ty45.choose_spec.2 rfl rfl) (zb rfl)) wR ?_
   refine zO hF (fun v15 hv15 hF=>?_)
   refine zL rfl (s_callC rfl rfl wI (zo wV zw) (.cons (zb rfl) .nil) rfl) (hdel1 _ _ _ _ hv15) wQ ?_
   refine zc rfl (xT rfl wN rfl) w9 ?_
   refine ze (zj ?_)
   refine zN vb hF (fun hc16 hF=>?_) (fun hc16 hF=>?_)
   ·refine zk (zd ?_)
    refine zc rfl (zf rfl yr (zb rfl)) w8 ?_
    refine zc rfl (zf rfl yM (zb rfl)) vh ?_
    refine zc rfl (zu rfl ty45.choose_spec.1 xC rfl (zI (cs':=[.int .u8 y14.typ,.int .i64 y14.n,.int .u64 y14.time,.int .u8 y14.dot.actor.rep,.int .u32 y14.dot.actor.inc,.int .u64 y14.dot.seq,.str y14.text,.sl 5 (y14.items.map GItem.row),.sl 3 (y14.tombs.map GDot.row)]) ty45.choose_spec.2 rfl rfl) (zb rfl)) vz ?_
    refine zO hF (fun y17 hy17 hF=>?_)
    refine zc rfl (e_idxR rfl wc vm vl (idxRn hy17 hr1)) vw ?_
    refine zc rfl (e_stR (off:=0) (i:=0) (q:=h.toks.length+0) (z:=s1.1.toNat) (row:=GLeaf.row) (y':=y14) (us:=[.int .u8 y14.typ,.int .i64 y14.n,.int .u64 y14.time,.int .u8 y14.dot.actor.rep,.int .u32 y14.dot.actor.inc,.int .u64 y14.dot.seq,.str y14.text,.sl 5 (y14.items.map GItem.row),.sl 3 (y14.tombs.map GDot.row)]) (B':=[.row (h.toks.length+0) 9 ((s1.2.2.set s1.1.toNat y14).map GLeaf.row),.cells [.int .u8 y14.typ,.int .i64 y14.n,.int .u64 y14.time,.int .u8 y14.dot.actor.rep,.int .u32 y14.dot.actor.inc,.int .u64 y14.dot.seq,.str y14.text,.sl 5 (y14.items.map GItem.row),.sl 3 (y14.tombs.map GDot.row)]]) (fun _=>rfl) rfl ty45.choose_spec.1 vC vk (zb rfl) rfl rfl rfl rfl hr1 (idxR hy17).2.2 (by decide) rfl rfl) rfl ?_
    refine ze (zj (zd ?_))
    refine zc rfl (zf rfl yM (zb rfl)) vu ?_
    refine zc rfl (zy rfl vj rfl rfl) vt ?_
    refine zc rfl (zi rfl vB (zb rfl)) xy ?_
    refine ze (yh (zj (zd ?_)))
    refine zc rfl (zf rfl yU (zb rfl)) x4 ?_
    refine zc rfl (zy rfl x5 rfl rfl) x9 ?_
    refine zc rfl (zi rfl x6 (zb rfl)) xF ?_
    refine ze (yH ?_)
    obtain rfl:=Option.some.inj hF
    exact ⟨((IntKind.wrap .i64 (s1.1+(1:Int))),(IntKind.wrap .i64 (s1.2.1+(1:Int))),(s1.2.2.set s1.1.toNat y14)),hK1,wk.trans (wk.le (by exact (.eq (.eq (.drop (.drop (.drop (.cons (leV.of_eq rfl) (.cons (leV.of_eq rfl) (.d16 (.d16 (.drop (.drop (.drop leL.nil)))))))))))))) (xN (by simp [yi,AV.low,hladel1,hlkdel1]) rfl rfl (by simp [Blk.low,yi,AV.low,hladel1,hlkdel1]))⟩
   ·refine zK (yh (zj (zd ?_)))
    refine zc rfl (zf rfl yU (zb rfl)) x4 ?_
    refine zc rfl (zy rfl x5 rfl rfl) x9 ?_
    refine zc rfl (zi rfl x6 (zb rfl)) xF ?_
    refine ze (yH ?_)
    obtain rfl:=Option.some.inj hF
    exact ⟨(s1.1,(IntKind.wrap .i64 (s1.2.1+(1:Int))),s1.2.2),hK1,wk.trans (wk.le (by exact (.eq (.eq (.drop (.drop (.drop (.cons (leV.of_eq rfl) (.cons (leV.of_eq rfl) (.d16 (.d16 (.drop (.drop (.drop leL.nil)))))))))))))) (xN (by simp [yi,AV.low,hladel1,hlkdel1]) rfl rfl (by simp [Blk.low,yi,AV.low,hladel1,hlkdel1]))⟩
  ·refine yR ?_
   refine zZ ?_
   refine zU ?_
   obtain rfl:=Option.some.inj hF
   replace hF:=hK1
   refine zV ?_
   refine zj (zk (zd ?_))
   refine zc rfl (zf rfl yr (zb rfl)) vg ?_
   refine zc rfl (zf rfl yM (zb rfl)) vr ?_
   refine wC hF (fun hm20 hF=>?_)
   refine ops_b rfl (e_sufR rfl wc va vA hm20) vK ?_
   refine ops_b rfl (e_clrR (i:=0) (q:=h.toks.length+0) (L:=s1.2.2) (row:=GLeaf.row) (d:=(GLeaf.mk (0:Int) (0:Int) (0:Int) (GDot.mk (GActor.mk (0:Int) (0:Int)) (0:Int)) ([]:zH) ([]:List GItem) ([]:List GDot))) (B':=[.row (h.toks.length+0) 9 ((s1.2.2.take s1.1.toNat++List.replicate (s0.length - s1.1.toNat) (GLeaf.mk (0:Int) (0:Int) (0:Int) (GDot.mk (GActor.mk (0:Int) (0:Int)) (0:Int)) ([]:zH) ([]:List GItem) ([]:List GDot))).map GLeaf.row)]) (fun _=>rfl) rfl rfl rfl rfl wc ze45 rfl vO rfl hr1 (Int.toNat_le.2 hm20.2) rfl) rfl ?_
   refine ze (zj (zk (zd ?_)))
   refine zc rfl (zf rfl yr (zb rfl)) vJ ?_
   refine zc rfl (zf rfl yM (zb rfl)) (sk st0) ?_
   refine zO hF (fun m21 hm21 hF=>?_)
   refine ops_b rfl (e_cutR (i:=0) (j:=0) (L:=(s1.2.2.take s1.1.toNat++List.replicate (s0.length - s1.1.toNat) (GLeaf.mk (0:Int) (0:Int) (0:Int) (GDot.mk (GActor.mk (0:Int) (0:Int)) (0:Int)) ([]:zH) ([]:List GItem) ([]:List GDot)))) (row:=GLeaf.row) (B':=[.dead,.row (h.toks.length+1) 9 (m21.map GLeaf.row)]) (T':=[s0.length+1,(m21).length]) rfl wc vG (gk yr) rfl (clr_len hr1 (Int.toNat_le.2 hm20.2)) hm21 rfl rfl rfl rfl) (sk st1) ?_
   refine zc rfl (zi rfl (gk yE) (zb rfl)) yz ?_
   refine ze (zj (zJ ?_))
   obtain rfl:=Option.some.inj hF
   refine zz rfl (zD ym zF) (fin_at ?_)
   exact ⟨rfl,_,rfl⟩
/-! slices.Clone[[]varve/api.Leaf,varve/api.Leaf] -/
theorem ok52 {s0:(List GLeaf)} {res:(List GLeaf)} {h:AH}  (hF:wp s0=some res):Spec Tryz.prog 52 [.sl 9 (s0.map GLeaf.row)] h (OwnK h 9 res.length (res.map GLeaf.row)):=by
 unfold wp at hF
 refine zt Tryz.func52 rfl (by kernel_rfl) (env:=[.sl 9 (s0.map GLeaf.row),za,za,za,za,za,za,za]) (by rfl) ?_
 refine zk (zd ?_)
 refine zc rfl (zi rfl rfl (xk wc)) xe ?_
 refine ze (zj (zk (zk (zd ?_))))
 refine zc rfl (zf rfl yr (zb rfl)) wd ?_
 refine ops_nilqE rfl rfl wc xw wZ rfl (fun _=>yz) hF (fun b1 hb1 hF=>?_)
 refine ze (zj ?_)
 refine zN ym hF (fun hc2 hF=>?_) (fun hc2 hF=>?_)
 ·refine zk (zd ?_)
  refine zc rfl (zi rfl rfl (xk wc)) xe ?_
  refine ze (zj (zJ (zx ?_)))
  obtain rfl:=Option.some.inj hF
  refine zz rfl (zD yW zF) (fin_own0 (row:=GLeaf.row) (L:=([]:List GLeaf)) ?_)
  exact ⟨rfl,rfl⟩
 ·refine zK (zj (zk (zd ?_)))
  refine zc rfl (yu (es:=([]:List GLeaf).map GLeaf.row) rfl wc ze45 rfl rfl yl .nil rfl rfl rfl) xy ?_
  refine zc rfl (zf rfl yr (zb rfl)) xF ?_
  refine wC hF (fun hm3 hF=>?_)
  refine zc rfl (e_appN (m:=0) (T':=[((([]:List GLeaf)++s0)).length]) rfl rfl rfl rfl wc wc yM yU (zb rfl) (zb rfl) news_sl hm3 rfl rfl) xJ ?_
  refine zc rfl (zi rfl xC (zb rfl)) xe ?_
  refine ze (zj (zJ ?_))
  obtain rfl:=Option.some.inj hF
  refine zz rfl (zD yW zF) (fin_own ?_)
  exact ⟨rfl,rfl⟩
theorem okR52 {s0:(List GLeaf)} {res:(List GLeaf)} {h:AH}  (hF:wp s0=some res):Spec Tryz.prog 52 [.sl 9 (s0.map GLeaf.row)] h (NewK h 9 res.length (res.map GLeaf.row)):=by
 unfold wp at hF
 refine zt Tryz.func52 rfl (by kernel_rfl) (env:=[.sl 9 (s0.map GLeaf.row),za,za,za,za,za,za,za]) (by rfl) ?_
 refine zk (zd ?_)
 refine zc rfl (zi rfl rfl (xk wc)) xe ?_
 refine ze (zj (zk (zk (zd ?_))))
 refine zc rfl (zf rfl yr (zb rfl)) wd ?_
 refine ops_nilqE rfl rfl wc xw wZ rfl (fun _=>yz) hF (fun b1 hb1 hF=>?_)
 refine ze (zj ?_)
 refine zN ym hF (fun hc2 hF=>?_) (fun hc2 hF=>?_)
 ·refine zk (zd ?_)
  refine zc rfl (zi rfl rfl (xk wc)) xe ?_
  refine ze (zj (zJ (zx ?_)))
  obtain rfl:=Option.some.inj hF
  refine zz rfl (zD yW zF) (fin_row0 ?_)
  exact ⟨rfl,rfl⟩
 ·refine zK (zj (zk (zd ?_)))
  refine zc rfl (yu (es:=([]:List GLeaf).map GLeaf.row) rfl wc ze45 rfl rfl yl .nil rfl rfl rfl) xy ?_
  refine zc rfl (zf rfl yr (zb rfl)) xF ?_
  refine ops_swk (swk_thaw yM rfl rfl xy rfl rfl) ?_
  refine wC hF (fun hm3 hF=>?_)
  refine zc rfl (e_appR (i:=0) (j:=0) (B':=[.row (h.toks.length+0) 9 ((([]:List GLeaf)++s0).map GLeaf.row)]) (T':=[((([]:List GLeaf)++s0)).length]) rfl rfl rfl rfl wc wc yM yU rfl (zb rfl) news_sl hm3 rfl rfl rfl rfl rfl) xJ ?_
  refine zc rfl (zi rfl xC (zb rfl)) xe ?_
  refine ze (zj (zJ ?_))
  obtain rfl:=Option.some.inj hF
  refine zz rfl (zD yW zF) (fin_at ?_)
  exact ⟨rfl,rfl⟩
/-! varve/diff.lay 2 -/
theorem ok53 {x0:GLeaf} {c0:Int} {i0:Nat} {res:Bool} {h:AH} (hb0:h.blk i0=some (.cells [.int .u8 c0])) (hF:diffXlayC2 x0 c0=some res):Spec Tryz.prog 53 [.agg [.int .u8 x0.typ,.int .i64 x0.n,.int .u64 x0.time,.int .u8 x0.dot.actor.rep,.int .u32 x0.dot.actor.inc,.int .u64 x0.dot.seq,.str x0.text,.sl 5 (x0.items.map GItem.row),.sl 3 (x0.tombs.map GDot.row)],.ptr i0 0] h (fun rr hh=>rr=.bool res∧hh=h):=by
 unfold diffXlayC2 at hF
 refine zt Tryz.func53 rfl (by kernel_rfl) (env:=[.agg [.int .u8 x0.typ,.int .i64 x0.n,.int .u64 x0.time,.int .u8 x0.dot.actor.rep,.int .u32 x0.dot.actor.inc,.int .u64 x0.dot.seq,.str x0.text,.sl 5 (x0.items.map GItem.row),.sl 3 (x0.tombs.map GDot.row)],.ptr i0 0,za,za,za,za,za,za]) (by rfl) ?_
 refine zk (zd ?_)
 refine zc rfl (xq (n:=0) rfl yr (zb rfl) rfl rfl) xe ?_
 refine zc rfl (zi rfl rfl (zb rfl)) wd ?_
 refine ze (zj (zk (zd ?_)))
 refine zc rfl (zg rfl xV yW rfl) yz ?_
 refine zc rfl (zu rfl ty5 ym rfl (zr rfl) (zb rfl)) xy ?_
 refine zc rfl (b_load rfl ty5 yE hb0 (zr rfl) (zb rfl)) xF ?_
 refine zc rfl (zy rfl yM yU rfl) xJ ?_
 refine zc rfl (zi rfl xC (zb rfl)) wd ?_
 refine ze (zj (zJ ?_))
 obtain rfl:=Option.some.inj hF
 refine zz rfl (zD xw zF) (zA (leV.refl _) rfl ?_)
 exact ⟨rfl,rfl⟩
/-! slices.SortFunc[[]varve/api.Leaf,varve/api.Leaf] -/
def sort55TryzRen:Go.Shelf.Ren :=
  { f:=fun x=>match x with
      | 6=>55
      | 15=>73
      | 14=>84
      | 28=>105
      | 29=>106
      | 20=>109
      | 21=>110
      | 22=>111
      | 23=>112
      | 24=>113
      | 25=>114
      | 26=>115
      | 27=>116
      | 46=>131
      | 47=>127
      | 48=>128
      | 49=>132
      | 50=>133
      | 57=>141
      | n=>n
    t:=fun x=>match x with
      | 22=>46
      | 24=>45
      | 25=>100
      | 3=>3
      | 39=>119
      | 0=>0
      | 53=>37
      | 55=>36
      | 4=>4
      | 46=>140
      | 45=>139
      | 50=>91
      | 5=>5
      | 9=>9
      | 66=>160
      | 70=>164
      | 76=>175
      | 77=>176
      | n=>n
    g:=fun n=>n }
theorem sort55TryzLays:Go.Proofs.SlLaysF0.n6 Tryz.prog sort55TryzRen where
  mixed:=mixed
  f6:=⟨Tryz.f55.name,by kernel_rfl,Tryz.func55.trans (by kernel_rfl)⟩
  f15:=Tryz.func73.trans (by kernel_rfl)
  f14:=⟨Tryz.f84.name,by kernel_rfl,Tryz.func84.trans (by kernel_rfl)⟩
  f28:=Tryz.func105.trans (by kernel_rfl)
  f29:=Tryz.func106.trans (by kernel_rfl)
  f20:=⟨Tryz.f109.name,by kernel_rfl,Tryz.func109.trans (by kernel_rfl)⟩
  f21:=⟨Tryz.f110.name,by kernel_rfl,Tryz.func110.trans (by kernel_rfl)⟩
  f22:=⟨Tryz.f111.name,by kernel_rfl,Tryz.func111.trans (by kernel_rfl)⟩
  f23:=⟨Tryz.f112.name,by kernel_rfl,Tryz.func112.trans (by kernel_rfl)⟩
  f24:=⟨Tryz.f113.name,by kernel_rfl,Tryz.func113.trans (by kernel_rfl)⟩
  f25:=⟨Tryz.f114.name,by kernel_rfl,Tryz.func114.trans (by kernel_rfl)⟩
  f26:=⟨Tryz.f115.name,by kernel_rfl,Tryz.func115.trans (by kernel_rfl)⟩
  f27:=⟨Tryz.f116.name,by kernel_rfl,Tryz.func116.trans (by kernel_rfl)⟩
  f46:=⟨Tryz.f131.name,by kernel_rfl,Tryz.func131.trans (by kernel_rfl)⟩
  f47:=Tryz.func127.trans (by kernel_rfl)
  f48:=Tryz.func128.trans (by kernel_rfl)
  f49:=⟨Tryz.f132.name,by kernel_rfl,Tryz.func132.trans (by kernel_rfl)⟩
  f50:=⟨Tryz.f133.name,by kernel_rfl,Tryz.func133.trans (by kernel_rfl)⟩
  f57:=⟨Tryz.f141.name,by kernel_rfl,Tryz.func141.trans (by kernel_rfl)⟩
  t0:=Tryz.underlying0
  a0:=Tryz.isAgg0
  z0:=Tryz.sizeOf0
  v0:=Tryz.zeroValue0
  t3:=Tryz.underlying3
  a3:=Tryz.isAgg3
  z3:=Tryz.sizeOf3
  v3:=Tryz.zeroValue3
  t4:=Tryz.underlying4
  a4:=Tryz.isAgg4
  z4:=Tryz.sizeOf4
  v4:=Tryz.zeroValue4
  t5:=Tryz.underlying5
  a5:=Tryz.isAgg5
  z5:=Tryz.sizeOf5
  v5:=Tryz.zeroValue5
  t9:=Tryz.underlying9
  a9:=Tryz.isAgg9
  z9:=Tryz.sizeOf9
  v9:=Tryz.zeroValue9
  t22:=Tryz.underlying46
  a22:=Tryz.isAgg46
  z22:=Tryz.sizeOf46
  v22:=Tryz.zeroValue46
  t25:=Tryz.underlying100
  a25:=Tryz.isAgg100
  z25:=Tryz.sizeOf100
  v25:=Tryz.zeroValue100
  t39:=Tryz.underlying119
  a39:=Tryz.isAgg119
  z39:=Tryz.sizeOf119
  v39:=Tryz.zeroValue119
  t45:=Tryz.underlying139
  a45:=Tryz.isAgg139
  z45:=Tryz.sizeOf139
  v45:=Tryz.zeroValue139
  t46:=Tryz.underlying140
  a46:=Tryz.isAgg140
  z46:=Tryz.sizeOf140
  v46:=Tryz.zeroValue140
  t50:=Tryz.underlying91
  a50:=Tryz.isAgg91
  z50:=Tryz.sizeOf91
  v50:=Tryz.zeroValue91
  t53:=Tryz.underlying37
  a53:=Tryz.isAgg37
  z53:=Tryz.sizeOf37
  v53:=Tryz.zeroValue37
  t55:=Tryz.underlying36
  a55:=Tryz.isAgg36
  z55:=Tryz.sizeOf36
  v55:=Tryz.zeroValue36
  t66:=Tryz.underlying160
  a66:=Tryz.isAgg160
  z66:=Tryz.sizeOf160
  v66:=Tryz.zeroValue160
  t70:=Tryz.underlying164
  a70:=Tryz.isAgg164
  z70:=Tryz.sizeOf164
  v70:=Tryz.zeroValue164
  t76:=Tryz.underlying175
  a76:=Tryz.isAgg175
  z76:=Tryz.sizeOf175
  v76:=Tryz.zeroValue175
  t77:=Tryz.underlying176
  a77:=Tryz.isAgg176
  z77:=Tryz.sizeOf176
  v77:=Tryz.zeroValue176
/-! varve/diff.lay 3 -/
theorem ok56 {x0:GLeaf} {y1:GLeaf} {res:Int} {h:AH}  (hF:diffXlayC3 x0 y1=some res):Spec Tryz.prog 56 [.agg [.int .u8 x0.typ,.int .i64 x0.n,.int .u64 x0.time,.int .u8 x0.dot.actor.rep,.int .u32 x0.dot.actor.inc,.int .u64 x0.dot.seq,.str x0.text,.sl 5 (x0.items.map GItem.row),.sl 3 (x0.tombs.map GDot.row)],.agg [.int .u8 y1.typ,.int .i64 y1.n,.int .u64 y1.time,.int .u8 y1.dot.actor.rep,.int .u32 y1.dot.actor.inc,.int .u64 y1.dot.seq,.str y1.text,.sl 5 (y1.items.map GItem.row),.sl 3 (y1.tombs.map GDot.row)]] h (fun rr hh=>rr=.int .i64 res∧hh=h):=by
 unfold diffXlayC3 at hF
 refine zt Tryz.func56 rfl (by kernel_rfl) (env:=[.agg [.int .u8 x0.typ,.int .i64 x0.n,.int .u64 x0.time,.int .u8 x0.dot.actor.rep,.int .u32 x0.dot.actor.inc,.int .u64 x0.dot.seq,.str x0.text,.sl 5 (x0.items.map GItem.row),.sl 3 (x0.tombs.map GDot.row)],.agg [.int .u8 y1.typ,.int .i64 y1.n,.int .u64 y1.time,.int .u8 y1.dot.actor.rep,.int .u32 y1.dot.actor.inc,.int .u64 y1.dot.seq,.str y1.text,.sl 5 (y1.items.map GItem.row),.sl 3 (y1.tombs.map GDot.row)],za,za,za,za,za,za,za,za]) (by rfl) ?_
 refine zk (zd ?_)
 refine zc rfl (xq (n:=0) rfl yr (zb rfl) rfl rfl) xe ?_
 refine zc rfl (xq (n:=1) rfl yE (zb rfl) rfl rfl) wd ?_
 refine zc rfl (zi rfl rfl (zb rfl)) yz ?_
 refine ze (zj (zk (zd ?_)))
 refine zc rfl (zg rfl xV yW rfl) xy ?_
 refine zc rfl (zu rfl ty5 yM rfl (zr rfl) (zb rfl)) xF ?_
 refine zc rfl (zg rfl xV xw rfl) xJ ?_
 refine zc rfl (zu rfl ty5 xC rfl (zr rfl) (zb rfl)) xP ?_
 refine zO hF (fun v1 hv1 hF=>?_)
 refine zL rfl (zC rfl rfl rfl (zo yU (zo xl zw)) (.cons (zb rfl) (.cons (zb rfl) .nil))) (ok57 hv1) ww ?_
 refine zc rfl (zi rfl xQ (zb rfl)) yz ?_
 refine ze (zj (zJ ?_))
 obtain rfl:=Option.some.inj hF
 refine zz rfl (zD ym zF) (zA (leV.refl _) rfl ?_)
 exact ⟨rfl,rfl⟩
/-! varve/diff.lay -/
theorem ok22N (n:Nat):∀ {t0:(List GNode)} {path1:(List zH)} {kind2:Int} {l3:GLeaf} {there4:Bool} {res:(List GNode)} {h:AH} , qp n t0 path1 kind2 l3 there4=some res→Spec Tryz.prog 22 [.sl 3 (t0.map GNode.row),.sl 1 (path1.map zP),.int .u8 kind2,.agg [.int .u8 l3.typ,.int .i64 l3.n,.int .u64 l3.time,.int .u8 l3.dot.actor.rep,.int .u32 l3.dot.actor.inc,.int .u64 l3.dot.seq,.str l3.text,.sl 5 (l3.items.map GItem.row),.sl 3 (l3.tombs.map GDot.row)],.bool there4] h (fun rr hh=>rr=.sl 3 (res.map GNode.row)∧hh=h):=by
 induction n with
 | zero=>intro t0 path1 kind2 l3 there4 res h  hF;simp [qp] at hF
 | succ n ih =>
  intro t0 path1 kind2 l3 there4 res h  hF
  unfold qp at hF
  refine zt Tryz.func22 rfl (by kernel_rfl) (env:=[.sl 3 (t0.map GNode.row),.sl 1 (path1.map zP),.int .u8 kind2,.agg [.int .u8 l3.typ,.int .i64 l3.n,.int .u64 l3.time,.int .u8 l3.dot.actor.rep,.int .u32 l3.dot.actor.inc,.int .u64 l3.dot.seq,.str l3.text,.sl 5 (l3.items.map GItem.row),.sl 3 (l3.tombs.map GDot.row)],.bool there4,za,za,za,za,za,za,za,za,za,za,za,za,za,za,za,za,za,za,za,za,za,za,za,za,za,za,za,za,za,za,za,za,za,za,za,za,za,za,za,za,za,za,za,za,za,za,za,za,za,za,za,za,za,za,za,za,za,za,za,za,za,za,za,za,za,za,za,za,za,za,za,za,za,za,za,za,za,za,za,za]) (by rfl) ?_
  refine zk (zd ?_)
  refine zc rfl (xq (n:=0) rfl yW (zb rfl) rfl rfl) xJ ?_
  refine zc rfl (xq (n:=1) rfl xw (zb rfl) rfl rfl) xP ?_
  refine zc rfl (zi rfl rfl (xk xn)) yI ?_
  refine ze (zj (zk (zd ?_)))
  refine zc rfl (zf rfl yr (zb rfl)) xg ?_
  refine zc rfl (zf rfl yE (zb rfl)) xr ?_
  refine zO hF (fun y1 hy1 hF=>?_)
  refine zc rfl (yk rfl wA xp rfl wZ hy1) xD ?_
  refine zc rfl (yf rfl ty9 xB (zr rfl) (zb rfl)) xK ?_
  refine zO hF (fun v2 hv2 hF=>?_)
  refine zL rfl (zC rfl rfl rfl (zo xf (zo xI (zo rfl zw))) (.cons (zb rfl) (.cons (zb rfl) (.cons (zb rfl) .nil)))) (ok48 (fun _ _ v L M hv=>ok49  hv) hv2) x4 ?_
  refine zc rfl (zf rfl x5 (zb rfl)) y8 ?_
  refine zc rfl (yG rfl yT rfl (zb rfl)) x9 ?_
  refine zc rfl (yG rfl yT rfl (zb rfl)) wl ?_
  refine zc rfl (zi rfl x6 (zb rfl)) yN ?_
  refine zc rfl (zi rfl wi (zb rfl)) yS ?_
  refine ze (zj (zk (zd ?_)))
  refine zc rfl (zf rfl yE (zb rfl)) x8 ?_
  refine zO hF (fun y3 hy3 hF=>?_)
  refine zc rfl (yk rfl wA xX rfl wZ hy3) we ?_
  refine zc rfl (yf rfl ty9 wa (zr rfl) (zb rfl)) wo ?_
  refine zc rfl (ql (cs':=[.str y3,.osl none 9 (([]:List GLeaf).map GLeaf.row),.osl none 3 (([]:List GNode).map GNode.row)]) rfl su48 ze48 pl48 (yg wm yl) (.cons (zb rfl) .nil) rfl rfl) wK ?_
  refine zc rfl (xc (n:=2) rfl ze48 rfl) yV ?_
  refine zc rfl (ye (cs':=[.str y3,.osl none 9 (([]:List GLeaf).map GLeaf.row),.osl none 3 (([]:List GNode).map GNode.row)]) rfl ty48.choose_spec.1 yD wI (zb rfl) rfl rfl rfl rfl rfl) rfl ?_
  refine ze (zj ?_)
  refine r_join (fun (s1:zH×(List GLeaf)×(List GNode))=>yO [2,3,5,6,9,10,14,15,16,17,18,19,20,21,22,23,24,25,26,27,28,29,30,31,32,33,34,35,36,37,38,39,40,41,42,43,44,45,46,47,48,49,50,51,52,53,54,55,56,57,58,59,60,61,62,63,64,65,66,67,68,69,70,71,72,73,74,75,76,77,78,79,80,81,82,83,84] []) (fun s1=>h.ext [.cells [.int .u8 kind2],.cells [.int .u8 l3.typ,.int .i64 l3.n,.int .u64 l3.time,.int .u8 l3.dot.actor.rep,.int .u32 l3.dot.actor.inc,.int .u64 l3.dot.seq,.str l3.text,.sl 5 (l3.items.map GItem.row),.sl 3 (l3.tombs.map GDot.row)],.cells [.str s1.1,.sl 9 (s1.2.1.map GLeaf.row),.sl 3 (s1.2.2.map GNode.row)]] []) hF (fun _=>by simp only [yO,upd,List.set_cons_succ,List.set_cons_zero];try rfl) (fun o1 hF hK1=>?_) (fun s1 hF=>?_)
  ·refine zk (zd ?_)
   refine zc rfl (zf rfl yP (zb rfl)) wR ?_
   refine ze (zj ?_)
   refine zN wV hF (fun hc6 hF=>?_) (fun hc6 hF=>?_)
   ·refine zd ?_
    refine zc rfl (zf rfl yr (zb rfl)) wQ ?_
    refine zc rfl (zf rfl yA (zb rfl)) w9 ?_
    refine zO hF (fun y7 hy7 hF=>?_)
    refine zc rfl (xL rfl xn wN vb wZ hy7 (GNode.row_eq _)) w8 ?_
    refine zc rfl (yf rfl ty48.choose_spec.1 vm (zI (cs':=[.str y7.name,.sl 9 (y7.leaves.map GLeaf.row),.sl 3 (y7.subs.map GNode.row)]) ty48.choose_spec.2 rfl rfl) (zb rfl)) vh ?_
    refine zc rfl (ye (cs':=[.str y7.name,.sl 9 (y7.leaves.map GLeaf.row),.sl 3 (y7.subs.map GNode.row)]) rfl ty48.choose_spec.1 yD vl (zb rfl) rfl rfl rfl rfl rfl) rfl ?_
    refine ze (q_join ?_)
    obtain rfl:=Option.some.inj hF
    exact ⟨(y7.name,y7.leaves,y7.subs),hK1,wk.le (by exact (.eq (.eq (.drop (.drop (.eq (.drop (.drop (.eq (.eq (.drop (.drop (.eq (.eq (.eq (.d16 (.d16 (.d16 (.d16 (.d4 (.drop (.drop (.drop leL.nil)))))))))))))))))))))))⟩
   ·refine zK (q_join ?_)
    obtain rfl:=Option.some.inj hF
    exact ⟨(y3,([]:List GLeaf),([]:List GNode)),hK1,wk.trans (wk_leB (j:=2) rfl (by exact (.eq (.cons (leV.osl _ _ _) (.cons (leV.osl _ _ _) leL.nil)))) rfl rfl) (wk.le (by exact (.eq (.eq (.drop (.drop (.eq (.drop (.drop (.eq (.eq (.drop (.drop (.eq (.eq (.eq (.d16 (.d16 (.d16 (.d16 (.d4 (.drop (.drop (.drop leL.nil))))))))))))))))))))))))⟩
  ·refine r_join (fun (s2:(List GLeaf)×(List GNode))=>yO [1,2,3,4,5,6,7,8,9,10,14,15,16,17,18,19,20,21,22,23,24,25,26,27,28,29,30,31,32,33,34,35,36,37,38,39,40,41,42,43,44,45,46,47,48,49,50,51,52,53,54,55,56,57,58,59,60,61,62,63,64,65,66,67,68,69,70,71,72,73,74,75,76,77,78,79,80,81,82,83,84] []) (fun s2=>h.ext [.cells [.int .u8 kind2],.cells [.int .u8 l3.typ,.int .i64 l3.n,.int .u64 l3.time,.int .u8 l3.dot.actor.rep,.int .u32 l3.dot.actor.inc,.int .u64 l3.dot.seq,.str l3.text,.sl 5 (l3.items.map GItem.row),.sl 3 (l3.tombs.map GDot.row)],.cells [.str s1.1,.sl 9 (s2.1.map GLeaf.row),.sl 3 (s2.2.map GNode.row)]] []) hF (fun _=>by simp only [yO,upd,List.set_cons_succ,List.set_cons_zero];try rfl) (fun o2 hF hK2=>?_) (fun s2 hF=>?_)
   ·refine zk (zd ?_)
    refine zc rfl (zf rfl yE (zb rfl)) vz ?_
    refine ya rfl (zR rfl rfl rfl rfl wA vk yb) vw fun hn18=>?_
    replace hn18:=xu hn18
    refine zc rfl (zy rfl vC rfl rfl) vu ?_
    refine ze (zj ?_)
    refine zN vj hF (fun hc19 hF=>?_) (fun hc19 hF=>?_)
    ·refine yJ [7] [] trivial mixed (by kernel_rfl) ?_
     refine zq rfl rfl (zg rfl fo48x2 yD rfl) vt ?_
     refine zq rfl rfl (zu rfl ty23 vB rfl (zr rfl) (zb rfl)) vg ?_
     refine zq rfl rfl (zf rfl yE (zb rfl)) vr ?_
     refine zO hF (fun m20 hm20 hF=>?_)
     refine zq rfl rfl (s_slcSl rfl wA vA (.inl rfl) (.some rfl) .none hm20) vK ?_
     refine zq rfl rfl (zu rfl ty5 xC rfl (zr rfl) (zb rfl)) vJ ?_
     refine zq rfl rfl (zu rfl ty45.choose_spec.1 xl rfl (zI (cs':=[.int .u8 l3.typ,.int .i64 l3.n,.int .u64 l3.time,.int .u8 l3.dot.actor.rep,.int .u32 l3.dot.actor.inc,.int .u64 l3.dot.seq,.str l3.text,.sl 5 (l3.items.map GItem.row),.sl 3 (l3.tombs.map GDot.row)]) ty45.choose_spec.2 rfl rfl) (zb rfl)) (sk st0) ?_
     refine zq rfl rfl (zf rfl ym (zb rfl)) (sk st1) ?_
     refine zO hF (fun v21 hv21 hF=>?_)
     refine yw rfl rfl (fun _=>zC rfl rfl rfl (zo va (zo vO (zo vG (zo (gk yr) (zo (gk yE) zw))))) (.cons (zb rfl) (.cons (zb rfl) (.cons (zb rfl) (.cons (zb rfl) (.cons (zb rfl) .nil)))))) (by rintro _ ⟨B2,T2,rfl,hk2⟩;exact ih hv21) (sk xe) ?_
     refine zq rfl rfl (zg rfl fo48x2 yD rfl) (sk wd) ?_
     refine xa rfl (FOk.cons (.inr (xU trivial)) FOk.nil) (by kernel_rfl) rfl (ye (cs':=[.str s1.1,.sl 9 (s1.2.1.map GLeaf.row),.sl 3 (v21.map GNode.row)]) rfl ty23 (gk xw) (gk yW) (zb rfl) rfl rfl rfl rfl rfl) rfl ?_
     refine yo ?_
     refine q_join ?_
     obtain rfl:=Option.some.inj hF
     exact ⟨(s1.2.1,v21),hK2,wk.le (by exact (.eq (.d4 (.d4 (.drop (.drop (.eq (.eq (.eq (.d16 (.d16 (.d16 (.d16 (.d4 (.drop (.drop (.drop leL.nil)))))))))))))))))⟩
    ·refine zk (zd ?_)
     refine zc rfl (zg rfl xY yD rfl) (sk yz) ?_
     refine zc rfl (zu rfl ty46 (gk ym) rfl (zr rfl) (zb rfl)) (sk xy) ?_
     refine zO hF (fun v22 hv22 hF=>?_)
     refine ops_callH rfl (zC rfl rfl rfl (zo (gk yM) zw) (.cons (zb rfl) .nil)) (row_new (B':=[.cells [.int .u8 kind2],.cells [.int .u8 l3.typ,.int .i64 l3.n,.int .u64 l3.time,.int .u8 l3.dot.actor.rep,.int .u32 l3.dot.actor.inc,.int .u64 l3.dot.seq,.str l3.text,.sl 5 (l3.items.map GItem.row),.sl 3 (l3.tombs.map GDot.row)],.cells [.str s1.1,.sl 9 (s1.2.1.map GLeaf.row),.sl 3 (s1.2.2.map GNode.row)],.row (h.toks.length+0) 9 (v22.map GLeaf.row)]) (T':=[(v22).length]) (okR52 hv22) rfl rfl rfl rfl) (sk xF) ?_
     refine zc rfl (s_makeFunc rfl rfl rfl) (sk xJ) ?_
     refine zO hF (fun v23 hv23 hF=>?_)
     refine ops_turn (B1:=[.cells [.int .u8 kind2],.cells [.int .u8 l3.typ,.int .i64 l3.n,.int .u64 l3.time,.int .u8 l3.dot.actor.rep,.int .u32 l3.dot.actor.inc,.int .u64 l3.dot.seq,.str l3.text,.sl 5 (l3.items.map GItem.row),.sl 3 (l3.tombs.map GDot.row)],.cells [.str s1.1,.sl 9 (s1.2.1.map GLeaf.row),.sl 3 (s1.2.2.map GNode.row)]]) (T1:=[]) (j:=3) (i:=0) (B':=[.cells [.int .u8 kind2],.cells [.int .u8 l3.typ,.int .i64 l3.n,.int .u64 l3.time,.int .u8 l3.dot.actor.rep,.int .u32 l3.dot.actor.inc,.int .u64 l3.dot.seq,.str l3.text,.sl 5 (l3.items.map GItem.row),.sl 3 (l3.tombs.map GDot.row)],.cells [.str s1.1,.sl 9 (s1.2.1.map GLeaf.row),.sl 3 (s1.2.2.map GNode.row)],.dead,.row (h.toks.length+1) 9 (v23.map GLeaf.row)]) rfl (zC rfl rfl rfl (zo (gk yU) (zo (gk xC) zw)) (.cons (zb rfl) (.cons (zb rfl) .nil))) (okR51 (by simp [AH.ext]) (by simp [AH.ext]) (fun _ v L M hv=>ok53 (blk_ext2 (j:=0) rfl) hv) (fun _ _ _ _=>rfl) (fun n m h1 h2=>by simp [AH.ext] at h1;simp [yi,AV.low];omega) hv23) rfl rfl (sk xP) rfl (fun n_v23=>?_)
     refine zc rfl (zg rfl xY yD rfl) (sk ww) ?_
     refine zc rfl (ye (cs':=[.str s1.1,.rsl (h.blks.length+4) (h.toks.length+1) 9 ((v23).length),.sl 3 (s1.2.2.map GNode.row)]) rfl ty46 (gk xQ) (gk xl) (zb rfl) rfl rfl rfl rfl rfl) rfl ?_
     refine ze (zj (zk (zd ?_)))
     refine zc rfl (zf rfl ym (zb rfl)) (sk yI) ?_
     refine ze (zj ?_)
     refine zN (gk yB) hF (fun hc24 hF=>?_) (fun hc24 hF=>?_)
     ·refine zk ?_
      refine yJ [3] [] trivial mixed (by kernel_rfl) ?_
      refine zq rfl rfl (zg rfl xY yD rfl) (sk yN) ?_
      refine zq rfl rfl (zu rfl ty46 (gk yA) rfl (zr rfl) (zb rfl)) (sk yS) ?_
      refine zq rfl rfl (zu rfl ty45.choose_spec.1 xl rfl (zI (cs':=[.int .u8 l3.typ,.int .i64 l3.n,.int .u64 l3.time,.int .u8 l3.dot.actor.rep,.int .u32 l3.dot.actor.inc,.int .u64 l3.dot.seq,.str l3.text,.sl 5 (l3.items.map GItem.row),.sl 3 (l3.tombs.map GDot.row)]) ty45.choose_spec.2 rfl rfl) (zb rfl)) (sk yV) ?_
      refine zO hF (fun v25 hv25 hF=>?_)
      refine yw rfl rfl (fun _=>zC rfl rfl rfl (zo (gk yD) zw) (.cons (zb rfl) .nil)) (by rintro _ ⟨B2,T2,rfl,hk2⟩;exact ok54 hv25) (sk y4) ?_
      refine zq rfl rfl (yu (es:=([v25]:List GLeaf).map GLeaf.row) rfl wc ze45 rfl rfl (yg (gk yX) yl) (.cons (zb rfl) .nil) rfl rfl rfl) (sk y8) ?_
      refine wC hF (fun hm26 hF=>?_)
      refine xa rfl (FOk.cons (.inr (xU trivial)) FOk.nil) (by kernel_rfl) rfl (e_appR (i:=4) (j:=1) (B':=[.cells [.int .u8 kind2],.cells [.int .u8 l3.typ,.int .i64 l3.n,.int .u64 l3.time,.int .u8 l3.dot.actor.rep,.int .u32 l3.dot.actor.inc,.int .u64 l3.dot.seq,.str l3.text,.sl 5 (l3.items.map GItem.row),.sl 3 (l3.tombs.map GDot.row)],.cells [.str s1.1,.rsl (h.blks.length+4) (h.toks.length+1) 9 ((v23).length),.sl 3 (s1.2.2.map GNode.row)],.dead,.row (h.toks.length+1) 9 ((v23++([v25]:List GLeaf)).map GLeaf.row)]) (T':=[n_v23,((v23++([v25]:List GLeaf))).length]) rfl rfl rfl rfl wc wc (gk yP) (gk yT) rfl (zb rfl) qZ hm26 rfl rfl rfl rfl rfl) (sk xg) ?_
      refine zq rfl rfl (zg rfl xY yD rfl) (sk xr) ?_
      refine xa rfl (FOk.cons (.inr (xU trivial)) FOk.nil) (by kernel_rfl) rfl (ye (cs':=[.str s1.1,.rsl (h.blks.length+4) (h.toks.length+1) 9 (((v23++([v25]:List GLeaf))).length),.sl 3 (s1.2.2.map GNode.row)]) rfl ty46 (gk xp) (gk xf) (zb rfl) rfl rfl rfl rfl rfl) rfl ?_
      refine yo ?_
      refine zj (zd ?_)
      refine zc rfl (zg rfl xY yD rfl) (sk xD) ?_
      refine zc rfl (zu rfl ty46 (gk xB) rfl (zr rfl) (zb rfl)) (sk xK) ?_
      refine zO hF (fun v27 hv27 hF=>?_)
      refine ops_callH rfl (zC rfl rfl rfl (zo (gk xI) (zo rfl zw)) (.cons (zb rfl) (.cons (zb rfl) .nil))) (spec_sortO sort55TryzLays Tryz.isAgg45 Tryz.sizeOf45 (fun _=>rfl) (fun _=>rfl) (enters_fn Tryz.func56 rfl (by kernel_rfl)) (fun _ _ _ h=>ok56 h) hv27 (i:=4) (B':=[.cells [.int .u8 kind2],.cells [.int .u8 l3.typ,.int .i64 l3.n,.int .u64 l3.time,.int .u8 l3.dot.actor.rep,.int .u32 l3.dot.actor.inc,.int .u64 l3.dot.seq,.str l3.text,.sl 5 (l3.items.map GItem.row),.sl 3 (l3.tombs.map GDot.row)],.cells [.str s1.1,.rsl (h.blks.length+4) (h.toks.length+1) 9 (((v23++([v25]:List GLeaf))).length),.sl 3 (s1.2.2.map GNode.row)],.dead,.row (h.toks.length+1) 9 (v27.map GLeaf.row)]) rfl rfl) (sk x4) ?_
      refine ze (q_join ?_)
      obtain rfl:=Option.some.inj hF
      exact ⟨(v27,s1.2.2),hK2,wk.trans (wk.trans ((swk_freezeB (j:=4) (jb:=2) (m:=1) (B':=[.cells [.int .u8 kind2],.cells [.int .u8 l3.typ,.int .i64 l3.n,.int .u64 l3.time,.int .u8 l3.dot.actor.rep,.int .u32 l3.dot.actor.inc,.int .u64 l3.dot.seq,.str l3.text,.sl 5 (l3.items.map GItem.row),.sl 3 (l3.tombs.map GDot.row)],.cells [.str s1.1,.sl 9 (v27.map GLeaf.row),.sl 3 (s1.2.2.map GNode.row)],.dead,.dead]) (T':=[n_v23,(v27.map GLeaf.row).length+1]) rfl (by exact (FzL.cons (FzA.same _) (FzL.cons (FzA.same _) (FzL.cons (FzA.same _) (FzL.cons (FzA.same _) (FzL.cons (FzA.same _) (FzL.cons (FzA.same _) (FzL.cons (FzA.same _) (FzL.cons (FzA.same _) (FzL.cons (FzA.same _) (FzL.cons (FzA.same _) (FzL.cons (FzA.same _) (FzL.cons (FzA.same _) (FzL.cons (FzA.same _) (FzL.cons (FzA.same _) (FzL.cons (FzA.same _) (FzL.cons (FzA.same _) (FzL.cons (FzA.same _) (FzL.cons (FzA.same _) (FzL.cons (FzA.same _) (FzL.cons (FzA.same _) (FzL.cons (FzA.same _) (FzL.cons (FzA.same _) (FzL.cons (FzA.same _) (FzL.cons (FzA.same _) (FzL.cons (FzA.same _) (FzL.cons (FzA.same _) (FzL.cons (FzA.same _) (FzL.cons (FzA.same _) (FzL.cons (FzA.same _) (FzL.cons (FzA.same _) (FzL.cons (FzA.same _) (FzL.cons (FzA.same _) (FzL.cons (FzA.same _) (FzL.cons (FzA.same _) (FzL.cons (FzA.same _) (FzL.cons (FzA.same _) (FzL.cons (FzA.same _) (FzL.cons (FzA.same _) (FzL.cons (FzA.same _) (FzL.cons (FzA.same _) (FzL.cons (FzA.same _) (FzL.cons (FzA.same _) (FzL.cons (FzA.same _) (FzL.cons (FzA.same _) (FzL.cons (FzA.same _) (FzL.cons (FzA.same _) (FzL.cons (FzA.same _) (FzL.cons (FzA.same _) (FzL.cons (FzA.same _) (FzL.cons (FzA.same _) (FzL.cons (FzA.same _) (FzL.cons (FzA.same _) (FzL.cons (FzA.same _) (FzL.cons (FzA.same _) (FzL.cons (FzA.same _) (FzL.cons (FzA.same _) (FzL.cons (FzA.hit2 _ _ (by rw [List.length_map];exact (sortO_len hv27).symm)) (FzL.cons (FzA.same _) (FzL.cons (FzA.same _) (FzL.cons (FzA.hit2 _ _ (by rw [List.length_map];exact (sortO_len hv27).symm)) (FzL.refl _)))))))))))))))))))))))))))))))))))))))))))))))))))))))))))))) rfl (by exact (FzL.cons (FzA.same _) (FzL.cons (FzA.hit2 _ _ (by rw [List.length_map];exact (sortO_len hv27).symm)) (FzL.refl _)))) rfl rfl).wk) (wk.le (by exact (.eq (.d4 (.d4 (.drop (.drop (.eq (.eq (.eq (.d16 (.d16 (.d16 (.d16 (.d4 (.drop (.drop (.drop leL.nil))))))))))))))))))) (xN (by simp [yi,AV.low]) rfl rfl (by simp [Blk.low,yi,AV.low]))⟩
     ·refine zK (q_join ?_)
      obtain rfl:=Option.some.inj hF
      exact ⟨(v23,s1.2.2),hK2,wk.trans (wk.trans ((swk_freezeB (j:=4) (jb:=2) (m:=1) (B':=[.cells [.int .u8 kind2],.cells [.int .u8 l3.typ,.int .i64 l3.n,.int .u64 l3.time,.int .u8 l3.dot.actor.rep,.int .u32 l3.dot.actor.inc,.int .u64 l3.dot.seq,.str l3.text,.sl 5 (l3.items.map GItem.row),.sl 3 (l3.tombs.map GDot.row)],.cells [.str s1.1,.sl 9 (v23.map GLeaf.row),.sl 3 (s1.2.2.map GNode.row)],.dead,.dead]) (T':=[n_v23,(v23.map GLeaf.row).length+1]) rfl (by exact (FzL.cons (FzA.same _) (FzL.cons (FzA.same _) (FzL.cons (FzA.same _) (FzL.cons (FzA.same _) (FzL.cons (FzA.same _) (FzL.cons (FzA.same _) (FzL.cons (FzA.same _) (FzL.cons (FzA.same _) (FzL.cons (FzA.same _) (FzL.cons (FzA.same _) (FzL.cons (FzA.same _) (FzL.cons (FzA.same _) (FzL.cons (FzA.same _) (FzL.cons (FzA.same _) (FzL.cons (FzA.same _) (FzL.cons (FzA.same _) (FzL.cons (FzA.same _) (FzL.cons (FzA.same _) (FzL.cons (FzA.same _) (FzL.cons (FzA.same _) (FzL.cons (FzA.same _) (FzL.cons (FzA.same _) (FzL.cons (FzA.same _) (FzL.cons (FzA.same _) (FzL.cons (FzA.same _) (FzL.cons (FzA.same _) (FzL.cons (FzA.same _) (FzL.cons (FzA.same _) (FzL.cons (FzA.same _) (FzL.cons (FzA.same _) (FzL.cons (FzA.same _) (FzL.cons (FzA.same _) (FzL.cons (FzA.same _) (FzL.cons (FzA.same _) (FzL.cons (FzA.same _) (FzL.cons (FzA.same _) (FzL.cons (FzA.same _) (FzL.cons (FzA.same _) (FzL.cons (FzA.same _) (FzL.cons (FzA.same _) (FzL.cons (FzA.same _) (FzL.cons (FzA.same _) (FzL.cons (FzA.same _) (FzL.cons (FzA.same _) (FzL.cons (FzA.same _) (FzL.cons (FzA.same _) (FzL.cons (FzA.same _) (FzL.cons (FzA.same _) (FzL.cons (FzA.hit2 _ _ (by simp)) (FzL.refl _))))))))))))))))))))))))))))))))))))))))))))))))))) rfl (by exact (FzL.cons (FzA.same _) (FzL.cons (FzA.hit2 _ _ (by simp)) (FzL.refl _)))) rfl rfl).wk) (wk.le (by exact (.eq (.d4 (.d4 (.drop (.drop (.eq (.eq (.eq (.d16 (.d16 (.d16 (.d16 (.d4 (.drop (.drop (.drop leL.nil))))))))))))))))))) (xN (by simp [yi,AV.low]) rfl rfl (by simp [Blk.low,yi,AV.low]))⟩
   ·refine zk (zd ?_)
    refine zc rfl (zf rfl yr (zb rfl)) (sk x9) ?_
    refine zc rfl (zf rfl yA (zb rfl)) (sk wl) ?_
    refine zO hF (fun m28 hm28 hF=>?_)
    refine zc rfl (s_slcSl rfl xn (gk x6) (.inl rfl) .none (.some (gk wi)) hm28) (sk x8) ?_
    refine zO hF (fun v29 hv29 hF=>?_)
    refine ops_callH rfl (zC rfl rfl rfl (zo (gk xX) zw) (.cons (zb rfl) .nil)) (own_ext (T':=[(v29).length]) (ok58 hv29) (m:=0) rfl rfl) (sk we) ?_
    refine zc rfl (zi rfl (gk wa) (zb rfl)) y4 ?_
    refine ze (zj (zk (zk (zd ?_))))
    refine zc rfl (zg rfl xY yD rfl) (sk wo) ?_
    refine zc rfl (zu rfl ty46 (gk wm) rfl (zr rfl) (zb rfl)) (sk wK) ?_
    refine ya rfl (zR rfl rfl rfl rfl wc (gk wI) yb) (sk wR) fun hn30=>?_
    replace hn30:=xu hn30
    refine zc rfl (zg rfl fo48x2 yD rfl) (sk wQ) ?_
    refine zc rfl (zu rfl ty23 (gk wN) rfl (zr rfl) (zb rfl)) (sk w9) ?_
    refine ya rfl (zR rfl rfl rfl rfl xn (gk vb) yb) (sk w8) fun hn31=>?_
    replace hn31:=xu hn31
    refine zc rfl (zy rfl (gk wV) (gk vm) rfl) (sk vh) ?_
    refine zc rfl (zy rfl (gk vl) rfl rfl) (sk vz) ?_
    refine ze (zj ?_)
    refine zN (gk vk) hF (fun hc32 hF=>?_) (fun hc32 hF=>?_)
    ·refine zd ?_
     refine zc rfl (zf rfl yX (zb rfl)) (sk vw) ?_
     refine zc rfl (zu rfl ty48.choose_spec.1 yD rfl (zI (cs':=[.str s1.1,.sl 9 (s2.1.map GLeaf.row),.sl 3 (s2.2.map GNode.row)]) ty48.choose_spec.2 rfl rfl) (zb rfl)) (sk vu) ?_
     refine zc rfl (yu (es:=([(GNode.mk s1.1 s2.1 s2.2)]:List GNode).map GNode.row) rfl xn ze48 rfl rfl (yg (gk vj) yl) (.cons (zb rfl) .nil) rfl rfl (by simp only [List.map_cons,List.map_nil,GNode.row_eq];rfl)) (sk vt) ?_
     refine wC hF (fun hm33 hF=>?_)
     refine zc rfl (e_appT (j:=0) (T':=[((v29++([(GNode.mk s1.1 s2.1 s2.2)]:List GNode))).length]) rfl rfl rfl rfl xn xn (gk vC) (gk vB) (zb rfl) (zb rfl) qZ hm33 rfl rfl) (sk vg) ?_
     refine zc rfl (zi rfl (gk va) (zb rfl)) y4 ?_
     refine ze (zj (zk (zk (zd ?_))))
     refine zc rfl (zf rfl yP (zb rfl)) (sk vr) ?_
     refine ze (zj ?_)
     refine zN (gk vA) hF (fun hc34 hF=>?_) (fun hc34 hF=>?_)
     ·refine zd ?_
      refine zc rfl (zf rfl yA (zb rfl)) (sk vK) ?_
      refine zc rfl (zy rfl (gk vO) rfl rfl) (sk vJ) ?_
      refine zc rfl (zi rfl (gk vG) (zb rfl)) yN ?_
      refine ze (zj (zk (zd ?_)))
      refine zc rfl (zf rfl yX (zb rfl)) (sk (sk st0)) ?_
      refine zc rfl (zf rfl yr (zb rfl)) (sk (sk st1)) ?_
      refine zc rfl (zf rfl yA (zb rfl)) (sk (sk xe)) ?_
      refine zO hF (fun m35 hm35 hF=>?_)
      refine zc rfl (s_slcSl rfl xn (gk (gk yE)) (.inl rfl) (.some (gk (gk yW))) .none hm35) (sk (sk wd)) ?_
      refine wC hF (fun hm36 hF=>?_)
      refine zc rfl (e_appT (j:=0) (T':=[(((v29++([(GNode.mk s1.1 s2.1 s2.2)]:List GNode))++m35)).length]) rfl rfl rfl rfl xn xn (gk (gk yr)) (gk (gk xw)) (zb rfl) (zb rfl) news_sl hm36 rfl rfl) (sk (sk yz)) ?_
      refine zc rfl (zi rfl (gk (gk ym)) (zb rfl)) yI ?_
      refine ze (zj (zJ ?_))
      obtain rfl:=Option.some.inj hF
      refine zz rfl (zD yB zF) (zA (leV.osl _ _ _) rfl ?_)
      exact ⟨rfl,rfl⟩
     ·refine zK (zj (zk (zd ?_)))
      refine zc rfl (zf rfl yX (zb rfl)) (sk (sk st0)) ?_
      refine zc rfl (zf rfl yr (zb rfl)) (sk (sk st1)) ?_
      refine zc rfl (zf rfl yA (zb rfl)) (sk (sk xe)) ?_
      refine zO hF (fun m37 hm37 hF=>?_)
      refine zc rfl (s_slcSl rfl xn (gk (gk yE)) (.inl rfl) (.some (gk (gk yW))) .none hm37) (sk (sk wd)) ?_
      refine wC hF (fun hm38 hF=>?_)
      refine zc rfl (e_appT (j:=0) (T':=[(((v29++([(GNode.mk s1.1 s2.1 s2.2)]:List GNode))++m37)).length]) rfl rfl rfl rfl xn xn (gk (gk yr)) (gk (gk xw)) (zb rfl) (zb rfl) news_sl hm38 rfl rfl) (sk (sk yz)) ?_
      refine zc rfl (zi rfl (gk (gk ym)) (zb rfl)) yI ?_
      refine ze (zj (zJ ?_))
      obtain rfl:=Option.some.inj hF
      refine zz rfl (zD yB zF) (zA (leV.osl _ _ _) rfl ?_)
      exact ⟨rfl,rfl⟩
    ·refine zK (zj (zk (zk (zd ?_))))
     refine zc rfl (zf rfl yP (zb rfl)) (sk vr) ?_
     refine ze (zj ?_)
     refine zN (gk vA) hF (fun hc39 hF=>?_) (fun hc39 hF=>?_)
     ·refine zd ?_
      refine zc rfl (zf rfl yA (zb rfl)) (sk vK) ?_
      refine zc rfl (zy rfl (gk vO) rfl rfl) (sk vJ) ?_
      refine zc rfl (zi rfl (gk vG) (zb rfl)) yN ?_
      refine ze (zj (zk (zd ?_)))
      refine zc rfl (zf rfl yX (zb rfl)) (sk (sk st0)) ?_
      refine zc rfl (zf rfl yr (zb rfl)) (sk (sk st1)) ?_
      refine zc rfl (zf rfl yA (zb rfl)) (sk (sk xe)) ?_
      refine zO hF (fun m40 hm40 hF=>?_)
      refine zc rfl (s_slcSl rfl xn (gk (gk yE)) (.inl rfl) (.some (gk (gk yW))) .none hm40) (sk (sk wd)) ?_
      refine wC hF (fun hm41 hF=>?_)
      refine zc rfl (e_appT (j:=0) (T':=[((v29++m40)).length]) rfl rfl rfl rfl xn xn (gk (gk yr)) (gk (gk xw)) (zb rfl) (zb rfl) news_sl hm41 rfl rfl) (sk (sk yz)) ?_
      refine zc rfl (zi rfl (gk (gk ym)) (zb rfl)) yI ?_
      refine ze (zj (zJ ?_))
      obtain rfl:=Option.some.inj hF
      refine zz rfl (zD yB zF) (zA (leV.osl _ _ _) rfl ?_)
      exact ⟨rfl,rfl⟩
     ·refine zK (zj (zk (zd ?_)))
      refine zc rfl (zf rfl yX (zb rfl)) (sk (sk st0)) ?_
      refine zc rfl (zf rfl yr (zb rfl)) (sk (sk st1)) ?_
      refine zc rfl (zf rfl yA (zb rfl)) (sk (sk xe)) ?_
      refine zO hF (fun m42 hm42 hF=>?_)
      refine zc rfl (s_slcSl rfl xn (gk (gk yE)) (.inl rfl) (.some (gk (gk yW))) .none hm42) (sk (sk wd)) ?_
      refine wC hF (fun hm43 hF=>?_)
      refine zc rfl (e_appT (j:=0) (T':=[((v29++m42)).length]) rfl rfl rfl rfl xn xn (gk (gk yr)) (gk (gk xw)) (zb rfl) (zb rfl) news_sl hm43 rfl rfl) (sk (sk yz)) ?_
      refine zc rfl (zi rfl (gk (gk ym)) (zb rfl)) yI ?_
      refine ze (zj (zJ ?_))
      obtain rfl:=Option.some.inj hF
      refine zz rfl (zD yB zF) (zA (leV.osl _ _ _) rfl ?_)
      exact ⟨rfl,rfl⟩
theorem ok22 {t0:(List GNode)} {path1:(List zH)} {kind2:Int} {l3:GLeaf} {there4:Bool} {res:(List GNode)} {h:AH}  (hF:diffXlay t0 path1 kind2 l3 there4=some res):Spec Tryz.prog 22 [.sl 3 (t0.map GNode.row),.sl 1 (path1.map zP),.int .u8 kind2,.agg [.int .u8 l3.typ,.int .i64 l3.n,.int .u64 l3.time,.int .u8 l3.dot.actor.rep,.int .u32 l3.dot.actor.inc,.int .u64 l3.dot.seq,.str l3.text,.sl 5 (l3.items.map GItem.row),.sl 3 (l3.tombs.map GDot.row)],.bool there4] h (fun rr hh=>rr=.sl 3 (res.map GNode.row)∧hh=h):=by
 obtain ⟨n,hn⟩:=anyN_is hF
 exact ok22N n  hn
end Go.Vv
