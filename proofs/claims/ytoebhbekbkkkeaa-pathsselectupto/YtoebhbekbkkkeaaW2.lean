/- Each function that the law reaches computes what its reading says; printed by a program. -/
import Derived.Test.YtoebhbekbkkkeaaW1
namespace Go.Vv
open Go Go.Proofs
set_option maxRecDepth 100000
set_option maxHeartbeats 1000000
set_option linter.unusedSimpArgs false
set_option linter.unusedVariables false
theorem ok34N (n:Nat):∀ {t0:(List GNode)} {deep1:Int} {res:Bool} {h:AH} , qn n t0 deep1=some res→Spec Try.prog 34 [.sl 3 (t0.map GNode.row),.int .i64 deep1] h (fun rr hh=>rr=.bool res∧hh=h):=by
 induction n with
 | zero=>intro t0 deep1 res h  hF;simp [qn] at hF
 | succ n ih =>
  intro t0 deep1 res h  hF
  unfold qn at hF
  refine zu Try.func34 rfl (by kernel_rfl) (env:=[.sl 3 (t0.map GNode.row),.int .i64 deep1,za,za,za,za,za,za,za,za,za,za,za,za,za,za,za,za,za,za,za,za,za,za,za,za,za,za,za,za,za,za,za,za,za,za,za,za,za,za,za,za,za,za,za,za,za,za,za,za,za,za,za,za,za,za,za,za,za,za,za,za,za,za,za,za,za,za,za,za,za,za,za,za,za,za,za,za,za,za,za,za,za,za,za,za,za,za,za]) (by rfl) ?_
  refine zk (zd ?_)
  refine zc rfl (zg rfl rfl (zb rfl)) yu ?_
  refine ze (zi (zk (zk (zd ?_))))
  refine zc rfl (zf rfl yl (zb rfl)) wv ?_
  refine zZ rfl (zO rfl rfl rfl rfl yZ xy ya) yF fun hn1=>?_
  replace hn1:=y9 hn1
  refine zc rfl (zy rfl yv rfl rfl) yL ?_
  refine zc rfl (zf rfl yA (zb rfl)) yQ ?_
  refine zq rfl (fun hb=>zf rfl yw (zb rfl)) yW ?_
  refine zq rfl (fun hb=>zy rfl (zn yN hb) rfl rfl) y3 ?_
  refine zc rfl (zM rfl yK y6 rfl (zV (fun ht=>gT ht))) y2 ?_
  refine ze (zi ?_)
  refine zL yR hF (fun hc2 hF=>?_) (fun hc2 hF=>?_)
  ·refine zk (zd ?_)
   refine zc rfl (zg rfl rfl (zb rfl)) yu ?_
   refine ze (zi (zH (zw ?_)))
   obtain rfl:=Option.some.inj hF
   refine zz rfl (zD yz zE) (zB (leV.refl _) rfl ?_)
   exact ⟨rfl,rfl⟩
  ·refine zG (zi (zk (zk (zd ?_))))
   refine zc rfl (zf rfl yl (zb rfl)) xd ?_
   refine zZ rfl (zO rfl rfl rfl rfl yZ xb ya) xi fun hn3=>?_
   replace hn3:=y9 hn3
   refine zc rfl (zf rfl rfl (zb rfl)) xr ?_
   refine ze (zi (zJ ?_))
   refine yi (fun (n1:Nat) (s1:Unit)=>yr [2,3,4,5,6,7,8,9,10,11,12,13,14,15,19,20,21,22,23,24,25,26,27,28,29,30,31,32,33,34,35,36,37,38,39,40,41,42,43,44,45,46,47,48,49,50,51,52,53,54,55,56,57,58,59,60,61,62,63,64,65,66,67,68,69,70,71,72,73,74,75,76,77,78,79,80,81,82,83,84,85,86,87,88] [(18,.int .i64 (n1:Int))]) (fun s1=>h.ext [] []) hF (fun _ _=>by simp only [yr,qN,List.set_cons_succ,List.set_cons_zero];try rfl) (wk.le (by exact (.eq (.eq (.d4 (.d4 (.d4 (.drop (.drop (.eq (.eq (.cons (leV.of_eq rfl) (.d16 (.d16 (.d16 (.d16 (.d4 (.drop (.drop leL.nil))))))))))))))))))) ?_
   intro n1 s1 hi1 hF
   refine zk (zd ?_)
   refine zc rfl (zy rfl xp xj rfl) xE ?_
   refine ze (zi (zk ?_))
   refine yo xH hF (fun x1 o1 hl1 hx1 hF hK1=>?_) (fun hF=>?_)
   ·refine zG (zi (zk (zJ (zk (zd ?_)))))
    refine zc rfl (zf rfl xp (zb rfl)) xR ?_
    refine zc rfl (xa rfl yZ xb xp xZ (yn hx1) (GNode.row_eq _)) xY ?_
    refine zc rfl (zX rfl ty64.choose_spec.1 xV (zK (cs':=[.str x1.name,.sl 9 (x1.leaves.map GLeaf.row),.sl 3 (x1.subs.map GNode.row)]) ty64.choose_spec.2 rfl rfl) (zb rfl)) x7 ?_
    refine zc rfl (wt (n:=0) rfl ze64 rfl) xn ?_
    refine zc rfl (zg rfl xO (zb rfl)) xg ?_
    refine zc rfl (yP (cs':=[.str x1.name,.sl 9 (x1.leaves.map GLeaf.row),.sl 3 (x1.subs.map GNode.row)]) rfl ty64.choose_spec.1 yS x9 (zb rfl) rfl rfl rfl rfl rfl) rfl ?_
    refine ze (zi (zk (zk ?_)))
    refine yk [2] [] trivial mixed (by kernel_rfl) ?_
    refine zo rfl rfl (zj rfl vX yS rfl) xQ ?_
    refine zo rfl rfl (zA rfl qa xB rfl (zt rfl) (zb rfl)) wc ?_
    refine zU hF (fun v27 hv27 hF=>?_)
    refine yC rfl rfl (fun _=>zF rfl rfl rfl (zp wg zx) (.cons (zb rfl) .nil)) (by rintro _ ⟨B2,T2,rfl,hk2⟩;exact ok36 hv27) wb ?_
    refine zo rfl rfl (xF rfl x4 rfl) wJ ?_
    refine zo rfl rfl (zf rfl wF (zb rfl)) wR ?_
    refine zr rfl rfl (fun hb=>zf rfl yD (zb rfl)) wZ ?_
    refine zr rfl rfl (fun hb=>zy rfl (zn w6 hb) rfl rfl) vf ?_
    refine zr rfl rfl (fun hb=>zf rfl (zn vo hb) (zb rfl)) ve ?_
    refine zr rfl (z7 rfl rfl rfl) (fun hb=>zf rfl yl (zb rfl)) vd ?_
    refine zr rfl (z7 rfl rfl rfl) (fun hb=>zf rfl yD (zb rfl)) vc ?_
    refine zr rfl (z7 rfl rfl rfl) (fun hb=>zy rfl (zn w5 hb) rfl rfl) vu ?_
    refine xe hF (fun hg28 hF=>?_)
    refine zr rfl (z7 rfl rfl rfl) (fun hb=>vL default rfl yZ (zn vm hb) (zn vA hb) xZ (hg28 hb) (GNode.row_eq _)) vt ?_
    refine zr rfl (z7 rfl rfl rfl) (fun hb=>zj rfl vX (zn vl hb) rfl) vb ?_
    refine zr rfl (z7 rfl rfl rfl) (fun hb=>zX rfl qa (zn vk hb) (zt rfl) (zb rfl)) wQ ?_
    refine zr rfl (z7 rfl rfl rfl) (fun hb=>zj rfl vX yS rfl) va ?_
    refine zr rfl (z7 rfl rfl rfl) (fun hb=>zA rfl qa (zn vj hb) rfl (zt rfl) (zb rfl)) vE ?_
    refine zr rfl (z7 rfl rfl rfl) (fun hb=>zy rfl (zn wN hb) (zn vz hb) rfl) vJ ?_
    refine zr rfl rfl (fun hb=>zM rfl (zn vn hb) vF rfl (zV (fun ht=>gT2 hb ht))) (sk st0) ?_
    refine zo rfl rfl (zM rfl wU rfl (gk yl) (yd (fun ht=>gF ht))) (sk st1) ?_
    refine zo rfl rfl (zf rfl (gk yw) (zb rfl)) (sk yU) ?_
    refine zr rfl rfl (fun hb=>zj rfl xh yS rfl) (sk x5) ?_
    refine zr rfl rfl (fun hb=>zA rfl qb (zn (gk y8) hb) rfl (zt rfl) (zb rfl)) (sk yu) ?_
    refine draw_glen rfl rfl (fun hb=>zO rfl rfl rfl rfl wh (zn (gk yz) hb) ya) (sk xg) ?_
    refine zr rfl rfl (fun hb=>zj rfl qE yS rfl) (sk xn) ?_
    refine zr rfl rfl (fun hb=>zA rfl ty23 (zn (gk yS) hb) rfl (zt rfl) (zb rfl)) (sk xJ) ?_
    refine draw_glen rfl rfl (fun hb=>zO rfl rfl rfl rfl yZ (zn (gk xl) hb) ya) (sk xM) ?_
    refine zr rfl rfl (fun hb=>zy rfl (zn (gk yD) hb) (zn (gk xc) hb) rfl) (sk wv) ?_
    refine zr rfl rfl (fun hb=>zy rfl (zn (gk xy) hb) rfl rfl) (sk yF) ?_
    refine zo rfl rfl (zM rfl (gk yT) rfl (gk yv) (yd (fun ht=>gF ht))) (sk yL) ?_
    refine zo rfl rfl (zf rfl (gk yA) (zb rfl)) (sk yQ) ?_
    refine zr rfl rfl (fun hb=>zj rfl qE yS rfl) (sk yW) ?_
    refine zr rfl rfl (fun hb=>zA rfl ty23 (zn (gk yN) hb) rfl (zt rfl) (zb rfl)) (sk y3) ?_
    refine zr rfl rfl (fun hb=>zf rfl yw (zb rfl)) (sk y2) ?_
    refine zr rfl rfl (fun hb=>zy rfl (zn (gk yR) hb) rfl rfl) (sk xd) ?_
    refine yO hF (fun v31 hv31 hF=>?_)
    refine wp rfl rfl (fun hb=>zF rfl rfl rfl (zp (zn (gk y6) hb) (zp (zn (gk xb) hb) zx)) (.cons (zb rfl) (.cons (zb rfl) .nil))) (fun hb=>ih (hv31 hb)) (sk xi) ?_
    refine zr rfl rfl (fun hb=>xF rfl (zn (gk xj) hb) rfl) (sk xr) ?_
    refine zo rfl rfl (zM rfl (gk yK) rfl (gk xp) (yd (fun ht=>gF ht))) (sk xE) ?_
    refine yh ?_
    refine zi ?_
    refine zL (gk xH) hF (fun hc32 hF=>?_) (fun hc32 hF=>?_)
    ·refine zk (zd ?_)
     refine zc rfl (zg rfl rfl (zb rfl)) yu ?_
     refine ze (zi (zH (zw ?_)))
     refine zC ?_
     refine zw ?_
     refine yb ?_
     obtain rfl:=Option.some.inj hF
     replace hF:=hK1
     refine zC ?_
     refine zw ?_
     obtain rfl:=Option.some.inj hF
     refine zz rfl (zD yz zE) (zB (leV.refl _) rfl ?_)
     exact ⟨rfl,rfl⟩
    ·refine zG (zi (zk (zd ?_)))
     refine zc rfl (zj rfl xh yS rfl) (sk xR) ?_
     refine zc rfl (zA rfl qb (gk xO) rfl (zt rfl) (zb rfl)) (sk xY) ?_
     refine zZ rfl (zO rfl rfl rfl rfl wh (gk xV) ya) (sk x7) fun hn33=>?_
     replace hn33:=y9 hn33
     refine zc rfl (zf rfl rfl (zb rfl)) (sk xQ) ?_
     refine ze (zi (zJ ?_))
     refine yi (fun (n2:Nat) (s2:Unit)=>yr [2,3,4,5,7,8,9,10,11,12,13,14,15,19,20,21,22,23,24,25,26,27,28,29,30,31,32,33,34,35,36,37,38,39,40,41,42,43,44,45,46,47,48,49,50,51,52,53,54,55,56,57,58,59,60,64,65,66,67,68,69,70,71,72,73,74,75,76,77,78,79,80,81,82,83,84,85,86,87,88] [(63,.int .i64 (n2:Int))]) (fun s2=>h.ext [.cells [.str x1.name,.sl 9 (x1.leaves.map GLeaf.row),.sl 3 (x1.subs.map GNode.row)]] []) hF (fun _ _=>by simp only [yr,qN,List.set_cons_succ,List.set_cons_zero];try rfl) (wk.le (by exact (.eq (.eq (.d4 (.eq (.d4 (.d4 (.drop (.eq (.eq (.eq (.d16 (.d16 (.d4 (.d4 (.drop (.drop (.eq (.eq (.cons (leV.of_eq rfl) (.d16 (.d4 (.d4 (.drop leL.nil))))))))))))))))))))))))) ?_
     intro n2 s2 hi2 hF
     refine zk (zd ?_)
     refine zc rfl (zy rfl (gk xB) (gk x9) rfl) (sk wc) ?_
     refine ze (zi (zk ?_))
     refine yo (gk wg) hF (fun x2 o2 hl2 hx2 hF hK2=>?_) (fun hF=>?_)
     ·refine zG (zi (zk (zJ (zk (zd ?_)))))
      refine zc rfl (zf rfl (gk xB) (zb rfl)) (sk wb) ?_
      refine zc rfl (yg rfl wh (gk xV) (gk xB) xZ (yn hx2)) (sk wJ) ?_
      refine zc rfl (zX rfl ty45.choose_spec.1 (gk wF) (zK (cs':=[.int .u8 x2.typ,.int .i64 x2.n,.int .u64 x2.time,.int .u8 x2.dot.actor.rep,.int .u32 x2.dot.actor.inc,.int .u64 x2.dot.seq,.str x2.text,.sl 5 (x2.items.map GItem.row),.sl 3 (x2.tombs.map GDot.row)]) ty45.choose_spec.2 rfl rfl) (zb rfl)) (sk wR) ?_
      refine zc rfl (wt (n:=1) rfl ze45 rfl) xM ?_
      refine zc rfl (zg rfl (gk x4) (zb rfl)) xJ ?_
      refine zc rfl (yP (cs':=[.int .u8 x2.typ,.int .i64 x2.n,.int .u64 x2.time,.int .u8 x2.dot.actor.rep,.int .u32 x2.dot.actor.inc,.int .u64 x2.dot.seq,.str x2.text,.sl 5 (x2.items.map GItem.row),.sl 3 (x2.tombs.map GDot.row)]) rfl ty45.choose_spec.1 xc (gk wU) (zb rfl) rfl rfl rfl rfl rfl) rfl ?_
      refine ze (zi (zk ?_))
      refine yk [1] [] trivial mixed (by kernel_rfl) ?_
      refine zo rfl rfl (zA rfl ty45.choose_spec.1 xc rfl (zK (cs':=[.int .u8 x2.typ,.int .i64 x2.n,.int .u64 x2.time,.int .u8 x2.dot.actor.rep,.int .u32 x2.dot.actor.inc,.int .u64 x2.dot.seq,.str x2.text,.sl 5 (x2.items.map GItem.row),.sl 3 (x2.tombs.map GDot.row)]) ty45.choose_spec.2 rfl rfl) (zb rfl)) (sk wZ) ?_
      refine zU hF (fun v43 hv43 hF=>?_)
      refine yC rfl rfl (fun _=>zF rfl rfl rfl (zp (gk w6) zx) (.cons (zb rfl) .nil)) (by rintro _ ⟨B2,T2,rfl,hk2⟩;exact ok51 hv43) (sk vf) ?_
      refine zo rfl rfl (xF rfl (gk vo) rfl) (sk ve) ?_
      refine zo rfl rfl (zf rfl (gk vn) (zb rfl)) (sk vd) ?_
      refine zr rfl rfl (fun hb=>zf rfl xl (zb rfl)) (sk vc) ?_
      refine zr rfl rfl (fun hb=>zy rfl (zn (gk w5) hb) rfl rfl) (sk vu) ?_
      refine zr rfl rfl (fun hb=>zf rfl (zn (gk vA) hb) (zb rfl)) (sk vt) ?_
      refine zr rfl (z7 rfl rfl rfl) (fun hb=>zj rfl xh yS rfl) (sk vb) ?_
      refine zr rfl (z7 rfl rfl rfl) (fun hb=>zA rfl qb (zn (gk vk) hb) rfl (zt rfl) (zb rfl)) (sk wQ) ?_
      refine zr rfl (z7 rfl rfl rfl) (fun hb=>zf rfl xl (zb rfl)) (sk va) ?_
      refine zr rfl (z7 rfl rfl rfl) (fun hb=>zy rfl (zn (gk vj) hb) rfl rfl) (sk vE) ?_
      refine xe hF (fun hg44 hF=>?_)
      refine zr rfl (z7 rfl rfl rfl) (fun hb=>yH default rfl wh (zn (gk wN) hb) (zn (gk vz) hb) xZ (hg44 hb)) (sk vJ) ?_
      refine zr rfl (z7 rfl rfl rfl) (fun hb=>zj rfl wy (zn (gk vF) hb) rfl) (sk (sk st0)) ?_
      refine zr rfl (z7 rfl rfl rfl) (fun hb=>zX rfl ty5 (zn (gk (gk yl)) hb) (zt rfl) (zb rfl)) (sk (sk st1)) ?_
      refine zr rfl (z7 rfl rfl rfl) (fun hb=>zj rfl wy xc rfl) (sk (sk yU)) ?_
      refine zr rfl (z7 rfl rfl rfl) (fun hb=>zA rfl ty5 (zn (gk (gk yT)) hb) rfl (zt rfl) (zb rfl)) (sk (sk x5)) ?_
      refine zr rfl (z7 rfl rfl rfl) (fun hb=>zy rfl (zn (gk (gk yw)) hb) (zn (gk (gk y8)) hb) rfl) (sk (sk yu)) ?_
      refine zr rfl rfl (fun hb=>zM rfl (zn (gk vl) hb) (gk (gk yz)) rfl (zV (fun ht=>gT2 hb ht))) (sk (sk xg)) ?_
      refine zo rfl rfl (zM rfl (gk vm) rfl (gk (gk yD)) (yd (fun ht=>gF ht))) (sk (sk xn)) ?_
      refine yh ?_
      refine zi ?_
      refine zL (gk (gk yS)) hF (fun hc45 hF=>?_) (fun hc45 hF=>?_)
      ·refine zk (zd ?_)
       refine zc rfl (zg rfl rfl (zb rfl)) yu ?_
       refine ze (zi (zH ?_))
       refine zC ?_
       refine zw ?_
       refine yb ?_
       obtain rfl:=Option.some.inj hF
       replace hF:=hK2
       refine zC ?_
       refine zC ?_
       refine zw ?_
       refine yb ?_
       obtain rfl:=Option.some.inj hF
       replace hF:=hK1
       refine zC ?_
       refine zw ?_
       obtain rfl:=Option.some.inj hF
       refine zz rfl (zD yz zE) (zB (leV.refl _) rfl ?_)
       exact ⟨rfl,rfl⟩
      ·refine zG (yc (zi (zd ?_)))
       refine zc rfl (zy rfl (gk xB) rfl rfl) (sk (sk xJ)) ?_
       refine zc rfl (zf rfl (gk (gk xl)) (zb rfl)) (sk xQ) ?_
       refine ze (yp ?_)
       obtain rfl:=Option.some.inj hF
       exact ⟨(),hl2,hK2,wk.trans (wk.le (by exact (.eq (.eq (.d4 (.eq (.d4 (.d4 (.drop (.eq (.eq (.eq (.d16 (.d16 (.d4 (.d4 (.drop (.drop (.eq (.eq (.cons (leV.of_eq (wn (by omega) (by omega))) (.d16 (.d4 (.d4 (.drop leL.nil))))))))))))))))))))))))) (vG (by simp [yj,AV.low]) rfl rfl (by simp [Blk.low,yj,AV.low]))⟩
     ·refine yx ?_
      refine zW ?_
      refine zP ?_
      refine zQ ?_
      refine yc (zi (zd ?_))
      refine zc rfl (zy rfl xp rfl rfl) (sk (sk xM)) ?_
      refine zc rfl (zf rfl (gk (gk xc)) (zb rfl)) xr ?_
      refine ze (yp ?_)
      obtain rfl:=Option.some.inj hF
      exact ⟨(),hl1,hK1,wk.trans (wk.le (by exact (.eq (.eq (.d4 (.d4 (.d4 (.drop (.drop (.eq (.eq (.cons (leV.of_eq (wn (by omega) (by omega))) (.d16 (.d16 (.d16 (.d16 (.d4 (.drop (.drop leL.nil))))))))))))))))))) (vG (by simp [yj,AV.low]) rfl rfl (by simp [Blk.low,yj,AV.low]))⟩
   ·refine yx ?_
    refine zW ?_
    refine zP ?_
    refine zQ ?_
    refine zi (zk (zd ?_))
    refine zc rfl (zg rfl rfl (zb rfl)) yu ?_
    refine ze (zi (zH ?_))
    obtain rfl:=Option.some.inj hF
    refine zz rfl (zD yz zE) (zB (leV.refl _) rfl ?_)
    exact ⟨rfl,rfl⟩
theorem ok34 {t0:(List GNode)} {deep1:Int} {res:Bool} {h:AH}  (hF:treeXmay t0 deep1=some res):Spec Try.prog 34 [.sl 3 (t0.map GNode.row),.int .i64 deep1] h (fun rr hh=>rr=.bool res∧hh=h):=by
 obtain ⟨n,hn⟩:=q9 hF
 exact ok34N n  hn
theorem ok17 {t0:(List GNode)} {res:Bool} {h:AH}  (hF:treeMay t0=some res):Spec Try.prog 17 [.sl 3 (t0.map GNode.row)] h (fun rr hh=>rr=.bool res∧hh=h):=by
 unfold treeMay at hF
 refine zu Try.func17 rfl (by kernel_rfl) (env:=[.sl 3 (t0.map GNode.row),za,za,za,za]) (by rfl) ?_
 refine zk (zd ?_)
 refine zc rfl (zg rfl rfl (zb rfl)) yU ?_
 refine ze (zi (zk (zd ?_)))
 refine zc rfl (zf rfl yl (zb rfl)) x5 ?_
 refine zU hF (fun v1 hv1 hF=>?_)
 refine zN rfl (zF rfl rfl rfl (zp y8 (zp rfl zx)) (.cons (zb rfl) (.cons (zb rfl) .nil))) (ok34 hv1) yu ?_
 refine zc rfl (zg rfl yz (zb rfl)) yU ?_
 refine ze (zi (zH ?_))
 obtain rfl:=Option.some.inj hF
 refine zz rfl (zD yT zE) (zB (leV.refl _) rfl ?_)
 exact ⟨rfl,rfl⟩
theorem ok38 {s0:(List zR)} {res:(List zR)} {h:AH}  (hF:xf s0=some res):Spec Try.prog 38 [.sl 1 (s0.map zI)] h (OwnK h 1 res.length (res.map zI)):=by
 unfold xf at hF
 refine zu Try.func38 rfl (by kernel_rfl) (env:=[.sl 1 (s0.map zI),za,za,za,za,za,za,za]) (by rfl) ?_
 refine zk (zd ?_)
 refine zc rfl (zg rfl rfl (yE yG)) yU ?_
 refine ze (zi (zk (zk (zd ?_))))
 refine zc rfl (zf rfl yl (zb rfl)) x5 ?_
 refine ops_nilqE rfl rfl yG y8 xZ rfl (fun _=>yu) hF (fun b1 hb1 hF=>?_)
 refine ze (zi ?_)
 refine zL yz hF (fun hc2 hF=>?_) (fun hc2 hF=>?_)
 ·refine zk (zd ?_)
  refine zc rfl (zg rfl rfl (yE yG)) yU ?_
  refine ze (zi (zH (zw ?_)))
  obtain rfl:=Option.some.inj hF
  refine zz rfl (zD yT zE) (fin_own0 (row:=zI) (L:=([]:List zR)) ?_)
  exact ⟨rfl,rfl⟩
 ·refine zG (zi (zk (zd ?_)))
  refine zc rfl (z8 (es:=([]:List zR).map zI) rfl yG ze9 rfl rfl ye .nil rfl rfl rfl) xg ?_
  refine zc rfl (zf rfl yl (zb rfl)) xn ?_
  refine xe hF (fun hm3 hF=>?_)
  refine zc rfl (e_appN (m:=0) (T':=[((([]:List zR)++s0)).length]) rfl rfl rfl rfl yG yG yD yS (zb rfl) (zb rfl) vV hm3 rfl rfl) xJ ?_
  refine zc rfl (zg rfl xl (zb rfl)) yU ?_
  refine ze (zi (zH ?_))
  obtain rfl:=Option.some.inj hF
  refine zz rfl (zD yT zE) (fin_own ?_)
  exact ⟨rfl,rfl⟩
theorem okM38 {s0:(List zR)} {res:(List zR)} {h:AH}  (hF:xf s0=some res):Spec Try.prog 38 [.sl 1 (s0.map zI)] h (fun rr hh=>rr=.nsl 1 (res.map zI)∧hh=h):=by
 unfold xf at hF
 refine zu Try.func38 rfl (by kernel_rfl) (env:=[.sl 1 (s0.map zI),za,za,za,za,za,za,za]) (by rfl) ?_
 refine zk (zd ?_)
 refine zc rfl (zg rfl rfl (yE yG)) yU ?_
 refine ze (zi (zk (zk (zd ?_))))
 refine zc rfl (zf rfl yl (zb rfl)) x5 ?_
 refine ops_nilqE rfl rfl yG y8 xZ rfl (fun _=>yu) hF (fun b1 hb1 hF=>?_)
 refine ze (zi ?_)
 refine zL yz hF (fun hc2 hF=>?_) (fun hc2 hF=>?_)
 ·refine zk (zd ?_)
  refine zc rfl (zg rfl rfl (yE yG)) yU ?_
  refine ze (zi (zH (zw ?_)))
  obtain rfl:=Option.some.inj hF
  refine zz rfl (zD yT zE) (zB leV.nil_nsl rfl ?_)
  exact ⟨rfl,rfl⟩
 ·refine zG (zi (zk (zd ?_)))
  refine zc rfl (z8 (es:=([]:List zR).map zI) rfl yG ze9 rfl rfl ye .nil rfl rfl rfl) xg ?_
  refine zc rfl (zf rfl yl (zb rfl)) xn ?_
  refine xe hF (fun hm3 hF=>?_)
  refine ops_new rfl (s_anew rfl rfl rfl rfl yG yG yD yS (zb rfl) (zb rfl) vV (by simpa using hm3)) xJ ?_
  refine zc rfl (zg rfl xl (zb rfl)) yU ?_
  refine ze (zi (zH ?_))
  obtain rfl:=Option.some.inj hF
  refine zz rfl (zD yT zE) (zB (leV.refl _) rfl ?_)
  exact ⟨rfl,rfl⟩
theorem ok56 {s0:(List GDot)} {res:(List GDot)} {h:AH}  (hF:wS s0=some res):Spec Try.prog 56 [.sl 3 (s0.map GDot.row)] h (OwnK h 3 res.length (res.map GDot.row)):=by
 unfold wS at hF
 refine zu Try.func56 rfl (by kernel_rfl) (env:=[.sl 3 (s0.map GDot.row),za,za,za,za,za,za,za]) (by rfl) ?_
 refine zk (zd ?_)
 refine zc rfl (zg rfl rfl (yE vY)) yU ?_
 refine ze (zi (zk (zk (zd ?_))))
 refine zc rfl (zf rfl yl (zb rfl)) x5 ?_
 refine ops_nilqE rfl rfl vY y8 xZ rfl (fun _=>yu) hF (fun b1 hb1 hF=>?_)
 refine ze (zi ?_)
 refine zL yz hF (fun hc2 hF=>?_) (fun hc2 hF=>?_)
 ·refine zk (zd ?_)
  refine zc rfl (zg rfl rfl (yE vY)) yU ?_
  refine ze (zi (zH (zw ?_)))
  obtain rfl:=Option.some.inj hF
  refine zz rfl (zD yT zE) (fin_own0 (row:=GDot.row) (L:=([]:List GDot)) ?_)
  exact ⟨rfl,rfl⟩
 ·refine zG (zi (zk (zd ?_)))
  refine zc rfl (z8 (es:=([]:List GDot).map GDot.row) rfl vY ze41 rfl rfl ye .nil rfl rfl rfl) xg ?_
  refine zc rfl (zf rfl yl (zb rfl)) xn ?_
  refine xe hF (fun hm3 hF=>?_)
  refine zc rfl (e_appN (m:=0) (T':=[((([]:List GDot)++s0)).length]) rfl rfl rfl rfl vY vY yD yS (zb rfl) (zb rfl) vV hm3 rfl rfl) xJ ?_
  refine zc rfl (zg rfl xl (zb rfl)) yU ?_
  refine ze (zi (zH ?_))
  obtain rfl:=Option.some.inj hF
  refine zz rfl (zD yT zE) (fin_own ?_)
  exact ⟨rfl,rfl⟩
theorem okM56 {s0:(List GDot)} {res:(List GDot)} {h:AH}  (hF:wS s0=some res):Spec Try.prog 56 [.sl 3 (s0.map GDot.row)] h (fun rr hh=>rr=.nsl 3 (res.map GDot.row)∧hh=h):=by
 unfold wS at hF
 refine zu Try.func56 rfl (by kernel_rfl) (env:=[.sl 3 (s0.map GDot.row),za,za,za,za,za,za,za]) (by rfl) ?_
 refine zk (zd ?_)
 refine zc rfl (zg rfl rfl (yE vY)) yU ?_
 refine ze (zi (zk (zk (zd ?_))))
 refine zc rfl (zf rfl yl (zb rfl)) x5 ?_
 refine ops_nilqE rfl rfl vY y8 xZ rfl (fun _=>yu) hF (fun b1 hb1 hF=>?_)
 refine ze (zi ?_)
 refine zL yz hF (fun hc2 hF=>?_) (fun hc2 hF=>?_)
 ·refine zk (zd ?_)
  refine zc rfl (zg rfl rfl (yE vY)) yU ?_
  refine ze (zi (zH (zw ?_)))
  obtain rfl:=Option.some.inj hF
  refine zz rfl (zD yT zE) (zB leV.nil_nsl rfl ?_)
  exact ⟨rfl,rfl⟩
 ·refine zG (zi (zk (zd ?_)))
  refine zc rfl (z8 (es:=([]:List GDot).map GDot.row) rfl vY ze41 rfl rfl ye .nil rfl rfl rfl) xg ?_
  refine zc rfl (zf rfl yl (zb rfl)) xn ?_
  refine xe hF (fun hm3 hF=>?_)
  refine ops_new rfl (s_anew rfl rfl rfl rfl vY vY yD yS (zb rfl) (zb rfl) vV (by simpa using hm3)) xJ ?_
  refine zc rfl (zg rfl xl (zb rfl)) yU ?_
  refine ze (zi (zH ?_))
  obtain rfl:=Option.some.inj hF
  refine zz rfl (zD yT zE) (zB (leV.refl _) rfl ?_)
  exact ⟨rfl,rfl⟩
theorem ok55 {s0:(List GItem)} {res:(List GItem)} {h:AH}  (hF:wB s0=some res):Spec Try.prog 55 [.sl 5 (s0.map GItem.row)] h (OwnK h 5 res.length (res.map GItem.row)):=by
 unfold wB at hF
 refine zu Try.func55 rfl (by kernel_rfl) (env:=[.sl 5 (s0.map GItem.row),za,za,za,za,za,za,za]) (by rfl) ?_
 refine zk (zd ?_)
 refine zc rfl (zg rfl rfl (yE wO)) yU ?_
 refine ze (zi (zk (zk (zd ?_))))
 refine zc rfl (zf rfl yl (zb rfl)) x5 ?_
 refine ops_nilqE rfl rfl wO y8 xZ rfl (fun _=>yu) hF (fun b1 hb1 hF=>?_)
 refine ze (zi ?_)
 refine zL yz hF (fun hc2 hF=>?_) (fun hc2 hF=>?_)
 ·refine zk (zd ?_)
  refine zc rfl (zg rfl rfl (yE wO)) yU ?_
  refine ze (zi (zH (zw ?_)))
  obtain rfl:=Option.some.inj hF
  refine zz rfl (zD yT zE) (fin_own0 (row:=GItem.row) (L:=([]:List GItem)) ?_)
  exact ⟨rfl,rfl⟩
 ·refine zG (zi (zk (zd ?_)))
  refine zc rfl (z8 (es:=([]:List GItem).map GItem.row) rfl wO ze49 rfl rfl ye .nil rfl rfl rfl) xg ?_
  refine zc rfl (zf rfl yl (zb rfl)) xn ?_
  refine xe hF (fun hm3 hF=>?_)
  refine zc rfl (e_appN (m:=0) (T':=[((([]:List GItem)++s0)).length]) rfl rfl rfl rfl wO wO yD yS (zb rfl) (zb rfl) vV hm3 rfl rfl) xJ ?_
  refine zc rfl (zg rfl xl (zb rfl)) yU ?_
  refine ze (zi (zH ?_))
  obtain rfl:=Option.some.inj hF
  refine zz rfl (zD yT zE) (fin_own ?_)
  exact ⟨rfl,rfl⟩
theorem okM55 {s0:(List GItem)} {res:(List GItem)} {h:AH}  (hF:wB s0=some res):Spec Try.prog 55 [.sl 5 (s0.map GItem.row)] h (fun rr hh=>rr=.nsl 5 (res.map GItem.row)∧hh=h):=by
 unfold wB at hF
 refine zu Try.func55 rfl (by kernel_rfl) (env:=[.sl 5 (s0.map GItem.row),za,za,za,za,za,za,za]) (by rfl) ?_
 refine zk (zd ?_)
 refine zc rfl (zg rfl rfl (yE wO)) yU ?_
 refine ze (zi (zk (zk (zd ?_))))
 refine zc rfl (zf rfl yl (zb rfl)) x5 ?_
 refine ops_nilqE rfl rfl wO y8 xZ rfl (fun _=>yu) hF (fun b1 hb1 hF=>?_)
 refine ze (zi ?_)
 refine zL yz hF (fun hc2 hF=>?_) (fun hc2 hF=>?_)
 ·refine zk (zd ?_)
  refine zc rfl (zg rfl rfl (yE wO)) yU ?_
  refine ze (zi (zH (zw ?_)))
  obtain rfl:=Option.some.inj hF
  refine zz rfl (zD yT zE) (zB leV.nil_nsl rfl ?_)
  exact ⟨rfl,rfl⟩
 ·refine zG (zi (zk (zd ?_)))
  refine zc rfl (z8 (es:=([]:List GItem).map GItem.row) rfl wO ze49 rfl rfl ye .nil rfl rfl rfl) xg ?_
  refine zc rfl (zf rfl yl (zb rfl)) xn ?_
  refine xe hF (fun hm3 hF=>?_)
  refine ops_new rfl (s_anew rfl rfl rfl rfl wO wO yD yS (zb rfl) (zb rfl) vV (by simpa using hm3)) xJ ?_
  refine zc rfl (zg rfl xl (zb rfl)) yU ?_
  refine ze (zi (zH ?_))
  obtain rfl:=Option.some.inj hF
  refine zz rfl (zD yT zE) (zB (leV.refl _) rfl ?_)
  exact ⟨rfl,rfl⟩
theorem ok39 {l0:GLeaf} {res:GLeaf} {h:AH}  (hF:qq l0=some res):Spec Try.prog 39 [.agg [.int .u8 l0.typ,.int .i64 l0.n,.int .u64 l0.time,.int .u8 l0.dot.actor.rep,.int .u32 l0.dot.actor.inc,.int .u64 l0.dot.seq,.str l0.text,.sl 5 (l0.items.map GItem.row),.sl 3 (l0.tombs.map GDot.row)]] h (fun rr hh=>rr=.agg [.int .u8 res.typ,.int .i64 res.n,.int .u64 res.time,.int .u8 res.dot.actor.rep,.int .u32 res.dot.actor.inc,.int .u64 res.dot.seq,.str res.text,.sl 5 (res.items.map GItem.row),.sl 3 (res.tombs.map GDot.row)]∧hh=h):=by
 unfold qq at hF
 refine zu Try.func39 rfl (by kernel_rfl) (env:=[.agg [.int .u8 l0.typ,.int .i64 l0.n,.int .u64 l0.time,.int .u8 l0.dot.actor.rep,.int .u32 l0.dot.actor.inc,.int .u64 l0.dot.seq,.str l0.text,.sl 5 (l0.items.map GItem.row),.sl 3 (l0.tombs.map GDot.row)],za,za,za,za,za,za,za,za,za,za,za]) (by rfl) ?_
 refine zk (zd ?_)
 refine zc rfl (xI (n:=0) rfl yl (zb rfl) rfl rfl) st1 ?_
 refine zc rfl (wt (n:=1) rfl ze45 rfl) yU ?_
 refine ze (zi (zk ?_))
 refine yk [] [] trivial mixed (by kernel_rfl) ?_
 refine zo rfl rfl (zj rfl xC yw rfl) x5 ?_
 refine zo rfl rfl (zA rfl qL y8 rfl (zt rfl) (zb rfl)) yu ?_
 refine zU hF (fun v1 hv1 hF=>?_)
 refine qY rfl FOk.nil (by rfl) rfl (zF rfl rfl rfl (zp yz zx) (.cons (zb rfl) .nil)) (own_ext (T':=[(v1).length]) (ok55 hv1) (m:=0) rfl rfl) xg ?_
 refine zo rfl rfl (zj rfl wx yw rfl) xn ?_
 refine zo rfl rfl (zA rfl ty43 yS rfl (zt rfl) (zb rfl)) xJ ?_
 refine zU hF (fun v2 hv2 hF=>?_)
 refine qY rfl FOk.nil (by rfl) rfl (zF rfl rfl rfl (zp xl zx) (.cons (zb rfl) .nil)) (own_ext (T':=[(v1).length,(v2).length]) (ok56 hv2) (m:=1) rfl rfl) xM ?_
 refine zo rfl rfl (zj rfl xC yw rfl) wv ?_
 refine xX rfl FOk.nil (by kernel_rfl) rfl (yP (cs':=[.int .u8 l0.typ,.int .i64 l0.n,.int .u64 l0.time,.int .u8 l0.dot.actor.rep,.int .u32 l0.dot.actor.inc,.int .u64 l0.dot.seq,.str l0.text,.osl (some (h.toks.length+0)) 5 (v1.map GItem.row),.sl 3 (l0.tombs.map GDot.row)]) rfl qL xy yD (zb rfl) rfl rfl rfl rfl rfl) rfl ?_
 refine zo rfl rfl (zj rfl wx yw rfl) yF ?_
 refine xX rfl FOk.nil (by kernel_rfl) rfl (yP (cs':=[.int .u8 l0.typ,.int .i64 l0.n,.int .u64 l0.time,.int .u8 l0.dot.actor.rep,.int .u32 l0.dot.actor.inc,.int .u64 l0.dot.seq,.str l0.text,.osl (some (h.toks.length+0)) 5 (v1.map GItem.row),.osl (some (h.toks.length+1)) 3 (v2.map GDot.row)]) rfl ty43 yv xc (zb rfl) rfl rfl rfl rfl rfl) rfl ?_
 refine yh ?_
 refine zi (zk (zd ?_))
 refine zc rfl (zA rfl ty45.choose_spec.1 yw rfl (zK (cs':=[.int .u8 l0.typ,.int .i64 l0.n,.int .u64 l0.time,.int .u8 l0.dot.actor.rep,.int .u32 l0.dot.actor.inc,.int .u64 l0.dot.seq,.str l0.text,.osl (some (h.toks.length+0)) 5 (v1.map GItem.row),.osl (some (h.toks.length+1)) 3 (v2.map GDot.row)]) ty45.choose_spec.2 rfl rfl) (zb rfl)) yL ?_
 refine zc rfl (yP (cs':=[.int .u8 l0.typ,.int .i64 l0.n,.int .u64 l0.time,.int .u8 l0.dot.actor.rep,.int .u32 l0.dot.actor.inc,.int .u64 l0.dot.seq,.str l0.text,.osl (some (h.toks.length+0)) 5 (v1.map GItem.row),.osl (some (h.toks.length+1)) 3 (v2.map GDot.row)]) rfl ty45.choose_spec.1 yT yA (zb rfl) rfl rfl rfl rfl rfl) rfl ?_
 refine ze (zi (zH ?_))
 obtain rfl:=Option.some.inj hF
 refine zz rfl (rl_cell ty45.choose_spec.1 yT rfl (zK (cs':=[.int .u8 l0.typ,.int .i64 l0.n,.int .u64 l0.time,.int .u8 l0.dot.actor.rep,.int .u32 l0.dot.actor.inc,.int .u64 l0.dot.seq,.str l0.text,.osl (some (h.toks.length+0)) 5 (v1.map GItem.row),.osl (some (h.toks.length+1)) 3 (v2.map GDot.row)]) ty45.choose_spec.2 rfl rfl) (zb rfl) zE) (zB (leV.agg (.eq (.eq (.eq (.eq (.eq (.eq (.eq (.cons (leV.osl _ _ _) (.cons (leV.osl _ _ _) leL.nil))))))))) rfl) rfl ?_)
 exact ⟨rfl,rfl⟩
theorem okM39 {l0:GLeaf} {res:GLeaf} {h:AH}  (hF:qq l0=some res):Spec Try.prog 39 [.agg [.int .u8 l0.typ,.int .i64 l0.n,.int .u64 l0.time,.int .u8 l0.dot.actor.rep,.int .u32 l0.dot.actor.inc,.int .u64 l0.dot.seq,.str l0.text,.sl 5 (l0.items.map GItem.row),.sl 3 (l0.tombs.map GDot.row)]] h (fun rr hh=>rr=.agg [.int .u8 res.typ,.int .i64 res.n,.int .u64 res.time,.int .u8 res.dot.actor.rep,.int .u32 res.dot.actor.inc,.int .u64 res.dot.seq,.str res.text,.nsl 5 (res.items.map GItem.row),.nsl 3 (res.tombs.map GDot.row)]∧hh=h):=by
 unfold qq at hF
 refine zu Try.func39 rfl (by kernel_rfl) (env:=[.agg [.int .u8 l0.typ,.int .i64 l0.n,.int .u64 l0.time,.int .u8 l0.dot.actor.rep,.int .u32 l0.dot.actor.inc,.int .u64 l0.dot.seq,.str l0.text,.sl 5 (l0.items.map GItem.row),.sl 3 (l0.tombs.map GDot.row)],za,za,za,za,za,za,za,za,za,za,za]) (by rfl) ?_
 refine zk (zd ?_)
 refine zc rfl (xI (n:=0) rfl yl (zb rfl) rfl rfl) st1 ?_
 refine zc rfl (wt (n:=1) rfl ze45 rfl) yU ?_
 refine ze (zi (zk ?_))
 refine yk [] [] trivial mixed (by kernel_rfl) ?_
 refine zo rfl rfl (zj rfl xC yw rfl) x5 ?_
 refine zo rfl rfl (zA rfl qL y8 rfl (zt rfl) (zb rfl)) yu ?_
 refine zU hF (fun v1 hv1 hF=>?_)
 refine draw_call rfl rfl (zF rfl rfl rfl (zp yz zx) (.cons (zb rfl) .nil)) (okM55 hv1) xg ?_
 refine zo rfl rfl (zj rfl wx yw rfl) xn ?_
 refine zo rfl rfl (zA rfl ty43 yS rfl (zt rfl) (zb rfl)) xJ ?_
 refine zU hF (fun v2 hv2 hF=>?_)
 refine draw_call rfl rfl (zF rfl rfl rfl (zp xl zx) (.cons (zb rfl) .nil)) (okM56 hv2) xM ?_
 refine zo rfl rfl (zj rfl xC yw rfl) wv ?_
 refine xX rfl FOk.nil (by kernel_rfl) rfl (yP (cs':=[.int .u8 l0.typ,.int .i64 l0.n,.int .u64 l0.time,.int .u8 l0.dot.actor.rep,.int .u32 l0.dot.actor.inc,.int .u64 l0.dot.seq,.str l0.text,.nsl 5 (v1.map GItem.row),.sl 3 (l0.tombs.map GDot.row)]) rfl qL xy yD (zb rfl) rfl rfl rfl rfl rfl) rfl ?_
 refine zo rfl rfl (zj rfl wx yw rfl) yF ?_
 refine xX rfl FOk.nil (by kernel_rfl) rfl (yP (cs':=[.int .u8 l0.typ,.int .i64 l0.n,.int .u64 l0.time,.int .u8 l0.dot.actor.rep,.int .u32 l0.dot.actor.inc,.int .u64 l0.dot.seq,.str l0.text,.nsl 5 (v1.map GItem.row),.nsl 3 (v2.map GDot.row)]) rfl ty43 yv xc (zb rfl) rfl rfl rfl rfl rfl) rfl ?_
 refine yh ?_
 refine zi (zk (zd ?_))
 refine zc rfl (zA rfl ty45.choose_spec.1 yw rfl (zK (cs':=[.int .u8 l0.typ,.int .i64 l0.n,.int .u64 l0.time,.int .u8 l0.dot.actor.rep,.int .u32 l0.dot.actor.inc,.int .u64 l0.dot.seq,.str l0.text,.nsl 5 (v1.map GItem.row),.nsl 3 (v2.map GDot.row)]) ty45.choose_spec.2 rfl rfl) (zb rfl)) yL ?_
 refine zc rfl (yP (cs':=[.int .u8 l0.typ,.int .i64 l0.n,.int .u64 l0.time,.int .u8 l0.dot.actor.rep,.int .u32 l0.dot.actor.inc,.int .u64 l0.dot.seq,.str l0.text,.nsl 5 (v1.map GItem.row),.nsl 3 (v2.map GDot.row)]) rfl ty45.choose_spec.1 yT yA (zb rfl) rfl rfl rfl rfl rfl) rfl ?_
 refine ze (zi (zH ?_))
 obtain rfl:=Option.some.inj hF
 refine zz rfl (rl_cell ty45.choose_spec.1 yT rfl (zK (cs':=[.int .u8 l0.typ,.int .i64 l0.n,.int .u64 l0.time,.int .u8 l0.dot.actor.rep,.int .u32 l0.dot.actor.inc,.int .u64 l0.dot.seq,.str l0.text,.nsl 5 (v1.map GItem.row),.nsl 3 (v2.map GDot.row)]) ty45.choose_spec.2 rfl rfl) (zb rfl) zE) (zB (leV.refl _) rfl ?_)
 exact ⟨rfl,rfl⟩
theorem ok19N (n:Nat):∀ {t0:(List GNode)} {ahead1:(List zR)} {is2:((List zR)→Option Bool)} {fis2:FuncId} {ais2 kis2:List AV} {res:(List GNode)} {h:AH} (his2:∀ x0 v (L:List Blk) (M:List Nat),is2 x0=some v→Spec Try.prog fis2 (ais2++[.sl 1 (x0.map zI)]++kis2) (h.ext L M) (fun rr hh=>rr=.bool v∧hh=h.ext L M)),vP n t0 ahead1 is2=some res→Spec Try.prog 19 [.sl 3 (t0.map GNode.row),.sl 1 (ahead1.map zI),.fn (.func fis2) ais2 kis2] h (fun rr hh=>rr=.sl 3 (res.map GNode.row)∧hh=h):=by
 induction n with
 | zero=>intro t0 ahead1 is2 fis2 ais2 kis2 res h his2 hF;simp [vP] at hF
 | succ n ih =>
  intro t0 ahead1 is2 fis2 ais2 kis2 res h his2 hF
  unfold vP at hF
  refine yy Try.func19 rfl (by kernel_rfl) (env:=[.sl 3 (t0.map GNode.row),.sl 1 (ahead1.map zI),.fn (.func fis2) ais2 kis2,za,za,za,za,za,za,za,za,za,za,za,za,za,za,za,za,za,za,za,za,za,za,za,za,za,za,za,za,za,za,za,za,za,za,za,za,za,za,za,za,za,za,za,za,za,za,za,za,za,za,za,za,za,za,za,za,za,za,za,za,za,za]) (by rfl) (fun hlow hC=>?_)
  simp only [yj,AV.low,Bool.and_eq_true,Bool.true_and,and_true] at hlow
  have hlais2:∀ n m,h.blks.length≤n→h.toks.length≤m→yj n m ais2=true:=fun n m h1 h2=>yY h1 h2 _ (by simp [hlow])
  have hlkis2:∀ n m,h.blks.length≤n→h.toks.length≤m→yj n m kis2=true:=fun n m h1 h2=>yY h1 h2 _ (by simp [hlow])
  refine zk (zd ?_)
  refine zc rfl (zg rfl rfl (yE yZ)) xn ?_
  refine ze (zi (zk (zk (zd ?_))))
  refine zc rfl (zf rfl yl (zb rfl)) yW ?_
  refine zZ rfl (zO rfl rfl rfl rfl yZ yN ya) y3 fun hn1=>?_
  replace hn1:=y9 hn1
  refine zc rfl (zf rfl rfl (zb rfl)) y2 ?_
  refine ze (zi (zJ ?_))
  refine yi (fun (n1:Nat) (s1:(List GNode))=>yr [0,3,4,5,7,8,9,10,11,12,16,17,18,19,20,21,22,23,24,25,26,27,28,29,30,31,32,33,34,35,36,37,38,39,40,41,42,43,44,45,46,47,48,49,50,51,52,53,54,55,56,57,58,59,60,61,62,63,64] [(6,.osl (some (h.toks.length+0)) 3 (s1.map GNode.row)),(15,.int .i64 (n1:Int))]) (fun s1=>h.ext [] [(s1).length]) hF (fun _ _=>by simp only [yr,qN,List.set_cons_succ,List.set_cons_zero];try rfl) (wk.trans (wk_tok yS rfl xn rfl) (wk.le (by exact (.drop (.eq (.eq (.drop (.drop (.drop (.cons (leV.of_eq rfl) (.d4 (.drop (.drop (.eq (.eq (.cons (leV.of_eq rfl) (.d16 (.d16 (.d16 (.drop leL.nil)))))))))))))))))))) ?_
  intro n1 s1 hi1 hF
  refine zk (zd ?_)
  refine zc rfl (zy rfl yR y6 rfl) xd ?_
  refine ze (zi (zk ?_))
  refine yo xb hF (fun x1 o1 hl1 hx1 hF hK1=>?_) (fun hF=>?_)
  ·refine zG (zi (zk (zJ (zk (zd ?_)))))
   refine zc rfl (xa rfl yZ yN yR xZ (yn hx1) (GNode.row_eq _)) xi ?_
   refine zc rfl (zX rfl ty64.choose_spec.1 xj (zK (cs':=[.str x1.name,.sl 9 (x1.leaves.map GLeaf.row),.sl 3 (x1.subs.map GNode.row)]) ty64.choose_spec.2 rfl rfl) (zb rfl)) xr ?_
   refine zc rfl (wt (n:=0) rfl ze64 rfl) xM ?_
   refine zc rfl (yP (cs':=[.str x1.name,.sl 9 (x1.leaves.map GLeaf.row),.sl 3 (x1.subs.map GNode.row)]) rfl ty64.choose_spec.1 xc xp (zb rfl) rfl rfl rfl rfl rfl) rfl ?_
   refine ze (zi (zk ?_))
   refine yk [] [] trivial mixed (by kernel_rfl) ?_
   refine zo rfl rfl (zf rfl yw (zb rfl)) xE ?_
   refine zU hF (fun v32 hv32 hF=>?_)
   refine qY rfl FOk.nil (by rfl) rfl (zF rfl rfl rfl (zp xH zx) (.cons (zb rfl) .nil)) (own_ext (T':=[(s1).length,(v32).length]) (ok38 hv32) (m:=1) rfl rfl) xR ?_
   refine zo rfl rfl (zj rfl vX xc rfl) xY ?_
   refine zo rfl rfl (zA rfl qa xV rfl (zt rfl) (zb rfl)) x7 ?_
   refine zo rfl rfl (z8 (es:=([x1.name]:List zR).map zI) rfl yG ze9 rfl rfl (zY x9 ye) (.cons (zb rfl) .nil) rfl rfl rfl) xQ ?_
   refine xe hF (fun hm33 hF=>?_)
   refine xW rfl FOk.nil (by rfl) rfl (wz (j:=1) (T':=[(s1).length,((v32++([x1.name]:List zR))).length]) rfl rfl rfl rfl yG yG xO xB (zb rfl) (zb rfl) xG hm33 rfl rfl) wc ?_
   refine zo rfl rfl (zg rfl wg (zb rfl)) wv ?_
   refine yh ?_
   refine zi (zk ?_)
   refine yk [1,3,6] [(1,[(0,.cells [.str x1.name,.sl 9 (x1.leaves.map GLeaf.row),.sl 3 (x1.subs.map GNode.row)])]),(3,[(0,.cells [.str x1.name,.sl 9 (x1.leaves.map GLeaf.row),.sl 3 (x1.subs.map GNode.row)])])] ⟨⟨rfl,trivial⟩,⟨rfl,trivial⟩,trivial⟩ mixed (by kernel_rfl) ?_
   refine zo rfl rfl (zj rfl vX xc rfl) wb ?_
   refine draw_okN rfl rfl (by rintro _ ⟨B2,T2,rfl,hk2⟩;exact zA rfl qa x4 (keeps1 hk2) (zt rfl) (zb rfl)) wJ ?_
   refine zo rfl rfl (zj rfl qE xc rfl) wR ?_
   refine draw_okN rfl rfl (by rintro _ ⟨B2,T2,rfl,hk2⟩;exact zA rfl ty23 wU (keeps1 hk2) (zt rfl) (zb rfl)) wZ ?_
   refine zo rfl rfl (zf rfl xy (zb rfl)) vf ?_
   refine zo rfl rfl (zf rfl yT (zb rfl)) ve ?_
   refine zU hF (fun v34 hv34 hF=>?_)
   refine yC rfl rfl (fun _=>zF rfl rfl rfl (zp w6 (zp vo (zp vn zx))) (.cons (zb rfl) (.cons (zb rfl) (.cons (zb rfl) .nil)))) (by rintro _ ⟨B2,T2,rfl,hk2⟩;exact (ih (fun x0 v L M hv=>by rw [wG];exact his2 x0 v _ _ hv) hv34).le (.eq (.cons (leV.osl _ _ _) (.eq leL.nil)))) vd ?_
   refine zo rfl rfl (s_build (cs':=[.str x1.name,.osl none 9 (([]:List GLeaf).map GLeaf.row),.sl 3 (v34.map GNode.row)]) rfl su64 ze64 pl64 (zY wF (zY vm ye)) (.cons (zb rfl) (.cons (zb rfl) .nil)) rfl rfl) vc ?_
   refine xX rfl (FOk.cons (.inr (qD ⟨rfl,trivial⟩)) (FOk.cons (.inr (qD ⟨rfl,trivial⟩)) (FOk.cons (.inr (qD trivial)) FOk.nil))) (by kernel_rfl) rfl (wt (n:=1) rfl ze64 rfl) yF ?_
   refine xX rfl (FOk.cons (.inr (qD ⟨rfl,trivial⟩)) (FOk.cons (.inr (qD ⟨rfl,trivial⟩)) (FOk.cons (.inr (qD trivial)) FOk.nil))) (by kernel_rfl) rfl (yP (cs':=[.str x1.name,.osl none 9 (([]:List GLeaf).map GLeaf.row),.sl 3 (v34.map GNode.row)]) rfl ty64.choose_spec.1 yv w5 (zb rfl) rfl rfl rfl rfl rfl) rfl ?_
   refine yh ?_
   refine zi (zk (zk (zd ?_)))
   refine zc rfl (zj rfl xh xc rfl) vu ?_
   refine zc rfl (zA rfl qb vA rfl (zt rfl) (zb rfl)) vt ?_
   refine zZ rfl (zO rfl rfl rfl rfl wh vl ya) vb fun hn35=>?_
   replace hn35:=y9 hn35
   refine zc rfl (zf rfl rfl (zb rfl)) wQ ?_
   refine ze (zi (zJ ?_))
   refine yi (fun (n2:Nat) (s2:(List GLeaf))=>yr [0,3,4,5,7,8,11,12,16,17,18,19,20,21,22,23,24,25,26,27,28,29,30,31,32,33,37,38,39,40,41,42,43,44,45,46,47,48,49,50,51,52,53,54,55,56,57,58,59,60,61,62,63,64] [(36,.int .i64 (n2:Int))]) (fun s2=>h.ext [.cells [.str x1.name,.sl 9 (x1.leaves.map GLeaf.row),.sl 3 (x1.subs.map GNode.row)],.cells [.str x1.name,.osl (some (h.toks.length+2)) 9 (s2.map GLeaf.row),.sl 3 (v34.map GNode.row)]] [(s1).length,((v32++([x1.name]:List zR))).length,(s2).length]) hF (fun _ _=>by simp only [yr,qN,List.set_cons_succ,List.set_cons_zero];try rfl) (wk.trans (wk_tokB (j:=1) rfl yw rfl st1 rfl rfl) (wk.le (by exact (.drop (.eq (.eq (.drop (.drop (.drop (.eq (.drop (.drop (.eq (.eq (.drop (.drop (.eq (.eq (.eq (.d16 (.drop (.drop (.eq (.eq (.cons (leV.of_eq rfl) (.d16 (.d4 (.d4 (.d4 leL.nil))))))))))))))))))))))))))))) ?_
   intro n2 s2 hi2 hF
   refine zk (zd ?_)
   refine zc rfl (zy rfl wN vk rfl) va ?_
   refine ze (zi (zk ?_))
   refine yo vj hF (fun x2 o2 hl2 hx2 hF hK2=>?_) (fun hF=>?_)
   ·refine zG (zi (zk (zJ (zk (zd ?_)))))
    refine zc rfl (yg rfl wh vl wN xZ (yn hx2)) vE ?_
    refine zc rfl (zX rfl ty45.choose_spec.1 vz (zK (cs':=[.int .u8 x2.typ,.int .i64 x2.n,.int .u64 x2.time,.int .u8 x2.dot.actor.rep,.int .u32 x2.dot.actor.inc,.int .u64 x2.dot.seq,.str x2.text,.sl 5 (x2.items.map GItem.row),.sl 3 (x2.tombs.map GDot.row)]) ty45.choose_spec.2 rfl rfl) (zb rfl)) vJ ?_
    refine zc rfl (wt (n:=2) rfl ze45 rfl) yQ ?_
    refine zc rfl (yP (cs':=[.int .u8 x2.typ,.int .i64 x2.n,.int .u64 x2.time,.int .u8 x2.dot.actor.rep,.int .u32 x2.dot.actor.inc,.int .u64 x2.dot.seq,.str x2.text,.sl 5 (x2.items.map GItem.row),.sl 3 (x2.tombs.map GDot.row)]) rfl ty45.choose_spec.1 yK vF (zb rfl) rfl rfl rfl rfl rfl) rfl ?_
    refine ze (zi (zk (zd ?_)))
    refine zc rfl (zf rfl yT (zb rfl)) (sk st0) ?_
    refine zc rfl (zf rfl xy (zb rfl)) (sk st1) ?_
    refine zU hF (fun v49 hv49 hF=>?_)
    refine zN rfl (s_callC rfl rfl (gk yl) (zp (gk yw) zx) (.cons (zb rfl) .nil) rfl) ((his2 _ _ _ _ hv49).le (leL.app (leL.pre (.cons (leV.osl _ _ _) leL.nil)))) (sk yU) ?_
    refine ze (zi ?_)
    refine zL (gk yT) hF (fun hc50 hF=>?_) (fun hc50 hF=>?_)
    ·refine yk [3] [] trivial mixed (by kernel_rfl) ?_
     refine zo rfl rfl (zj rfl xh yv rfl) (sk x5) ?_
     refine zo rfl rfl (zA rfl qb (gk y8) rfl (zt rfl) (zb rfl)) (sk yu) ?_
     refine zo rfl rfl (zA rfl ty45.choose_spec.1 yK rfl (zK (cs':=[.int .u8 x2.typ,.int .i64 x2.n,.int .u64 x2.time,.int .u8 x2.dot.actor.rep,.int .u32 x2.dot.actor.inc,.int .u64 x2.dot.seq,.str x2.text,.sl 5 (x2.items.map GItem.row),.sl 3 (x2.tombs.map GDot.row)]) ty45.choose_spec.2 rfl rfl) (zb rfl)) (sk xg) ?_
     refine zU hF (fun v51 hv51 hF=>?_)
     refine yC rfl rfl (fun _=>zF rfl rfl rfl (zp (gk yD) zx) (.cons (zb rfl) .nil)) (by rintro _ ⟨B2,T2,rfl,hk2⟩;exact ok39 hv51) (sk xn) ?_
     refine zo rfl rfl (z8 (es:=([v51]:List GLeaf).map GLeaf.row) rfl wh ze45 rfl rfl (zY (gk yS) ye) (.cons (zb rfl) .nil) rfl rfl rfl) (sk xJ) ?_
     refine xe hF (fun hm52 hF=>?_)
     refine xW rfl (FOk.cons (.inr (qD trivial)) FOk.nil) (by rfl) rfl (wz (j:=2) (T':=[(s1).length,((v32++([x1.name]:List zR))).length,((s2++([v51]:List GLeaf))).length]) rfl rfl rfl rfl wh wh (gk yz) (gk xl) (zb rfl) (zb rfl) xG hm52 rfl rfl) (sk xM) ?_
     refine zo rfl rfl (zj rfl xh yv rfl) (sk wv) ?_
     refine xX rfl (FOk.cons (.inr (qD trivial)) FOk.nil) (by kernel_rfl) rfl (yP (cs':=[.str x1.name,.osl (some (h.toks.length+2)) 9 ((s2++([v51]:List GLeaf)).map GLeaf.row),.sl 3 (v34.map GNode.row)]) rfl qb (gk xy) (gk xc) (zb rfl) rfl rfl rfl rfl rfl) rfl ?_
     refine yh ?_
     refine yc (zi (zd ?_))
     refine zc rfl (zy rfl wN rfl rfl) (sk yF) ?_
     refine zc rfl (zf rfl (gk yv) (zb rfl)) wQ ?_
     refine ze (yp ?_)
     obtain rfl:=Option.some.inj hF
     exact ⟨(s2++([v51]:List GLeaf)),hl2,hK2,wk.trans (wk.le (by exact (.drop (.eq (.eq (.drop (.drop (.drop (.eq (.drop (.drop (.eq (.eq (.drop (.drop (.eq (.eq (.eq (.d16 (.drop (.drop (.eq (.eq (.cons (leV.of_eq (wn (by omega) (by omega))) (.d16 (.d4 (.d4 (.d4 leL.nil)))))))))))))))))))))))))))) (vG (by simp [yj,AV.low,hlais2,hlkis2]) rfl rfl (by simp [Blk.low,yj,AV.low,hlais2,hlkis2]))⟩
    ·refine zG (yc (zi (zd ?_)))
     refine zc rfl (zy rfl wN rfl rfl) (sk yF) ?_
     refine zc rfl (zf rfl (gk yv) (zb rfl)) wQ ?_
     refine ze (yp ?_)
     obtain rfl:=Option.some.inj hF
     exact ⟨s2,hl2,hK2,wk.trans (wk.le (by exact (.drop (.eq (.eq (.drop (.drop (.drop (.eq (.drop (.drop (.eq (.eq (.drop (.drop (.eq (.eq (.eq (.d16 (.drop (.drop (.eq (.eq (.cons (leV.of_eq (wn (by omega) (by omega))) (.d16 (.d4 (.d4 (.d4 leL.nil)))))))))))))))))))))))))))) (vG (by simp [yj,AV.low,hlais2,hlkis2]) rfl rfl (by simp [Blk.low,yj,AV.low,hlais2,hlkis2]))⟩
   ·refine yx ?_
    refine zW ?_
    refine zP ?_
    refine zQ ?_
    refine zi (zk (zd ?_))
    refine zc rfl (zj rfl xh yv rfl) (sk yL) ?_
    refine zc rfl (zA rfl qb (gk yA) rfl (zt rfl) (zb rfl)) (sk yQ) ?_
    refine zZ rfl (zO rfl rfl rfl rfl wh (gk yK) lenMapO) (sk yW) fun hn53=>?_
    replace hn53:=y9 hn53
    refine zc rfl (zj rfl qE yv rfl) (sk y3) ?_
    refine zc rfl (zA rfl ty23 (gk y6) rfl (zt rfl) (zb rfl)) (sk y2) ?_
    refine zZ rfl (zO rfl rfl rfl rfl yZ (gk yR) ya) (sk xd) fun hn54=>?_
    replace hn54:=y9 hn54
    refine zc rfl (zy rfl (gk yN) (gk xb) rfl) (sk xi) ?_
    refine zc rfl (zy rfl (gk xj) rfl rfl) (sk xr) ?_
    refine ze (zi ?_)
    refine zL (gk xp) hF (fun hc55 hF=>?_) (fun hc55 hF=>?_)
    ·refine zd ?_
     refine zc rfl (zf rfl yS (zb rfl)) (sk xE) ?_
     refine zc rfl (zA rfl ty64.choose_spec.1 yv rfl (zK (cs':=[.str x1.name,.osl (some (h.toks.length+2)) 9 (s2.map GLeaf.row),.sl 3 (v34.map GNode.row)]) ty64.choose_spec.2 rfl rfl) (zb rfl)) (sk xR) ?_
     refine zc rfl (z8 (es:=([(GNode.mk x1.name s2 v34)]:List GNode).map GNode.row) rfl yZ ze64 rfl rfl (zY (gk xO) ye) (.cons (zb rfl) .nil) rfl rfl (by simp only [List.map_cons,List.map_nil,GNode.row_eq];rfl)) (sk xY) ?_
     refine xe hF (fun hm56 hF=>?_)
     refine zc rfl (wz (j:=0) (T':=[((s1++([(GNode.mk x1.name s2 v34)]:List GNode))).length,((v32++([x1.name]:List zR))).length,(s2).length]) rfl rfl rfl rfl yZ yZ (gk xH) (gk xV) (zb rfl) (zb rfl) xG hm56 rfl rfl) (sk x7) ?_
     refine zc rfl (zg rfl (gk x9) (zb rfl)) xn ?_
     refine ze (yc (zi (zd ?_)))
     refine zc rfl (zy rfl yR rfl rfl) (sk xQ) ?_
     refine zc rfl (zf rfl (gk xB) (zb rfl)) y2 ?_
     refine ze (yp ?_)
     obtain rfl:=Option.some.inj hF
     exact ⟨(s1++([(GNode.mk x1.name s2 v34)]:List GNode)),hl1,hK1,wk.trans (wk.le (by exact (.drop (.eq (.eq (.drop (.drop (.drop (.cons (leV.of_eq rfl) (.d4 (.drop (.drop (.eq (.eq (.cons (leV.of_eq (wn (by omega) (by omega))) (.d16 (.d16 (.d16 (.drop leL.nil))))))))))))))))))) (vG (by simp [yj,AV.low,hlais2,hlkis2]) rfl rfl (by simp [Blk.low,yj,AV.low,hlais2,hlkis2]))⟩
    ·refine zG (yc (zi (zd ?_)))
     refine zc rfl (zy rfl yR rfl rfl) (sk xQ) ?_
     refine zc rfl (zf rfl (gk xB) (zb rfl)) y2 ?_
     refine ze (yp ?_)
     obtain rfl:=Option.some.inj hF
     exact ⟨s1,hl1,hK1,wk.trans (wk.le (by exact (.drop (.eq (.eq (.drop (.drop (.drop (.cons (leV.of_eq rfl) (.d4 (.drop (.drop (.eq (.eq (.cons (leV.of_eq (wn (by omega) (by omega))) (.d16 (.d16 (.d16 (.drop leL.nil))))))))))))))))))) (vG (by simp [yj,AV.low,hlais2,hlkis2]) rfl rfl (by simp [Blk.low,yj,AV.low,hlais2,hlkis2]))⟩
  ·refine yx ?_
   refine zW ?_
   refine zP ?_
   refine zQ ?_
   refine zi (zk (zd ?_))
   refine zc rfl (zf rfl yS (zb rfl)) (sk wc) ?_
   refine zc rfl (zg rfl (gk wg) (zb rfl)) xn ?_
   refine ze (zi (zH ?_))
   obtain rfl:=Option.some.inj hF
   refine zz rfl (zD yS zE) (zB (leV.osl _ _ _) rfl ?_)
   exact ⟨rfl,rfl⟩
theorem ok19 {t0:(List GNode)} {ahead1:(List zR)} {is2:((List zR)→Option Bool)} {fis2:FuncId} {ais2 kis2:List AV} {res:(List GNode)} {h:AH} (his2:∀ x0 v (L:List Blk) (M:List Nat),is2 x0=some v→Spec Try.prog fis2 (ais2++[.sl 1 (x0.map zI)]++kis2) (h.ext L M) (fun rr hh=>rr=.bool v∧hh=h.ext L M)) (hF:pathsXkept t0 ahead1 is2=some res):Spec Try.prog 19 [.sl 3 (t0.map GNode.row),.sl 1 (ahead1.map zI),.fn (.func fis2) ais2 kis2] h (fun rr hh=>rr=.sl 3 (res.map GNode.row)∧hh=h):=by
 obtain ⟨n,hn⟩:=q9 hF
 exact ok19N n his2 hn
theorem ok20 {path0:(List zR)} {c0:(List zR)} {i0:Nat} {res:Bool} {h:AH} (hb0:h.blk i0=some (.cells [.sl 1 (c0.map zI)])) (hF:q8 path0 c0=some res):Spec Try.prog 20 [.sl 1 (path0.map zI),.ptr i0 0] h (fun rr hh=>rr=.bool res∧hh=h):=by
 unfold q8 at hF
 refine zu Try.func20 rfl (by kernel_rfl) (env:=[.sl 1 (path0.map zI),.ptr i0 0,za,za,za,za,za]) (by rfl) ?_
 refine zk (zd ?_)
 refine zc rfl (zg rfl rfl (zb rfl)) x5 ?_
 refine ze (zi (zk (zd ?_)))
 refine zc rfl (b_load rfl ty24 yw hb0 (zt rfl) (zb rfl)) yu ?_
 refine zc rfl (zf rfl yl (zb rfl)) xg ?_
 refine zU hF (fun v1 hv1 hF=>?_)
 refine zN rfl (zF rfl rfl rfl (zp yz (zp yD zx)) (.cons (zb rfl) (.cons (zb rfl) .nil))) (ok15 hv1) xn ?_
 refine zc rfl (zg rfl yS (zb rfl)) x5 ?_
 refine ze (zi (zH ?_))
 obtain rfl:=Option.some.inj hF
 refine zz rfl (zD y8 zE) (zB (leV.refl _) rfl ?_)
 exact ⟨rfl,rfl⟩
theorem ok7 {t0:(List GNode)} {p1:(List zR)} {res:((List GNode)×Int)} {h:AH}  (hF:pathsSelect t0 p1=some res):Spec Try.prog 7 [.sl 3 (t0.map GNode.row),.sl 1 (p1.map zI)] h (fun rr hh=>rr=.tup [.sl 3 (res.1.map GNode.row),.int .i64 res.2]∧hh=h):=by
 unfold pathsSelect at hF
 refine zu Try.func7 rfl (by kernel_rfl) (env:=[.sl 3 (t0.map GNode.row),.sl 1 (p1.map zI),za,za,za,za,za,za,za,za,za,za,za,za,za,za,za]) (by rfl) ?_
 refine zk (zd ?_)
 refine zc rfl (xI (n:=0) rfl yw (zb rfl) rfl rfl) x5 ?_
 refine zc rfl (zg rfl rfl (yE yZ)) yu ?_
 refine zc rfl (zg rfl rfl (zb rfl)) xg ?_
 refine ze (zi (zk (zk (zd ?_))))
 refine zc rfl (zf rfl yl (zb rfl)) xn ?_
 refine zU hF (fun v1 hv1 hF=>?_)
 refine zN rfl (zF rfl rfl rfl (zp yS zx) (.cons (zb rfl) .nil)) (ok17 hv1) xJ ?_
 refine zc rfl (xF rfl xl rfl) xM ?_
 refine zc rfl (zf rfl xc (zb rfl)) wv ?_
 refine zq rfl (fun hb=>zA rfl ty24 y8 rfl (zt rfl) (zb rfl)) yF ?_
 refine yO hF (fun v2 hv2 hF=>?_)
 refine ym rfl (fun hb=>zF rfl rfl rfl (zp (zn yv hb) zx) (.cons (zb rfl) .nil)) (fun hb=>ok18 (hv2 hb)) yL ?_
 refine zq rfl (fun hb=>xF rfl (zn yA hb) rfl) yQ ?_
 refine zc rfl (zM rfl xy rfl yK (yd (fun ht=>gF ht))) yW ?_
 refine ze (zi ?_)
 refine zL yN hF (fun hc3 hF=>?_) (fun hc3 hF=>?_)
 ·refine zk (zd ?_)
  refine zc rfl (zg rfl rfl (yE yZ)) yu ?_
  refine zc rfl (zg rfl rfl (zb rfl)) xg ?_
  refine ze (zi (zH (zw ?_)))
  obtain rfl:=Option.some.inj hF
  refine q_retL rfl (zD yz (zD yD zE)) (zB (leV.tup (.cons (leV.osl _ _ _) (.eq leL.nil))) rfl ?_)
  exact ⟨rfl,rfl⟩
 ·refine zG (zi (zk (zd ?_)))
  refine zc rfl (zf rfl yl (zb rfl)) y3 ?_
  refine zc rfl (s_makeFunc rfl rfl rfl) y2 ?_
  refine zU hF (fun v4 hv4 hF=>?_)
  refine zN rfl (zF rfl rfl rfl (zp y6 (zp rfl (zp yR zx))) (.cons (zb rfl) (.cons (yE yG) (.cons (zb rfl) .nil)))) ((ok19 (fun _ v L M hv=>ok20 (blk_ext2 (j:=0) rfl) hv) hv4).le (.eq (.cons (leV.osl _ _ _) (.eq leL.nil)))) xd ?_
  refine zc rfl (zg rfl xb (zb rfl)) yu ?_
  refine zc rfl (zg rfl rfl (zb rfl)) xg ?_
  refine ze (zi (zH ?_))
  obtain rfl:=Option.some.inj hF
  refine q_retL rfl (zD yz (zD yD zE)) (zB (leV.refl _) rfl ?_)
  exact ⟨rfl,rfl⟩
theorem ok41 {s0:zR} {res:Bool} {h:AH}  (hF:wE s0=some res):Spec Try.prog 41 [.str s0] h (fun rr hh=>rr=.bool res∧hh=h):=by
 unfold wE at hF
 refine zu Try.func41 rfl (by kernel_rfl) (env:=[.str s0,za,za,za,za,za,za,za,za,za,za,za,za,za,za,za,za,za,za,za,za,za,za,za,za,za,za,za,za,za,za,za,za,za,za,za,za,za,za,za,za,za,za,za,za]) (by rfl) ?_
 refine zk (zd ?_)
 refine zc rfl (zg rfl rfl (zb rfl)) yU ?_
 refine ze (zi (zk (zk (zd ?_))))
 refine zc rfl (zf rfl yl (zb rfl)) xg ?_
 refine zZ rfl (vx rfl rfl rfl rfl qa yD) xn fun hn1=>?_
 replace hn1:=y9 hn1
 refine zc rfl (zy rfl yS rfl rfl) xJ ?_
 refine zc rfl (zf rfl xl (zb rfl)) xM ?_
 refine zq rfl (fun hb=>zf rfl yl (zb rfl)) wv ?_
 refine xU rfl (fun hb=>vx rfl rfl rfl rfl qa (zn xy hb)) yF fun hn2=>?_
 refine zq rfl (fun hb=>zy rfl (zn yv hb) rfl rfl) yL ?_
 refine zc rfl (zM rfl xc rfl yA (yd (fun ht=>gF ht))) yQ ?_
 refine ze (zi ?_)
 refine zL yK hF (fun hc3 hF=>?_) (fun hc3 hF=>?_)
 ·refine zk (zd ?_)
  refine zc rfl (zg rfl rfl (zb rfl)) yU ?_
  refine ze (zi (zH (zw ?_)))
  obtain rfl:=Option.some.inj hF
  refine zz rfl (zD yT zE) (zB (leV.refl _) rfl ?_)
  exact ⟨rfl,rfl⟩
 ·refine zG (zi (zk (zk (zd ?_))))
  refine zc rfl (zg rfl rfl (zb rfl)) x5 ?_
  refine ze (zi (zJ ?_))
  refine yi (fun (n1:Nat) (s1:Unit)=>yr [1,2,4,5,6,7,8,9,10,11,12,13,14,15,16,17,18,19,20,21,22,23,24,25,26,27,28,29,30,31,32,33,34,35,36,37,38,39,40,41,42,43,44] [(3,.int .i64 (n1:Int))]) (fun s1=>h.ext [] []) hF (fun _ _=>by simp only [yr,qN,List.set_cons_succ,List.set_cons_zero];try rfl) (wk.le (by exact (.eq (.drop (.drop (.cons (leV.of_eq rfl) (.d16 (.d16 (.d4 (.d4 (.drop leL.nil))))))))))) ?_
  intro n1 s1 hi1 hF
  refine zk (zk (zd ?_))
  refine zc rfl (zf rfl y8 (zb rfl)) yW ?_
  refine zc rfl (zf rfl yl (zb rfl)) y3 ?_
  refine zZ rfl (vx rfl rfl rfl rfl qa y6) y2 fun hn10=>?_
  replace hn10:=y9 hn10
  refine zc rfl (zy rfl yN yR rfl) xd ?_
  refine ze (zi ?_)
  refine yo xb hF (fun x1 o1 hl1 hx1 hF hK1=>?_) (fun hF=>?_)
  ·refine zG (zi (zk (zJ (zk (zd ?_)))))
   refine zc rfl (zf rfl yl (zb rfl)) xE ?_
   refine zc rfl (zf rfl y8 (zb rfl)) xR ?_
   refine zc rfl (s_idxStr rfl qa xH xO (yn hx1)) xY ?_
   refine zc rfl (zg rfl xV (zb rfl)) yu ?_
   refine ze (zi (zk (zd ?_)))
   refine zc rfl (zf rfl yz (zb rfl)) x7 ?_
   refine zc rfl (zy rfl x9 rfl rfl) xQ ?_
   refine zc rfl (zf rfl xB (zb rfl)) wc ?_
   refine zq rfl (fun hb=>zf rfl yz (zb rfl)) wb ?_
   refine zq rfl (fun hb=>zy rfl (zn x4 hb) rfl rfl) wJ ?_
   refine zc rfl (zM rfl wg wF rfl (zV (fun ht=>gT ht))) wR ?_
   refine zc rfl (zf rfl wU (zb rfl)) wZ ?_
   refine zq rfl (fun hb=>zf rfl yz (zb rfl)) vf ?_
   refine zq rfl (fun hb=>zy rfl (zn vo hb) rfl rfl) ve ?_
   refine zq rfl (fun hb=>zf rfl (zn vn hb) (zb rfl)) vd ?_
   refine zq (z7 rfl rfl rfl) (fun hb=>zf rfl yz (zb rfl)) vc ?_
   refine zq (z7 rfl rfl rfl) (fun hb=>zy rfl (zn w5 hb) rfl rfl) vu ?_
   refine zq rfl (fun hb=>zM rfl (zn vm hb) vA rfl (zV (fun ht=>gT2 hb ht))) vt ?_
   refine zc rfl (zM rfl w6 rfl vl (yd (fun ht=>gF ht))) vb ?_
   refine zc rfl (zf rfl vk (zb rfl)) wQ ?_
   refine zq rfl (fun hb=>zf rfl yz (zb rfl)) va ?_
   refine zq rfl (fun hb=>zy rfl (zn vj hb) rfl rfl) vE ?_
   refine zq rfl (fun hb=>zf rfl (zn vz hb) (zb rfl)) vJ ?_
   refine zq (z7 rfl rfl rfl) (fun hb=>zf rfl yz (zb rfl)) (sk st0) ?_
   refine zq (z7 rfl rfl rfl) (fun hb=>zy rfl (zn (gk yl) hb) rfl rfl) (sk st1) ?_
   refine zq rfl (fun hb=>zM rfl (zn vF hb) (gk yw) rfl (zV (fun ht=>gT2 hb ht))) (sk yU) ?_
   refine zc rfl (zM rfl wN rfl (gk yT) (yd (fun ht=>gF ht))) (sk x5) ?_
   refine zc rfl (xF rfl (gk y8) rfl) (sk yu) ?_
   refine ze (zi ?_)
   refine zL (gk yz) hF (fun hc11 hF=>?_) (fun hc11 hF=>?_)
   ·refine zk (zd ?_)
    refine zc rfl (zg rfl rfl (zb rfl)) yU ?_
    refine ze (zi (zH ?_))
    refine zC ?_
    refine zw ?_
    refine yb ?_
    obtain rfl:=Option.some.inj hF
    replace hF:=hK1
    refine zC ?_
    refine zw ?_
    obtain rfl:=Option.some.inj hF
    refine zz rfl (zD yT zE) (zB (leV.refl _) rfl ?_)
    exact ⟨rfl,rfl⟩
   ·refine zG (yc (zi (zd ?_)))
    refine zc rfl (zf rfl y8 (zb rfl)) xi ?_
    refine zc rfl (zy rfl xj rfl rfl) xr ?_
    refine zc rfl (zg rfl xp (zb rfl)) x5 ?_
    refine ze (yp ?_)
    obtain rfl:=Option.some.inj hF
    exact ⟨(),hl1,hK1,wk.le (by exact (.eq (.drop (.drop (.cons (leV.of_eq (wn (by omega) (by omega))) (.d16 (.d16 (.d4 (.d4 (.drop leL.nil))))))))))⟩
  ·refine yx ?_
   refine zW ?_
   refine zP ?_
   refine zQ ?_
   refine zi (zk (zd ?_))
   refine zc rfl (zg rfl rfl (zb rfl)) yU ?_
   refine ze (zi (zH ?_))
   obtain rfl:=Option.some.inj hF
   refine zz rfl (zD yT zE) (zB (leV.refl _) rfl ?_)
   exact ⟨rfl,rfl⟩
theorem ok82 {a0:GActor} {res:Bool} {h:AH}  (hF:qd a0=some res):Spec Try.prog 82 [.agg [.int .u8 a0.rep,.int .u32 a0.inc]] h (fun rr hh=>rr=.bool res∧hh=h):=by
 unfold qd at hF
 refine zu Try.func82 rfl (by kernel_rfl) (env:=[.agg [.int .u8 a0.rep,.int .u32 a0.inc],za,za,za,za,za,za,za,za,za,za,za,za,za,za,za]) (by rfl) ?_
 refine zk (zd ?_)
 refine zc rfl (xI (n:=0) rfl yl (zb rfl) rfl rfl) st1 ?_
 refine zc rfl (zg rfl rfl (zb rfl)) yU ?_
 refine ze (zi (zk (zd ?_)))
 refine zc rfl (zj rfl fo39x0 yw rfl) x5 ?_
 refine zc rfl (zA rfl ty5 y8 rfl (zt rfl) (zb rfl)) yu ?_
 refine zc rfl (zy rfl yz rfl rfl) xg ?_
 refine zc rfl (zf rfl yD (zb rfl)) xn ?_
 refine zq rfl (fun hb=>zj rfl fo39x1 yw rfl) xJ ?_
 refine zq rfl (fun hb=>zA rfl ty37 (zn xl hb) rfl (zt rfl) (zb rfl)) xM ?_
 refine zq rfl (fun hb=>zy rfl (zn xc hb) rfl rfl) wv ?_
 refine zc rfl (zM rfl yS xy rfl (zV (fun ht=>gT ht))) yF ?_
 refine zc rfl (zf rfl yv (zb rfl)) yL ?_
 refine zq rfl (fun hb=>zj rfl fo39x1 yw rfl) yQ ?_
 refine zq rfl (fun hb=>zA rfl ty37 (zn yK hb) rfl (zt rfl) (zb rfl)) yW ?_
 refine zq rfl (fun hb=>zy rfl (zn yN hb) rfl rfl) y3 ?_
 refine zc rfl (zM rfl yA y6 rfl (zV (fun ht=>gT ht))) y2 ?_
 refine zc rfl (zg rfl yR (zb rfl)) yU ?_
 refine ze (zi (zH ?_))
 obtain rfl:=Option.some.inj hF
 refine zz rfl (zD yT zE) (zB (leV.refl _) rfl ?_)
 exact ⟨rfl,rfl⟩
theorem ok67 {d0:GDot} {res:Bool} {h:AH}  (hF:ref03May d0=some res):Spec Try.prog 67 [.agg [.int .u8 d0.actor.rep,.int .u32 d0.actor.inc,.int .u64 d0.seq]] h (fun rr hh=>rr=.bool res∧hh=h):=by
 unfold ref03May at hF
 refine zu Try.func67 rfl (by kernel_rfl) (env:=[.agg [.int .u8 d0.actor.rep,.int .u32 d0.actor.inc,.int .u64 d0.seq],za,za,za,za,za,za,za,za,za,za,za,za,za,za,za]) (by rfl) ?_
 refine zk (zd ?_)
 refine zc rfl (xI (n:=0) rfl yl (zb rfl) rfl rfl) st1 ?_
 refine zc rfl (zg rfl rfl (zb rfl)) yU ?_
 refine ze (zi (zk (zd ?_)))
 refine zc rfl (zj rfl fo41x0 yw rfl) x5 ?_
 refine zc rfl (zA rfl ty39.choose_spec.1 y8 rfl (zK (cs':=[.int .u8 d0.actor.rep,.int .u32 d0.actor.inc]) ty39.choose_spec.2 rfl rfl) (zb rfl)) yu ?_
 refine zU hF (fun v1 hv1 hF=>?_)
 refine zN rfl (zF rfl rfl rfl (zp yz zx) (.cons (zb rfl) .nil)) (ok82 hv1) xg ?_
 refine zc rfl (zf rfl yD (zb rfl)) xn ?_
 refine zq rfl (fun hb=>zj rfl fo41x1 yw rfl) xJ ?_
 refine zq rfl (fun hb=>zA rfl qx (zn xl hb) rfl (zt rfl) (zb rfl)) xM ?_
 refine zq rfl (fun hb=>zy rfl (zn xc hb) rfl rfl) wv ?_
 refine zc rfl (zM rfl yS xy rfl (zV (fun ht=>gT ht))) yF ?_
 refine zc rfl (zf rfl yv (zb rfl)) yL ?_
 refine zq rfl (fun hb=>zj rfl fo41x1 yw rfl) yQ ?_
 refine zq rfl (fun hb=>zA rfl qx (zn yK hb) rfl (zt rfl) (zb rfl)) yW ?_
 refine zq rfl (fun hb=>zy rfl (zn yN hb) rfl rfl) y3 ?_
 refine zc rfl (zM rfl yA y6 rfl (zV (fun ht=>gT ht))) y2 ?_
 refine zc rfl (zg rfl yR (zb rfl)) yU ?_
 refine ze (zi (zH ?_))
 obtain rfl:=Option.some.inj hF
 refine zz rfl (zD yT zE) (zB (leV.refl _) rfl ?_)
 exact ⟨rfl,rfl⟩
theorem ok68 {l0:(List GItem)} {d1:GDot} {res:Int} {h:AH}  (hF:ref05Item l0 d1=some res):Spec Try.prog 68 [.sl 5 (l0.map GItem.row),.agg [.int .u8 d1.actor.rep,.int .u32 d1.actor.inc,.int .u64 d1.seq]] h (fun rr hh=>rr=.int .i64 res∧hh=h):=by
 unfold ref05Item at hF
 refine zu Try.func68 rfl (by kernel_rfl) (env:=[.sl 5 (l0.map GItem.row),.agg [.int .u8 d1.actor.rep,.int .u32 d1.actor.inc,.int .u64 d1.seq],za,za,za,za,za,za,za,za,za,za,za,za,za,za,za,za,za,za]) (by rfl) ?_
 refine zk (zd ?_)
 refine zc rfl (xI (n:=0) rfl yw (zb rfl) rfl rfl) x5 ?_
 refine zc rfl (zg rfl rfl (zb rfl)) yu ?_
 refine ze (zi (zk (zk (zd ?_))))
 refine zc rfl (zg rfl rfl (zb rfl)) xg ?_
 refine ze (zi (zJ ?_))
 refine yi (fun (n1:Nat) (s1:Unit)=>yr [1,2,4,6,7,8,9,10,11,12,13,14,15,16,17,18,19] [(5,.int .i64 (n1:Int))]) (fun s1=>h.ext [.cells [.int .u8 d1.actor.rep,.int .u32 d1.actor.inc,.int .u64 d1.seq]] []) hF (fun _ _=>by simp only [yr,qN,List.set_cons_succ,List.set_cons_zero];try rfl) (wk.le (by exact (.eq (.drop (.drop (.eq (.drop (.cons (leV.of_eq rfl) (.d4 (.d4 (.d4 (.drop (.drop leL.nil))))))))))))) ?_
 intro n1 s1 hi1 hF
 refine zk (zk (zd ?_))
 refine zc rfl (zf rfl yD (zb rfl)) xn ?_
 refine zc rfl (zf rfl yl (zb rfl)) xJ ?_
 refine zZ rfl (zO rfl rfl rfl rfl wO xl ya) xM fun hn10=>?_
 replace hn10:=y9 hn10
 refine zc rfl (zy rfl yS xc rfl) wv ?_
 refine ze (zi ?_)
 refine yo xy hF (fun x1 o1 hl1 hx1 hF hK1=>?_) (fun hF=>?_)
 ·refine zG (zi (zk (zJ (zk ?_))))
  refine yk [] [] trivial mixed (by kernel_rfl) ?_
  refine zo rfl rfl (zf rfl yl (zb rfl)) yQ ?_
  refine zo rfl rfl (zf rfl yD (zb rfl)) yW ?_
  refine zo rfl rfl (yg rfl wO yK yN xZ (yn hx1)) y3 ?_
  refine zo rfl rfl (zj rfl fo49x1 y6 rfl) y2 ?_
  refine zo rfl rfl (zX rfl ty41.choose_spec.1 yR (zK (cs':=[.int .u8 x1.dot.actor.rep,.int .u32 x1.dot.actor.inc,.int .u64 x1.dot.seq]) ty41.choose_spec.2 rfl rfl) (zb rfl)) xd ?_
  refine zo rfl rfl (zA rfl ty41.choose_spec.1 y8 rfl (zK (cs':=[.int .u8 d1.actor.rep,.int .u32 d1.actor.inc,.int .u64 d1.seq]) ty41.choose_spec.2 rfl rfl) (zb rfl)) xi ?_
  refine zo rfl rfl (zy rfl xb xj (bin_eq pk41 rfl)) xr ?_
  refine yh ?_
  refine zi ?_
  refine zL xp hF (fun hc11 hF=>?_) (fun hc11 hF=>?_)
  ·refine zk (zd ?_)
   refine zc rfl (zf rfl yD (zb rfl)) xE ?_
   refine zc rfl (zg rfl xH (zb rfl)) yu ?_
   refine ze (zi (zH ?_))
   refine zC ?_
   refine zw ?_
   refine yb ?_
   obtain rfl:=Option.some.inj hF
   replace hF:=hK1
   refine zC ?_
   refine zw ?_
   obtain rfl:=Option.some.inj hF
   refine zz rfl (zD yz zE) (zB (leV.refl _) rfl ?_)
   exact ⟨rfl,rfl⟩
  ·refine zG (yc (zi (zd ?_)))
   refine zc rfl (zf rfl yD (zb rfl)) yF ?_
   refine zc rfl (zy rfl yv rfl rfl) yL ?_
   refine zc rfl (zg rfl yA (zb rfl)) xg ?_
   refine ze (yp ?_)
   obtain rfl:=Option.some.inj hF
   exact ⟨(),hl1,hK1,wk.le (by exact (.eq (.drop (.drop (.eq (.drop (.cons (leV.of_eq (wn (by omega) (by omega))) (.d4 (.d4 (.d4 (.drop (.drop leL.nil))))))))))))⟩
 ·refine yx ?_
  refine zW ?_
  refine zP ?_
  refine zQ ?_
  refine zi (zk (zd ?_))
  refine zc rfl (zg rfl rfl (zb rfl)) yu ?_
  refine ze (zi (zH ?_))
  obtain rfl:=Option.some.inj hF
  refine zz rfl (zD yz zE) (zB (leV.refl _) rfl ?_)
  exact ⟨rfl,rfl⟩
theorem ok69 {l0:(List GDot)} {d1:GDot} {res:Bool} {h:AH}  (hF:ref05Tomb l0 d1=some res):Spec Try.prog 69 [.sl 3 (l0.map GDot.row),.agg [.int .u8 d1.actor.rep,.int .u32 d1.actor.inc,.int .u64 d1.seq]] h (fun rr hh=>rr=.bool res∧hh=h):=by
 unfold ref05Tomb at hF
 refine zu Try.func69 rfl (by kernel_rfl) (env:=[.sl 3 (l0.map GDot.row),.agg [.int .u8 d1.actor.rep,.int .u32 d1.actor.inc,.int .u64 d1.seq],za,za,za,za,za,za,za,za,za,za,za,za,za,za,za,za]) (by rfl) ?_
 refine zk (zd ?_)
 refine zc rfl (xI (n:=0) rfl yw (zb rfl) rfl rfl) x5 ?_
 refine zc rfl (zg rfl rfl (zb rfl)) yu ?_
 refine ze (zi (zk (zk (zd ?_))))
 refine zc rfl (zg rfl rfl (zb rfl)) xg ?_
 refine ze (zi (zJ ?_))
 refine yi (fun (n1:Nat) (s1:Unit)=>yr [1,2,4,6,7,8,9,10,11,12,13,14,15,16,17] [(5,.int .i64 (n1:Int))]) (fun s1=>h.ext [.cells [.int .u8 d1.actor.rep,.int .u32 d1.actor.inc,.int .u64 d1.seq]] []) hF (fun _ _=>by simp only [yr,qN,List.set_cons_succ,List.set_cons_zero];try rfl) (wk.le (by exact (.eq (.drop (.drop (.eq (.drop (.cons (leV.of_eq rfl) (.d4 (.d4 (.d4 leL.nil))))))))))) ?_
 intro n1 s1 hi1 hF
 refine zk (zk (zd ?_))
 refine zc rfl (zf rfl yD (zb rfl)) xn ?_
 refine zc rfl (zf rfl yl (zb rfl)) xJ ?_
 refine zZ rfl (zO rfl rfl rfl rfl vY xl ya) xM fun hn10=>?_
 replace hn10:=y9 hn10
 refine zc rfl (zy rfl yS xc rfl) wv ?_
 refine ze (zi ?_)
 refine yo xy hF (fun x1 o1 hl1 hx1 hF hK1=>?_) (fun hF=>?_)
 ·refine zG (zi (zk (zJ (zk ?_))))
  refine yk [] [] trivial mixed (by kernel_rfl) ?_
  refine zo rfl rfl (zf rfl yl (zb rfl)) yQ ?_
  refine zo rfl rfl (zf rfl yD (zb rfl)) yW ?_
  refine zo rfl rfl (yg rfl vY yK yN xZ (yn hx1)) y3 ?_
  refine zo rfl rfl (zX rfl ty41.choose_spec.1 y6 (zK (cs':=[.int .u8 x1.actor.rep,.int .u32 x1.actor.inc,.int .u64 x1.seq]) ty41.choose_spec.2 rfl rfl) (zb rfl)) y2 ?_
  refine zo rfl rfl (zA rfl ty41.choose_spec.1 y8 rfl (zK (cs':=[.int .u8 d1.actor.rep,.int .u32 d1.actor.inc,.int .u64 d1.seq]) ty41.choose_spec.2 rfl rfl) (zb rfl)) xd ?_
  refine zo rfl rfl (zy rfl yR xb (bin_eq pk41 rfl)) xi ?_
  refine yh ?_
  refine zi ?_
  refine zL xj hF (fun hc11 hF=>?_) (fun hc11 hF=>?_)
  ·refine zk (zd ?_)
   refine zc rfl (zg rfl rfl (zb rfl)) yu ?_
   refine ze (zi (zH ?_))
   refine zC ?_
   refine zw ?_
   refine yb ?_
   obtain rfl:=Option.some.inj hF
   replace hF:=hK1
   refine zC ?_
   refine zw ?_
   obtain rfl:=Option.some.inj hF
   refine zz rfl (zD yz zE) (zB (leV.refl _) rfl ?_)
   exact ⟨rfl,rfl⟩
  ·refine zG (yc (zi (zd ?_)))
   refine zc rfl (zf rfl yD (zb rfl)) yF ?_
   refine zc rfl (zy rfl yv rfl rfl) yL ?_
   refine zc rfl (zg rfl yA (zb rfl)) xg ?_
   refine ze (yp ?_)
   obtain rfl:=Option.some.inj hF
   exact ⟨(),hl1,hK1,wk.le (by exact (.eq (.drop (.drop (.eq (.drop (.cons (leV.of_eq (wn (by omega) (by omega))) (.d4 (.d4 (.d4 leL.nil))))))))))⟩
 ·refine yx ?_
  refine zW ?_
  refine zP ?_
  refine zQ ?_
  refine zi (zk (zd ?_))
  refine zc rfl (zg rfl rfl (zb rfl)) yu ?_
  refine ze (zi (zH ?_))
  obtain rfl:=Option.some.inj hF
  refine zz rfl (zD yz zE) (zB (leV.refl _) rfl ?_)
  exact ⟨rfl,rfl⟩
theorem ok71 {a0:GDot} {b1:GDot} {res:Bool} {h:AH}  (hF:ref03Less a0 b1=some res):Spec Try.prog 71 [.agg [.int .u8 a0.actor.rep,.int .u32 a0.actor.inc,.int .u64 a0.seq],.agg [.int .u8 b1.actor.rep,.int .u32 b1.actor.inc,.int .u64 b1.seq]] h (fun rr hh=>rr=.bool res∧hh=h):=by
 unfold ref03Less at hF
 refine zu Try.func71 rfl (by kernel_rfl) (env:=[.agg [.int .u8 a0.actor.rep,.int .u32 a0.actor.inc,.int .u64 a0.seq],.agg [.int .u8 b1.actor.rep,.int .u32 b1.actor.inc,.int .u64 b1.seq],za,za,za,za,za,za,za,za,za,za,za,za,za,za,za,za,za,za,za,za,za,za,za,za,za,za,za,za,za,za,za,za,za,za,za,za]) (by rfl) ?_
 refine zk (zd ?_)
 refine zc rfl (xI (n:=0) rfl yl (zb rfl) rfl rfl) yU ?_
 refine zc rfl (xI (n:=1) rfl yw (zb rfl) rfl rfl) x5 ?_
 refine zc rfl (zg rfl rfl (zb rfl)) yu ?_
 refine ze (zi (zk (zk (zd ?_))))
 refine zc rfl (zj rfl fo41x0 yT rfl) xg ?_
 refine zc rfl (zj rfl fo39x0 yD rfl) xn ?_
 refine zc rfl (zA rfl ty5 yS rfl (zt rfl) (zb rfl)) xJ ?_
 refine zc rfl (zj rfl fo41x0 y8 rfl) xM ?_
 refine zc rfl (zj rfl fo39x0 xc rfl) wv ?_
 refine zc rfl (zA rfl ty5 xy rfl (zt rfl) (zb rfl)) yF ?_
 refine zc rfl (zy rfl xl yv rfl) yL ?_
 refine ze (zi ?_)
 refine zL yA hF (fun hc1 hF=>?_) (fun hc1 hF=>?_)
 ·refine zk (zd ?_)
  refine zc rfl (zj rfl fo41x0 yT rfl) yQ ?_
  refine zc rfl (zj rfl fo39x0 yK rfl) yW ?_
  refine zc rfl (zA rfl ty5 yN rfl (zt rfl) (zb rfl)) y3 ?_
  refine zc rfl (zj rfl fo41x0 y8 rfl) y2 ?_
  refine zc rfl (zj rfl fo39x0 yR rfl) xd ?_
  refine zc rfl (zA rfl ty5 xb rfl (zt rfl) (zb rfl)) xi ?_
  refine zc rfl (zy rfl y6 xj rfl) xr ?_
  refine zc rfl (zg rfl xp (zb rfl)) yu ?_
  refine ze (zi (zH (zw ?_)))
  obtain rfl:=Option.some.inj hF
  refine zz rfl (zD yz zE) (zB (leV.refl _) rfl ?_)
  exact ⟨rfl,rfl⟩
 ·refine zG (zi (zk (zk (zd ?_))))
  refine zc rfl (zj rfl fo41x0 yT rfl) xE ?_
  refine zc rfl (zj rfl fo39x1 xH rfl) xR ?_
  refine zc rfl (zA rfl ty37 xO rfl (zt rfl) (zb rfl)) xY ?_
  refine zc rfl (zj rfl fo41x0 y8 rfl) x7 ?_
  refine zc rfl (zj rfl fo39x1 x9 rfl) xQ ?_
  refine zc rfl (zA rfl ty37 xB rfl (zt rfl) (zb rfl)) wc ?_
  refine zc rfl (zy rfl xV wg rfl) wb ?_
  refine ze (zi ?_)
  refine zL x4 hF (fun hc2 hF=>?_) (fun hc2 hF=>?_)
  ·refine zk (zd ?_)
   refine zc rfl (zj rfl fo41x0 yT rfl) wJ ?_
   refine zc rfl (zj rfl fo39x1 wF rfl) wR ?_
   refine zc rfl (zA rfl ty37 wU rfl (zt rfl) (zb rfl)) wZ ?_
   refine zc rfl (zj rfl fo41x0 y8 rfl) vf ?_
   refine zc rfl (zj rfl fo39x1 vo rfl) ve ?_
   refine zc rfl (zA rfl ty37 vn rfl (zt rfl) (zb rfl)) vd ?_
   refine zc rfl (zy rfl w6 vm rfl) vc ?_
   refine zc rfl (zg rfl w5 (zb rfl)) yu ?_
   refine ze (zi (zH (zw ?_)))
   obtain rfl:=Option.some.inj hF
   refine zz rfl (zD yz zE) (zB (leV.refl _) rfl ?_)
   exact ⟨rfl,rfl⟩
  ·refine zG (zi (zk (zd ?_)))
   refine zc rfl (zj rfl fo41x1 yT rfl) vu ?_
   refine zc rfl (zA rfl qx vA rfl (zt rfl) (zb rfl)) vt ?_
   refine zc rfl (zj rfl fo41x1 y8 rfl) vb ?_
   refine zc rfl (zA rfl qx vk rfl (zt rfl) (zb rfl)) wQ ?_
   refine zc rfl (zy rfl vl wN rfl) va ?_
   refine zc rfl (zg rfl vj (zb rfl)) yu ?_
   refine ze (zi (zH ?_))
   obtain rfl:=Option.some.inj hF
   refine zz rfl (zD yz zE) (zB (leV.refl _) rfl ?_)
   exact ⟨rfl,rfl⟩
theorem ok70 {time0:Int} {d1:GDot} {other2:Int} {o3:GDot} {res:Bool} {h:AH}  (hF:ref05Ahead time0 d1 other2 o3=some res):Spec Try.prog 70 [.int .u64 time0,.agg [.int .u8 d1.actor.rep,.int .u32 d1.actor.inc,.int .u64 d1.seq],.int .u64 other2,.agg [.int .u8 o3.actor.rep,.int .u32 o3.actor.inc,.int .u64 o3.seq]] h (fun rr hh=>rr=.bool res∧hh=h):=by
 unfold ref05Ahead at hF
 refine zu Try.func70 rfl (by kernel_rfl) (env:=[.int .u64 time0,.agg [.int .u8 d1.actor.rep,.int .u32 d1.actor.inc,.int .u64 d1.seq],.int .u64 other2,.agg [.int .u8 o3.actor.rep,.int .u32 o3.actor.inc,.int .u64 o3.seq],za,za,za,za,za,za,za,za,za,za,za,za,za,za]) (by rfl) ?_
 refine zk (zd ?_)
 refine zc rfl (xI (n:=0) rfl yw (zb rfl) rfl rfl) xg ?_
 refine zc rfl (xI (n:=1) rfl y8 (zb rfl) rfl rfl) xJ ?_
 refine zc rfl (zg rfl rfl (zb rfl)) xM ?_
 refine ze (zi (zk (zk (zd ?_))))
 refine zc rfl (zf rfl yl (zb rfl)) wv ?_
 refine zc rfl (zf rfl yT (zb rfl)) yF ?_
 refine zc rfl (zy rfl xy yv rfl) yL ?_
 refine ze (zi ?_)
 refine zL yA hF (fun hc1 hF=>?_) (fun hc1 hF=>?_)
 ·refine zk (zd ?_)
  refine zc rfl (zf rfl yl (zb rfl)) yQ ?_
  refine zc rfl (zf rfl yT (zb rfl)) yW ?_
  refine zc rfl (zy rfl yK yN rfl) y3 ?_
  refine zc rfl (zg rfl y6 (zb rfl)) xM ?_
  refine ze (zi (zH (zw ?_)))
  obtain rfl:=Option.some.inj hF
  refine zz rfl (zD xc zE) (zB (leV.refl _) rfl ?_)
  exact ⟨rfl,rfl⟩
 ·refine zG (zi (zk (zd ?_)))
  refine zc rfl (zA rfl ty41.choose_spec.1 yD rfl (zK (cs':=[.int .u8 d1.actor.rep,.int .u32 d1.actor.inc,.int .u64 d1.seq]) ty41.choose_spec.2 rfl rfl) (zb rfl)) y2 ?_
  refine zc rfl (zA rfl ty41.choose_spec.1 xl rfl (zK (cs':=[.int .u8 o3.actor.rep,.int .u32 o3.actor.inc,.int .u64 o3.seq]) ty41.choose_spec.2 rfl rfl) (zb rfl)) xd ?_
  refine zU hF (fun v2 hv2 hF=>?_)
  refine zN rfl (zF rfl rfl rfl (zp yR (zp xb zx)) (.cons (zb rfl) (.cons (zb rfl) .nil))) (ok71 hv2) xi ?_
  refine zc rfl (zg rfl xj (zb rfl)) xM ?_
  refine ze (zi (zH ?_))
  obtain rfl:=Option.some.inj hF
  refine zz rfl (zD xc zE) (zB (leV.refl _) rfl ?_)
  exact ⟨rfl,rfl⟩
theorem ok57 {l0:GLeaf} {res:Bool} {h:AH}  (hF:ref05May l0=some res):Spec Try.prog 57 [.agg [.int .u8 l0.typ,.int .i64 l0.n,.int .u64 l0.time,.int .u8 l0.dot.actor.rep,.int .u32 l0.dot.actor.inc,.int .u64 l0.dot.seq,.str l0.text,.sl 5 (l0.items.map GItem.row),.sl 3 (l0.tombs.map GDot.row)]] h (fun rr hh=>rr=.bool res∧hh=h):=by
 unfold ref05May at hF
 refine zu Try.func57 rfl (by kernel_rfl) (env:=[.agg [.int .u8 l0.typ,.int .i64 l0.n,.int .u64 l0.time,.int .u8 l0.dot.actor.rep,.int .u32 l0.dot.actor.inc,.int .u64 l0.dot.seq,.str l0.text,.sl 5 (l0.items.map GItem.row),.sl 3 (l0.tombs.map GDot.row)],za,za,za,za,za,za,za,za,za,za,za,za,za,za,za,za,za,za,za,za,za,za,za,za,za,za,za,za,za,za,za,za,za,za,za,za,za,za,za,za,za,za,za,za,za,za,za,za,za,za,za,za,za,za,za,za,za,za,za,za,za,za,za,za,za,za,za,za,za,za,za,za,za,za,za,za,za,za,za,za,za,za,za,za,za,za,za,za,za,za,za,za,za,za,za,za,za,za,za,za,za,za,za,za,za,za,za,za,za,za,za,za,za,za,za,za,za,za,za,za,za,za,za,za,za,za,za,za,za,za,za,za,za,za,za,za,za,za,za,za,za,za,za,za,za,za,za,za,za,za,za,za,za,za,za,za,za,za,za,za,za,za,za,za,za,za,za,za,za,za,za,za,za,za,za,za,za,za,za,za,za,za,za,za,za,za,za,za,za,za,za,za,za,za,za,za,za,za,za,za,za,za,za,za]) (by rfl) ?_
 refine zk (zd ?_)
 refine zc rfl (xI (n:=0) rfl yl (zb rfl) rfl rfl) st1 ?_
 refine zc rfl (zg rfl rfl (zb rfl)) yU ?_
 refine ze (zi (zk (zk (zd ?_))))
 refine zc rfl (zj rfl wy yw rfl) xJ ?_
 refine zc rfl (zA rfl ty5 xl rfl (zt rfl) (zb rfl)) xM ?_
 refine zc rfl (zy rfl xc rfl rfl) wv ?_
 refine zc rfl (zf rfl xy (zb rfl)) yF ?_
 refine zq rfl (fun hb=>zj rfl wy yw rfl) yL ?_
 refine zq rfl (fun hb=>zA rfl ty5 (zn yA hb) rfl (zt rfl) (zb rfl)) yQ ?_
 refine zq rfl (fun hb=>zy rfl (zn yK hb) rfl rfl) yW ?_
 refine zc rfl (zM rfl yv rfl yN (yd (fun ht=>gF ht))) y3 ?_
 refine zc rfl (zf rfl y6 (zb rfl)) y2 ?_
 refine zq rfl (fun hb=>zj rfl wy yw rfl) xd ?_
 refine zq rfl (fun hb=>zA rfl ty5 (zn xb hb) rfl (zt rfl) (zb rfl)) xi ?_
 refine zq rfl (fun hb=>zy rfl (zn xj hb) rfl rfl) xr ?_
 refine zq rfl (fun hb=>zf rfl (zn xp hb) (zb rfl)) xE ?_
 refine zq (z7 rfl rfl rfl) (fun hb=>zj rfl fo45x1 yw rfl) xR ?_
 refine zq (z7 rfl rfl rfl) (fun hb=>zA rfl ty2 (zn xO hb) rfl (zt rfl) (zb rfl)) xY ?_
 refine zq (z7 rfl rfl rfl) (fun hb=>zy rfl (zn xV hb) rfl rfl) x7 ?_
 refine zq rfl (fun hb=>zM rfl (zn xH hb) x9 rfl (zV (fun ht=>gT2 hb ht))) xQ ?_
 refine zc rfl (zM rfl yR rfl xB (yd (fun ht=>gF ht))) wc ?_
 refine zc rfl (zf rfl wg (zb rfl)) wb ?_
 refine zq rfl (fun hb=>zj rfl wy yw rfl) wJ ?_
 refine zq rfl (fun hb=>zA rfl ty5 (zn wF hb) rfl (zt rfl) (zb rfl)) wR ?_
 refine zq rfl (fun hb=>zy rfl (zn wU hb) rfl rfl) wZ ?_
 refine zq rfl (fun hb=>zf rfl (zn w6 hb) (zb rfl)) vf ?_
 refine zq (z7 rfl rfl rfl) (fun hb=>zj rfl xC yw rfl) ve ?_
 refine zq (z7 rfl rfl rfl) (fun hb=>zA rfl qL (zn vn hb) rfl (zt rfl) (zb rfl)) vd ?_
 refine xU (z7 rfl rfl rfl) (fun hb=>zO rfl rfl rfl rfl wO (zn vm hb) ya) vc fun hn1=>?_
 refine zq (z7 rfl rfl rfl) (fun hb=>zy rfl (zn w5 hb) rfl rfl) vu ?_
 refine zq rfl (fun hb=>zM rfl (zn vo hb) vA rfl (zV (fun ht=>gT2 hb ht))) vt ?_
 refine zc rfl (zM rfl x4 rfl vl (yd (fun ht=>gF ht))) vb ?_
 refine zc rfl (zf rfl vk (zb rfl)) wQ ?_
 refine zq rfl (fun hb=>zj rfl wy yw rfl) va ?_
 refine zq rfl (fun hb=>zA rfl ty5 (zn vj hb) rfl (zt rfl) (zb rfl)) vE ?_
 refine zq rfl (fun hb=>zy rfl (zn vz hb) rfl rfl) vJ ?_
 refine zq rfl (fun hb=>zf rfl (zn vF hb) (zb rfl)) (sk st0) ?_
 refine zq (z7 rfl rfl rfl) (fun hb=>zj rfl wx yw rfl) (sk st1) ?_
 refine zq (z7 rfl rfl rfl) (fun hb=>zA rfl ty43 (zn (gk yw) hb) rfl (zt rfl) (zb rfl)) (sk yU) ?_
 refine xU (z7 rfl rfl rfl) (fun hb=>zO rfl rfl rfl rfl vY (zn (gk yT) hb) ya) (sk x5) fun hn2=>?_
 refine zq (z7 rfl rfl rfl) (fun hb=>zy rfl (zn (gk y8) hb) rfl rfl) (sk yu) ?_
 refine zq rfl (fun hb=>zM rfl (zn (gk yl) hb) (gk yz) rfl (zV (fun ht=>gT2 hb ht))) (sk xg) ?_
 refine zc rfl (zM rfl wN rfl (gk yD) (yd (fun ht=>gF ht))) (sk xn) ?_
 refine ze (zi ?_)
 refine zL (gk yS) hF (fun hc3 hF=>?_) (fun hc3 hF=>?_)
 ·refine zk (zd ?_)
  refine zc rfl (zg rfl rfl (zb rfl)) yU ?_
  refine ze (zi (zH (zw ?_)))
  obtain rfl:=Option.some.inj hF
  refine zz rfl (zD yT zE) (zB (leV.refl _) rfl ?_)
  exact ⟨rfl,rfl⟩
 ·refine zG (zi (zk (zd ?_)))
  refine zc rfl (s_build (cs':=[.int .u8 (0:Int),.int .u32 (0:Int),.int .u64 (0:Int)]) rfl su41 ze41 pl41 ye .nil rfl rfl) (sk xJ) ?_
  refine zc rfl (wt (n:=1) rfl ze41 rfl) x5 ?_
  refine zc rfl (yP (cs':=[.int .u8 (0:Int),.int .u32 (0:Int),.int .u64 (0:Int)]) rfl ty41.choose_spec.1 y8 (gk xl) (zb rfl) rfl rfl rfl rfl rfl) rfl ?_
  refine ze (zi ?_)
  refine r_join (fun (s1:Unit)=>yr [0,2,3,4,5,6,7,8,9,10,11,12,13,14,15,16,17,18,19,20,21,22,23,24,25,26,27,28,29,30,31,32,33,34,35,36,37,38,39,40,41,42,43,44,45,46,47,48,49,50,51,52,53,54,55,56,57,58,59,60,61,62,63,64,65,66,67,68,69,70,71,72,73,74,75,76,77,78,79,80,81,82,83,84,85,86,87,88,89,90,91,92,93,94,95,96,97,98,99,100,101,102,103,104,105,106,107,108,109,110,111,112,113,114,115,116,117,118,119,120,121,122,123,124,125,126,127,128,129,130,131,132,133,134,135,136,137,138,139,140,141,142,143,144,145,146,147,148,149,150,151,152,153,154,155,156,157,158,159,160,161,162,163,164,165,166,167,168,169,170,171,172,173,174,175,176,177,178,179,180,181,182,183,184,185,186,187,188,189,190,191,192,193,194,195,196,197,198,199,200,201,202,203,204] []) (fun s1=>h.ext [.cells [.int .u8 l0.typ,.int .i64 l0.n,.int .u64 l0.time,.int .u8 l0.dot.actor.rep,.int .u32 l0.dot.actor.inc,.int .u64 l0.dot.seq,.str l0.text,.sl 5 (l0.items.map GItem.row),.sl 3 (l0.tombs.map GDot.row)],.cells [.int .u8 (0:Int),.int .u32 (0:Int),.int .u64 (0:Int)]] []) hF (fun _=>by simp only [yr,qN,List.set_cons_succ,List.set_cons_zero];try rfl) (fun o1 hF hK1=>?_) (fun s1 hF=>?_)
  ·refine zk (zd ?_)
   refine zc rfl (zj rfl wy yw rfl) (sk xM) ?_
   refine zc rfl (zA rfl ty5 (gk xc) rfl (zt rfl) (zb rfl)) (sk wv) ?_
   refine zc rfl (zy rfl (gk xy) rfl rfl) (sk yF) ?_
   refine zc rfl (zf rfl (gk yv) (zb rfl)) (sk yL) ?_
   refine zq rfl (fun hb=>zj rfl fo45x2 yw rfl) (sk yQ) ?_
   refine zq rfl (fun hb=>zA rfl qx (zn (gk yK) hb) rfl (zt rfl) (zb rfl)) (sk yW) ?_
   refine zq rfl (fun hb=>zy rfl (zn (gk yN) hb) rfl rfl) (sk y3) ?_
   refine zc rfl (zM rfl (gk yA) rfl (gk y6) (yd (fun ht=>gF ht))) (sk y2) ?_
   refine ze (zi ?_)
   refine zL (gk yR) hF (fun hc9 hF=>?_) (fun hc9 hF=>?_)
   ·refine zk (zd ?_)
    refine zc rfl (zj rfl fo45x2 yw rfl) (sk xd) ?_
    refine zc rfl (zA rfl qx (gk xb) rfl (zt rfl) (zb rfl)) (sk xi) ?_
    refine zc rfl (zy rfl (gk xj) rfl rfl) (sk xr) ?_
    refine zc rfl (zf rfl (gk xp) (zb rfl)) (sk xE) ?_
    refine zq rfl (fun hb=>zj rfl fo45x3 yw rfl) (sk xR) ?_
    refine zq rfl (fun hb=>zA rfl ty41.choose_spec.1 (zn (gk xO) hb) rfl (zK (cs':=[.int .u8 l0.dot.actor.rep,.int .u32 l0.dot.actor.inc,.int .u64 l0.dot.seq]) ty41.choose_spec.2 rfl rfl) (zb rfl)) (sk xY) ?_
    refine zq rfl (fun hb=>zA rfl ty41.choose_spec.1 y8 rfl (zK (cs':=[.int .u8 (0:Int),.int .u32 (0:Int),.int .u64 (0:Int)]) ty41.choose_spec.2 rfl rfl) (zb rfl)) (sk x7) ?_
    refine zq rfl (fun hb=>zy rfl (zn (gk xV) hb) (zn (gk x9) hb) (bin_ne pk41 rfl)) (sk xQ) ?_
    refine zc rfl (zM rfl (gk xH) rfl (gk xB) (yd (fun ht=>gF ht))) (sk wc) ?_
    refine zc rfl (zf rfl (gk wg) (zb rfl)) (sk wb) ?_
    refine zq rfl (fun hb=>zj rfl fo45x4 yw rfl) (sk wJ) ?_
    refine zq rfl (fun hb=>zA rfl qa (zn (gk wF) hb) rfl (zt rfl) (zb rfl)) (sk wR) ?_
    refine zq rfl (fun hb=>zy rfl (zn (gk wU) hb) rfl rfl) (sk wZ) ?_
    refine zc rfl (zM rfl (gk x4) rfl (gk w6) (yd (fun ht=>gF ht))) (sk vf) ?_
    refine ze (zi ?_)
    refine zL (gk vo) hF (fun hc10 hF=>?_) (fun hc10 hF=>?_)
    ·refine zk (zd ?_)
     refine zc rfl (zg rfl rfl (zb rfl)) yU ?_
     refine ze (zi (zH ?_))
     refine q_join_ret ?_
     obtain rfl:=Option.some.inj hF
     replace hF:=hK1
     obtain rfl:=Option.some.inj hF
     refine zz rfl (zD yT zE) (zB (leV.refl _) rfl ?_)
     exact ⟨rfl,rfl⟩
    ·refine zG (q_join ?_)
     obtain rfl:=Option.some.inj hF
     exact ⟨(),hK1,wk.le (by exact (.drop (.eq (.d16 (.d16 (.d16 (.d16 (.d16 (.d16 (.d16 (.d16 (.d16 (.d16 (.d16 (.d16 (.d4 (.d4 (.drop (.drop (.drop leL.nil))))))))))))))))))))⟩
   ·refine zk (zd ?_)
    refine zc rfl (zj rfl fo45x2 yw rfl) (sk ve) ?_
    refine zc rfl (zA rfl qx (gk vn) rfl (zt rfl) (zb rfl)) (sk vd) ?_
    refine zc rfl (zy rfl (gk vm) rfl rfl) (sk vc) ?_
    refine zc rfl (zf rfl (gk w5) (zb rfl)) (sk vu) ?_
    refine zq rfl (fun hb=>zj rfl fo45x3 yw rfl) (sk vt) ?_
    refine zq rfl (fun hb=>zA rfl ty41.choose_spec.1 (zn (gk vl) hb) rfl (zK (cs':=[.int .u8 l0.dot.actor.rep,.int .u32 l0.dot.actor.inc,.int .u64 l0.dot.seq]) ty41.choose_spec.2 rfl rfl) (zb rfl)) (sk vb) ?_
    refine yO hF (fun v11 hv11 hF=>?_)
    refine ym rfl (fun hb=>zF rfl rfl rfl (zp (zn (gk vk) hb) zx) (.cons (zb rfl) .nil)) (fun hb=>ok67 (hv11 hb)) (sk wQ) ?_
    refine zq rfl (fun hb=>xF rfl (zn (gk wN) hb) rfl) (sk va) ?_
    refine zc rfl (zM rfl (gk vA) rfl (gk vj) (yd (fun ht=>gF ht))) (sk vE) ?_
    refine zc rfl (zf rfl (gk vz) (zb rfl)) (sk vJ) ?_
    refine zq rfl (fun hb=>zj rfl fo45x4 yw rfl) (sk (sk st0)) ?_
    refine zq rfl (fun hb=>zA rfl qa (zn (gk (gk yl)) hb) rfl (zt rfl) (zb rfl)) (sk (sk st1)) ?_
    refine xU rfl (fun hb=>vx rfl rfl rfl rfl qa (zn (gk (gk yw)) hb)) (sk (sk yU)) fun hn12=>?_
    refine zq rfl (fun hb=>zy rfl (zn (gk (gk yT)) hb) rfl rfl) (sk (sk x5)) ?_
    refine zc rfl (zM rfl (gk vF) rfl (gk (gk y8)) (yd (fun ht=>gF ht))) (sk (sk yu)) ?_
    refine ze (zi ?_)
    refine zL (gk (gk yz)) hF (fun hc13 hF=>?_) (fun hc13 hF=>?_)
    ·refine zk (zd ?_)
     refine zc rfl (zg rfl rfl (zb rfl)) yU ?_
     refine ze (zi (zH ?_))
     refine q_join_ret ?_
     obtain rfl:=Option.some.inj hF
     replace hF:=hK1
     obtain rfl:=Option.some.inj hF
     refine zz rfl (zD yT zE) (zB (leV.refl _) rfl ?_)
     exact ⟨rfl,rfl⟩
    ·refine zG (q_join ?_)
     obtain rfl:=Option.some.inj hF
     exact ⟨(),hK1,wk.le (by exact (.drop (.eq (.d16 (.d16 (.d16 (.d16 (.d16 (.d16 (.d16 (.d16 (.d16 (.d16 (.d16 (.d16 (.d4 (.d4 (.drop (.drop (.drop leL.nil))))))))))))))))))))⟩
  ·refine zk (zk (zd ?_))
   refine zc rfl (zg rfl rfl (zb rfl)) yu ?_
   refine ze (zi (zJ ?_))
   refine yi (fun (n2:Nat) (s2:Unit)=>yr [0,2,3,5,6,7,8,9,10,11,12,13,14,15,16,17,18,19,20,21,22,23,24,25,26,27,28,29,30,31,32,33,34,35,36,37,38,39,40,41,42,43,44,45,46,47,48,49,50,51,52,53,54,55,56,57,58,59,60,61,62,63,64,65,66,67,68,69,70,71,72,73,74,75,76,77,78,79,80,81,82,83,84,85,86,87,88,89,90,91,92,93,94,95,96,97,98,99,100,101,102,103,104,105,106,107,108,109,110,111,112,113,114,115,116,117,118,119,120,121,122,123,124,125,126,127,128,129,130,131,132,133,134,135,136,137,138,139,140,141,142,143,144,145,146,147,148,149,150,151,152,153,154,155,156,157,158,159,160,161,162,163,164,165,166,167,168,169,170,171,172,173,174,175,176,177,178,179,180,181,182,183,184,185,186,187,188,189,190,191,192,193,194,195,196,197,198,199,200,201,202,203,204] [(4,.int .i64 (n2:Int))]) (fun s2=>h.ext [.cells [.int .u8 l0.typ,.int .i64 l0.n,.int .u64 l0.time,.int .u8 l0.dot.actor.rep,.int .u32 l0.dot.actor.inc,.int .u64 l0.dot.seq,.str l0.text,.sl 5 (l0.items.map GItem.row),.sl 3 (l0.tombs.map GDot.row)],.cells [.int .u8 (0:Int),.int .u32 (0:Int),.int .u64 (0:Int)]] []) hF (fun _ _=>by simp only [yr,qN,List.set_cons_succ,List.set_cons_zero];try rfl) (wk.le (by exact (.drop (.eq (.drop (.drop (.cons (leV.of_eq rfl) (.d16 (.d16 (.d16 (.d16 (.d16 (.d16 (.d16 (.d16 (.d16 (.d16 (.d16 (.d16 (.d4 (.d4 leL.nil))))))))))))))))))))) ?_
   intro n2 s2 hi2 hF
   refine zk (zk (zd ?_))
   refine zc rfl (zf rfl yz (zb rfl)) (sk (sk xg)) ?_
   refine zc rfl (zj rfl xC yw rfl) (sk (sk xn)) ?_
   refine zc rfl (zA rfl qL (gk (gk yS)) rfl (zt rfl) (zb rfl)) (sk (sk xJ)) ?_
   refine zZ rfl (zO rfl rfl rfl rfl wO (gk (gk xl)) ya) (sk (sk xM)) fun hn40=>?_
   replace hn40:=y9 hn40
   refine zc rfl (zy rfl (gk (gk yD)) (gk (gk xc)) rfl) (sk (sk wv)) ?_
   refine ze (zi ?_)
   refine yo (gk (gk xy)) hF (fun x2 o2 hl2 hx2 hF hK2=>?_) (fun hF=>?_)
   ·refine zG (zi (zk (zJ (zk (zd ?_)))))
    refine zc rfl (zj rfl xC yw rfl) (sk (sk yQ)) ?_
    refine zc rfl (zA rfl qL (gk (gk yK)) rfl (zt rfl) (zb rfl)) (sk (sk yW)) ?_
    refine zc rfl (zf rfl yz (zb rfl)) (sk (sk y3)) ?_
    refine zc rfl (yg rfl wO (gk (gk yN)) (gk (gk y6)) xZ (yn hx2)) (sk (sk y2)) ?_
    refine zc rfl (zX rfl ty49.choose_spec.1 (gk (gk yR)) (zK (cs':=[.int .u64 x2.time,.int .u8 x2.dot.actor.rep,.int .u32 x2.dot.actor.inc,.int .u64 x2.dot.seq,.str x2.text]) ty49.choose_spec.2 rfl rfl) (zb rfl)) (sk (sk xd)) ?_
    refine zc rfl (wt (n:=2) rfl ze49 rfl) xg ?_
    refine zc rfl (yP (cs':=[.int .u64 x2.time,.int .u8 x2.dot.actor.rep,.int .u32 x2.dot.actor.inc,.int .u64 x2.dot.seq,.str x2.text]) rfl ty49.choose_spec.1 yD (gk (gk xb)) (zb rfl) rfl rfl rfl rfl rfl) rfl ?_
    refine ze (zi (zk (zk (zd ?_))))
    refine zc rfl (zj rfl fo49x1 yD rfl) (sk (sk xi)) ?_
    refine zc rfl (zA rfl ty41.choose_spec.1 (gk (gk xj)) rfl (zK (cs':=[.int .u8 x2.dot.actor.rep,.int .u32 x2.dot.actor.inc,.int .u64 x2.dot.seq]) ty41.choose_spec.2 rfl rfl) (zb rfl)) (sk (sk xr)) ?_
    refine zU hF (fun v41 hv41 hF=>?_)
    refine zN rfl (zF rfl rfl rfl (zp (gk (gk xp)) zx) (.cons (zb rfl) .nil)) (ok67 hv41) (sk (sk xE)) ?_
    refine zc rfl (xF rfl (gk (gk xH)) rfl) (sk (sk xR)) ?_
    refine zc rfl (zf rfl (gk (gk xO)) (zb rfl)) (sk (sk xY)) ?_
    refine zq rfl (fun hb=>zj rfl fo49x2 yD rfl) (sk (sk x7)) ?_
    refine zq rfl (fun hb=>zA rfl qa (zn (gk (gk x9)) hb) rfl (zt rfl) (zb rfl)) (sk (sk xQ)) ?_
    refine xU rfl (fun hb=>vx rfl rfl rfl rfl qa (zn (gk (gk xB)) hb)) (sk (sk wc)) fun hn42=>?_
    refine zq rfl (fun hb=>zy rfl (zn (gk (gk wg)) hb) rfl rfl) (sk (sk wb)) ?_
    refine zc rfl (zM rfl (gk (gk xV)) rfl (gk (gk x4)) (yd (fun ht=>gF ht))) (sk (sk wJ)) ?_
    refine zc rfl (zf rfl (gk (gk wF)) (zb rfl)) (sk (sk wR)) ?_
    refine zq rfl (fun hb=>zj rfl wy yw rfl) (sk (sk wZ)) ?_
    refine zq rfl (fun hb=>zA rfl ty5 (zn (gk (gk w6)) hb) rfl (zt rfl) (zb rfl)) (sk (sk vf)) ?_
    refine zq rfl (fun hb=>zy rfl (zn (gk (gk vo)) hb) rfl rfl) (sk (sk ve)) ?_
    refine zq rfl (fun hb=>zf rfl (zn (gk (gk vn)) hb) (zb rfl)) (sk (sk vd)) ?_
    refine zq (z7 rfl rfl rfl) (fun hb=>zj rfl fo49x0 yD rfl) (sk (sk vc)) ?_
    refine zq (z7 rfl rfl rfl) (fun hb=>zA rfl qx (zn (gk (gk w5)) hb) rfl (zt rfl) (zb rfl)) (sk (sk vu)) ?_
    refine zq (z7 rfl rfl rfl) (fun hb=>zy rfl (zn (gk (gk vA)) hb) rfl rfl) (sk (sk vt)) ?_
    refine zq rfl (fun hb=>zM rfl (zn (gk (gk vm)) hb) (gk (gk vl)) rfl (zV (fun ht=>gT2 hb ht))) (sk (sk vb)) ?_
    refine zc rfl (zM rfl (gk (gk wU)) rfl (gk (gk vk)) (yd (fun ht=>gF ht))) (sk (sk wQ)) ?_
    refine zc rfl (zf rfl (gk (gk wN)) (zb rfl)) (sk (sk va)) ?_
    refine zq rfl (fun hb=>zj rfl wy yw rfl) (sk (sk vE)) ?_
    refine zq rfl (fun hb=>zA rfl ty5 (zn (gk (gk vz)) hb) rfl (zt rfl) (zb rfl)) (sk (sk vJ)) ?_
    refine zq rfl (fun hb=>zy rfl (zn (gk (gk vF)) hb) rfl rfl) (sk (sk (sk st0))) ?_
    refine zq rfl (fun hb=>zf rfl (zn (gk (gk (gk yl))) hb) (zb rfl)) (sk (sk (sk st1))) ?_
    refine zq (z7 rfl rfl rfl) (fun hb=>zj rfl fo49x0 yD rfl) (sk (sk (sk yU))) ?_
    refine zq (z7 rfl rfl rfl) (fun hb=>zA rfl qx (zn (gk (gk (gk yT))) hb) rfl (zt rfl) (zb rfl)) (sk (sk (sk x5))) ?_
    refine zq (z7 rfl rfl rfl) (fun hb=>zy rfl (zn (gk (gk (gk y8))) hb) rfl rfl) (sk (sk (sk yu))) ?_
    refine zq (z7 rfl rfl rfl) (fun hb=>zf rfl (zn (gk (gk (gk yz))) hb) (zb rfl)) (sk (sk (sk xg))) ?_
    refine zq (z7 rfl rfl rfl) (fun hb=>zj rfl fo49x0 yD rfl) (sk (sk (sk xn))) ?_
    refine zq (z7 rfl rfl rfl) (fun hb=>zA rfl qx (zn (gk (gk (gk yS))) hb) rfl (zt rfl) (zb rfl)) (sk (sk (sk xJ))) ?_
    refine zq (z7 rfl rfl rfl) (fun hb=>zy rfl (zn (gk (gk (gk xl))) hb) rfl rfl) (sk (sk (sk xM))) ?_
    refine zq (z7 rfl rfl rfl) (fun hb=>zM rfl (zn (gk (gk (gk yD))) hb) rfl (gk (gk (gk xc))) (yd (fun ht=>gF2 hb ht))) (sk (sk (sk wv))) ?_
    refine zq rfl (fun hb=>zM rfl (zn (gk (gk (gk yw))) hb) (gk (gk (gk xy))) rfl (zV (fun ht=>gT2 hb ht))) (sk (sk (sk yF))) ?_
    refine zc rfl (zM rfl (gk (gk vj)) rfl (gk (gk (gk yv))) (yd (fun ht=>gF ht))) (sk (sk (sk yL))) ?_
    refine zc rfl (zf rfl (gk (gk (gk yA))) (zb rfl)) (sk (sk (sk yQ))) ?_
    refine zq rfl (fun hb=>zj rfl xC yw rfl) (sk (sk (sk yW))) ?_
    refine zq rfl (fun hb=>zA rfl qL (zn (gk (gk (gk yN))) hb) rfl (zt rfl) (zb rfl)) (sk (sk (sk y3))) ?_
    refine zq rfl (fun hb=>zj rfl fo49x1 yD rfl) (sk (sk (sk y2))) ?_
    refine zq rfl (fun hb=>zA rfl ty41.choose_spec.1 (zn (gk (gk (gk yR))) hb) rfl (zK (cs':=[.int .u8 x2.dot.actor.rep,.int .u32 x2.dot.actor.inc,.int .u64 x2.dot.seq]) ty41.choose_spec.2 rfl rfl) (zb rfl)) (sk (sk (sk xd))) ?_
    refine yO hF (fun v43 hv43 hF=>?_)
    refine ym rfl (fun hb=>zF rfl rfl rfl (zp (zn (gk (gk (gk y6))) hb) (zp (zn (gk (gk (gk xb))) hb) zx)) (.cons (zb rfl) (.cons (zb rfl) .nil))) (fun hb=>ok68 (hv43 hb)) (sk (sk (sk xi))) ?_
    refine zq rfl (fun hb=>zf rfl yz (zb rfl)) (sk (sk (sk xr))) ?_
    refine zq rfl (fun hb=>zy rfl (zn (gk (gk (gk xj))) hb) (zn (gk (gk (gk xp))) hb) rfl) (sk (sk (sk xE))) ?_
    refine zc rfl (zM rfl (gk (gk (gk yK))) rfl (gk (gk (gk xH))) (yd (fun ht=>gF ht))) (sk (sk (sk xR))) ?_
    refine zc rfl (zf rfl (gk (gk (gk xO))) (zb rfl)) (sk (sk (sk xY))) ?_
    refine zq rfl (fun hb=>zj rfl wx yw rfl) (sk (sk (sk x7))) ?_
    refine zq rfl (fun hb=>zA rfl ty43 (zn (gk (gk (gk x9))) hb) rfl (zt rfl) (zb rfl)) (sk (sk (sk xQ))) ?_
    refine zq rfl (fun hb=>zj rfl fo49x1 yD rfl) (sk (sk (sk wc))) ?_
    refine zq rfl (fun hb=>zA rfl ty41.choose_spec.1 (zn (gk (gk (gk wg))) hb) rfl (zK (cs':=[.int .u8 x2.dot.actor.rep,.int .u32 x2.dot.actor.inc,.int .u64 x2.dot.seq]) ty41.choose_spec.2 rfl rfl) (zb rfl)) (sk (sk (sk wb))) ?_
    refine yO hF (fun v44 hv44 hF=>?_)
    refine ym rfl (fun hb=>zF rfl rfl rfl (zp (zn (gk (gk (gk xB))) hb) (zp (zn (gk (gk (gk x4))) hb) zx)) (.cons (zb rfl) (.cons (zb rfl) .nil))) (fun hb=>ok69 (hv44 hb)) (sk (sk (sk wJ))) ?_
    refine zc rfl (zM rfl (gk (gk (gk xV))) rfl (gk (gk (gk wF))) (yd (fun ht=>gF ht))) (sk (sk (sk wR))) ?_
    refine ze (zi ?_)
    refine zL (gk (gk (gk wU))) hF (fun hc45 hF=>?_) (fun hc45 hF=>?_)
    ·refine zk (zd ?_)
     refine zc rfl (zg rfl rfl (zb rfl)) yU ?_
     refine ze (zi (zH (zw ?_)))
     refine zC ?_
     refine zw ?_
     refine yb ?_
     obtain rfl:=Option.some.inj hF
     replace hF:=hK2
     refine zC ?_
     refine zw ?_
     obtain rfl:=Option.some.inj hF
     refine zz rfl (zD yT zE) (zB (leV.refl _) rfl ?_)
     exact ⟨rfl,rfl⟩
    ·refine zG (zi (zk ?_))
     refine yk [] [] trivial mixed (by kernel_rfl) ?_
     refine zo rfl rfl (zf rfl yz (zb rfl)) (sk (sk (sk wZ))) ?_
     refine zo rfl rfl (zy rfl (gk (gk (gk w6))) rfl rfl) (sk (sk (sk vf))) ?_
     refine zo rfl rfl (zf rfl (gk (gk (gk vo))) (zb rfl)) (sk (sk (sk ve))) ?_
     refine zr rfl rfl (fun hb=>zj rfl xC yw rfl) (sk (sk (sk vd))) ?_
     refine zr rfl rfl (fun hb=>zA rfl qL (zn (gk (gk (gk vm))) hb) rfl (zt rfl) (zb rfl)) (sk (sk (sk vc))) ?_
     refine zr rfl rfl (fun hb=>zf rfl yz (zb rfl)) (sk (sk (sk vu))) ?_
     refine zr rfl rfl (fun hb=>zy rfl (zn (gk (gk (gk vA))) hb) rfl rfl) (sk (sk (sk vt))) ?_
     refine xe hF (fun hg46 hF=>?_)
     refine zr rfl rfl (fun hb=>yH default rfl wO (zn (gk (gk (gk w5))) hb) (zn (gk (gk (gk vl))) hb) xZ (hg46 hb)) (sk (sk (sk vb))) ?_
     refine zr rfl rfl (fun hb=>zj rfl fo49x0 (zn (gk (gk (gk vk))) hb) rfl) (sk (sk (sk wQ))) ?_
     refine zr rfl rfl (fun hb=>zX rfl qx (zn (gk (gk (gk wN))) hb) (zt rfl) (zb rfl)) (sk (sk (sk va))) ?_
     refine zr rfl rfl (fun hb=>zj rfl xC yw rfl) (sk (sk (sk vE))) ?_
     refine zr rfl rfl (fun hb=>zA rfl qL (zn (gk (gk (gk vz))) hb) rfl (zt rfl) (zb rfl)) (sk (sk (sk vJ))) ?_
     refine zr rfl rfl (fun hb=>zf rfl yz (zb rfl)) (sk (sk (sk (sk st0)))) ?_
     refine zr rfl rfl (fun hb=>zy rfl (zn (gk (gk (gk (gk yl)))) hb) rfl rfl) (sk (sk (sk (sk st1)))) ?_
     refine xe hF (fun hg47 hF=>?_)
     refine zr rfl rfl (fun hb=>yH default rfl wO (zn (gk (gk (gk vF))) hb) (zn (gk (gk (gk (gk yw)))) hb) xZ (hg47 hb)) (sk (sk (sk (sk yU)))) ?_
     refine zr rfl rfl (fun hb=>zj rfl fo49x1 (zn (gk (gk (gk (gk yT)))) hb) rfl) (sk (sk (sk (sk x5)))) ?_
     refine zr rfl rfl (fun hb=>zX rfl ty41.choose_spec.1 (zn (gk (gk (gk (gk y8)))) hb) (zK (cs':=[.int .u8 (((l0.items).getD (IntKind.wrap .i64 ((n2:Int) - (1:Int))).toNat default).dot.actor.rep),.int .u32 (((l0.items).getD (IntKind.wrap .i64 ((n2:Int) - (1:Int))).toNat default).dot.actor.inc),.int .u64 (((l0.items).getD (IntKind.wrap .i64 ((n2:Int) - (1:Int))).toNat default).dot.seq)]) ty41.choose_spec.2 rfl rfl) (zb rfl)) (sk (sk (sk (sk yu)))) ?_
     refine zr rfl rfl (fun hb=>zj rfl fo49x0 yD rfl) (sk (sk (sk (sk xg)))) ?_
     refine zr rfl rfl (fun hb=>zA rfl qx (zn (gk (gk (gk (gk yD)))) hb) rfl (zt rfl) (zb rfl)) (sk (sk (sk (sk xn)))) ?_
     refine zr rfl rfl (fun hb=>zj rfl fo49x1 yD rfl) (sk (sk (sk (sk xJ)))) ?_
     refine zr rfl rfl (fun hb=>zA rfl ty41.choose_spec.1 (zn (gk (gk (gk (gk xl)))) hb) rfl (zK (cs':=[.int .u8 x2.dot.actor.rep,.int .u32 x2.dot.actor.inc,.int .u64 x2.dot.seq]) ty41.choose_spec.2 rfl rfl) (zb rfl)) (sk (sk (sk (sk xM)))) ?_
     refine yO hF (fun v48 hv48 hF=>?_)
     refine wp rfl rfl (fun hb=>zF rfl rfl rfl (zp (zn (gk (gk (gk vj))) hb) (zp (zn (gk (gk (gk (gk yz)))) hb) (zp (zn (gk (gk (gk (gk yS)))) hb) (zp (zn (gk (gk (gk (gk xc)))) hb) zx)))) (.cons (zb rfl) (.cons (zb rfl) (.cons (zb rfl) (.cons (zb rfl) .nil))))) (fun hb=>ok70 (hv48 hb)) (sk (sk (sk (sk wv)))) ?_
     refine zr rfl rfl (fun hb=>xF rfl (zn (gk (gk (gk (gk xy)))) hb) rfl) (sk (sk (sk (sk yF)))) ?_
     refine zo rfl rfl (zM rfl (gk (gk (gk vn))) (gk (gk (gk (gk yv)))) rfl (zV (fun ht=>gT ht))) (sk (sk (sk (sk yL)))) ?_
     refine yh ?_
     refine zi ?_
     refine zL (gk (gk (gk (gk yA)))) hF (fun hc49 hF=>?_) (fun hc49 hF=>?_)
     ·refine zk (zd ?_)
      refine zc rfl (zg rfl rfl (zb rfl)) yU ?_
      refine ze (zi (zH ?_))
      refine zC ?_
      refine zw ?_
      refine yb ?_
      obtain rfl:=Option.some.inj hF
      replace hF:=hK2
      refine zC ?_
      refine zw ?_
      obtain rfl:=Option.some.inj hF
      refine zz rfl (zD yT zE) (zB (leV.refl _) rfl ?_)
      exact ⟨rfl,rfl⟩
     ·refine zG (yc (zi (zd ?_)))
      refine zc rfl (zf rfl yz (zb rfl)) (sk (sk yF)) ?_
      refine zc rfl (zy rfl (gk (gk yv)) rfl rfl) (sk (sk yL)) ?_
      refine zc rfl (zg rfl (gk (gk yA)) (zb rfl)) yu ?_
      refine ze (yp ?_)
      obtain rfl:=Option.some.inj hF
      exact ⟨(),hl2,hK2,wk.trans (wk.le (by exact (.drop (.eq (.drop (.drop (.cons (leV.of_eq (wn (by omega) (by omega))) (.d16 (.d16 (.d16 (.d16 (.d16 (.d16 (.d16 (.d16 (.d16 (.d16 (.d16 (.d16 (.d4 (.d4 leL.nil))))))))))))))))))))) (vG (by simp [yj,AV.low]) rfl rfl (by simp [Blk.low,yj,AV.low]))⟩
   ·refine yx ?_
    refine zW ?_
    refine zP ?_
    refine zQ ?_
    refine zi (zk (zk (zd ?_)))
    refine zc rfl (zg rfl rfl (zb rfl)) xn ?_
    refine ze (zi (zJ ?_))
    refine yi (fun (n3:Nat) (s3:Unit)=>yr [0,2,3,4,5,7,8,9,10,11,12,13,14,15,16,17,18,19,20,21,22,23,24,25,26,27,28,29,30,31,32,33,34,35,36,37,38,39,40,41,42,43,44,45,46,47,48,49,50,51,52,53,54,55,56,57,58,59,60,61,62,63,64,65,66,67,68,69,70,71,72,73,74,75,76,77,78,79,80,81,82,83,84,85,86,87,88,89,90,91,92,93,94,95,96,97,98,99,100,101,102,103,104,105,106,107,108,109,110,111,112,113,114,115,116,117,118,119,120,121,122,123,124,125,126,127,128,129,130,131,132,133,134,135,136,137,138,139,140,141,142,143,144,145,146,147,148,149,150,151,152,153,154,155,156,157,158,159,160,161,162,163,164,165,166,167,168,169,170,171,172,173,174,175,176,177,178,179,180,181,182,183,184,185,186,187,188,189,190,191,192,193,194,195,196,197,198,199,200,201,202,203,204] [(6,.int .i64 (n3:Int))]) (fun s3=>h.ext [.cells [.int .u8 l0.typ,.int .i64 l0.n,.int .u64 l0.time,.int .u8 l0.dot.actor.rep,.int .u32 l0.dot.actor.inc,.int .u64 l0.dot.seq,.str l0.text,.sl 5 (l0.items.map GItem.row),.sl 3 (l0.tombs.map GDot.row)],.cells [.int .u8 (0:Int),.int .u32 (0:Int),.int .u64 (0:Int)]] []) hF (fun _ _=>by simp only [yr,qN,List.set_cons_succ,List.set_cons_zero];try rfl) (wk.le (by exact (.drop (.eq (.d4 (.cons (leV.of_eq rfl) (.d16 (.d16 (.d16 (.d16 (.d16 (.d16 (.d16 (.d16 (.d16 (.d16 (.d16 (.d16 (.d4 (.drop (.drop leL.nil))))))))))))))))))))) ?_
    intro n3 s3 hi3 hF
    refine zk (zk (zd ?_))
    refine zc rfl (zf rfl yS (zb rfl)) (sk (sk (sk (sk yQ)))) ?_
    refine zc rfl (zj rfl wx yw rfl) (sk (sk (sk (sk yW)))) ?_
    refine zc rfl (zA rfl ty43 (gk (gk (gk (gk yN)))) rfl (zt rfl) (zb rfl)) (sk (sk (sk (sk y3)))) ?_
    refine zZ rfl (zO rfl rfl rfl rfl vY (gk (gk (gk (gk y6)))) ya) (sk (sk (sk (sk y2)))) fun hn72=>?_
    replace hn72:=y9 hn72
    refine zc rfl (zy rfl (gk (gk (gk (gk yK)))) (gk (gk (gk (gk yR)))) rfl) (sk (sk (sk (sk xd)))) ?_
    refine ze (zi ?_)
    refine yo (gk (gk (gk (gk xb)))) hF (fun x3 o3 hl3 hx3 hF hK3=>?_) (fun hF=>?_)
    ·refine zG (zi (zk (zJ (zk ?_))))
     refine yk [5] [] trivial mixed (by kernel_rfl) ?_
     refine zo rfl rfl (zj rfl wx yw rfl) (sk (sk (sk (sk xE)))) ?_
     refine zo rfl rfl (zA rfl ty43 (gk (gk (gk (gk xH)))) rfl (zt rfl) (zb rfl)) (sk (sk (sk (sk xR)))) ?_
     refine zo rfl rfl (zf rfl yS (zb rfl)) (sk (sk (sk (sk xY)))) ?_
     refine zo rfl rfl (yg rfl vY (gk (gk (gk (gk xO)))) (gk (gk (gk (gk xV)))) xZ (yn hx3)) (sk (sk (sk (sk x7)))) ?_
     refine zo rfl rfl (zX rfl ty41.choose_spec.1 (gk (gk (gk (gk x9)))) (zK (cs':=[.int .u8 x3.actor.rep,.int .u32 x3.actor.inc,.int .u64 x3.seq]) ty41.choose_spec.2 rfl rfl) (zb rfl)) (sk (sk (sk (sk xQ)))) ?_
     refine zU hF (fun v73 hv73 hF=>?_)
     refine yC rfl rfl (fun _=>zF rfl rfl rfl (zp (gk (gk (gk (gk xB)))) zx) (.cons (zb rfl) .nil)) (by rintro _ ⟨B2,T2,rfl,hk2⟩;exact ok67 hv73) (sk (sk (sk (sk wc)))) ?_
     refine zo rfl rfl (xF rfl (gk (gk (gk (gk wg)))) rfl) (sk (sk (sk (sk wb)))) ?_
     refine zo rfl rfl (zf rfl (gk (gk (gk (gk x4)))) (zb rfl)) (sk (sk (sk (sk wJ)))) ?_
     refine zr rfl rfl (fun hb=>zf rfl yS (zb rfl)) (sk (sk (sk (sk wR)))) ?_
     refine zr rfl rfl (fun hb=>zy rfl (zn (gk (gk (gk (gk wU)))) hb) rfl rfl) (sk (sk (sk (sk wZ)))) ?_
     refine zr rfl rfl (fun hb=>zf rfl (zn (gk (gk (gk (gk w6)))) hb) (zb rfl)) (sk (sk (sk (sk vf)))) ?_
     refine zr rfl (z7 rfl rfl rfl) (fun hb=>zj rfl wx yw rfl) (sk (sk (sk (sk ve)))) ?_
     refine zr rfl (z7 rfl rfl rfl) (fun hb=>zA rfl ty43 (zn (gk (gk (gk (gk vn)))) hb) rfl (zt rfl) (zb rfl)) (sk (sk (sk (sk vd)))) ?_
     refine zr rfl (z7 rfl rfl rfl) (fun hb=>zf rfl yS (zb rfl)) (sk (sk (sk (sk vc)))) ?_
     refine zr rfl (z7 rfl rfl rfl) (fun hb=>zy rfl (zn (gk (gk (gk (gk w5)))) hb) rfl rfl) (sk (sk (sk (sk vu)))) ?_
     refine xe hF (fun hg74 hF=>?_)
     refine zr rfl (z7 rfl rfl rfl) (fun hb=>yH default rfl vY (zn (gk (gk (gk (gk vm)))) hb) (zn (gk (gk (gk (gk vA)))) hb) xZ (hg74 hb)) (sk (sk (sk (sk vt)))) ?_
     refine zr rfl (z7 rfl rfl rfl) (fun hb=>zX rfl ty41.choose_spec.1 (zn (gk (gk (gk (gk vl)))) hb) (zK (cs':=[.int .u8 (((l0.tombs).getD (IntKind.wrap .i64 ((n3:Int) - (1:Int))).toNat default).actor.rep),.int .u32 (((l0.tombs).getD (IntKind.wrap .i64 ((n3:Int) - (1:Int))).toNat default).actor.inc),.int .u64 (((l0.tombs).getD (IntKind.wrap .i64 ((n3:Int) - (1:Int))).toNat default).seq)]) ty41.choose_spec.2 rfl rfl) (zb rfl)) (sk (sk (sk (sk vb)))) ?_
     refine zr rfl (z7 rfl rfl rfl) (fun hb=>zj rfl wx yw rfl) (sk (sk (sk (sk wQ)))) ?_
     refine zr rfl (z7 rfl rfl rfl) (fun hb=>zA rfl ty43 (zn (gk (gk (gk (gk wN)))) hb) rfl (zt rfl) (zb rfl)) (sk (sk (sk (sk va)))) ?_
     refine zr rfl (z7 rfl rfl rfl) (fun hb=>zf rfl yS (zb rfl)) (sk (sk (sk (sk vE)))) ?_
     refine xe hF (fun hg75 hF=>?_)
     refine zr rfl (z7 rfl rfl rfl) (fun hb=>yH default rfl vY (zn (gk (gk (gk (gk vj)))) hb) (zn (gk (gk (gk (gk vz)))) hb) xZ (hg75 hb)) (sk (sk (sk (sk vJ)))) ?_
     refine zr rfl (z7 rfl rfl rfl) (fun hb=>zX rfl ty41.choose_spec.1 (zn (gk (gk (gk (gk vF)))) hb) (zK (cs':=[.int .u8 (((l0.tombs).getD (n3:Int).toNat default).actor.rep),.int .u32 (((l0.tombs).getD (n3:Int).toNat default).actor.inc),.int .u64 (((l0.tombs).getD (n3:Int).toNat default).seq)]) ty41.choose_spec.2 rfl rfl) (zb rfl)) (sk (sk (sk (sk (sk st0))))) ?_
     refine yO hF (fun v76 hv76 hF=>?_)
     refine wp rfl (z7 rfl rfl rfl) (fun hb=>zF rfl rfl rfl (zp (zn (gk (gk (gk (gk vk)))) hb) (zp (zn (gk (gk (gk (gk (gk yl))))) hb) zx)) (.cons (zb rfl) (.cons (zb rfl) .nil))) (fun hb=>ok71 (hv76 hb)) (sk (sk (sk (sk (sk st1))))) ?_
     refine zr rfl (z7 rfl rfl rfl) (fun hb=>xF rfl (zn (gk (gk (gk (gk (gk yw))))) hb) rfl) (sk (sk (sk (sk (sk yU))))) ?_
     refine zr rfl rfl (fun hb=>zM rfl (zn (gk (gk (gk (gk vo)))) hb) (gk (gk (gk (gk (gk yT))))) rfl (zV (fun ht=>gT2 hb ht))) (sk (sk (sk (sk (sk x5))))) ?_
     refine zo rfl rfl (zM rfl (gk (gk (gk (gk wF)))) rfl (gk (gk (gk (gk (gk y8))))) (yd (fun ht=>gF ht))) (sk (sk (sk (sk (sk yu))))) ?_
     refine yh ?_
     refine zi ?_
     refine zL (gk (gk (gk (gk (gk yz))))) hF (fun hc77 hF=>?_) (fun hc77 hF=>?_)
     ·refine zk (zd ?_)
      refine zc rfl (zg rfl rfl (zb rfl)) yU ?_
      refine ze (zi (zH ?_))
      refine zC ?_
      refine zw ?_
      refine yb ?_
      obtain rfl:=Option.some.inj hF
      replace hF:=hK3
      refine zC ?_
      refine zw ?_
      obtain rfl:=Option.some.inj hF
      refine zz rfl (zD yT zE) (zB (leV.refl _) rfl ?_)
      exact ⟨rfl,rfl⟩
     ·refine zG (yc (zi (zd ?_)))
      refine zc rfl (zf rfl yS (zb rfl)) (sk (sk (sk (sk xi)))) ?_
      refine zc rfl (zy rfl (gk (gk (gk (gk xj)))) rfl rfl) (sk (sk (sk (sk xr)))) ?_
      refine zc rfl (zg rfl (gk (gk (gk (gk xp)))) (zb rfl)) xn ?_
      refine ze (yp ?_)
      obtain rfl:=Option.some.inj hF
      exact ⟨(),hl3,hK3,wk.le (by exact (.drop (.eq (.d4 (.cons (leV.of_eq (wn (by omega) (by omega))) (.d16 (.d16 (.d16 (.d16 (.d16 (.d16 (.d16 (.d16 (.d16 (.d16 (.d16 (.d16 (.d4 (.drop (.drop leL.nil))))))))))))))))))))⟩
    ·refine yx ?_
     refine zW ?_
     refine zP ?_
     refine zQ ?_
     refine zi (zk (zd ?_))
     refine zc rfl (zg rfl rfl (zb rfl)) yU ?_
     refine ze (zi (zH ?_))
     obtain rfl:=Option.some.inj hF
     refine zz rfl (zD yT zE) (zB (leV.refl _) rfl ?_)
     exact ⟨rfl,rfl⟩
theorem ok40N (n:Nat):∀ {t0:(List GNode)} {deep1:Int} {res:Bool} {h:AH} , vN n t0 deep1=some res→Spec Try.prog 40 [.sl 3 (t0.map GNode.row),.int .i64 deep1] h (fun rr hh=>rr=.bool res∧hh=h):=by
 induction n with
 | zero=>intro t0 deep1 res h  hF;simp [vN] at hF
 | succ n ih =>
  intro t0 deep1 res h  hF
  unfold vN at hF
  refine zu Try.func40 rfl (by kernel_rfl) (env:=[.sl 3 (t0.map GNode.row),.int .i64 deep1,za,za,za,za,za,za,za,za,za,za,za,za,za,za,za,za,za,za,za,za,za,za,za,za,za,za,za,za,za,za,za,za,za,za,za,za,za,za,za,za,za,za,za,za,za,za,za,za,za,za,za,za,za,za,za,za,za,za,za,za,za,za,za,za,za,za,za,za,za,za,za,za,za,za,za,za,za,za,za,za,za,za,za,za,za,za,za,za,za,za,za,za,za]) (by rfl) ?_
  refine zk (zd ?_)
  refine zc rfl (zg rfl rfl (zb rfl)) yu ?_
  refine ze (zi (zk (zk (zd ?_))))
  refine zc rfl (zg rfl rfl (zb rfl)) xg ?_
  refine ze (zi (zJ ?_))
  refine yi (fun (n1:Nat) (s1:Unit)=>yr [2,3,4,6,7,8,9,10,11,12,13,14,15,16,17,18,19,20,21,22,23,24,25,26,27,28,29,30,31,32,33,34,35,36,37,38,39,40,41,42,43,44,45,46,47,48,49,50,51,52,53,54,55,56,57,58,59,60,61,62,63,64,65,66,67,68,69,70,71,72,73,74,75,76,77,78,79,80,81,82,83,84,85,86,87,88,89,90,91,92,93,94] [(5,.int .i64 (n1:Int))]) (fun s1=>h.ext [] []) hF (fun _ _=>by simp only [yr,qN,List.set_cons_succ,List.set_cons_zero];try rfl) (wk.le (by exact (.eq (.eq (.drop (.drop (.drop (.cons (leV.of_eq rfl) (.d16 (.d16 (.d16 (.d16 (.d16 (.d4 (.d4 (.drop leL.nil)))))))))))))))) ?_
  intro n1 s1 hi1 hF
  refine zk (zk (zd ?_))
  refine zc rfl (zf rfl yD (zb rfl)) xM ?_
  refine zc rfl (zf rfl yl (zb rfl)) wv ?_
  refine zZ rfl (zO rfl rfl rfl rfl yZ xy ya) yF fun hn30=>?_
  replace hn30:=y9 hn30
  refine zc rfl (zy rfl xc yv rfl) yL ?_
  refine ze (zi ?_)
  refine yo yA hF (fun x1 o1 hl1 hx1 hF hK1=>?_) (fun hF=>?_)
  ·refine zG (zi (zk (zJ (zk (zd ?_)))))
   refine zc rfl (zf rfl yl (zb rfl)) y3 ?_
   refine zc rfl (zf rfl yD (zb rfl)) y2 ?_
   refine zc rfl (xa rfl yZ y6 yR xZ (yn hx1) (GNode.row_eq _)) xd ?_
   refine zc rfl (zX rfl ty64.choose_spec.1 xb (zK (cs':=[.str x1.name,.sl 9 (x1.leaves.map GLeaf.row),.sl 3 (x1.subs.map GNode.row)]) ty64.choose_spec.2 rfl rfl) (zb rfl)) xi ?_
   refine zc rfl (wt (n:=0) rfl ze64 rfl) xn ?_
   refine zc rfl (yP (cs':=[.str x1.name,.sl 9 (x1.leaves.map GLeaf.row),.sl 3 (x1.subs.map GNode.row)]) rfl ty64.choose_spec.1 yS xj (zb rfl) rfl rfl rfl rfl rfl) rfl ?_
   refine ze (zi (zk (zk ?_)))
   refine yk [] [] trivial mixed (by kernel_rfl) ?_
   refine zo rfl rfl (zf rfl yw (zb rfl)) xr ?_
   refine zo rfl rfl (zy rfl xp rfl rfl) xE ?_
   refine zo rfl rfl (zf rfl xH (zb rfl)) xR ?_
   refine zr rfl rfl (fun hb=>zj rfl vX yS rfl) xY ?_
   refine zr rfl rfl (fun hb=>zA rfl qa (zn xV hb) rfl (zt rfl) (zb rfl)) x7 ?_
   refine yO hF (fun v31 hv31 hF=>?_)
   refine wp rfl rfl (fun hb=>zF rfl rfl rfl (zp (zn x9 hb) zx) (.cons (zb rfl) .nil)) (fun hb=>ok41 (hv31 hb)) xQ ?_
   refine zr rfl rfl (fun hb=>xF rfl (zn xB hb) rfl) wc ?_
   refine zo rfl rfl (zM rfl xO rfl wg (yd (fun ht=>gF ht))) wb ?_
   refine zo rfl rfl (zf rfl x4 (zb rfl)) wJ ?_
   refine zr rfl rfl (fun hb=>zf rfl yD (zb rfl)) wR ?_
   refine zr rfl rfl (fun hb=>zy rfl (zn wU hb) rfl rfl) wZ ?_
   refine zr rfl rfl (fun hb=>zf rfl (zn w6 hb) (zb rfl)) vf ?_
   refine zr rfl (z7 rfl rfl rfl) (fun hb=>zf rfl yl (zb rfl)) ve ?_
   refine zr rfl (z7 rfl rfl rfl) (fun hb=>zf rfl yD (zb rfl)) vd ?_
   refine zr rfl (z7 rfl rfl rfl) (fun hb=>zy rfl (zn vm hb) rfl rfl) vc ?_
   refine xe hF (fun hg32 hF=>?_)
   refine zr rfl (z7 rfl rfl rfl) (fun hb=>vL default rfl yZ (zn vn hb) (zn w5 hb) xZ (hg32 hb) (GNode.row_eq _)) vu ?_
   refine zr rfl (z7 rfl rfl rfl) (fun hb=>zj rfl vX (zn vA hb) rfl) vt ?_
   refine zr rfl (z7 rfl rfl rfl) (fun hb=>zX rfl qa (zn vl hb) (zt rfl) (zb rfl)) vb ?_
   refine zr rfl (z7 rfl rfl rfl) (fun hb=>zj rfl vX yS rfl) wQ ?_
   refine zr rfl (z7 rfl rfl rfl) (fun hb=>zA rfl qa (zn wN hb) rfl (zt rfl) (zb rfl)) va ?_
   refine zr rfl (z7 rfl rfl rfl) (fun hb=>zy rfl (zn vk hb) (zn vj hb) rfl) vE ?_
   refine zr rfl rfl (fun hb=>zM rfl (zn vo hb) vz rfl (zV (fun ht=>gT2 hb ht))) vJ ?_
   refine zo rfl rfl (zM rfl wF rfl vF (yd (fun ht=>gF ht))) (sk st0) ?_
   refine zo rfl rfl (zf rfl (gk yl) (zb rfl)) (sk st1) ?_
   refine zr rfl rfl (fun hb=>zj rfl xh yS rfl) (sk yU) ?_
   refine zr rfl rfl (fun hb=>zA rfl qb (zn (gk yT) hb) rfl (zt rfl) (zb rfl)) (sk x5) ?_
   refine draw_glen rfl rfl (fun hb=>zO rfl rfl rfl rfl wh (zn (gk y8) hb) ya) (sk yu) ?_
   refine zr rfl rfl (fun hb=>zy rfl (zn (gk yz) hb) rfl rfl) (sk xg) ?_
   refine zr rfl rfl (fun hb=>zf rfl (zn (gk yD) hb) (zb rfl)) (sk xn) ?_
   refine zr rfl (z7 rfl rfl rfl) (fun hb=>zj rfl qE yS rfl) (sk xJ) ?_
   refine zr rfl (z7 rfl rfl rfl) (fun hb=>zA rfl ty23 (zn (gk xl) hb) rfl (zt rfl) (zb rfl)) (sk xM) ?_
   refine draw_glen rfl (z7 rfl rfl rfl) (fun hb=>zO rfl rfl rfl rfl yZ (zn (gk xc) hb) ya) (sk wv) ?_
   refine zr rfl (z7 rfl rfl rfl) (fun hb=>zy rfl (zn (gk xy) hb) rfl rfl) (sk yF) ?_
   refine zr rfl rfl (fun hb=>zM rfl (zn (gk yS) hb) (gk yv) rfl (zV (fun ht=>gT2 hb ht))) (sk yL) ?_
   refine zo rfl rfl (zM rfl (gk yw) rfl (gk yA) (yd (fun ht=>gF ht))) (sk yQ) ?_
   refine zo rfl rfl (zf rfl (gk yK) (zb rfl)) (sk yW) ?_
   refine zr rfl rfl (fun hb=>zj rfl qE yS rfl) (sk y3) ?_
   refine zr rfl rfl (fun hb=>zA rfl ty23 (zn (gk y6) hb) rfl (zt rfl) (zb rfl)) (sk y2) ?_
   refine zr rfl rfl (fun hb=>zf rfl yw (zb rfl)) (sk xd) ?_
   refine zr rfl rfl (fun hb=>zy rfl (zn (gk xb) hb) rfl rfl) (sk xi) ?_
   refine yO hF (fun v35 hv35 hF=>?_)
   refine wp rfl rfl (fun hb=>zF rfl rfl rfl (zp (zn (gk yR) hb) (zp (zn (gk xj) hb) zx)) (.cons (zb rfl) (.cons (zb rfl) .nil))) (fun hb=>ih (hv35 hb)) (sk xr) ?_
   refine zr rfl rfl (fun hb=>xF rfl (zn (gk xp) hb) rfl) (sk xE) ?_
   refine zo rfl rfl (zM rfl (gk yN) rfl (gk xH) (yd (fun ht=>gF ht))) (sk xR) ?_
   refine yh ?_
   refine zi ?_
   refine zL (gk xO) hF (fun hc36 hF=>?_) (fun hc36 hF=>?_)
   ·refine zk (zd ?_)
    refine zc rfl (zg rfl rfl (zb rfl)) yu ?_
    refine ze (zi (zH (zw ?_)))
    refine zC ?_
    refine zw ?_
    refine yb ?_
    obtain rfl:=Option.some.inj hF
    replace hF:=hK1
    refine zC ?_
    refine zw ?_
    obtain rfl:=Option.some.inj hF
    refine zz rfl (zD yz zE) (zB (leV.refl _) rfl ?_)
    exact ⟨rfl,rfl⟩
   ·refine zG (zi (zk (zd ?_)))
    refine zc rfl (zg rfl rfl (zb rfl)) xJ ?_
    refine ze (zi (zJ ?_))
    refine yi (fun (n2:Nat) (s2:Unit)=>yr [2,3,4,8,9,10,11,12,13,14,15,16,17,18,19,20,21,22,23,24,25,26,27,28,29,30,31,32,33,34,35,36,37,38,39,40,41,42,43,44,45,46,47,48,49,50,51,52,53,54,55,56,57,58,59,60,61,62,63,64,65,66,67,68,69,70,71,72,73,74,75,76,77,78,79,80,81,82,83,84,85,86,87,88,89,90,91,92,93,94] [(7,.int .i64 (n2:Int))]) (fun s2=>h.ext [.cells [.str x1.name,.sl 9 (x1.leaves.map GLeaf.row),.sl 3 (x1.subs.map GNode.row)]] []) hF (fun _ _=>by simp only [yr,qN,List.set_cons_succ,List.set_cons_zero];try rfl) (wk.le (by exact (.eq (.eq (.drop (.drop (.drop (.eq (.eq (.cons (leV.of_eq rfl) (.d16 (.d16 (.d16 (.d16 (.d16 (.d4 (.drop (.drop (.drop leL.nil))))))))))))))))))) ?_
    intro n2 s2 hi2 hF
    refine zk (zk (zd ?_))
    refine zc rfl (zf rfl xl (zb rfl)) (sk xY) ?_
    refine zc rfl (zj rfl xh yS rfl) (sk x7) ?_
    refine zc rfl (zA rfl qb (gk x9) rfl (zt rfl) (zb rfl)) (sk xQ) ?_
    refine zZ rfl (zO rfl rfl rfl rfl wh (gk xB) ya) (sk wc) fun hn49=>?_
    replace hn49:=y9 hn49
    refine zc rfl (zy rfl (gk xV) (gk wg) rfl) (sk wb) ?_
    refine ze (zi ?_)
    refine yo (gk x4) hF (fun x2 o2 hl2 hx2 hF hK2=>?_) (fun hF=>?_)
    ·refine zG (zi (zk (zJ (zk ?_))))
     refine yk [5] [] trivial mixed (by kernel_rfl) ?_
     refine zo rfl rfl (zj rfl xh yS rfl) (sk wZ) ?_
     refine zo rfl rfl (zA rfl qb (gk w6) rfl (zt rfl) (zb rfl)) (sk vf) ?_
     refine zo rfl rfl (zf rfl xl (zb rfl)) (sk ve) ?_
     refine zo rfl rfl (yg rfl wh (gk vo) (gk vn) xZ (yn hx2)) (sk vd) ?_
     refine zo rfl rfl (zX rfl ty45.choose_spec.1 (gk vm) (zK (cs':=[.int .u8 x2.typ,.int .i64 x2.n,.int .u64 x2.time,.int .u8 x2.dot.actor.rep,.int .u32 x2.dot.actor.inc,.int .u64 x2.dot.seq,.str x2.text,.sl 5 (x2.items.map GItem.row),.sl 3 (x2.tombs.map GDot.row)]) ty45.choose_spec.2 rfl rfl) (zb rfl)) (sk vc) ?_
     refine zU hF (fun v50 hv50 hF=>?_)
     refine yC rfl rfl (fun _=>zF rfl rfl rfl (zp (gk w5) zx) (.cons (zb rfl) .nil)) (by rintro _ ⟨B2,T2,rfl,hk2⟩;exact ok57 hv50) (sk vu) ?_
     refine zo rfl rfl (xF rfl (gk vA) rfl) (sk vt) ?_
     refine zo rfl rfl (zf rfl (gk vl) (zb rfl)) (sk vb) ?_
     refine zr rfl rfl (fun hb=>zf rfl xl (zb rfl)) (sk wQ) ?_
     refine zr rfl rfl (fun hb=>zy rfl (zn (gk wN) hb) rfl rfl) (sk va) ?_
     refine zr rfl rfl (fun hb=>zf rfl (zn (gk vj) hb) (zb rfl)) (sk vE) ?_
     refine zr rfl (z7 rfl rfl rfl) (fun hb=>zj rfl xh yS rfl) (sk vJ) ?_
     refine zr rfl (z7 rfl rfl rfl) (fun hb=>zA rfl qb (zn (gk vF) hb) rfl (zt rfl) (zb rfl)) (sk (sk st0)) ?_
     refine zr rfl (z7 rfl rfl rfl) (fun hb=>zf rfl xl (zb rfl)) (sk (sk st1)) ?_
     refine zr rfl (z7 rfl rfl rfl) (fun hb=>zy rfl (zn (gk (gk yw)) hb) rfl rfl) (sk (sk yU)) ?_
     refine xe hF (fun hg51 hF=>?_)
     refine zr rfl (z7 rfl rfl rfl) (fun hb=>yH default rfl wh (zn (gk (gk yl)) hb) (zn (gk (gk yT)) hb) xZ (hg51 hb)) (sk (sk x5)) ?_
     refine zr rfl (z7 rfl rfl rfl) (fun hb=>zj rfl wy (zn (gk (gk y8)) hb) rfl) (sk (sk yu)) ?_
     refine zr rfl (z7 rfl rfl rfl) (fun hb=>zX rfl ty5 (zn (gk (gk yz)) hb) (zt rfl) (zb rfl)) (sk (sk xg)) ?_
     refine zr rfl (z7 rfl rfl rfl) (fun hb=>zj rfl xh yS rfl) (sk (sk xn)) ?_
     refine zr rfl (z7 rfl rfl rfl) (fun hb=>zA rfl qb (zn (gk (gk yS)) hb) rfl (zt rfl) (zb rfl)) (sk (sk xJ)) ?_
     refine zr rfl (z7 rfl rfl rfl) (fun hb=>zf rfl xl (zb rfl)) (sk (sk xM)) ?_
     refine xe hF (fun hg52 hF=>?_)
     refine zr rfl (z7 rfl rfl rfl) (fun hb=>yH default rfl wh (zn (gk (gk xl)) hb) (zn (gk (gk xc)) hb) xZ (hg52 hb)) (sk (sk wv)) ?_
     refine zr rfl (z7 rfl rfl rfl) (fun hb=>zj rfl wy (zn (gk (gk xy)) hb) rfl) (sk (sk yF)) ?_
     refine zr rfl (z7 rfl rfl rfl) (fun hb=>zX rfl ty5 (zn (gk (gk yv)) hb) (zt rfl) (zb rfl)) (sk (sk yL)) ?_
     refine zr rfl (z7 rfl rfl rfl) (fun hb=>zy rfl (zn (gk (gk yD)) hb) (zn (gk (gk yA)) hb) rfl) (sk (sk yQ)) ?_
     refine zr rfl rfl (fun hb=>zM rfl (zn (gk vz) hb) (gk (gk yK)) rfl (zV (fun ht=>gT2 hb ht))) (sk (sk yW)) ?_
     refine zo rfl rfl (zM rfl (gk vk) rfl (gk (gk yN)) (yd (fun ht=>gF ht))) (sk (sk y3)) ?_
     refine yh ?_
     refine zi ?_
     refine zL (gk (gk y6)) hF (fun hc53 hF=>?_) (fun hc53 hF=>?_)
     ·refine zk (zd ?_)
      refine zc rfl (zg rfl rfl (zb rfl)) yu ?_
      refine ze (zi (zH ?_))
      refine zC ?_
      refine zw ?_
      refine yb ?_
      obtain rfl:=Option.some.inj hF
      replace hF:=hK2
      refine zC ?_
      refine zC ?_
      refine zw ?_
      refine yb ?_
      obtain rfl:=Option.some.inj hF
      replace hF:=hK1
      refine zC ?_
      refine zw ?_
      obtain rfl:=Option.some.inj hF
      refine zz rfl (zD yz zE) (zB (leV.refl _) rfl ?_)
      exact ⟨rfl,rfl⟩
     ·refine zG (yc (zi (zd ?_)))
      refine zc rfl (zf rfl xl (zb rfl)) (sk wJ) ?_
      refine zc rfl (zy rfl (gk wF) rfl rfl) (sk wR) ?_
      refine zc rfl (zg rfl (gk wU) (zb rfl)) xJ ?_
      refine ze (yp ?_)
      obtain rfl:=Option.some.inj hF
      exact ⟨(),hl2,hK2,wk.le (by exact (.eq (.eq (.drop (.drop (.drop (.eq (.eq (.cons (leV.of_eq (wn (by omega) (by omega))) (.d16 (.d16 (.d16 (.d16 (.d16 (.d4 (.drop (.drop (.drop leL.nil))))))))))))))))))⟩
    ·refine yx ?_
     refine zW ?_
     refine zP ?_
     refine zQ ?_
     refine yc (zi (zd ?_))
     refine zc rfl (zf rfl yD (zb rfl)) yQ ?_
     refine zc rfl (zy rfl yK rfl rfl) yW ?_
     refine zc rfl (zg rfl yN (zb rfl)) xg ?_
     refine ze (yp ?_)
     obtain rfl:=Option.some.inj hF
     exact ⟨(),hl1,hK1,wk.trans (wk.le (by exact (.eq (.eq (.drop (.drop (.drop (.cons (leV.of_eq (wn (by omega) (by omega))) (.d16 (.d16 (.d16 (.d16 (.d16 (.d4 (.d4 (.drop leL.nil)))))))))))))))) (vG (by simp [yj,AV.low]) rfl rfl (by simp [Blk.low,yj,AV.low]))⟩
  ·refine yx ?_
   refine zW ?_
   refine zP ?_
   refine zQ ?_
   refine zi (zk (zd ?_))
   refine zc rfl (zg rfl rfl (zb rfl)) yu ?_
   refine ze (zi (zH ?_))
   obtain rfl:=Option.some.inj hF
   refine zz rfl (zD yz zE) (zB (leV.refl _) rfl ?_)
   exact ⟨rfl,rfl⟩
theorem ok40 {t0:(List GNode)} {deep1:Int} {res:Bool} {h:AH}  (hF:ref07Xmay t0 deep1=some res):Spec Try.prog 40 [.sl 3 (t0.map GNode.row),.int .i64 deep1] h (fun rr hh=>rr=.bool res∧hh=h):=by
 obtain ⟨n,hn⟩:=q9 hF
 exact ok40N n  hn
theorem ok21 {t0:(List GNode)} {res:Bool} {h:AH}  (hF:ref07May t0=some res):Spec Try.prog 21 [.sl 3 (t0.map GNode.row)] h (fun rr hh=>rr=.bool res∧hh=h):=by
 unfold ref07May at hF
 refine zu Try.func21 rfl (by kernel_rfl) (env:=[.sl 3 (t0.map GNode.row),za,za,za,za]) (by rfl) ?_
 refine zk (zd ?_)
 refine zc rfl (zg rfl rfl (zb rfl)) yU ?_
 refine ze (zi (zk (zd ?_)))
 refine zc rfl (zf rfl yl (zb rfl)) x5 ?_
 refine zU hF (fun v1 hv1 hF=>?_)
 refine zN rfl (zF rfl rfl rfl (zp y8 (zp rfl zx)) (.cons (zb rfl) (.cons (zb rfl) .nil))) (ok40 hv1) yu ?_
 refine zc rfl (zg rfl yz (zb rfl)) yU ?_
 refine ze (zi (zH ?_))
 obtain rfl:=Option.some.inj hF
 refine zz rfl (zD yT zE) (zB (leV.refl _) rfl ?_)
 exact ⟨rfl,rfl⟩
theorem ok30N (n:Nat):∀ {t0:(List GNode)} {ahead1:(List zR)} {res:(List GVarveref07Row)} {h:AH} , vg n t0 ahead1=some res→Spec Try.prog 30 [.sl 3 (t0.map GNode.row),.sl 1 (ahead1.map zI)] h (fun rr hh=>rr=.sl 10 (res.map GVarveref07Row.row)∧hh=h):=by
 induction n with
 | zero=>intro t0 ahead1 res h  hF;simp [vg] at hF
 | succ n ih =>
  intro t0 ahead1 res h  hF
  unfold vg at hF
  refine zu Try.func30 rfl (by kernel_rfl) (env:=[.sl 3 (t0.map GNode.row),.sl 1 (ahead1.map zI),za,za,za,za,za,za,za,za,za,za,za,za,za,za,za,za,za,za,za,za,za,za,za,za,za,za,za,za,za,za,za,za,za,za,za,za,za,za,za,za,za,za,za,za,za,za,za,za,za,za,za,za,za,za,za,za]) (by rfl) ?_
  refine zk (zd ?_)
  refine zc rfl (zg rfl rfl (yE el66)) yu ?_
  refine ze (zi (zk (zd ?_)))
  refine zc rfl (zg rfl rfl (yE el66)) xg ?_
  refine ze (zi (zk (zk (zd ?_))))
  refine zc rfl (zg rfl rfl (zb rfl)) xn ?_
  refine ze (zi (zJ ?_))
  refine yi (fun (n1:Nat) (s1:(List GVarveref07Row))=>yr [2,3,4,7,8,9,10,11,12,13,14,15,16,17,18,19,20,21,22,23,24,25,26,27,28,29,30,31,32,33,34,35,36,37,38,39,40,41,42,43,44,45,46,47,48,49,50,51,52,53,54,55,56,57] [(5,.osl (some (h.toks.length+0)) 10 (s1.map GVarveref07Row.row)),(6,.int .i64 (n1:Int))]) (fun s1=>h.ext [] [(s1).length]) hF (fun _ _=>by simp only [yr,qN,List.set_cons_succ,List.set_cons_zero];try rfl) (wk.trans (wk_tok yD rfl xg rfl) (wk.le (by exact (.eq (.eq (.drop (.drop (.drop (.cons (leV.of_eq rfl) (.cons (leV.of_eq rfl) (.d16 (.d16 (.d16 (.drop (.drop (.drop leL.nil)))))))))))))))) ?_
  intro n1 s1 hi1 hF
  refine zk (zk (zd ?_))
  refine zc rfl (zf rfl yS (zb rfl)) wv ?_
  refine zc rfl (zf rfl yl (zb rfl)) yF ?_
  refine zZ rfl (zO rfl rfl rfl rfl yZ yv ya) yL fun hn32=>?_
  replace hn32:=y9 hn32
  refine zc rfl (zy rfl xy yA rfl) yQ ?_
  refine ze (zi ?_)
  refine yo yK hF (fun x1 o1 hl1 hx1 hF hK1=>?_) (fun hF=>?_)
  ·refine zG (zi (zk (zJ (zk ?_))))
   refine yk [] [] trivial mixed (by kernel_rfl) ?_
   refine zo rfl rfl (z8 (es:=([]:List zR).map zI) rfl yG ze9 rfl rfl ye .nil rfl rfl rfl) y2 ?_
   refine zo rfl rfl (zf rfl yw (zb rfl)) xd ?_
   refine xe hF (fun hm33 hF=>?_)
   refine xW rfl FOk.nil (by rfl) rfl (e_appN (m:=1) (T':=[(s1).length,((([]:List zR)++ahead1)).length]) rfl rfl rfl rfl yG yG yR xb (zb rfl) (zb rfl) vV hm33 rfl rfl) xi ?_
   refine zo rfl rfl (zf rfl yl (zb rfl)) xr ?_
   refine zo rfl rfl (zf rfl yS (zb rfl)) xE ?_
   refine zo rfl rfl (xa rfl yZ xp xH xZ (yn hx1) (GNode.row_eq _)) xR ?_
   refine zo rfl rfl (zj rfl vX xO rfl) xY ?_
   refine zo rfl rfl (zX rfl qa xV (zt rfl) (zb rfl)) x7 ?_
   refine zo rfl rfl (z8 (es:=([x1.name]:List zR).map zI) rfl yG ze9 rfl rfl (zY x9 ye) (.cons (zb rfl) .nil) rfl rfl rfl) xQ ?_
   refine xe hF (fun hm34 hF=>?_)
   refine xW rfl FOk.nil (by rfl) rfl (wz (j:=1) (T':=[(s1).length,(((([]:List zR)++ahead1)++([x1.name]:List zR))).length]) rfl rfl rfl rfl yG yG xj xB (zb rfl) (zb rfl) xG hm34 rfl rfl) wc ?_
   refine zo rfl rfl (zg rfl wg (zb rfl)) xJ ?_
   refine yh ?_
   refine zi (zk (zk (zd ?_)))
   refine zc rfl (zg rfl rfl (zb rfl)) xM ?_
   refine ze (zi (zJ ?_))
   refine yi (fun (n2:Nat) (s2:(List GVarveref07Row))=>yr [2,3,4,9,10,11,12,13,14,15,16,17,18,19,20,21,22,23,24,25,26,27,28,29,30,31,32,33,34,35,36,37,38,39,40,41,42,43,44,45,46,47,48,49,50,51,52,53,54,55,56,57] [(5,.osl (some (h.toks.length+0)) 10 (s2.map GVarveref07Row.row)),(8,.int .i64 (n2:Int))]) (fun s2=>h.ext [] [(s2).length,(((([]:List zR)++ahead1)++([x1.name]:List zR))).length]) hF (fun _ _=>by simp only [yr,qN,List.set_cons_succ,List.set_cons_zero];try rfl) (wk.le (by exact (.eq (.eq (.drop (.drop (.drop (.cons (leV.of_eq rfl) (.eq (.eq (.cons (leV.of_eq rfl) (.d16 (.d16 (.d16 (.drop leL.nil))))))))))))))) ?_
   intro n2 s2 hi2 hF
   refine zk (zk (zd ?_))
   refine zc rfl (zf rfl xc (zb rfl)) wb ?_
   refine zc rfl (zf rfl yl (zb rfl)) wJ ?_
   refine zc rfl (zf rfl yS (zb rfl)) wR ?_
   refine zc rfl (xa rfl yZ wF wU xZ (yn hx1) (GNode.row_eq _)) wZ ?_
   refine zc rfl (zj rfl xh w6 rfl) vf ?_
   refine zc rfl (zX rfl qb vo (zt rfl) (zb rfl)) ve ?_
   refine zZ rfl (zO rfl rfl rfl rfl wh vn ya) vd fun hn42=>?_
   replace hn42:=y9 hn42
   refine zc rfl (zy rfl x4 vm rfl) vc ?_
   refine ze (zi ?_)
   refine yo w5 hF (fun x2 o2 hl2 hx2 hF hK2=>?_) (fun hF=>?_)
   ·refine zG (zi (zk (zJ (zd ?_))))
    refine zc rfl (zf rfl yD (zb rfl)) vb ?_
    refine zc rfl (zf rfl xl (zb rfl)) wQ ?_
    refine zc rfl (zf rfl yl (zb rfl)) va ?_
    refine zc rfl (zf rfl yS (zb rfl)) vE ?_
    refine zc rfl (xa rfl yZ vj vz xZ (yn hx1) (GNode.row_eq _)) vJ ?_
    refine zc rfl (zj rfl xh vF rfl) (sk st0) ?_
    refine zc rfl (zX rfl qb (gk yl) (zt rfl) (zb rfl)) (sk st1) ?_
    refine zc rfl (zf rfl xc (zb rfl)) (sk yU) ?_
    refine zc rfl (yg rfl wh (gk yw) (gk yT) xZ (yn hx2)) (sk x5) ?_
    refine zc rfl (zX rfl ty45.choose_spec.1 (gk y8) (zK (cs':=[.int .u8 x2.typ,.int .i64 x2.n,.int .u64 x2.time,.int .u8 x2.dot.actor.rep,.int .u32 x2.dot.actor.inc,.int .u64 x2.dot.seq,.str x2.text,.sl 5 (x2.items.map GItem.row),.sl 3 (x2.tombs.map GDot.row)]) ty45.choose_spec.2 rfl rfl) (zb rfl)) (sk yu) ?_
    refine zc rfl (s_build (cs':=[.osl (some (h.toks.length+1)) 1 (((([]:List zR)++ahead1)++([x1.name]:List zR)).map zI),.int .u8 x2.typ,.int .i64 x2.n,.int .u64 x2.time,.int .u8 x2.dot.actor.rep,.int .u32 x2.dot.actor.inc,.int .u64 x2.dot.seq,.str x2.text,.sl 5 (x2.items.map GItem.row),.sl 3 (x2.tombs.map GDot.row)]) rfl su69 ze69 pl69 (zY wN (zY (gk yz) ye)) (.cons (zb rfl) (.cons (zb rfl) .nil)) rfl rfl) (sk xg) ?_
    refine zc rfl (z8 (es:=([(GVarveref07Row.mk ((([]:List zR)++ahead1)++([x1.name]:List zR)) x2)]:List GVarveref07Row).map GVarveref07Row.row) rfl el66 ze69 rfl rfl (zY (gk yD) ye) (.cons (zb rfl) .nil) rfl rfl rfl) (sk xn) ?_
    refine xe hF (fun hm43 hF=>?_)
    refine zc rfl (wz (j:=0) (T':=[((s2++([(GVarveref07Row.mk ((([]:List zR)++ahead1)++([x1.name]:List zR)) x2)]:List GVarveref07Row))).length,(((([]:List zR)++ahead1)++([x1.name]:List zR))).length]) rfl rfl rfl rfl el66 el66 vk (gk yS) (zb rfl) (zb rfl) xG hm43 rfl rfl) (sk xJ) ?_
    refine zc rfl (zg rfl (gk xl) (zb rfl)) xg ?_
    refine ze (yc (zi (zd ?_)))
    refine zc rfl (zf rfl xc (zb rfl)) vu ?_
    refine zc rfl (zy rfl vA rfl rfl) vt ?_
    refine zc rfl (zg rfl vl (zb rfl)) xM ?_
    refine ze (yp ?_)
    obtain rfl:=Option.some.inj hF
    exact ⟨(s2++([(GVarveref07Row.mk ((([]:List zR)++ahead1)++([x1.name]:List zR)) x2)]:List GVarveref07Row)),hl2,hK2,wk.le (by exact (.eq (.eq (.drop (.drop (.drop (.cons (leV.of_eq rfl) (.eq (.eq (.cons (leV.of_eq (wn (by omega) (by omega))) (.d16 (.d16 (.d16 (.drop leL.nil))))))))))))))⟩
   ·refine yx ?_
    refine zW ?_
    refine zP ?_
    refine zQ ?_
    refine zi (zd ?_)
    refine zc rfl (zf rfl yD (zb rfl)) (sk xM) ?_
    refine zc rfl (zf rfl yl (zb rfl)) (sk wv) ?_
    refine zc rfl (zf rfl yS (zb rfl)) (sk yF) ?_
    refine zc rfl (xa rfl yZ (gk xy) (gk yv) xZ (yn hx1) (GNode.row_eq _)) (sk yL) ?_
    refine zc rfl (zj rfl qE (gk yA) rfl) (sk yQ) ?_
    refine zc rfl (zX rfl ty23 (gk yK) (zt rfl) (zb rfl)) (sk yW) ?_
    refine zc rfl (zf rfl xl (zb rfl)) (sk y3) ?_
    refine zU hF (fun v44 hv44 hF=>?_)
    refine zN rfl (zF rfl rfl rfl (zp (gk yN) (zp (gk y6) zx)) (.cons (zb rfl) (.cons (zb rfl) .nil))) ((ih hv44).le (.eq (.cons (leV.osl _ _ _) leL.nil))) (sk y2) ?_
    refine xe hF (fun hm45 hF=>?_)
    refine zc rfl (wz (j:=0) (T':=[((s2++v44)).length,(((([]:List zR)++ahead1)++([x1.name]:List zR))).length]) rfl rfl rfl rfl el66 el66 (gk xc) (gk yR) (zb rfl) (zb rfl) vV hm45 rfl rfl) (sk xd) ?_
    refine zc rfl (zg rfl (gk xb) (zb rfl)) xg ?_
    refine ze (yc (zi (zd ?_)))
    refine zc rfl (zf rfl yS (zb rfl)) yW ?_
    refine zc rfl (zy rfl yN rfl rfl) y3 ?_
    refine zc rfl (zg rfl y6 (zb rfl)) xn ?_
    refine ze (yp ?_)
    obtain rfl:=Option.some.inj hF
    exact ⟨(s2++v44),hl1,hK1,wk.trans (wk.le (by exact (.eq (.eq (.drop (.drop (.drop (.cons (leV.of_eq rfl) (.cons (leV.of_eq (wn (by omega) (by omega))) (.d16 (.d16 (.d16 (.drop (.drop (.drop leL.nil))))))))))))))) (vG (by simp [yj,AV.low]) rfl rfl (by simp [Blk.low,yj,AV.low]))⟩
  ·refine yx ?_
   refine zW ?_
   refine zP ?_
   refine zQ ?_
   refine zi (zk (zd ?_))
   refine zc rfl (zf rfl yD (zb rfl)) (sk xi) ?_
   refine zc rfl (zg rfl (gk xj) (zb rfl)) yu ?_
   refine ze (zi (zH ?_))
   obtain rfl:=Option.some.inj hF
   refine zz rfl (zD yz zE) (zB (leV.osl _ _ _) rfl ?_)
   exact ⟨rfl,rfl⟩
theorem ok30 {t0:(List GNode)} {ahead1:(List zR)} {res:(List GVarveref07Row)} {h:AH}  (hF:ref07Rows t0 ahead1=some res):Spec Try.prog 30 [.sl 3 (t0.map GNode.row),.sl 1 (ahead1.map zI)] h (fun rr hh=>rr=.sl 10 (res.map GVarveref07Row.row)∧hh=h):=by
 obtain ⟨n,hn⟩:=q9 hF
 exact ok30N n  hn
theorem ok13 {t0:(List GNode)} {res:(List GRow)} {h:AH}  (hF:qP t0=some res):Spec Try.prog 13 [.sl 3 (t0.map GNode.row)] h (fun rr hh=>rr=.sl 10 (res.map GRow.row)∧hh=h):=by
 unfold qP at hF
 refine zu Try.func13 rfl (by kernel_rfl) (env:=[.sl 3 (t0.map GNode.row),za,za,za,za,za,za,za,za,za,za,za,za,za,za,za,za,za,za,za,za,za,za,za,za,za,za,za,za,za,za,za,za]) (by rfl) ?_
 refine zk (zd ?_)
 refine zc rfl (zg rfl rfl (yE w7)) yU ?_
 refine ze (zi (zk (zd ?_)))
 refine zc rfl (zg rfl rfl (yE w7)) x5 ?_
 refine ze (zi (zk (zk (zd ?_))))
 refine zc rfl (zf rfl yl (zb rfl)) xn ?_
 refine zU hF (fun v1 hv1 hF=>?_)
 refine zN rfl (zF rfl rfl rfl (zp yS zx) (.cons (zb rfl) .nil)) (ok21 hv1) xJ ?_
 refine zc rfl (xF rfl xl rfl) xM ?_
 refine ze (zi ?_)
 refine zL xc hF (fun hc2 hF=>?_) (fun hc2 hF=>?_)
 ·refine zk (zd ?_)
  refine zc rfl (zf rfl y8 (zb rfl)) wv ?_
  refine zc rfl (zg rfl xy (zb rfl)) yU ?_
  refine ze (zi (zH (zw ?_)))
  obtain rfl:=Option.some.inj hF
  refine zz rfl (zD yT zE) (zB (leV.osl _ _ _) rfl ?_)
  exact ⟨rfl,rfl⟩
 ·refine zG (zi (zk (zd ?_)))
  refine zc rfl (zf rfl yl (zb rfl)) yF ?_
  refine zU hF (fun v3 hv3 hF=>?_)
  refine zN rfl (zF rfl rfl rfl (zp yv (zp rfl zx)) (.cons (zb rfl) (.cons (yE yG) .nil))) ((ok30 hv3).le (.eq (.cons (leV.osl _ _ _) leL.nil))) yL ?_
  refine zc rfl (zg rfl yA (zb rfl)) yu ?_
  refine ze (zi (zk (zk (zd ?_))))
  refine zc rfl (zg rfl rfl (zb rfl)) xg ?_
  refine ze (zi (zJ ?_))
  refine yi (fun (n1:Nat) (s1:(List GRow))=>yr [0,1,2,6,7,8,9,10,11,12,13,14,15,16,17,18,19,20,21,22,23,24,25,26,27,28,29,30,31,32] [(3,.osl (some (h.toks.length+0)) 10 (s1.map GRow.row)),(5,.int .i64 (n1:Int))]) (fun s1=>h.ext [] [(s1).length]) hF (fun _ _=>by simp only [yr,qN,List.set_cons_succ,List.set_cons_zero];try rfl) (wk.trans (wk_tok y8 rfl x5 rfl) (wk.le (by exact (.drop (.drop (.drop (.cons (leV.of_eq rfl) (.eq (.cons (leV.of_eq rfl) (.d16 (.d4 (.d4 (.drop (.drop (.drop leL.nil))))))))))))))) ?_
  intro n1 s1 hi1 hF
  refine zk (zk (zd ?_))
  refine zc rfl (zf rfl yD (zb rfl)) yQ ?_
  refine zc rfl (zf rfl yz (zb rfl)) yW ?_
  refine zZ rfl (zO rfl rfl rfl rfl el66 yN ya) y3 fun hn12=>?_
  replace hn12:=y9 hn12
  refine zc rfl (zy rfl yK y6 rfl) y2 ?_
  refine ze (zi ?_)
  refine yo yR hF (fun x1 o1 hl1 hx1 hF hK1=>?_) (fun hF=>?_)
  ·refine zG (zi (zk (zJ ?_)))
   refine yk [] [] trivial mixed (by kernel_rfl) ?_
   refine zo rfl rfl (zf rfl y8 (zb rfl)) xr ?_
   refine zo rfl rfl (zf rfl yz (zb rfl)) xE ?_
   refine zo rfl rfl (zf rfl yD (zb rfl)) xR ?_
   refine zo rfl rfl (yg rfl el66 xH xO xZ (yn hx1)) xY ?_
   refine zo rfl rfl (zj rfl fo69x0 xV rfl) x7 ?_
   refine zo rfl rfl (zX rfl ty24 x9 (zt rfl) (zb rfl)) xQ ?_
   refine zo rfl rfl (zf rfl yz (zb rfl)) wc ?_
   refine zo rfl rfl (zf rfl yD (zb rfl)) wb ?_
   refine zo rfl rfl (yg rfl el66 wg x4 xZ (yn hx1)) wJ ?_
   refine zo rfl rfl (zj rfl fo69x1 wF rfl) wR ?_
   refine zo rfl rfl (zX rfl ty45.choose_spec.1 wU (zK (cs':=[.int .u8 x1.l.typ,.int .i64 x1.l.n,.int .u64 x1.l.time,.int .u8 x1.l.dot.actor.rep,.int .u32 x1.l.dot.actor.inc,.int .u64 x1.l.dot.seq,.str x1.l.text,.sl 5 (x1.l.items.map GItem.row),.sl 3 (x1.l.tombs.map GDot.row)]) ty45.choose_spec.2 rfl rfl) (zb rfl)) wZ ?_
   refine zo rfl rfl (s_build (cs':=[.sl 1 (x1.path.map zI),.int .u8 x1.l.typ,.int .i64 x1.l.n,.int .u64 x1.l.time,.int .u8 x1.l.dot.actor.rep,.int .u32 x1.l.dot.actor.inc,.int .u64 x1.l.dot.seq,.str x1.l.text,.sl 5 (x1.l.items.map GItem.row),.sl 3 (x1.l.tombs.map GDot.row)]) rfl su47 ze47 pl47 (zY xB (zY w6 ye)) (.cons (zb rfl) (.cons (zb rfl) .nil)) rfl rfl) vf ?_
   refine zo rfl rfl (z8 (es:=([(GRow.mk x1.path x1.l)]:List GRow).map GRow.row) rfl w7 ze47 rfl rfl (zY vo ye) (.cons (zb rfl) .nil) rfl rfl rfl) ve ?_
   refine xe hF (fun hm13 hF=>?_)
   refine xW rfl FOk.nil (by rfl) rfl (wz (j:=0) (T':=[((s1++([(GRow.mk x1.path x1.l)]:List GRow))).length]) rfl rfl rfl rfl w7 w7 xp vn (zb rfl) (zb rfl) xG hm13 rfl rfl) vd ?_
   refine zo rfl rfl (zg rfl vm (zb rfl)) x5 ?_
   refine yh ?_
   refine yc (zi (zd ?_))
   refine zc rfl (zf rfl yD (zb rfl)) xd ?_
   refine zc rfl (zy rfl xb rfl rfl) xi ?_
   refine zc rfl (zg rfl xj (zb rfl)) xg ?_
   refine ze (yp ?_)
   obtain rfl:=Option.some.inj hF
   exact ⟨(s1++([(GRow.mk x1.path x1.l)]:List GRow)),hl1,hK1,wk.le (by exact (.drop (.drop (.drop (.cons (leV.of_eq rfl) (.eq (.cons (leV.of_eq (wn (by omega) (by omega))) (.d16 (.d4 (.d4 (.drop (.drop (.drop leL.nil)))))))))))))⟩
  ·refine yx ?_
   refine zW ?_
   refine zP ?_
   refine zQ ?_
   refine zi (zk (zd ?_))
   refine zc rfl (zf rfl y8 (zb rfl)) vc ?_
   refine zc rfl (zg rfl w5 (zb rfl)) yU ?_
   refine ze (zi (zH ?_))
   obtain rfl:=Option.some.inj hF
   refine zz rfl (zD yT zE) (zB (leV.osl _ _ _) rfl ?_)
   exact ⟨rfl,rfl⟩
theorem ok22 {p0:(List zR)} {res:Bool} {h:AH}  (hF:wC p0=some res):Spec Try.prog 22 [.sl 1 (p0.map zI)] h (fun rr hh=>rr=.bool res∧hh=h):=by
 unfold wC at hF
 refine zu Try.func22 rfl (by kernel_rfl) (env:=[.sl 1 (p0.map zI),za,za,za,za,za,za,za,za,za,za,za,za,za,za,za,za,za,za,za,za,za,za,za,za,za,za,za,za,za,za,za,za,za,za,za,za,za,za,za,za,za,za,za,za]) (by rfl) ?_
 refine zk (zd ?_)
 refine zc rfl (zg rfl rfl (zb rfl)) yU ?_
 refine ze (zi (zk (zd ?_)))
 refine zc rfl (zf rfl yl (zb rfl)) xg ?_
 refine zZ rfl (zO rfl rfl rfl rfl yG yD ya) xn fun hn1=>?_
 replace hn1:=y9 hn1
 refine zc rfl (zg rfl yS (zb rfl)) x5 ?_
 refine ze (zi (zk (zk (zd ?_))))
 refine zc rfl (zf rfl y8 (zb rfl)) xJ ?_
 refine zc rfl (zy rfl xl rfl rfl) xM ?_
 refine zc rfl (zf rfl xc (zb rfl)) wv ?_
 refine zq rfl (fun hb=>zf rfl yl (zb rfl)) yF ?_
 refine zq rfl (fun hb=>zf rfl y8 (zb rfl)) yL ?_
 refine zq rfl (fun hb=>zy rfl (zn yA hb) rfl rfl) yQ ?_
 refine xe hF (fun hg2 hF=>?_)
 refine zq rfl (fun hb=>yH default rfl yG (zn yv hb) (zn yK hb) xZ (hg2 hb)) yW ?_
 refine zq rfl (fun hb=>zX rfl qa (zn yN hb) (zt rfl) (zb rfl)) y3 ?_
 refine zq rfl (fun hb=>zy rfl (zn y6 hb) rfl rfl) y2 ?_
 refine zc rfl (zM rfl xy yR rfl (zV (fun ht=>gT ht))) xd ?_
 refine ze (zi ?_)
 refine zL xb hF (fun hc3 hF=>?_) (fun hc3 hF=>?_)
 ·refine zk (zd ?_)
  refine zc rfl (zf rfl y8 (zb rfl)) xi ?_
  refine zc rfl (zy rfl xj rfl rfl) xr ?_
  refine zc rfl (zg rfl xp (zb rfl)) x5 ?_
  refine ze (zi (zk (zd ?_)))
  refine zc rfl (zf rfl y8 (zb rfl)) xE ?_
  refine zc rfl (zy rfl xH rfl rfl) xR ?_
  refine ze (zi ?_)
  refine zL xO hF (fun hc4 hF=>?_) (fun hc4 hF=>?_)
  ·refine zk (zd ?_)
   refine zc rfl (zg rfl rfl (zb rfl)) yU ?_
   refine ze (zi (zH (zw ?_)))
   obtain rfl:=Option.some.inj hF
   refine zz rfl (zD yT zE) (zB (leV.refl _) rfl ?_)
   exact ⟨rfl,rfl⟩
  ·refine zG (zi (zk (zk (zd ?_))))
   refine zc rfl (zf rfl y8 (zb rfl)) xY ?_
   refine zc rfl (zy rfl xV rfl rfl) x7 ?_
   refine zc rfl (zf rfl x9 (zb rfl)) xQ ?_
   refine zq rfl (fun hb=>zf rfl y8 (zb rfl)) wc ?_
   refine zq rfl (fun hb=>zy rfl (zn wg hb) rfl rfl) wb ?_
   refine zc rfl (zM rfl xB rfl x4 (yd (fun ht=>gF ht))) wJ ?_
   refine ze (zi ?_)
   refine zL wF hF (fun hc5 hF=>?_) (fun hc5 hF=>?_)
   ·refine zk (zd ?_)
    refine zc rfl (zg rfl rfl (zb rfl)) yU ?_
    refine ze (zi (zH (zw ?_)))
    obtain rfl:=Option.some.inj hF
    refine zz rfl (zD yT zE) (zB (leV.refl _) rfl ?_)
    exact ⟨rfl,rfl⟩
   ·refine zG (zi (zk (zk (zd ?_))))
    refine zc rfl (zg rfl rfl (zb rfl)) yu ?_
    refine ze (zi (zJ ?_))
    refine xe hF (fun hR1 hF=>?_)
    refine yi (fun (n1:Nat) (s1:Unit)=>yr [1,2,5,6,7,8,9,10,11,12,13,14,15,16,17,18,19,20,21,22,23,24,25,26,27,28,29,30,31,32,33,34,35,36,37,38,39,40,41,42,43,44] [(4,.int .i64 (n1:Int))]) (fun s1=>h.ext [] []) hF (fun _ _=>by simp only [yr,qN,List.set_cons_succ,List.set_cons_zero];try rfl) (wk.le (by exact (.eq (.drop (.drop (.eq (.cons (leV.of_eq rfl) (.d16 (.d16 (.d4 (.d4 leL.nil))))))))))) ?_
    intro n1 s1 hi1 hF
    refine zk (zk (zd ?_))
    refine zc rfl (zf rfl yz (zb rfl)) wR ?_
    refine zc rfl (zf rfl y8 (zb rfl)) wZ ?_
    refine zc rfl (zy rfl wU w6 rfl) vf ?_
    refine ze (zi ?_)
    refine r_condR vo hF (fun x1 o1 hl1 hm1 hx1 hF hK1=>?_) (fun hF=>?_)
    ·refine zG (zi (zk (zJ (zk (zd ?_)))))
     refine zc rfl (zf rfl yl (zb rfl)) vc ?_
     refine zc rfl (zf rfl yz (zb rfl)) vu ?_
     refine zU hF (fun y12 hy12 hF=>?_)
     refine zc rfl (yg rfl yG w5 vA xZ hy12) vt ?_
     refine zc rfl (zX rfl qa vl (zt rfl) (zb rfl)) vb ?_
     refine zc rfl (zy rfl vk rfl rfl) wQ ?_
     refine zc rfl (zf rfl wN (zb rfl)) va ?_
     refine zq rfl (fun hb=>zf rfl yl (zb rfl)) vE ?_
     refine zq rfl (fun hb=>zf rfl yz (zb rfl)) vJ ?_
     refine xe hF (fun hg13 hF=>?_)
     refine zq rfl (fun hb=>yH default rfl yG (zn vz hb) (zn vF hb) xZ (hg13 hb)) (sk st0) ?_
     refine zq rfl (fun hb=>zX rfl qa (zn (gk yl) hb) (zt rfl) (zb rfl)) (sk st1) ?_
     refine yO hF (fun v14 hv14 hF=>?_)
     refine ym rfl (fun hb=>zF rfl rfl rfl (zp (zn (gk yw) hb) zx) (.cons (zb rfl) .nil)) (fun hb=>ok41 (hv14 hb)) (sk yU) ?_
     refine zq rfl (fun hb=>xF rfl (zn (gk yT) hb) rfl) (sk x5) ?_
     refine zc rfl (zM rfl vj (gk y8) rfl (zV (fun ht=>gT ht))) (sk yu) ?_
     refine ze (zi ?_)
     refine zL (gk yz) hF (fun hc15 hF=>?_) (fun hc15 hF=>?_)
     ·refine zk (zd ?_)
      refine zc rfl (zg rfl rfl (zb rfl)) yU ?_
      refine ze (zi (zH ?_))
      refine zC ?_
      refine zw ?_
      refine yb ?_
      obtain rfl:=Option.some.inj hF
      replace hF:=hK1
      refine zC ?_
      refine zw ?_
      obtain rfl:=Option.some.inj hF
      refine zz rfl (zD yT zE) (zB (leV.refl _) rfl ?_)
      exact ⟨rfl,rfl⟩
     ·refine zG (yc (zi (zd ?_)))
      refine zc rfl (zf rfl yz (zb rfl)) ve ?_
      refine zc rfl (zy rfl vn rfl rfl) vd ?_
      refine zc rfl (zg rfl vm (zb rfl)) yu ?_
      refine ze (yp ?_)
      obtain rfl:=Option.some.inj hF
      exact ⟨(),hl1,hK1,wk.le (by exact (.eq (.drop (.drop (.eq (.cons (leV.of_eq (wn (by omega) (by omega))) (.d16 (.d16 (.d4 (.d4 leL.nil))))))))))⟩
    ·refine yx ?_
     refine zW ?_
     refine zP ?_
     refine zQ ?_
     refine zi (zk (zd ?_))
     refine zc rfl (zg rfl rfl (zb rfl)) yU ?_
     refine ze (zi (zH ?_))
     obtain rfl:=Option.some.inj hF
     refine zz rfl (zD yT zE) (zB (leV.refl _) rfl ?_)
     exact ⟨rfl,rfl⟩
 ·refine zG (zi (zk (zk (zd ?_))))
  refine zc rfl (zf rfl y8 (zb rfl)) xY ?_
  refine zc rfl (zy rfl xV rfl rfl) x7 ?_
  refine zc rfl (zf rfl x9 (zb rfl)) xQ ?_
  refine zq rfl (fun hb=>zf rfl y8 (zb rfl)) wc ?_
  refine zq rfl (fun hb=>zy rfl (zn wg hb) rfl rfl) wb ?_
  refine zc rfl (zM rfl xB rfl x4 (yd (fun ht=>gF ht))) wJ ?_
  refine ze (zi ?_)
  refine zL wF hF (fun hc16 hF=>?_) (fun hc16 hF=>?_)
  ·refine zk (zd ?_)
   refine zc rfl (zg rfl rfl (zb rfl)) yU ?_
   refine ze (zi (zH (zw ?_)))
   obtain rfl:=Option.some.inj hF
   refine zz rfl (zD yT zE) (zB (leV.refl _) rfl ?_)
   exact ⟨rfl,rfl⟩
  ·refine zG (zi (zk (zk (zd ?_))))
   refine zc rfl (zg rfl rfl (zb rfl)) yu ?_
   refine ze (zi (zJ ?_))
   refine yi (fun (n1:Nat) (s1:Unit)=>yr [1,2,5,6,7,8,9,10,11,12,13,14,15,16,17,18,19,20,21,22,23,24,25,26,27,28,29,30,31,32,33,34,35,36,37,38,39,40,41,42,43,44] [(4,.int .i64 (n1:Int))]) (fun s1=>h.ext [] []) hF (fun _ _=>by simp only [yr,qN,List.set_cons_succ,List.set_cons_zero];try rfl) (wk.le (by exact (.eq (.drop (.drop (.eq (.cons (leV.of_eq rfl) (.d16 (.d16 (.d4 (.d4 leL.nil))))))))))) ?_
   intro n1 s1 hi1 hF
   refine zk (zk (zd ?_))
   refine zc rfl (zf rfl yz (zb rfl)) wR ?_
   refine zc rfl (zf rfl y8 (zb rfl)) wZ ?_
   refine zc rfl (zy rfl wU w6 rfl) vf ?_
   refine ze (zi ?_)
   refine yo vo hF (fun x1 o1 hl1 hx1 hF hK1=>?_) (fun hF=>?_)
   ·refine zG (zi (zk (zJ (zk (zd ?_)))))
    refine zc rfl (zf rfl yl (zb rfl)) vc ?_
    refine zc rfl (zf rfl yz (zb rfl)) vu ?_
    refine zc rfl (yg rfl yG w5 vA xZ (yn hx1)) vt ?_
    refine zc rfl (zX rfl qa vl (zt rfl) (zb rfl)) vb ?_
    refine zc rfl (zy rfl vk rfl rfl) wQ ?_
    refine zc rfl (zf rfl wN (zb rfl)) va ?_
    refine zq rfl (fun hb=>zf rfl yl (zb rfl)) vE ?_
    refine zq rfl (fun hb=>zf rfl yz (zb rfl)) vJ ?_
    refine xe hF (fun hg23 hF=>?_)
    refine zq rfl (fun hb=>yH default rfl yG (zn vz hb) (zn vF hb) xZ (hg23 hb)) (sk st0) ?_
    refine zq rfl (fun hb=>zX rfl qa (zn (gk yl) hb) (zt rfl) (zb rfl)) (sk st1) ?_
    refine yO hF (fun v24 hv24 hF=>?_)
    refine ym rfl (fun hb=>zF rfl rfl rfl (zp (zn (gk yw) hb) zx) (.cons (zb rfl) .nil)) (fun hb=>ok41 (hv24 hb)) (sk yU) ?_
    refine zq rfl (fun hb=>xF rfl (zn (gk yT) hb) rfl) (sk x5) ?_
    refine zc rfl (zM rfl vj (gk y8) rfl (zV (fun ht=>gT ht))) (sk yu) ?_
    refine ze (zi ?_)
    refine zL (gk yz) hF (fun hc25 hF=>?_) (fun hc25 hF=>?_)
    ·refine zk (zd ?_)
     refine zc rfl (zg rfl rfl (zb rfl)) yU ?_
     refine ze (zi (zH ?_))
     refine zC ?_
     refine zw ?_
     refine yb ?_
     obtain rfl:=Option.some.inj hF
     replace hF:=hK1
     refine zC ?_
     refine zw ?_
     obtain rfl:=Option.some.inj hF
     refine zz rfl (zD yT zE) (zB (leV.refl _) rfl ?_)
     exact ⟨rfl,rfl⟩
    ·refine zG (yc (zi (zd ?_)))
     refine zc rfl (zf rfl yz (zb rfl)) ve ?_
     refine zc rfl (zy rfl vn rfl rfl) vd ?_
     refine zc rfl (zg rfl vm (zb rfl)) yu ?_
     refine ze (yp ?_)
     obtain rfl:=Option.some.inj hF
     exact ⟨(),hl1,hK1,wk.le (by exact (.eq (.drop (.drop (.eq (.cons (leV.of_eq (wn (by omega) (by omega))) (.d16 (.d16 (.d4 (.d4 leL.nil))))))))))⟩
   ·refine yx ?_
    refine zW ?_
    refine zP ?_
    refine zQ ?_
    refine zi (zk (zd ?_))
    refine zc rfl (zg rfl rfl (zb rfl)) yU ?_
    refine ze (zi (zH ?_))
    obtain rfl:=Option.some.inj hF
    refine zz rfl (zD yT zE) (zB (leV.refl _) rfl ?_)
    exact ⟨rfl,rfl⟩
theorem ok42 {p0:(List zR)} {res:Bool} {h:AH}  (hF:ref04MayPath p0=some res):Spec Try.prog 42 [.sl 1 (p0.map zI)] h (fun rr hh=>rr=.bool res∧hh=h):=by
 unfold ref04MayPath at hF
 refine zu Try.func42 rfl (by kernel_rfl) (env:=[.sl 1 (p0.map zI),za,za,za,za,za,za,za,za,za,za,za,za,za,za,za,za,za,za,za,za,za,za,za]) (by rfl) ?_
 refine zk (zd ?_)
 refine zc rfl (zg rfl rfl (zb rfl)) yU ?_
 refine ze (zi (zk (zk (zd ?_))))
 refine zc rfl (zg rfl rfl (zb rfl)) x5 ?_
 refine ze (zi (zJ ?_))
 refine yi (fun (n1:Nat) (s1:Unit)=>yr [1,2,4,5,6,7,8,9,10,11,12,13,14,15,16,17,18,19,20,21,22,23] [(3,.int .i64 (n1:Int))]) (fun s1=>h.ext [] []) hF (fun _ _=>by simp only [yr,qN,List.set_cons_succ,List.set_cons_zero];try rfl) (wk.le (by exact (.eq (.drop (.drop (.cons (leV.of_eq rfl) (.d16 (.d4 leL.nil)))))))) ?_
 intro n1 s1 hi1 hF
 refine zk (zk (zd ?_))
 refine zc rfl (zf rfl y8 (zb rfl)) yu ?_
 refine zc rfl (zf rfl yl (zb rfl)) xg ?_
 refine zZ rfl (zO rfl rfl rfl rfl yG yD ya) xn fun hn8=>?_
 replace hn8:=y9 hn8
 refine zc rfl (zy rfl yz yS rfl) xJ ?_
 refine ze (zi ?_)
 refine yo xl hF (fun x1 o1 hl1 hx1 hF hK1=>?_) (fun hF=>?_)
 ·refine zG (zi (zk (zJ (zk (zd ?_)))))
  refine zc rfl (zf rfl yl (zb rfl)) yF ?_
  refine zc rfl (zf rfl y8 (zb rfl)) yL ?_
  refine zc rfl (yg rfl yG yv yA xZ (yn hx1)) yQ ?_
  refine zc rfl (zX rfl qa yK (zt rfl) (zb rfl)) yW ?_
  refine zU hF (fun v9 hv9 hF=>?_)
  refine zN rfl (zF rfl rfl rfl (zp yN zx) (.cons (zb rfl) .nil)) (ok41 hv9) y3 ?_
  refine zc rfl (xF rfl y6 rfl) y2 ?_
  refine ze (zi ?_)
  refine zL yR hF (fun hc10 hF=>?_) (fun hc10 hF=>?_)
  ·refine zk (zd ?_)
   refine zc rfl (zg rfl rfl (zb rfl)) yU ?_
   refine ze (zi (zH ?_))
   refine zC ?_
   refine zw ?_
   refine yb ?_
   obtain rfl:=Option.some.inj hF
   replace hF:=hK1
   refine zC ?_
   refine zw ?_
   obtain rfl:=Option.some.inj hF
   refine zz rfl (zD yT zE) (zB (leV.refl _) rfl ?_)
   exact ⟨rfl,rfl⟩
  ·refine zG (yc (zi (zd ?_)))
   refine zc rfl (zf rfl y8 (zb rfl)) xM ?_
   refine zc rfl (zy rfl xc rfl rfl) wv ?_
   refine zc rfl (zg rfl xy (zb rfl)) x5 ?_
   refine ze (yp ?_)
   obtain rfl:=Option.some.inj hF
   exact ⟨(),hl1,hK1,wk.le (by exact (.eq (.drop (.drop (.cons (leV.of_eq (wn (by omega) (by omega))) (.d16 (.d4 leL.nil)))))))⟩
 ·refine yx ?_
  refine zW ?_
  refine zP ?_
  refine zQ ?_
  refine zi (zk (zd ?_))
  refine zc rfl (zf rfl yl (zb rfl)) xd ?_
  refine zZ rfl (zO rfl rfl rfl rfl yG xb ya) xi fun hn11=>?_
  replace hn11:=y9 hn11
  refine zc rfl (zy rfl xj rfl rfl) xr ?_
  refine zc rfl (zf rfl xp (zb rfl)) xE ?_
  refine zq rfl (fun hb=>zf rfl yl (zb rfl)) xR ?_
  refine xU rfl (fun hb=>zO rfl rfl rfl rfl yG (zn xO hb) ya) xY fun hn12=>?_
  refine zq rfl (fun hb=>zy rfl (zn xV hb) rfl rfl) x7 ?_
  refine zc rfl (zM rfl xH x9 rfl (zV (fun ht=>gT ht))) xQ ?_
  refine zc rfl (zg rfl xB (zb rfl)) yU ?_
  refine ze (zi (zH ?_))
  obtain rfl:=Option.some.inj hF
  refine zz rfl (zD yT zE) (zB (leV.refl _) rfl ?_)
  exact ⟨rfl,rfl⟩
theorem ok43N (n:Nat):∀ {p0:(List zR)} {path1:(List zR)} {res:Bool} {h:AH} , xS n p0 path1=some res→Spec Try.prog 43 [.sl 1 (p0.map zI),.sl 1 (path1.map zI)] h (fun rr hh=>rr=.bool res∧hh=h):=by
 induction n with
 | zero=>intro p0 path1 res h  hF;simp [xS] at hF
 | succ n ih =>
  intro p0 path1 res h  hF
  unfold xS at hF
  refine zu Try.func43 rfl (by kernel_rfl) (env:=[.sl 1 (p0.map zI),.sl 1 (path1.map zI),za,za,za,za,za,za,za,za,za,za,za,za,za,za,za,za,za,za,za,za,za,za,za,za,za,za,za,za,za,za,za,za,za,za,za,za,za,za]) (by rfl) ?_
  refine zk (zd ?_)
  refine zc rfl (zg rfl rfl (zb rfl)) yu ?_
  refine ze (zi (zk (zk (zd ?_))))
  refine zc rfl (zf rfl yl (zb rfl)) xg ?_
  refine zZ rfl (zO rfl rfl rfl rfl yG yD ya) xn fun hn1=>?_
  replace hn1:=y9 hn1
  refine zc rfl (zy rfl yS rfl rfl) xJ ?_
  refine ze (zi ?_)
  refine zL xl hF (fun hc2 hF=>?_) (fun hc2 hF=>?_)
  ·refine zk (zd ?_)
   refine zc rfl (zf rfl yw (zb rfl)) xM ?_
   refine zZ rfl (zO rfl rfl rfl rfl yG xc ya) wv fun hn3=>?_
   replace hn3:=y9 hn3
   refine zc rfl (zy rfl xy rfl rfl) yF ?_
   refine zc rfl (zg rfl yv (zb rfl)) yu ?_
   refine ze (zi (zH (zw ?_)))
   obtain rfl:=Option.some.inj hF
   refine zz rfl (zD yz zE) (zB (leV.refl _) rfl ?_)
   exact ⟨rfl,rfl⟩
  ·refine zG (zi (zk (zk (zd ?_))))
   refine zc rfl (zf rfl yl (zb rfl)) yL ?_
   refine zU hF (fun y4 hy4 hF=>?_)
   refine zc rfl (yg rfl yG yA rfl xZ hy4) yQ ?_
   refine zc rfl (zX rfl qa yK (zt rfl) (zb rfl)) yW ?_
   refine zc rfl (zy rfl yN rfl rfl) y3 ?_
   refine ze (zi ?_)
   refine zL y6 hF (fun hc5 hF=>?_) (fun hc5 hF=>?_)
   ·refine zk (zd ?_)
    refine zc rfl (zg rfl rfl (zb rfl)) yu ?_
    refine ze (zi (zH (zw ?_)))
    obtain rfl:=Option.some.inj hF
    refine zz rfl (zD yz zE) (zB (leV.refl _) rfl ?_)
    exact ⟨rfl,rfl⟩
   ·refine zG (zi (zk ?_))
    refine yk [] [] trivial mixed (by kernel_rfl) ?_
    refine zo rfl rfl (zf rfl yw (zb rfl)) y2 ?_
    refine draw_len rfl rfl (zO rfl rfl rfl rfl yG yR ya) xd ?_
    refine zo rfl rfl (zy rfl xb rfl rfl) xi ?_
    refine zo rfl rfl (zf rfl xj (zb rfl)) xr ?_
    refine zr rfl rfl (fun hb=>zf rfl yl (zb rfl)) xE ?_
    refine xe hF (fun hg7 hF=>?_)
    refine zr rfl rfl (fun hb=>yH default rfl yG (zn xH hb) rfl xZ (hg7 hb)) xR ?_
    refine zr rfl rfl (fun hb=>zX rfl qa (zn xO hb) (zt rfl) (zb rfl)) xY ?_
    refine zr rfl rfl (fun hb=>zy rfl (zn xV hb) rfl rfl) x7 ?_
    refine zr rfl rfl (fun hb=>zf rfl (zn x9 hb) (zb rfl)) xQ ?_
    refine zr rfl (z7 rfl rfl rfl) (fun hb=>zf rfl yl (zb rfl)) wc ?_
    refine xe hF (fun hg8 hF=>?_)
    refine zr rfl (z7 rfl rfl rfl) (fun hb=>yH default rfl yG (zn wg hb) rfl xZ (hg8 hb)) wb ?_
    refine zr rfl (z7 rfl rfl rfl) (fun hb=>zX rfl qa (zn x4 hb) (zt rfl) (zb rfl)) wJ ?_
    refine zr rfl (z7 rfl rfl rfl) (fun hb=>zf rfl yw (zb rfl)) wR ?_
    refine xe hF (fun hg9 hF=>?_)
    refine zr rfl (z7 rfl rfl rfl) (fun hb=>yH default rfl yG (zn wU hb) rfl xZ (hg9 hb)) wZ ?_
    refine zr rfl (z7 rfl rfl rfl) (fun hb=>zX rfl qa (zn w6 hb) (zt rfl) (zb rfl)) vf ?_
    refine zr rfl (z7 rfl rfl rfl) (fun hb=>zy rfl (zn wF hb) (zn vo hb) rfl) ve ?_
    refine zr rfl rfl (fun hb=>zM rfl (zn xB hb) rfl vn (yd (fun ht=>gF2 hb ht))) vd ?_
    refine zo rfl rfl (zM rfl xp vm rfl (zV (fun ht=>gT ht))) vc ?_
    refine zo rfl rfl (zf rfl w5 (zb rfl)) vu ?_
    refine zr rfl rfl (fun hb=>zf rfl yl (zb rfl)) vt ?_
    refine xe hF (fun hg11 hF=>?_)
    refine zr rfl rfl (fun hb=>qy rfl yG (zn vl hb) (.inl rfl) (.some rfl) .none (slc_of (hg11 hb))) vb ?_
    refine zr rfl rfl (fun hb=>zf rfl yw (zb rfl)) wQ ?_
    refine xe hF (fun hg13 hF=>?_)
    refine zr rfl rfl (fun hb=>qy rfl yG (zn wN hb) (.inl rfl) (.some rfl) .none (slc_of (hg13 hb))) va ?_
    refine yO hF (fun v14 hv14 hF=>?_)
    refine wp rfl rfl (fun hb=>zF rfl rfl rfl (zp (zn vk hb) (zp (zn vj hb) zx)) (.cons (zb rfl) (.cons (zb rfl) .nil))) (fun hb=>ih (hv14 hb)) vE ?_
    refine zo rfl rfl (zM rfl vA vz rfl (zV (fun ht=>gT ht))) vJ ?_
    refine zo rfl rfl (zg rfl vF (zb rfl)) yu ?_
    refine yh ?_
    refine zi (zH ?_)
    obtain rfl:=Option.some.inj hF
    refine zz rfl (zD yz zE) (zB (leV.refl _) rfl ?_)
    exact ⟨rfl,rfl⟩
theorem ok43 {p0:(List zR)} {path1:(List zR)} {res:Bool} {h:AH}  (hF:ref30Xmatches p0 path1=some res):Spec Try.prog 43 [.sl 1 (p0.map zI),.sl 1 (path1.map zI)] h (fun rr hh=>rr=.bool res∧hh=h):=by
 obtain ⟨n,hn⟩:=q9 hF
 exact ok43N n  hn
theorem ok23 {p0:(List zR)} {path1:(List zR)} {res:Bool} {h:AH}  (hF:ref30Match p0 path1=some res):Spec Try.prog 23 [.sl 1 (p0.map zI),.sl 1 (path1.map zI)] h (fun rr hh=>rr=.bool res∧hh=h):=by
 unfold ref30Match at hF
 refine zu Try.func23 rfl (by kernel_rfl) (env:=[.sl 1 (p0.map zI),.sl 1 (path1.map zI),za,za,za,za,za,za,za,za,za,za,za,za,za,za]) (by rfl) ?_
 refine zk (zd ?_)
 refine zc rfl (zg rfl rfl (zb rfl)) yu ?_
 refine ze (zi (zk (zd ?_)))
 refine zc rfl (zf rfl yl (zb rfl)) xg ?_
 refine zU hF (fun v1 hv1 hF=>?_)
 refine zN rfl (zF rfl rfl rfl (zp yD zx) (.cons (zb rfl) .nil)) (ok22 hv1) xn ?_
 refine zc rfl (zf rfl yS (zb rfl)) xJ ?_
 refine zq rfl (fun hb=>zf rfl yw (zb rfl)) xM ?_
 refine yO hF (fun v2 hv2 hF=>?_)
 refine ym rfl (fun hb=>zF rfl rfl rfl (zp (zn xc hb) zx) (.cons (zb rfl) .nil)) (fun hb=>ok42 (hv2 hb)) wv ?_
 refine zc rfl (zM rfl xl xy rfl (zV (fun ht=>gT ht))) yF ?_
 refine zc rfl (zf rfl yv (zb rfl)) yL ?_
 refine zq rfl (fun hb=>zf rfl yl (zb rfl)) yQ ?_
 refine zq rfl (fun hb=>zf rfl yw (zb rfl)) yW ?_
 refine yO hF (fun v3 hv3 hF=>?_)
 refine ym rfl (fun hb=>zF rfl rfl rfl (zp (zn yK hb) (zp (zn yN hb) zx)) (.cons (zb rfl) (.cons (zb rfl) .nil))) (fun hb=>ok43 (hv3 hb)) y3 ?_
 refine zc rfl (zM rfl yA y6 rfl (zV (fun ht=>gT ht))) y2 ?_
 refine zc rfl (zg rfl yR (zb rfl)) yu ?_
 refine ze (zi (zH ?_))
 obtain rfl:=Option.some.inj hF
 refine zz rfl (zD yz zE) (zB (leV.refl _) rfl ?_)
 exact ⟨rfl,rfl⟩
end Go.Vv
