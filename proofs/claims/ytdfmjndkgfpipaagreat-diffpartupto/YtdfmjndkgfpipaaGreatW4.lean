/- Each function that the law reaches computes what its reading says; printed by a program. -/
import Derived.Test.YtdfmjndkgfpipaaGreatW3
namespace Go.Vv
open Go Go.Proofs
set_option maxRecDepth 100000
set_option maxHeartbeats 1000000
set_option linter.unusedSimpArgs false
set_option linter.unusedVariables false
/-! varve/diff.lay -/
theorem ok29N (n:Nat):∀ {t0:(List GNode)} {path1:(List zJ)} {kind2:Int} {l3:GLeaf} {there4:Bool} {res:(List GNode)} {h:AH} , qx n t0 path1 kind2 l3 there4=some res→Spec Tryz.prog 29 [.sl 3 (t0.map GNode.row),.sl 1 (path1.map zP),.int .u8 kind2,.agg [.int .u8 l3.typ,.int .i64 l3.n,.int .u64 l3.time,.int .u8 l3.dot.actor.rep,.int .u32 l3.dot.actor.inc,.int .u64 l3.dot.seq,.str l3.text,.sl 5 (l3.items.map GItem.row),.sl 3 (l3.tombs.map GDot.row)],.bool there4] h (fun rr hh=>rr=.sl 3 (res.map GNode.row)∧hh=h):=by
 induction n with
 | zero=>intro t0 path1 kind2 l3 there4 res h  hF;simp [qx] at hF
 | succ n ih =>
  intro t0 path1 kind2 l3 there4 res h  hF
  unfold qx at hF
  refine zt Tryz.func29 rfl (by kernel_rfl) (env:=[.sl 3 (t0.map GNode.row),.sl 1 (path1.map zP),.int .u8 kind2,.agg [.int .u8 l3.typ,.int .i64 l3.n,.int .u64 l3.time,.int .u8 l3.dot.actor.rep,.int .u32 l3.dot.actor.inc,.int .u64 l3.dot.seq,.str l3.text,.sl 5 (l3.items.map GItem.row),.sl 3 (l3.tombs.map GDot.row)],.bool there4,za,za,za,za,za,za,za,za,za,za,za,za,za,za,za,za,za,za,za,za,za,za,za,za,za,za,za,za,za,za,za,za,za,za,za,za,za,za,za,za,za,za,za,za,za,za,za,za,za,za,za,za,za,za,za,za,za,za,za,za,za,za,za,za,za,za,za,za,za,za,za,za,za,za,za,za,za,za,za,za]) (by rfl) ?_
  refine zk (zd ?_)
  refine zc rfl (xr (n:=0) rfl yW (zb rfl) rfl rfl) xM ?_
  refine zc rfl (xr (n:=1) rfl xu (zb rfl) rfl rfl) xU ?_
  refine zc rfl (zi rfl rfl (xi xl)) yJ ?_
  refine ze (zj (zk (zd ?_)))
  refine zc rfl (zf rfl yq (zb rfl)) xj ?_
  refine zc rfl (zf rfl yF (zb rfl)) xy ?_
  refine zQ hF (fun y1 hy1 hF=>?_)
  refine zc rfl (yk rfl wD xq rfl va hy1) xF ?_
  refine zc rfl (ye rfl ty9 xC (zr rfl) (zb rfl)) xN ?_
  refine zQ hF (fun v2 hv2 hF=>?_)
  refine zL rfl (zC rfl rfl rfl (zo xh (zo xL (zo rfl zw))) (.cons (zb rfl) (.cons (zb rfl) (.cons (zb rfl) .nil)))) (ok57 (fun _ _ v L M hv=>ok58  hv) hv2) x8 ?_
  refine zc rfl (zf rfl x9 (zb rfl)) y6 ?_
  refine zc rfl (yl rfl yY rfl (zb rfl)) wg ?_
  refine zc rfl (yl rfl yY rfl (zb rfl)) wo ?_
  refine zc rfl (zi rfl wb (zb rfl)) yN ?_
  refine zc rfl (zi rfl wl (zb rfl)) yX ?_
  refine ze (zj (zk (zd ?_)))
  refine zc rfl (zf rfl yF (zb rfl)) we ?_
  refine zQ hF (fun y3 hy3 hF=>?_)
  refine zc rfl (yk rfl wD x4 rfl va hy3) wi ?_
  refine zc rfl (ye rfl ty9 wh (zr rfl) (zb rfl)) wt ?_
  refine zc rfl (qu (cs':=[.str y3,.osl none 9 (([]:List GLeaf).map GLeaf.row),.osl none 3 (([]:List GNode).map GNode.row)]) rfl su59 ze59 pl59 (yh wp ym) (.cons (zb rfl) .nil) rfl rfl) wQ ?_
  refine zc rfl (xe (n:=2) rfl ze59 rfl) y4 ?_
  refine zc rfl (yf (cs':=[.str y3,.osl none 9 (([]:List GLeaf).map GLeaf.row),.osl none 3 (([]:List GNode).map GNode.row)]) rfl ty59.choose_spec.1 yE wO (zb rfl) rfl rfl rfl rfl rfl) rfl ?_
  refine ze (zj ?_)
  refine r_join (fun (s1:zJ×(List GLeaf)×(List GNode))=>yQ [2,3,5,6,9,10,14,15,16,17,18,19,20,21,22,23,24,25,26,27,28,29,30,31,32,33,34,35,36,37,38,39,40,41,42,43,44,45,46,47,48,49,50,51,52,53,54,55,56,57,58,59,60,61,62,63,64,65,66,67,68,69,70,71,72,73,74,75,76,77,78,79,80,81,82,83,84] []) (fun s1=>h.ext [.cells [.int .u8 kind2],.cells [.int .u8 l3.typ,.int .i64 l3.n,.int .u64 l3.time,.int .u8 l3.dot.actor.rep,.int .u32 l3.dot.actor.inc,.int .u64 l3.dot.seq,.str l3.text,.sl 5 (l3.items.map GItem.row),.sl 3 (l3.tombs.map GDot.row)],.cells [.str s1.1,.sl 9 (s1.2.1.map GLeaf.row),.sl 3 (s1.2.2.map GNode.row)]] []) hF (fun _=>by simp only [yQ,upd,List.set_cons_succ,List.set_cons_zero];try rfl) (fun o1 hF hK1=>?_) (fun s1 hF=>?_)
  ·refine zk (zd ?_)
   refine zc rfl (zf rfl yM (zb rfl)) wY ?_
   refine ze (zj ?_)
   refine zN wU hF (fun hc6 hF=>?_) (fun hc6 hF=>?_)
   ·refine zd ?_
    refine zc rfl (zf rfl yq (zb rfl)) wX ?_
    refine zc rfl (zf rfl yy (zb rfl)) vi ?_
    refine zQ hF (fun y7 hy7 hF=>?_)
    refine zc rfl (xO rfl xl wT vm va hy7 (GNode.row_eq _)) vh ?_
    refine zc rfl (ye rfl ty59.choose_spec.1 vE (zH (cs':=[.str y7.name,.sl 9 (y7.leaves.map GLeaf.row),.sl 3 (y7.subs.map GNode.row)]) ty59.choose_spec.2 rfl rfl) (zb rfl)) vg ?_
    refine zc rfl (yf (cs':=[.str y7.name,.sl 9 (y7.leaves.map GLeaf.row),.sl 3 (y7.subs.map GNode.row)]) rfl ty59.choose_spec.1 yE vl (zb rfl) rfl rfl rfl rfl rfl) rfl ?_
    refine ze (q_join ?_)
    obtain rfl:=Option.some.inj hF
    exact ⟨(y7.name,y7.leaves,y7.subs),hK1,wk.le (by exact (.eq (.eq (.drop (.drop (.eq (.drop (.drop (.eq (.eq (.drop (.drop (.eq (.eq (.eq (.d16 (.d16 (.d16 (.d16 (.d4 (.drop (.drop (.drop leL.nil)))))))))))))))))))))))⟩
   ·refine zK (q_join ?_)
    obtain rfl:=Option.some.inj hF
    exact ⟨(y3,([]:List GLeaf),([]:List GNode)),hK1,wk.trans (wk_leB (j:=2) rfl (by exact (.eq (.cons (leV.osl _ _ _) (.cons (leV.osl _ _ _) leL.nil)))) rfl rfl) (wk.le (by exact (.eq (.eq (.drop (.drop (.eq (.drop (.drop (.eq (.eq (.drop (.drop (.eq (.eq (.eq (.d16 (.d16 (.d16 (.d16 (.d4 (.drop (.drop (.drop leL.nil))))))))))))))))))))))))⟩
  ·refine r_join (fun (s2:(List GLeaf)×(List GNode))=>yQ [1,2,3,4,5,6,7,8,9,10,14,15,16,17,18,19,20,21,22,23,24,25,26,27,28,29,30,31,32,33,34,35,36,37,38,39,40,41,42,43,44,45,46,47,48,49,50,51,52,53,54,55,56,57,58,59,60,61,62,63,64,65,66,67,68,69,70,71,72,73,74,75,76,77,78,79,80,81,82,83,84] []) (fun s2=>h.ext [.cells [.int .u8 kind2],.cells [.int .u8 l3.typ,.int .i64 l3.n,.int .u64 l3.time,.int .u8 l3.dot.actor.rep,.int .u32 l3.dot.actor.inc,.int .u64 l3.dot.seq,.str l3.text,.sl 5 (l3.items.map GItem.row),.sl 3 (l3.tombs.map GDot.row)],.cells [.str s1.1,.sl 9 (s2.1.map GLeaf.row),.sl 3 (s2.2.map GNode.row)]] []) hF (fun _=>by simp only [yQ,upd,List.set_cons_succ,List.set_cons_zero];try rfl) (fun o2 hF hK2=>?_) (fun s2 hF=>?_)
   ·refine zk (zd ?_)
    refine zc rfl (zf rfl yF (zb rfl)) vz ?_
    refine ya rfl (zS rfl rfl rfl rfl wD vk yb) vw fun hn18=>?_
    replace hn18:=xB hn18
    refine zc rfl (zy rfl vD rfl rfl) vu ?_
    refine ze (zj ?_)
    refine zN vj hF (fun hc19 hF=>?_) (fun hc19 hF=>?_)
    ·refine yK [7] [] trivial mixed (by kernel_rfl) ?_
     refine zq rfl rfl (zg rfl fo59x2 yE rfl) vt ?_
     refine zq rfl rfl (zu rfl ty23 vC rfl (zr rfl) (zb rfl)) vf ?_
     refine zq rfl rfl (zf rfl yF (zb rfl)) vr ?_
     refine zQ hF (fun m20 hm20 hF=>?_)
     refine zq rfl rfl (s_slcSl rfl wD vB (.inl rfl) (.some rfl) .none hm20) vN ?_
     refine zq rfl rfl (zu rfl ty5 xE rfl (zr rfl) (zb rfl)) vM ?_
     refine zq rfl rfl (zu rfl ty42.choose_spec.1 xp rfl (zH (cs':=[.int .u8 l3.typ,.int .i64 l3.n,.int .u64 l3.time,.int .u8 l3.dot.actor.rep,.int .u32 l3.dot.actor.inc,.int .u64 l3.dot.seq,.str l3.text,.sl 5 (l3.items.map GItem.row),.sl 3 (l3.tombs.map GDot.row)]) ty42.choose_spec.2 rfl rfl) (zb rfl)) (sk st0) ?_
     refine zq rfl rfl (zf rfl yx (zb rfl)) (sk st1) ?_
     refine zQ hF (fun v21 hv21 hF=>?_)
     refine yv rfl rfl (fun _=>zC rfl rfl rfl (zo vb (zo vQ (zo vJ (zo (gk yq) (zo (gk yF) zw))))) (.cons (zb rfl) (.cons (zb rfl) (.cons (zb rfl) (.cons (zb rfl) (.cons (zb rfl) .nil)))))) (by rintro _ ⟨B2,T2,rfl,hk2⟩;exact ih hv21) (sk xg) ?_
     refine zq rfl rfl (zg rfl fo59x2 yE rfl) (sk wa) ?_
     refine xb rfl (FOk.cons (.inr (xX trivial)) FOk.nil) (by kernel_rfl) rfl (yf (cs':=[.str s1.1,.sl 9 (s1.2.1.map GLeaf.row),.sl 3 (v21.map GNode.row)]) rfl ty23 (gk xu) (gk yW) (zb rfl) rfl rfl rfl rfl rfl) rfl ?_
     refine yo ?_
     refine q_join ?_
     obtain rfl:=Option.some.inj hF
     exact ⟨(s1.2.1,v21),hK2,wk.le (by exact (.eq (.d4 (.d4 (.drop (.drop (.eq (.eq (.eq (.d16 (.d16 (.d16 (.d16 (.d4 (.drop (.drop (.drop leL.nil)))))))))))))))))⟩
    ·refine zk (zd ?_)
     refine zc rfl (zg rfl x6 yE rfl) (sk yC) ?_
     refine zc rfl (zu rfl ty57 (gk yx) rfl (zr rfl) (zb rfl)) (sk xw) ?_
     refine zQ hF (fun v22 hv22 hF=>?_)
     refine ops_callH rfl (zC rfl rfl rfl (zo (gk yR) zw) (.cons (zb rfl) .nil)) (row_new (B':=[.cells [.int .u8 kind2],.cells [.int .u8 l3.typ,.int .i64 l3.n,.int .u64 l3.time,.int .u8 l3.dot.actor.rep,.int .u32 l3.dot.actor.inc,.int .u64 l3.dot.seq,.str l3.text,.sl 5 (l3.items.map GItem.row),.sl 3 (l3.tombs.map GDot.row)],.cells [.str s1.1,.sl 9 (s1.2.1.map GLeaf.row),.sl 3 (s1.2.2.map GNode.row)],.row (h.toks.length+0) 9 (v22.map GLeaf.row)]) (T':=[(v22).length]) (okR61 hv22) rfl rfl rfl rfl) (sk xD) ?_
     refine zc rfl (qJ rfl rfl rfl) (sk xM) ?_
     refine zQ hF (fun v23 hv23 hF=>?_)
     refine ops_turn (B1:=[.cells [.int .u8 kind2],.cells [.int .u8 l3.typ,.int .i64 l3.n,.int .u64 l3.time,.int .u8 l3.dot.actor.rep,.int .u32 l3.dot.actor.inc,.int .u64 l3.dot.seq,.str l3.text,.sl 5 (l3.items.map GItem.row),.sl 3 (l3.tombs.map GDot.row)],.cells [.str s1.1,.sl 9 (s1.2.1.map GLeaf.row),.sl 3 (s1.2.2.map GNode.row)]]) (T1:=[]) (j:=3) (i:=0) (B':=[.cells [.int .u8 kind2],.cells [.int .u8 l3.typ,.int .i64 l3.n,.int .u64 l3.time,.int .u8 l3.dot.actor.rep,.int .u32 l3.dot.actor.inc,.int .u64 l3.dot.seq,.str l3.text,.sl 5 (l3.items.map GItem.row),.sl 3 (l3.tombs.map GDot.row)],.cells [.str s1.1,.sl 9 (s1.2.1.map GLeaf.row),.sl 3 (s1.2.2.map GNode.row)],.dead,.row (h.toks.length+1) 9 (v23.map GLeaf.row)]) rfl (zC rfl rfl rfl (zo (gk yV) (zo (gk xE) zw)) (.cons (zb rfl) (.cons (zb rfl) .nil))) (okR60 (by simp [AH.ext]) (by simp [AH.ext]) (fun _ v L M hv=>ok62 (blk_ext2 (j:=0) rfl) hv) (fun _ _ _ _=>rfl) (fun n m h1 h2=>by simp [AH.ext] at h1;simp [yi,AV.low];omega) hv23) rfl rfl (sk xU) rfl (fun n_v23=>?_)
     refine zc rfl (zg rfl x6 yE rfl) (sk wy) ?_
     refine zc rfl (yf (cs':=[.str s1.1,.rsl (h.blks.length+4) (h.toks.length+1) 9 ((v23).length),.sl 3 (s1.2.2.map GNode.row)]) rfl ty57 (gk xQ) (gk xp) (zb rfl) rfl rfl rfl rfl rfl) rfl ?_
     refine ze (zj (zk (zd ?_)))
     refine zc rfl (zf rfl yx (zb rfl)) (sk yJ) ?_
     refine ze (zj ?_)
     refine zN (gk yD) hF (fun hc24 hF=>?_) (fun hc24 hF=>?_)
     ·refine zk ?_
      refine yK [3] [] trivial mixed (by kernel_rfl) ?_
      refine zq rfl rfl (zg rfl x6 yE rfl) (sk yN) ?_
      refine zq rfl rfl (zu rfl ty57 (gk yy) rfl (zr rfl) (zb rfl)) (sk yX) ?_
      refine zq rfl rfl (zu rfl ty42.choose_spec.1 xp rfl (zH (cs':=[.int .u8 l3.typ,.int .i64 l3.n,.int .u64 l3.time,.int .u8 l3.dot.actor.rep,.int .u32 l3.dot.actor.inc,.int .u64 l3.dot.seq,.str l3.text,.sl 5 (l3.items.map GItem.row),.sl 3 (l3.tombs.map GDot.row)]) ty42.choose_spec.2 rfl rfl) (zb rfl)) (sk y4) ?_
      refine zQ hF (fun v25 hv25 hF=>?_)
      refine yv rfl rfl (fun _=>zC rfl rfl rfl (zo (gk yE) zw) (.cons (zb rfl) .nil)) (by rintro _ ⟨B2,T2,rfl,hk2⟩;exact ok63 hv25) (sk yZ) ?_
      refine zq rfl rfl (yr (es:=([v25]:List GLeaf).map GLeaf.row) rfl wn ze42 rfl rfl (yh (gk yS) ym) (.cons (zb rfl) .nil) rfl rfl rfl) (sk y6) ?_
      refine wJ hF (fun hm26 hF=>?_)
      refine xb rfl (FOk.cons (.inr (xX trivial)) FOk.nil) (by kernel_rfl) rfl (e_appR (i:=4) (j:=1) (B':=[.cells [.int .u8 kind2],.cells [.int .u8 l3.typ,.int .i64 l3.n,.int .u64 l3.time,.int .u8 l3.dot.actor.rep,.int .u32 l3.dot.actor.inc,.int .u64 l3.dot.seq,.str l3.text,.sl 5 (l3.items.map GItem.row),.sl 3 (l3.tombs.map GDot.row)],.cells [.str s1.1,.rsl (h.blks.length+4) (h.toks.length+1) 9 ((v23).length),.sl 3 (s1.2.2.map GNode.row)],.dead,.row (h.toks.length+1) 9 ((v23++([v25]:List GLeaf)).map GLeaf.row)]) (T':=[n_v23,((v23++([v25]:List GLeaf))).length]) rfl rfl rfl rfl wn wn (gk yM) (gk yY) rfl (zb rfl) news_osl hm26 rfl rfl rfl rfl rfl) (sk xj) ?_
      refine zq rfl rfl (zg rfl x6 yE rfl) (sk xy) ?_
      refine xb rfl (FOk.cons (.inr (xX trivial)) FOk.nil) (by kernel_rfl) rfl (yf (cs':=[.str s1.1,.rsl (h.blks.length+4) (h.toks.length+1) 9 (((v23++([v25]:List GLeaf))).length),.sl 3 (s1.2.2.map GNode.row)]) rfl ty57 (gk xq) (gk xh) (zb rfl) rfl rfl rfl rfl rfl) rfl ?_
      refine yo ?_
      refine zj (zd ?_)
      refine zc rfl (zg rfl x6 yE rfl) (sk xF) ?_
      refine zc rfl (zu rfl ty57 (gk xC) rfl (zr rfl) (zb rfl)) (sk xN) ?_
      refine zQ hF (fun v27 hv27 hF=>?_)
      refine ops_callH rfl (zC rfl rfl rfl (zo (gk xL) (zo rfl zw)) (.cons (zb rfl) (.cons (zb rfl) .nil))) (spec_sortO sort64TryzLays Tryz.isAgg42 Tryz.sizeOf42 (fun _=>rfl) (fun _=>rfl) (enters_fn Tryz.func65 rfl (by kernel_rfl)) (fun _ _ _ h=>ok65 h) hv27 (i:=4) (B':=[.cells [.int .u8 kind2],.cells [.int .u8 l3.typ,.int .i64 l3.n,.int .u64 l3.time,.int .u8 l3.dot.actor.rep,.int .u32 l3.dot.actor.inc,.int .u64 l3.dot.seq,.str l3.text,.sl 5 (l3.items.map GItem.row),.sl 3 (l3.tombs.map GDot.row)],.cells [.str s1.1,.rsl (h.blks.length+4) (h.toks.length+1) 9 (((v23++([v25]:List GLeaf))).length),.sl 3 (s1.2.2.map GNode.row)],.dead,.row (h.toks.length+1) 9 (v27.map GLeaf.row)]) rfl rfl) (sk x8) ?_
      refine ze (q_join ?_)
      obtain rfl:=Option.some.inj hF
      exact ⟨(v27,s1.2.2),hK2,wk.trans (wk.trans ((swk_freezeB (j:=4) (jb:=2) (m:=1) (B':=[.cells [.int .u8 kind2],.cells [.int .u8 l3.typ,.int .i64 l3.n,.int .u64 l3.time,.int .u8 l3.dot.actor.rep,.int .u32 l3.dot.actor.inc,.int .u64 l3.dot.seq,.str l3.text,.sl 5 (l3.items.map GItem.row),.sl 3 (l3.tombs.map GDot.row)],.cells [.str s1.1,.sl 9 (v27.map GLeaf.row),.sl 3 (s1.2.2.map GNode.row)],.dead,.dead]) (T':=[n_v23,(v27.map GLeaf.row).length+1]) rfl (by exact (FzL.cons (FzA.same _) (FzL.cons (FzA.same _) (FzL.cons (FzA.same _) (FzL.cons (FzA.same _) (FzL.cons (FzA.same _) (FzL.cons (FzA.same _) (FzL.cons (FzA.same _) (FzL.cons (FzA.same _) (FzL.cons (FzA.same _) (FzL.cons (FzA.same _) (FzL.cons (FzA.same _) (FzL.cons (FzA.same _) (FzL.cons (FzA.same _) (FzL.cons (FzA.same _) (FzL.cons (FzA.same _) (FzL.cons (FzA.same _) (FzL.cons (FzA.same _) (FzL.cons (FzA.same _) (FzL.cons (FzA.same _) (FzL.cons (FzA.same _) (FzL.cons (FzA.same _) (FzL.cons (FzA.same _) (FzL.cons (FzA.same _) (FzL.cons (FzA.same _) (FzL.cons (FzA.same _) (FzL.cons (FzA.same _) (FzL.cons (FzA.same _) (FzL.cons (FzA.same _) (FzL.cons (FzA.same _) (FzL.cons (FzA.same _) (FzL.cons (FzA.same _) (FzL.cons (FzA.same _) (FzL.cons (FzA.same _) (FzL.cons (FzA.same _) (FzL.cons (FzA.same _) (FzL.cons (FzA.same _) (FzL.cons (FzA.same _) (FzL.cons (FzA.same _) (FzL.cons (FzA.same _) (FzL.cons (FzA.same _) (FzL.cons (FzA.same _) (FzL.cons (FzA.same _) (FzL.cons (FzA.same _) (FzL.cons (FzA.same _) (FzL.cons (FzA.same _) (FzL.cons (FzA.same _) (FzL.cons (FzA.same _) (FzL.cons (FzA.same _) (FzL.cons (FzA.same _) (FzL.cons (FzA.same _) (FzL.cons (FzA.same _) (FzL.cons (FzA.same _) (FzL.cons (FzA.same _) (FzL.cons (FzA.same _) (FzL.cons (FzA.same _) (FzL.cons (FzA.same _) (FzL.cons (FzA.hit2 _ _ (by rw [List.length_map];exact (sortO_len hv27).symm)) (FzL.cons (FzA.same _) (FzL.cons (FzA.same _) (FzL.cons (FzA.hit2 _ _ (by rw [List.length_map];exact (sortO_len hv27).symm)) (FzL.refl _)))))))))))))))))))))))))))))))))))))))))))))))))))))))))))))) rfl (by exact (FzL.cons (FzA.same _) (FzL.cons (FzA.hit2 _ _ (by rw [List.length_map];exact (sortO_len hv27).symm)) (FzL.refl _)))) rfl rfl).wk) (wk.le (by exact (.eq (.d4 (.d4 (.drop (.drop (.eq (.eq (.eq (.d16 (.d16 (.d16 (.d16 (.d4 (.drop (.drop (.drop leL.nil))))))))))))))))))) (xJ (by simp [yi,AV.low]) rfl rfl (by simp [Blk.low,yi,AV.low]))⟩
     ·refine zK (q_join ?_)
      obtain rfl:=Option.some.inj hF
      exact ⟨(v23,s1.2.2),hK2,wk.trans (wk.trans ((swk_freezeB (j:=4) (jb:=2) (m:=1) (B':=[.cells [.int .u8 kind2],.cells [.int .u8 l3.typ,.int .i64 l3.n,.int .u64 l3.time,.int .u8 l3.dot.actor.rep,.int .u32 l3.dot.actor.inc,.int .u64 l3.dot.seq,.str l3.text,.sl 5 (l3.items.map GItem.row),.sl 3 (l3.tombs.map GDot.row)],.cells [.str s1.1,.sl 9 (v23.map GLeaf.row),.sl 3 (s1.2.2.map GNode.row)],.dead,.dead]) (T':=[n_v23,(v23.map GLeaf.row).length+1]) rfl (by exact (FzL.cons (FzA.same _) (FzL.cons (FzA.same _) (FzL.cons (FzA.same _) (FzL.cons (FzA.same _) (FzL.cons (FzA.same _) (FzL.cons (FzA.same _) (FzL.cons (FzA.same _) (FzL.cons (FzA.same _) (FzL.cons (FzA.same _) (FzL.cons (FzA.same _) (FzL.cons (FzA.same _) (FzL.cons (FzA.same _) (FzL.cons (FzA.same _) (FzL.cons (FzA.same _) (FzL.cons (FzA.same _) (FzL.cons (FzA.same _) (FzL.cons (FzA.same _) (FzL.cons (FzA.same _) (FzL.cons (FzA.same _) (FzL.cons (FzA.same _) (FzL.cons (FzA.same _) (FzL.cons (FzA.same _) (FzL.cons (FzA.same _) (FzL.cons (FzA.same _) (FzL.cons (FzA.same _) (FzL.cons (FzA.same _) (FzL.cons (FzA.same _) (FzL.cons (FzA.same _) (FzL.cons (FzA.same _) (FzL.cons (FzA.same _) (FzL.cons (FzA.same _) (FzL.cons (FzA.same _) (FzL.cons (FzA.same _) (FzL.cons (FzA.same _) (FzL.cons (FzA.same _) (FzL.cons (FzA.same _) (FzL.cons (FzA.same _) (FzL.cons (FzA.same _) (FzL.cons (FzA.same _) (FzL.cons (FzA.same _) (FzL.cons (FzA.same _) (FzL.cons (FzA.same _) (FzL.cons (FzA.same _) (FzL.cons (FzA.same _) (FzL.cons (FzA.same _) (FzL.cons (FzA.same _) (FzL.cons (FzA.same _) (FzL.cons (FzA.same _) (FzL.cons (FzA.hit2 _ _ (by simp)) (FzL.refl _))))))))))))))))))))))))))))))))))))))))))))))))))) rfl (by exact (FzL.cons (FzA.same _) (FzL.cons (FzA.hit2 _ _ (by simp)) (FzL.refl _)))) rfl rfl).wk) (wk.le (by exact (.eq (.d4 (.d4 (.drop (.drop (.eq (.eq (.eq (.d16 (.d16 (.d16 (.d16 (.d4 (.drop (.drop (.drop leL.nil))))))))))))))))))) (xJ (by simp [yi,AV.low]) rfl rfl (by simp [Blk.low,yi,AV.low]))⟩
   ·refine zk (zd ?_)
    refine zc rfl (zf rfl yq (zb rfl)) (sk wg) ?_
    refine zc rfl (zf rfl yy (zb rfl)) (sk wo) ?_
    refine zQ hF (fun m28 hm28 hF=>?_)
    refine zc rfl (s_slcSl rfl xl (gk wb) (.inl rfl) .none (.some (gk wl)) hm28) (sk we) ?_
    refine zQ hF (fun v29 hv29 hF=>?_)
    refine ops_callH rfl (zC rfl rfl rfl (zo (gk x4) zw) (.cons (zb rfl) .nil)) (own_ext (T':=[(v29).length]) (ok67 hv29) (m:=0) rfl rfl) (sk wi) ?_
    refine zc rfl (zi rfl (gk wh) (zb rfl)) yZ ?_
    refine ze (zj (zk (zk (zd ?_))))
    refine zc rfl (zg rfl x6 yE rfl) (sk wt) ?_
    refine zc rfl (zu rfl ty57 (gk wp) rfl (zr rfl) (zb rfl)) (sk wQ) ?_
    refine ya rfl (zS rfl rfl rfl rfl wn (gk wO) yb) (sk wY) fun hn30=>?_
    replace hn30:=xB hn30
    refine zc rfl (zg rfl fo59x2 yE rfl) (sk wX) ?_
    refine zc rfl (zu rfl ty23 (gk wT) rfl (zr rfl) (zb rfl)) (sk vi) ?_
    refine ya rfl (zS rfl rfl rfl rfl xl (gk vm) yb) (sk vh) fun hn31=>?_
    replace hn31:=xB hn31
    refine zc rfl (zy rfl (gk wU) (gk vE) rfl) (sk vg) ?_
    refine zc rfl (zy rfl (gk vl) rfl rfl) (sk vz) ?_
    refine ze (zj ?_)
    refine zN (gk vk) hF (fun hc32 hF=>?_) (fun hc32 hF=>?_)
    ·refine zd ?_
     refine zc rfl (zf rfl yS (zb rfl)) (sk vw) ?_
     refine zc rfl (zu rfl ty59.choose_spec.1 yE rfl (zH (cs':=[.str s1.1,.sl 9 (s2.1.map GLeaf.row),.sl 3 (s2.2.map GNode.row)]) ty59.choose_spec.2 rfl rfl) (zb rfl)) (sk vu) ?_
     refine zc rfl (yr (es:=([(GNode.mk s1.1 s2.1 s2.2)]:List GNode).map GNode.row) rfl xl ze59 rfl rfl (yh (gk vj) ym) (.cons (zb rfl) .nil) rfl rfl (by simp only [List.map_cons,List.map_nil,GNode.row_eq];rfl)) (sk vt) ?_
     refine wJ hF (fun hm33 hF=>?_)
     refine zc rfl (e_appT (j:=0) (T':=[((v29++([(GNode.mk s1.1 s2.1 s2.2)]:List GNode))).length]) rfl rfl rfl rfl xl xl (gk vD) (gk vC) (zb rfl) (zb rfl) news_osl hm33 rfl rfl) (sk vf) ?_
     refine zc rfl (zi rfl (gk vb) (zb rfl)) yZ ?_
     refine ze (zj (zk (zk (zd ?_))))
     refine zc rfl (zf rfl yM (zb rfl)) (sk vr) ?_
     refine ze (zj ?_)
     refine zN (gk vB) hF (fun hc34 hF=>?_) (fun hc34 hF=>?_)
     ·refine zd ?_
      refine zc rfl (zf rfl yy (zb rfl)) (sk vN) ?_
      refine zc rfl (zy rfl (gk vQ) rfl rfl) (sk vM) ?_
      refine zc rfl (zi rfl (gk vJ) (zb rfl)) yN ?_
      refine ze (zj (zk (zd ?_)))
      refine zc rfl (zf rfl yS (zb rfl)) (sk (sk st0)) ?_
      refine zc rfl (zf rfl yq (zb rfl)) (sk (sk st1)) ?_
      refine zc rfl (zf rfl yy (zb rfl)) (sk (sk xg)) ?_
      refine zQ hF (fun m35 hm35 hF=>?_)
      refine zc rfl (s_slcSl rfl xl (gk (gk yF)) (.inl rfl) (.some (gk (gk yW))) .none hm35) (sk (sk wa)) ?_
      refine wJ hF (fun hm36 hF=>?_)
      refine zc rfl (e_appT (j:=0) (T':=[(((v29++([(GNode.mk s1.1 s2.1 s2.2)]:List GNode))++m35)).length]) rfl rfl rfl rfl xl xl (gk (gk yq)) (gk (gk xu)) (zb rfl) (zb rfl) news_sl hm36 rfl rfl) (sk (sk yC)) ?_
      refine zc rfl (zi rfl (gk (gk yx)) (zb rfl)) yJ ?_
      refine ze (zj (zI ?_))
      obtain rfl:=Option.some.inj hF
      refine zz rfl (zD yD zF) (zA (leV.osl _ _ _) rfl ?_)
      exact ⟨rfl,rfl⟩
     ·refine zK (zj (zk (zd ?_)))
      refine zc rfl (zf rfl yS (zb rfl)) (sk (sk st0)) ?_
      refine zc rfl (zf rfl yq (zb rfl)) (sk (sk st1)) ?_
      refine zc rfl (zf rfl yy (zb rfl)) (sk (sk xg)) ?_
      refine zQ hF (fun m37 hm37 hF=>?_)
      refine zc rfl (s_slcSl rfl xl (gk (gk yF)) (.inl rfl) (.some (gk (gk yW))) .none hm37) (sk (sk wa)) ?_
      refine wJ hF (fun hm38 hF=>?_)
      refine zc rfl (e_appT (j:=0) (T':=[(((v29++([(GNode.mk s1.1 s2.1 s2.2)]:List GNode))++m37)).length]) rfl rfl rfl rfl xl xl (gk (gk yq)) (gk (gk xu)) (zb rfl) (zb rfl) news_sl hm38 rfl rfl) (sk (sk yC)) ?_
      refine zc rfl (zi rfl (gk (gk yx)) (zb rfl)) yJ ?_
      refine ze (zj (zI ?_))
      obtain rfl:=Option.some.inj hF
      refine zz rfl (zD yD zF) (zA (leV.osl _ _ _) rfl ?_)
      exact ⟨rfl,rfl⟩
    ·refine zK (zj (zk (zk (zd ?_))))
     refine zc rfl (zf rfl yM (zb rfl)) (sk vr) ?_
     refine ze (zj ?_)
     refine zN (gk vB) hF (fun hc39 hF=>?_) (fun hc39 hF=>?_)
     ·refine zd ?_
      refine zc rfl (zf rfl yy (zb rfl)) (sk vN) ?_
      refine zc rfl (zy rfl (gk vQ) rfl rfl) (sk vM) ?_
      refine zc rfl (zi rfl (gk vJ) (zb rfl)) yN ?_
      refine ze (zj (zk (zd ?_)))
      refine zc rfl (zf rfl yS (zb rfl)) (sk (sk st0)) ?_
      refine zc rfl (zf rfl yq (zb rfl)) (sk (sk st1)) ?_
      refine zc rfl (zf rfl yy (zb rfl)) (sk (sk xg)) ?_
      refine zQ hF (fun m40 hm40 hF=>?_)
      refine zc rfl (s_slcSl rfl xl (gk (gk yF)) (.inl rfl) (.some (gk (gk yW))) .none hm40) (sk (sk wa)) ?_
      refine wJ hF (fun hm41 hF=>?_)
      refine zc rfl (e_appT (j:=0) (T':=[((v29++m40)).length]) rfl rfl rfl rfl xl xl (gk (gk yq)) (gk (gk xu)) (zb rfl) (zb rfl) news_sl hm41 rfl rfl) (sk (sk yC)) ?_
      refine zc rfl (zi rfl (gk (gk yx)) (zb rfl)) yJ ?_
      refine ze (zj (zI ?_))
      obtain rfl:=Option.some.inj hF
      refine zz rfl (zD yD zF) (zA (leV.osl _ _ _) rfl ?_)
      exact ⟨rfl,rfl⟩
     ·refine zK (zj (zk (zd ?_)))
      refine zc rfl (zf rfl yS (zb rfl)) (sk (sk st0)) ?_
      refine zc rfl (zf rfl yq (zb rfl)) (sk (sk st1)) ?_
      refine zc rfl (zf rfl yy (zb rfl)) (sk (sk xg)) ?_
      refine zQ hF (fun m42 hm42 hF=>?_)
      refine zc rfl (s_slcSl rfl xl (gk (gk yF)) (.inl rfl) (.some (gk (gk yW))) .none hm42) (sk (sk wa)) ?_
      refine wJ hF (fun hm43 hF=>?_)
      refine zc rfl (e_appT (j:=0) (T':=[((v29++m42)).length]) rfl rfl rfl rfl xl xl (gk (gk yq)) (gk (gk xu)) (zb rfl) (zb rfl) news_sl hm43 rfl rfl) (sk (sk yC)) ?_
      refine zc rfl (zi rfl (gk (gk yx)) (zb rfl)) yJ ?_
      refine ze (zj (zI ?_))
      obtain rfl:=Option.some.inj hF
      refine zz rfl (zD yD zF) (zA (leV.osl _ _ _) rfl ?_)
      exact ⟨rfl,rfl⟩
theorem ok29 {t0:(List GNode)} {path1:(List zJ)} {kind2:Int} {l3:GLeaf} {there4:Bool} {res:(List GNode)} {h:AH}  (hF:diffXlay t0 path1 kind2 l3 there4=some res):Spec Tryz.prog 29 [.sl 3 (t0.map GNode.row),.sl 1 (path1.map zP),.int .u8 kind2,.agg [.int .u8 l3.typ,.int .i64 l3.n,.int .u64 l3.time,.int .u8 l3.dot.actor.rep,.int .u32 l3.dot.actor.inc,.int .u64 l3.dot.seq,.str l3.text,.sl 5 (l3.items.map GItem.row),.sl 3 (l3.tombs.map GDot.row)],.bool there4] h (fun rr hh=>rr=.sl 3 (res.map GNode.row)∧hh=h):=by
 obtain ⟨n,hn⟩:=anyN_is hF
 exact ok29N n  hn
/-! varve/diff.Patch -/
theorem ok10 {t0:(List GNode)} {l1:(List GEdit)} {res:((List GNode)×Int)} {h:AH}  (hF:vZ t0 l1=some res):Spec Tryz.prog 10 [.sl 3 (t0.map GNode.row),.sl 22 (l1.map GEdit.row)] h (fun rr hh=>rr=.tup [.sl 3 (res.1.map GNode.row),.int .i64 res.2]∧hh=h):=by
 unfold vZ at hF
 refine zt Tryz.func10 rfl (by kernel_rfl) (env:=[.sl 3 (t0.map GNode.row),.sl 22 (l1.map GEdit.row),za,za,za,za,za,za,za,za,za,za,za,za,za,za,za,za,za,za,za,za,za,za,za,za,za,za,za,za,za,za,za,za,za,za,za,za,za,za,za,za,za,za,za,za,za,za,za,za,za,za,za,za,za,za,za,za,za,za,za,za,za,za,za,za,za]) (by rfl) ?_
 refine zk (zd ?_)
 refine zc rfl (zi rfl rfl (xi xl)) yC ?_
 refine zc rfl (zi rfl rfl (zb rfl)) xw ?_
 refine ze (zj (zk (zk (zd ?_))))
 refine zc rfl (zf rfl yq (zb rfl)) yX ?_
 refine zQ hF (fun v1 hv1 hF=>?_)
 refine zL rfl (zC rfl rfl rfl (zo yM zw) (.cons (zb rfl) .nil)) (ok21 hv1) y4 ?_
 refine zc rfl (xT rfl yE rfl) yZ ?_
 refine zc rfl (zf rfl yS (zb rfl)) y6 ?_
 refine zp rfl (fun hb=>zf rfl yF (zb rfl)) xj ?_
 refine yP hF (fun v2 hv2 hF=>?_)
 refine yj rfl (fun hb=>zC rfl rfl rfl (zo (zn xh hb) zw) (.cons (zb rfl) .nil)) (fun hb=>ok26 (hv2 hb)) xy ?_
 refine zp rfl (fun hb=>xT rfl (zn xq hb) rfl) xF ?_
 refine zc rfl (zM rfl yY rfl xC (z8 (fun ht=>gF ht))) xN ?_
 refine ze (zj ?_)
 refine zN xL hF (fun hc3 hF=>?_) (fun hc3 hF=>?_)
 ·refine zk (zd ?_)
  refine zc rfl (zi rfl rfl (xi xl)) yC ?_
  refine zc rfl (zi rfl rfl (zb rfl)) xw ?_
  refine ze (zj (zI (zx ?_)))
  obtain rfl:=Option.some.inj hF
  refine qC rfl (zD yx (zD yR zF)) (zA (leV.tup (.cons (leV.osl _ _ _) (.eq leL.nil))) rfl ?_)
  exact ⟨rfl,rfl⟩
 ·refine zK (zj (zk (zd ?_)))
  refine zc rfl (zf rfl yq (zb rfl)) wg ?_
  refine zc rfl (yr (es:=([([42,42]:zJ)]:List zJ).map zP) rfl wD ze9 rfl rfl (yh rfl ym) (.cons (zb rfl) .nil) rfl rfl rfl) wo ?_
  refine zQ hF (fun v4 hv4 hF=>?_)
  refine zL rfl (zC rfl rfl rfl (zo wb (zo wl zw)) (.cons (zb rfl) (.cons (zb rfl) .nil))) ((ok11 hv4).le (.eq (.cons (leV.osl _ _ _) leL.nil))) we ?_
  refine zc rfl (zf rfl x4 (zb rfl)) x8 ?_
  refine zc rfl (yl rfl x9 rfl (zb rfl)) wi ?_
  refine zc rfl (yl rfl x9 rfl (zb rfl)) wt ?_
  refine zc rfl (zi rfl wh (zb rfl)) xD ?_
  refine zc rfl (zi rfl wp (zb rfl)) xM ?_
  refine ze (zj (zk (zk (zd ?_))))
  refine zc rfl (zf rfl yF (zb rfl)) wQ ?_
  refine ya rfl (zS rfl rfl rfl rfl el29 wO yb) wY fun hn5=>?_
  replace hn5:=xB hn5
  refine zc rfl (zf rfl rfl (zb rfl)) wX ?_
  refine ze (zj (zR ?_))
  refine yu (fun (n1:Nat) (s1:(List GNode))=>yQ [1,2,3,4,5,7,8,9,10,11,12,13,14,15,16,17,18,19,20,21,22,23,24,25,29,30,31,32,33,34,35,36,37,38,39,40,41,42,43,44,45,46,47,48,49,50,51,52,53,54,55,56,57,58,59,60,61,62,63,64,65,66] [(6,.sl 3 (s1.map GNode.row)),(28,.int .i64 (n1:Int))]) (fun s1=>h.ext [] []) hF (fun _ _=>by simp only [yQ,upd,List.set_cons_succ,List.set_cons_zero];try rfl) (wk.le (by exact (.eq (.d4 (.drop (.cons (leV.of_eq rfl) (.d16 (.drop (.drop (.drop (.eq (.eq (.cons (leV.of_eq rfl) (.d16 (.d16 (.d4 (.drop (.drop leL.nil)))))))))))))))))) ?_
  intro n1 s1 hi1 hF
  refine zk (zd ?_)
  refine zc rfl (zy rfl wT wU rfl) vi ?_
  refine ze (zj (zk ?_))
  refine yL vm hF (fun x1 o1 hl1 hx1 hF hK1=>?_) (fun hF=>?_)
  ·refine zK (zj (zk (zR (zk (zd ?_)))))
   refine zc rfl (yk rfl el29 wO wT va (yO hx1)) vh ?_
   refine zc rfl (ye rfl ty44.choose_spec.1 vE (zH (cs':=[.sl 1 (x1.path.map zP),.int .u8 x1.typ,.bool x1.had,.bool x1.has,.int .u8 x1.was.typ,.int .i64 x1.was.n,.int .u64 x1.was.time,.int .u8 x1.was.dot.actor.rep,.int .u32 x1.was.dot.actor.inc,.int .u64 x1.was.dot.seq,.str x1.was.text,.sl 5 (x1.was.items.map GItem.row),.sl 3 (x1.was.tombs.map GDot.row),.int .u8 x1.is.typ,.int .i64 x1.is.n,.int .u64 x1.is.time,.int .u8 x1.is.dot.actor.rep,.int .u32 x1.is.dot.actor.inc,.int .u64 x1.is.dot.seq,.str x1.is.text,.sl 5 (x1.is.items.map GItem.row),.sl 3 (x1.is.tombs.map GDot.row)]) ty44.choose_spec.2 rfl rfl) (zb rfl)) vg ?_
   refine zc rfl (xe (n:=0) rfl ze44 rfl) wy ?_
   refine zc rfl (yf (cs':=[.sl 1 (x1.path.map zP),.int .u8 x1.typ,.bool x1.had,.bool x1.has,.int .u8 x1.was.typ,.int .i64 x1.was.n,.int .u64 x1.was.time,.int .u8 x1.was.dot.actor.rep,.int .u32 x1.was.dot.actor.inc,.int .u64 x1.was.dot.seq,.str x1.was.text,.sl 5 (x1.was.items.map GItem.row),.sl 3 (x1.was.tombs.map GDot.row),.int .u8 x1.is.typ,.int .i64 x1.is.n,.int .u64 x1.is.time,.int .u8 x1.is.dot.actor.rep,.int .u32 x1.is.dot.actor.inc,.int .u64 x1.is.dot.seq,.str x1.is.text,.sl 5 (x1.is.items.map GItem.row),.sl 3 (x1.is.tombs.map GDot.row)]) rfl ty44.choose_spec.1 xQ vl (zb rfl) rfl rfl rfl rfl rfl) rfl ?_
   refine ze (zj (zk (zd ?_)))
   refine zc rfl (zf rfl yq (zb rfl)) vw ?_
   refine zc rfl (zg rfl fo44x0 xQ rfl) vu ?_
   refine zc rfl (zu rfl ty24 vj rfl (zr rfl) (zb rfl)) vt ?_
   refine zc rfl (zg rfl fo44x1 xQ rfl) vf ?_
   refine zc rfl (zu rfl ty5 vb rfl (zr rfl) (zb rfl)) vr ?_
   refine zQ hF (fun v14 hv14 hF=>?_)
   refine zL rfl (zC rfl rfl rfl (zo vD (zo vC (zo vB zw))) (.cons (zb rfl) (.cons (zb rfl) (.cons (zb rfl) .nil)))) (ok27 hv14) vN ?_
   refine zc rfl (zf rfl vQ (zb rfl)) vz ?_
   refine zc rfl (yl rfl vk rfl (zb rfl)) vM ?_
   refine zc rfl (yl rfl vk rfl (zb rfl)) (sk st0) ?_
   refine zc rfl (xe (n:=1) rfl ze42 rfl) yJ ?_
   refine zc rfl (yf (cs':=[.int .u8 v14.1.typ,.int .i64 v14.1.n,.int .u64 v14.1.time,.int .u8 v14.1.dot.actor.rep,.int .u32 v14.1.dot.actor.inc,.int .u64 v14.1.dot.seq,.str v14.1.text,.sl 5 (v14.1.items.map GItem.row),.sl 3 (v14.1.tombs.map GDot.row)]) rfl ty42.choose_spec.1 yD vJ (zb rfl) rfl rfl rfl rfl rfl) rfl ?_
   refine zc rfl (zi rfl (gk yq) (zb rfl)) yN ?_
   refine ze (zj (zk (zk (zd ?_))))
   refine zc rfl (zf rfl yy (zb rfl)) (sk st1) ?_
   refine zc rfl (zg rfl fo44x2 xQ rfl) (sk xg) ?_
   refine zc rfl (zu rfl ty4 (gk yW) rfl (zr rfl) (zb rfl)) (sk wa) ?_
   refine zc rfl (zy rfl (gk yF) (gk xu) (bin_boolN ty4)) (sk yC) ?_
   refine zc rfl (zf rfl (gk yx) (zb rfl)) (sk xw) ?_
   refine zp rfl (fun hb=>zf rfl yy (zb rfl)) (sk xD) ?_
   refine zp rfl (fun hb=>zf rfl (zn (gk yV) hb) (zb rfl)) (sk xM) ?_
   refine zp (z7 rfl rfl rfl) (fun hb=>zu rfl ty42.choose_spec.1 yD rfl (zH (cs':=[.int .u8 v14.1.typ,.int .i64 v14.1.n,.int .u64 v14.1.time,.int .u8 v14.1.dot.actor.rep,.int .u32 v14.1.dot.actor.inc,.int .u64 v14.1.dot.seq,.str v14.1.text,.sl 5 (v14.1.items.map GItem.row),.sl 3 (v14.1.tombs.map GDot.row)]) ty42.choose_spec.2 rfl rfl) (zb rfl)) (sk xU) ?_
   refine zp (z7 rfl rfl rfl) (fun hb=>zg rfl fo44x4 xQ rfl) (sk wy) ?_
   refine zp (z7 rfl rfl rfl) (fun hb=>zu rfl ty42.choose_spec.1 (zn (gk xQ) hb) rfl (zH (cs':=[.int .u8 x1.was.typ,.int .i64 x1.was.n,.int .u64 x1.was.time,.int .u8 x1.was.dot.actor.rep,.int .u32 x1.was.dot.actor.inc,.int .u64 x1.was.dot.seq,.str x1.was.text,.sl 5 (x1.was.items.map GItem.row),.sl 3 (x1.was.tombs.map GDot.row)]) ty42.choose_spec.2 rfl rfl) (zb rfl)) (sk yJ) ?_
   refine yP hF (fun v15 hv15 hF=>?_)
   refine yj (z7 rfl rfl rfl) (fun hb=>zC rfl rfl rfl (zo (zn (gk xp) hb) (zo (zn (gk yD) hb) zw)) (.cons (zb rfl) (.cons (zb rfl) .nil))) (fun hb=>ok28 (hv15 hb)) (sk yN) ?_
   refine zp (z7 rfl rfl rfl) (fun hb=>xT rfl (zn (gk yy) hb) rfl) (sk yX) ?_
   refine zp rfl (fun hb=>zM rfl (zn (gk xE) hb) (gk yM) rfl (zU (fun ht=>gT2 hb ht))) (sk y4) ?_
   refine zc rfl (zM rfl (gk yR) rfl (gk yE) (z8 (fun ht=>gF ht))) (sk yZ) ?_
   refine ze (zj ?_)
   refine zN (gk yS) hF (fun hc16 hF=>?_) (fun hc16 hF=>?_)
   ·refine zk (zd ?_)
    refine zc rfl (zi rfl rfl (xi xl)) yC ?_
    refine zc rfl (zi rfl rfl (zb rfl)) xw ?_
    refine ze (zj (zI (zx ?_)))
    refine zG ?_
    refine zx ?_
    refine yd ?_
    obtain rfl:=Option.some.inj hF
    replace hF:=hK1
    refine zG ?_
    refine zx ?_
    obtain rfl:=Option.some.inj hF
    refine qC rfl (zD yx (zD yR zF)) (zA (leV.tup (.cons (leV.osl _ _ _) (.eq leL.nil))) rfl ?_)
    exact ⟨rfl,rfl⟩
   ·refine zK (zj (zd ?_))
    refine zc rfl (zf rfl yV (zb rfl)) (sk y6) ?_
    refine zc rfl (zg rfl fo44x0 xQ rfl) (sk xj) ?_
    refine zc rfl (zu rfl ty24 (gk xh) rfl (zr rfl) (zb rfl)) (sk xy) ?_
    refine zc rfl (zg rfl fo44x1 xQ rfl) (sk xF) ?_
    refine zc rfl (zu rfl ty5 (gk xC) rfl (zr rfl) (zb rfl)) (sk xN) ?_
    refine zc rfl (zg rfl fo44x5 xQ rfl) (sk x8) ?_
    refine zc rfl (zu rfl ty42.choose_spec.1 (gk x9) rfl (zH (cs':=[.int .u8 x1.is.typ,.int .i64 x1.is.n,.int .u64 x1.is.time,.int .u8 x1.is.dot.actor.rep,.int .u32 x1.is.dot.actor.inc,.int .u64 x1.is.dot.seq,.str x1.is.text,.sl 5 (x1.is.items.map GItem.row),.sl 3 (x1.is.tombs.map GDot.row)]) ty42.choose_spec.2 rfl rfl) (zb rfl)) (sk wg) ?_
    refine zc rfl (zg rfl fo44x3 xQ rfl) (sk wo) ?_
    refine zc rfl (zu rfl ty4 (gk wl) rfl (zr rfl) (zb rfl)) (sk we) ?_
    refine zQ hF (fun v17 hv17 hF=>?_)
    refine zL rfl (zC rfl rfl rfl (zo (gk yY) (zo (gk xq) (zo (gk xL) (zo (gk wb) (zo (gk x4) zw))))) (.cons (zb rfl) (.cons (zb rfl) (.cons (zb rfl) (.cons (zb rfl) (.cons (zb rfl) .nil)))))) (ok29 hv17) (sk wi) ?_
    refine zc rfl (zi rfl (gk wh) (zb rfl)) xD ?_
    refine ze (yg (zj (zd ?_)))
    refine zc rfl (zy rfl wT rfl rfl) (sk wt) ?_
    refine zc rfl (zf rfl (gk wp) (zb rfl)) wX ?_
    refine ze (yH ?_)
    obtain rfl:=Option.some.inj hF
    exact ⟨v17,hl1,hK1,wk.trans (wk.le (by exact (.eq (.d4 (.drop (.cons (leV.of_eq rfl) (.d16 (.drop (.drop (.drop (.eq (.eq (.cons (leV.of_eq (ve (by omega) (by omega))) (.d16 (.d16 (.d4 (.drop (.drop leL.nil)))))))))))))))))) (xJ (by simp [yi,AV.low]) rfl rfl (by simp [Blk.low,yi,AV.low]))⟩
  ·refine yU ?_
   refine zZ ?_
   refine zW ?_
   refine zX ?_
   refine zj (zk (zd ?_))
   refine zc rfl (zf rfl yV (zb rfl)) (sk wQ) ?_
   refine zc rfl (zi rfl (gk wO) (zb rfl)) yC ?_
   refine zc rfl (zi rfl rfl (zb rfl)) xw ?_
   refine ze (zj (zI ?_))
   obtain rfl:=Option.some.inj hF
   refine qC rfl (zD yx (zD yR zF)) (zA (leV.refl _) rfl ?_)
   exact ⟨rfl,rfl⟩
/-! varve/paths.Without 1 -/
theorem ok32 {path0:(List zJ)} {c0:(List zJ)} {i0:Nat} {res:Bool} {h:AH} (hb0:h.blk i0=some (.cells [.sl 1 (c0.map zP)])) (hF:pathsWithoutC1 path0 c0=some res):Spec Tryz.prog 32 [.sl 1 (path0.map zP),.ptr i0 0] h (fun rr hh=>rr=.bool res∧hh=h):=by
 unfold pathsWithoutC1 at hF
 refine zt Tryz.func32 rfl (by kernel_rfl) (env:=[.sl 1 (path0.map zP),.ptr i0 0,za,za,za,za,za,za]) (by rfl) ?_
 refine zk (zd ?_)
 refine zc rfl (zi rfl rfl (zb rfl)) wa ?_
 refine ze (zj (zk (zd ?_)))
 refine zc rfl (b_load rfl ty24 yF hb0 (zr rfl) (zb rfl)) yC ?_
 refine zc rfl (zf rfl yq (zb rfl)) xw ?_
 refine zQ hF (fun v1 hv1 hF=>?_)
 refine zL rfl (zC rfl rfl rfl (zo yx (zo yR zw)) (.cons (zb rfl) (.cons (zb rfl) .nil))) (ok9 hv1) xD ?_
 refine zc rfl (xT rfl yV rfl) xM ?_
 refine zc rfl (zi rfl xE (zb rfl)) wa ?_
 refine ze (zj (zI ?_))
 obtain rfl:=Option.some.inj hF
 refine zz rfl (zD xu zF) (zA (leV.refl _) rfl ?_)
 exact ⟨rfl,rfl⟩
/-! varve/paths.Without -/
theorem ok12 {t0:(List GNode)} {p1:(List zJ)} {res:((List GNode)×Int)} {h:AH}  (hF:qv t0 p1=some res):Spec Tryz.prog 12 [.sl 3 (t0.map GNode.row),.sl 1 (p1.map zP)] h (fun rr hh=>rr=.tup [.sl 3 (res.1.map GNode.row),.int .i64 res.2]∧hh=h):=by
 unfold qv at hF
 refine zt Tryz.func12 rfl (by kernel_rfl) (env:=[.sl 3 (t0.map GNode.row),.sl 1 (p1.map zP),za,za,za,za,za,za,za,za,za,za,za,za,za,za,za]) (by rfl) ?_
 refine zk (zd ?_)
 refine zc rfl (xr (n:=0) rfl yF (zb rfl) rfl rfl) wa ?_
 refine zc rfl (zi rfl rfl (xi xl)) yC ?_
 refine zc rfl (zi rfl rfl (zb rfl)) xw ?_
 refine ze (zj (zk (zk (zd ?_))))
 refine zc rfl (zf rfl yq (zb rfl)) xD ?_
 refine zQ hF (fun v1 hv1 hF=>?_)
 refine zL rfl (zC rfl rfl rfl (zo yV zw) (.cons (zb rfl) .nil)) (ok21 hv1) xM ?_
 refine zc rfl (xT rfl xE rfl) xU ?_
 refine zc rfl (zf rfl xp (zb rfl)) wy ?_
 refine zp rfl (fun hb=>zu rfl ty24 xu rfl (zr rfl) (zb rfl)) yJ ?_
 refine yP hF (fun v2 hv2 hF=>?_)
 refine yj rfl (fun hb=>zC rfl rfl rfl (zo (zn yD hb) zw) (.cons (zb rfl) .nil)) (fun hb=>ok6 (hv2 hb)) yN ?_
 refine zp rfl (fun hb=>xT rfl (zn yy hb) rfl) yX ?_
 refine zc rfl (zM rfl xQ rfl yM (z8 (fun ht=>gF ht))) y4 ?_
 refine ze (zj ?_)
 refine zN yE hF (fun hc3 hF=>?_) (fun hc3 hF=>?_)
 ·refine zk (zd ?_)
  refine zc rfl (zi rfl rfl (xi xl)) yC ?_
  refine zc rfl (zi rfl rfl (zb rfl)) xw ?_
  refine ze (zj (zI (zx ?_)))
  obtain rfl:=Option.some.inj hF
  refine qC rfl (zD yx (zD yR zF)) (zA (leV.tup (.cons (leV.osl _ _ _) (.eq leL.nil))) rfl ?_)
  exact ⟨rfl,rfl⟩
 ·refine zK (zj (zk (zd ?_)))
  refine zc rfl (zf rfl yq (zb rfl)) yZ ?_
  refine zc rfl (qJ rfl rfl rfl) y6 ?_
  refine zQ hF (fun v4 hv4 hF=>?_)
  refine zL rfl (zC rfl rfl rfl (zo yS (zo rfl (zo yY zw))) (.cons (zb rfl) (.cons (xi wD) (.cons (zb rfl) .nil)))) ((ok30 (fun _ v L M hv=>ok32 (blk_ext2 (j:=0) rfl) hv) hv4).le (.eq (.cons (leV.osl _ _ _) (.eq leL.nil)))) xj ?_
  refine zc rfl (zi rfl xh (zb rfl)) yC ?_
  refine zc rfl (zi rfl rfl (zb rfl)) xw ?_
  refine ze (zj (zI ?_))
  obtain rfl:=Option.some.inj hF
  refine qC rfl (zD yx (zD yR zF)) (zA (leV.refl _) rfl ?_)
  exact ⟨rfl,rfl⟩
/-! varve/varveref05.Same -/
theorem ok33 {a0:GLeaf} {b1:GLeaf} {res:Bool} {h:AH}  (hF:ref05Same a0 b1=some res):Spec Tryz.prog 33 [.agg [.int .u8 a0.typ,.int .i64 a0.n,.int .u64 a0.time,.int .u8 a0.dot.actor.rep,.int .u32 a0.dot.actor.inc,.int .u64 a0.dot.seq,.str a0.text,.sl 5 (a0.items.map GItem.row),.sl 3 (a0.tombs.map GDot.row)],.agg [.int .u8 b1.typ,.int .i64 b1.n,.int .u64 b1.time,.int .u8 b1.dot.actor.rep,.int .u32 b1.dot.actor.inc,.int .u64 b1.dot.seq,.str b1.text,.sl 5 (b1.items.map GItem.row),.sl 3 (b1.tombs.map GDot.row)]] h (fun rr hh=>rr=.bool res∧hh=h):=by
 unfold ref05Same at hF
 refine zt Tryz.func33 rfl (by kernel_rfl) (env:=[.agg [.int .u8 a0.typ,.int .i64 a0.n,.int .u64 a0.time,.int .u8 a0.dot.actor.rep,.int .u32 a0.dot.actor.inc,.int .u64 a0.dot.seq,.str a0.text,.sl 5 (a0.items.map GItem.row),.sl 3 (a0.tombs.map GDot.row)],.agg [.int .u8 b1.typ,.int .i64 b1.n,.int .u64 b1.time,.int .u8 b1.dot.actor.rep,.int .u32 b1.dot.actor.inc,.int .u64 b1.dot.seq,.str b1.text,.sl 5 (b1.items.map GItem.row),.sl 3 (b1.tombs.map GDot.row)],za,za,za,za,za,za,za,za,za,za,za,za,za,za,za,za,za,za,za,za,za,za,za,za,za,za,za,za,za,za,za,za,za,za,za,za,za,za,za,za,za,za,za,za,za,za,za,za,za,za,za,za,za,za,za,za,za,za,za,za,za,za,za,za,za,za,za,za,za,za,za,za,za,za,za,za,za,za,za,za,za,za,za,za,za,za,za,za,za,za,za,za]) (by rfl) ?_
 refine zk (zd ?_)
 refine zc rfl (xr (n:=0) rfl yq (zb rfl) rfl rfl) xg ?_
 refine zc rfl (xr (n:=1) rfl yF (zb rfl) rfl rfl) wa ?_
 refine zc rfl (zi rfl rfl (zb rfl)) yC ?_
 refine ze (zj (zk (zk (zd ?_))))
 refine zc rfl (zg rfl xY yW rfl) xM ?_
 refine zc rfl (zu rfl ty5 xE rfl (zr rfl) (zb rfl)) xU ?_
 refine zc rfl (zg rfl xY xu rfl) wy ?_
 refine zc rfl (zu rfl ty5 xQ rfl (zr rfl) (zb rfl)) yJ ?_
 refine zc rfl (zy rfl xp yD rfl) yN ?_
 refine zc rfl (zf rfl yy (zb rfl)) yX ?_
 refine zp rfl (fun hb=>zg rfl fo42x1 yW rfl) y4 ?_
 refine zp rfl (fun hb=>zu rfl ty2 (zn yE hb) rfl (zr rfl) (zb rfl)) yZ ?_
 refine zp rfl (fun hb=>zg rfl fo42x1 xu rfl) y6 ?_
 refine zp rfl (fun hb=>zu rfl ty2 (zn yY hb) rfl (zr rfl) (zb rfl)) xj ?_
 refine zp rfl (fun hb=>zy rfl (zn yS hb) (zn xh hb) rfl) xy ?_
 refine zc rfl (zM rfl yM rfl xq (z8 (fun ht=>gF ht))) xF ?_
 refine zc rfl (zf rfl xC (zb rfl)) xN ?_
 refine zp rfl (fun hb=>zg rfl fo42x2 yW rfl) x8 ?_
 refine zp rfl (fun hb=>zu rfl ty33 (zn x9 hb) rfl (zr rfl) (zb rfl)) wg ?_
 refine zp rfl (fun hb=>zg rfl fo42x2 xu rfl) wo ?_
 refine zp rfl (fun hb=>zu rfl ty33 (zn wl hb) rfl (zr rfl) (zb rfl)) we ?_
 refine zp rfl (fun hb=>zy rfl (zn wb hb) (zn x4 hb) rfl) wi ?_
 refine zc rfl (zM rfl xL rfl wh (z8 (fun ht=>gF ht))) wt ?_
 refine zc rfl (zf rfl wp (zb rfl)) wQ ?_
 refine zp rfl (fun hb=>zg rfl fo42x3 yW rfl) wY ?_
 refine zp rfl (fun hb=>zu rfl ty38.choose_spec.1 (zn wU hb) rfl (zH (cs':=[.int .u8 a0.dot.actor.rep,.int .u32 a0.dot.actor.inc,.int .u64 a0.dot.seq]) ty38.choose_spec.2 rfl rfl) (zb rfl)) wX ?_
 refine zp rfl (fun hb=>zg rfl fo42x3 xu rfl) vi ?_
 refine zp rfl (fun hb=>zu rfl ty38.choose_spec.1 (zn vm hb) rfl (zH (cs':=[.int .u8 b1.dot.actor.rep,.int .u32 b1.dot.actor.inc,.int .u64 b1.dot.seq]) ty38.choose_spec.2 rfl rfl) (zb rfl)) vh ?_
 refine zp rfl (fun hb=>zy rfl (zn wT hb) (zn vE hb) (bin_ne pk38 rfl)) vg ?_
 refine zc rfl (zM rfl wO rfl vl (z8 (fun ht=>gF ht))) vz ?_
 refine zc rfl (zf rfl vk (zb rfl)) vw ?_
 refine zp rfl (fun hb=>zg rfl fo42x4 yW rfl) vu ?_
 refine zp rfl (fun hb=>zu rfl ty9 (zn vj hb) rfl (zr rfl) (zb rfl)) vt ?_
 refine zp rfl (fun hb=>zg rfl fo42x4 xu rfl) vf ?_
 refine zp rfl (fun hb=>zu rfl ty9 (zn vb hb) rfl (zr rfl) (zb rfl)) vr ?_
 refine zp rfl (fun hb=>zy rfl (zn vC hb) (zn vB hb) rfl) vN ?_
 refine zc rfl (zM rfl vD rfl vQ (z8 (fun ht=>gF ht))) vM ?_
 refine zc rfl (zf rfl vJ (zb rfl)) (sk st0) ?_
 refine zp rfl (fun hb=>zg rfl xR yW rfl) (sk st1) ?_
 refine zp rfl (fun hb=>zu rfl ty39 (zn (gk yF) hb) rfl (zr rfl) (zb rfl)) (sk xg) ?_
 refine xA rfl (fun hb=>zS rfl rfl rfl rfl qe (zn (gk yW) hb) yb) (sk wa) fun hn1=>?_
 refine zp rfl (fun hb=>zg rfl xR xu rfl) (sk yC) ?_
 refine zp rfl (fun hb=>zu rfl ty39 (zn (gk yx) hb) rfl (zr rfl) (zb rfl)) (sk xw) ?_
 refine xA rfl (fun hb=>zS rfl rfl rfl rfl qe (zn (gk yR) hb) yb) (sk xD) fun hn2=>?_
 refine zp rfl (fun hb=>zy rfl (zn (gk xu) hb) (zn (gk yV) hb) rfl) (sk xM) ?_
 refine zc rfl (zM rfl (gk yq) rfl (gk xE) (z8 (fun ht=>gF ht))) (sk xU) ?_
 refine zc rfl (zf rfl (gk xp) (zb rfl)) (sk wy) ?_
 refine zp rfl (fun hb=>zg rfl wm yW rfl) (sk yJ) ?_
 refine zp rfl (fun hb=>zu rfl ty40 (zn (gk yD) hb) rfl (zr rfl) (zb rfl)) (sk yN) ?_
 refine xA rfl (fun hb=>zS rfl rfl rfl rfl el40 (zn (gk yy) hb) yb) (sk yX) fun hn3=>?_
 refine zp rfl (fun hb=>zg rfl wm xu rfl) (sk y4) ?_
 refine zp rfl (fun hb=>zu rfl ty40 (zn (gk yE) hb) rfl (zr rfl) (zb rfl)) (sk yZ) ?_
 refine xA rfl (fun hb=>zS rfl rfl rfl rfl el40 (zn (gk yS) hb) yb) (sk y6) fun hn4=>?_
 refine zp rfl (fun hb=>zy rfl (zn (gk yM) hb) (zn (gk yY) hb) rfl) (sk xj) ?_
 refine zc rfl (zM rfl (gk xQ) rfl (gk xh) (z8 (fun ht=>gF ht))) (sk xy) ?_
 refine ze (zj ?_)
 refine zN (gk xq) hF (fun hc5 hF=>?_) (fun hc5 hF=>?_)
 ·refine zk (zd ?_)
  refine zc rfl (zi rfl rfl (zb rfl)) yC ?_
  refine ze (zj (zI (zx ?_)))
  obtain rfl:=Option.some.inj hF
  refine zz rfl (zD yx zF) (zA (leV.refl _) rfl ?_)
  exact ⟨rfl,rfl⟩
 ·refine zK (zj (zk (zk (zd ?_))))
  refine zc rfl (zi rfl rfl (zb rfl)) xw ?_
  refine ze (zj (zR ?_))
  refine yu (fun (n1:Nat) (s1:Unit)=>yQ [0,1,4,6,7,8,9,10,11,12,13,14,15,16,17,18,19,20,21,22,23,24,25,26,27,28,29,30,31,32,33,34,35,36,37,38,39,40,41,42,43,44,45,46,47,48,49,50,51,52,53,54,55,56,57,58,59,60,61,62,63,64,65,66,67,68,69,70,71,72,73,74,75,76,77,78,79,80,81,82,83,84,85,86,87,88,89,90,91,92,93] [(5,.int .i64 (n1:Int))]) (fun s1=>h.ext [.cells [.int .u8 a0.typ,.int .i64 a0.n,.int .u64 a0.time,.int .u8 a0.dot.actor.rep,.int .u32 a0.dot.actor.inc,.int .u64 a0.dot.seq,.str a0.text,.sl 5 (a0.items.map GItem.row),.sl 3 (a0.tombs.map GDot.row)],.cells [.int .u8 b1.typ,.int .i64 b1.n,.int .u64 b1.time,.int .u8 b1.dot.actor.rep,.int .u32 b1.dot.actor.inc,.int .u64 b1.dot.seq,.str b1.text,.sl 5 (b1.items.map GItem.row),.sl 3 (b1.tombs.map GDot.row)]] []) hF (fun _ _=>by simp only [yQ,upd,List.set_cons_succ,List.set_cons_zero];try rfl) (wk.le (by exact (.drop (.drop (.eq (.eq (.drop (.cons (leV.of_eq rfl) (.d16 (.d16 (.d16 (.d16 (.d16 (.d4 (.d4 leL.nil))))))))))))))) ?_
  intro n1 s1 hi1 hF
  refine zk (zk (zd ?_))
  refine zc rfl (zf rfl yR (zb rfl)) (sk xF) ?_
  refine zc rfl (zg rfl xR yW rfl) (sk xN) ?_
  refine zc rfl (zu rfl ty39 (gk xL) rfl (zr rfl) (zb rfl)) (sk x8) ?_
  refine ya rfl (zS rfl rfl rfl rfl qe (gk x9) yb) (sk wg) fun hn31=>?_
  replace hn31:=xB hn31
  refine zc rfl (zy rfl (gk xC) (gk wb) rfl) (sk wo) ?_
  refine ze (zj ?_)
  refine yL (gk wl) hF (fun x1 o1 hl1 hx1 hF hK1=>?_) (fun hF=>?_)
  ·refine zK (zj (zk (zR (zk ?_))))
   refine yK [] [] trivial mixed (by kernel_rfl) ?_
   refine zq rfl rfl (zg rfl xR yW rfl) (sk wt) ?_
   refine zq rfl rfl (zu rfl ty39 (gk wp) rfl (zr rfl) (zb rfl)) (sk wQ) ?_
   refine zq rfl rfl (zf rfl yR (zb rfl)) (sk wY) ?_
   refine zq rfl rfl (yk rfl qe (gk wO) (gk wU) va (yO hx1)) (sk wX) ?_
   refine zq rfl rfl (ye rfl ty93.choose_spec.1 (gk wT) (zH (cs':=[.int .u64 x1.time,.int .u8 x1.dot.actor.rep,.int .u32 x1.dot.actor.inc,.int .u64 x1.dot.seq,.str x1.text]) ty93.choose_spec.2 rfl rfl) (zb rfl)) (sk vi) ?_
   refine zq rfl rfl (zg rfl xR xu rfl) (sk vh) ?_
   refine zq rfl rfl (zu rfl ty39 (gk vE) rfl (zr rfl) (zb rfl)) (sk vg) ?_
   refine zq rfl rfl (zf rfl yR (zb rfl)) (sk vz) ?_
   refine zQ hF (fun y32 hy32 hF=>?_)
   refine zq rfl rfl (yk rfl qe (gk vl) (gk vk) va hy32) (sk vw) ?_
   refine zq rfl rfl (ye rfl ty93.choose_spec.1 (gk vD) (zH (cs':=[.int .u64 y32.time,.int .u8 y32.dot.actor.rep,.int .u32 y32.dot.actor.inc,.int .u64 y32.dot.seq,.str y32.text]) ty93.choose_spec.2 rfl rfl) (zb rfl)) (sk vu) ?_
   refine zq rfl rfl (zy rfl (gk vm) (gk vj) (bin_ne pk93 rfl)) (sk vt) ?_
   refine yo ?_
   refine zj ?_
   refine zN (gk vC) hF (fun hc33 hF=>?_) (fun hc33 hF=>?_)
   ·refine zk (zd ?_)
    refine zc rfl (zi rfl rfl (zb rfl)) yC ?_
    refine ze (zj (zI ?_))
    refine zG ?_
    refine zx ?_
    refine yd ?_
    obtain rfl:=Option.some.inj hF
    replace hF:=hK1
    refine zG ?_
    refine zx ?_
    obtain rfl:=Option.some.inj hF
    refine zz rfl (zD yx zF) (zA (leV.refl _) rfl ?_)
    exact ⟨rfl,rfl⟩
   ·refine zK (yg (zj (zd ?_)))
    refine zc rfl (zf rfl yR (zb rfl)) (sk we) ?_
    refine zc rfl (zy rfl (gk x4) rfl rfl) (sk wi) ?_
    refine zc rfl (zi rfl (gk wh) (zb rfl)) xw ?_
    refine ze (yH ?_)
    obtain rfl:=Option.some.inj hF
    exact ⟨(),hl1,hK1,wk.le (by exact (.drop (.drop (.eq (.eq (.drop (.cons (leV.of_eq (ve (by omega) (by omega))) (.d16 (.d16 (.d16 (.d16 (.d16 (.d4 (.d4 leL.nil))))))))))))))⟩
  ·refine yU ?_
   refine zZ ?_
   refine zW ?_
   refine zX ?_
   refine zj (zk (zk (zd ?_)))
   refine zc rfl (zi rfl rfl (zb rfl)) xD ?_
   refine ze (zj (zR ?_))
   refine yu (fun (n2:Nat) (s2:Unit)=>yQ [0,1,4,5,7,8,9,10,11,12,13,14,15,16,17,18,19,20,21,22,23,24,25,26,27,28,29,30,31,32,33,34,35,36,37,38,39,40,41,42,43,44,45,46,47,48,49,50,51,52,53,54,55,56,57,58,59,60,61,62,63,64,65,66,67,68,69,70,71,72,73,74,75,76,77,78,79,80,81,82,83,84,85,86,87,88,89,90,91,92,93] [(6,.int .i64 (n2:Int))]) (fun s2=>h.ext [.cells [.int .u8 a0.typ,.int .i64 a0.n,.int .u64 a0.time,.int .u8 a0.dot.actor.rep,.int .u32 a0.dot.actor.inc,.int .u64 a0.dot.seq,.str a0.text,.sl 5 (a0.items.map GItem.row),.sl 3 (a0.tombs.map GDot.row)],.cells [.int .u8 b1.typ,.int .i64 b1.n,.int .u64 b1.time,.int .u8 b1.dot.actor.rep,.int .u32 b1.dot.actor.inc,.int .u64 b1.dot.seq,.str b1.text,.sl 5 (b1.items.map GItem.row),.sl 3 (b1.tombs.map GDot.row)]] []) hF (fun _ _=>by simp only [yQ,upd,List.set_cons_succ,List.set_cons_zero];try rfl) (wk.le (by exact (.drop (.drop (.eq (.eq (.drop (.drop (.cons (leV.of_eq rfl) (.d16 (.d16 (.d16 (.d16 (.d16 (.d4 (.drop (.drop (.drop leL.nil)))))))))))))))))) ?_
   intro n2 s2 hi2 hF
   refine zk (zk (zd ?_))
   refine zc rfl (zf rfl yV (zb rfl)) (sk vf) ?_
   refine zc rfl (zg rfl wm yW rfl) (sk vr) ?_
   refine zc rfl (zu rfl ty40 (gk vB) rfl (zr rfl) (zb rfl)) (sk vN) ?_
   refine ya rfl (zS rfl rfl rfl rfl el40 (gk vQ) yb) (sk vM) fun hn59=>?_
   replace hn59:=xB hn59
   refine zc rfl (zy rfl (gk vb) (gk vJ) rfl) (sk (sk st0)) ?_
   refine ze (zj ?_)
   refine yL (gk (gk yq)) hF (fun x2 o2 hl2 hx2 hF hK2=>?_) (fun hF=>?_)
   ·refine zK (zj (zk (zR (zk ?_))))
    refine yK [] [] trivial mixed (by kernel_rfl) ?_
    refine zq rfl rfl (zg rfl wm yW rfl) (sk (sk wa)) ?_
    refine zq rfl rfl (zu rfl ty40 (gk (gk xu)) rfl (zr rfl) (zb rfl)) (sk (sk yC)) ?_
    refine zq rfl rfl (zf rfl yV (zb rfl)) (sk (sk xw)) ?_
    refine zq rfl rfl (yk rfl el40 (gk (gk yx)) (gk (gk yR)) va (yO hx2)) (sk (sk xD)) ?_
    refine zq rfl rfl (ye rfl ty38.choose_spec.1 (gk (gk yV)) (zH (cs':=[.int .u8 x2.actor.rep,.int .u32 x2.actor.inc,.int .u64 x2.seq]) ty38.choose_spec.2 rfl rfl) (zb rfl)) (sk (sk xM)) ?_
    refine zq rfl rfl (zg rfl wm xu rfl) (sk (sk xU)) ?_
    refine zq rfl rfl (zu rfl ty40 (gk (gk xp)) rfl (zr rfl) (zb rfl)) (sk (sk wy)) ?_
    refine zq rfl rfl (zf rfl yV (zb rfl)) (sk (sk yJ)) ?_
    refine zQ hF (fun y60 hy60 hF=>?_)
    refine zq rfl rfl (yk rfl el40 (gk (gk xQ)) (gk (gk yD)) va hy60) (sk (sk yN)) ?_
    refine zq rfl rfl (ye rfl ty38.choose_spec.1 (gk (gk yy)) (zH (cs':=[.int .u8 y60.actor.rep,.int .u32 y60.actor.inc,.int .u64 y60.seq]) ty38.choose_spec.2 rfl rfl) (zb rfl)) (sk (sk yX)) ?_
    refine zq rfl rfl (zy rfl (gk (gk xE)) (gk (gk yM)) (bin_ne pk38 rfl)) (sk (sk y4)) ?_
    refine yo ?_
    refine zj ?_
    refine zN (gk (gk yE)) hF (fun hc61 hF=>?_) (fun hc61 hF=>?_)
    ·refine zk (zd ?_)
     refine zc rfl (zi rfl rfl (zb rfl)) yC ?_
     refine ze (zj (zI ?_))
     refine zG ?_
     refine zx ?_
     refine yd ?_
     obtain rfl:=Option.some.inj hF
     replace hF:=hK2
     refine zG ?_
     refine zx ?_
     obtain rfl:=Option.some.inj hF
     refine zz rfl (zD yx zF) (zA (leV.refl _) rfl ?_)
     exact ⟨rfl,rfl⟩
    ·refine zK (yg (zj (zd ?_)))
     refine zc rfl (zf rfl yV (zb rfl)) (sk (sk st1)) ?_
     refine zc rfl (zy rfl (gk (gk yF)) rfl rfl) (sk (sk xg)) ?_
     refine zc rfl (zi rfl (gk (gk yW)) (zb rfl)) xD ?_
     refine ze (yH ?_)
     obtain rfl:=Option.some.inj hF
     exact ⟨(),hl2,hK2,wk.le (by exact (.drop (.drop (.eq (.eq (.drop (.drop (.cons (leV.of_eq (ve (by omega) (by omega))) (.d16 (.d16 (.d16 (.d16 (.d16 (.d4 (.drop (.drop (.drop leL.nil)))))))))))))))))⟩
   ·refine yU ?_
    refine zZ ?_
    refine zW ?_
    refine zX ?_
    refine zj (zk (zd ?_))
    refine zc rfl (zi rfl rfl (zb rfl)) yC ?_
    refine ze (zj (zI ?_))
    obtain rfl:=Option.some.inj hF
    refine zz rfl (zD yx zF) (zA (leV.refl _) rfl ?_)
    exact ⟨rfl,rfl⟩
/-! varve/varveref07.Same -/
theorem ok13N (n:Nat):∀ {a0:(List GNode)} {b1:(List GNode)} {res:Bool} {h:AH} , qh n a0 b1=some res→Spec Tryz.prog 13 [.sl 3 (a0.map GNode.row),.sl 3 (b1.map GNode.row)] h (fun rr hh=>rr=.bool res∧hh=h):=by
 induction n with
 | zero=>intro a0 b1 res h  hF;simp [qh] at hF
 | succ n ih =>
  intro a0 b1 res h  hF
  unfold qh at hF
  refine zt Tryz.func13 rfl (by kernel_rfl) (env:=[.sl 3 (a0.map GNode.row),.sl 3 (b1.map GNode.row),za,za,za,za,za,za,za,za,za,za,za,za,za,za,za,za,za,za,za,za,za,za,za,za,za,za,za,za,za,za,za,za,za,za,za,za,za,za,za,za,za,za,za,za,za,za,za,za,za,za,za,za,za,za,za,za,za,za,za,za,za,za,za,za,za,za,za,za,za,za,za,za,za,za,za,za,za,za,za,za,za,za,za,za]) (by rfl) ?_
  refine zk (zd ?_)
  refine zc rfl (zi rfl rfl (zb rfl)) yC ?_
  refine ze (zj (zk (zk (zd ?_))))
  refine zc rfl (zf rfl yq (zb rfl)) xM ?_
  refine ya rfl (zS rfl rfl rfl rfl xl xE yb) xU fun hn1=>?_
  replace hn1:=xB hn1
  refine zc rfl (zf rfl yF (zb rfl)) wy ?_
  refine ya rfl (zS rfl rfl rfl rfl xl xQ yb) yJ fun hn2=>?_
  replace hn2:=xB hn2
  refine zc rfl (zy rfl xp yD rfl) yN ?_
  refine ze (zj ?_)
  refine zN yy hF (fun hc3 hF=>?_) (fun hc3 hF=>?_)
  ·refine zk (zd ?_)
   refine zc rfl (zi rfl rfl (zb rfl)) yC ?_
   refine ze (zj (zI (zx ?_)))
   obtain rfl:=Option.some.inj hF
   refine zz rfl (zD yx zF) (zA (leV.refl _) rfl ?_)
   exact ⟨rfl,rfl⟩
  ·refine zK (zj (zk (zk (zd ?_))))
   refine zc rfl (zi rfl rfl (zb rfl)) xw ?_
   refine ze (zj (zR ?_))
   refine yu (fun (n1:Nat) (s1:Unit)=>yQ [2,3,4,6,7,8,9,10,11,12,13,14,15,16,17,18,19,20,21,22,23,24,25,26,27,28,29,30,31,32,33,34,35,36,37,38,39,40,41,42,43,44,45,46,47,48,49,50,51,52,53,54,55,56,57,58,59,60,61,62,63,64,65,66,67,68,69,70,71,72,73,74,75,76,77,78,79,80,81,82,83,84,85] [(5,.int .i64 (n1:Int))]) (fun s1=>h.ext [] []) hF (fun _ _=>by simp only [yQ,upd,List.set_cons_succ,List.set_cons_zero];try rfl) (wk.le (by exact (.eq (.eq (.drop (.drop (.drop (.cons (leV.of_eq rfl) (.d16 (.d16 (.d16 (.d16 (.d16 leL.nil))))))))))))) ?_
   intro n1 s1 hi1 hF
   refine zk (zk (zd ?_))
   refine zc rfl (zf rfl yR (zb rfl)) yX ?_
   refine zc rfl (zf rfl yq (zb rfl)) y4 ?_
   refine ya rfl (zS rfl rfl rfl rfl xl yE yb) yZ fun hn40=>?_
   replace hn40:=xB hn40
   refine zc rfl (zy rfl yM yS rfl) y6 ?_
   refine ze (zj ?_)
   refine yL yY hF (fun x1 o1 hl1 hx1 hF hK1=>?_) (fun hF=>?_)
   ·refine zK (zj (zk (zR (zk (zk ?_)))))
    refine yK [] [] trivial mixed (by kernel_rfl) ?_
    refine zq rfl rfl (zf rfl yq (zb rfl)) xF ?_
    refine zq rfl rfl (zf rfl yR (zb rfl)) xN ?_
    refine zq rfl rfl (xO rfl xl xC xL va (yO hx1) (GNode.row_eq _)) x8 ?_
    refine zq rfl rfl (zg rfl fo59x0 x9 rfl) wg ?_
    refine zq rfl rfl (ye rfl ty9 wb (zr rfl) (zb rfl)) wo ?_
    refine zq rfl rfl (zf rfl yF (zb rfl)) we ?_
    refine zq rfl rfl (zf rfl yR (zb rfl)) wi ?_
    refine zQ hF (fun y41 hy41 hF=>?_)
    refine zq rfl rfl (xO rfl xl x4 wh va hy41 (GNode.row_eq _)) wt ?_
    refine zq rfl rfl (zg rfl fo59x0 wp rfl) wQ ?_
    refine zq rfl rfl (ye rfl ty9 wO (zr rfl) (zb rfl)) wY ?_
    refine zq rfl rfl (zy rfl wl wU rfl) wX ?_
    refine zq rfl rfl (zf rfl wT (zb rfl)) vi ?_
    refine zB rfl rfl (fun hb=>zf rfl yq (zb rfl)) vh ?_
    refine zB rfl rfl (fun hb=>zf rfl yR (zb rfl)) vg ?_
    refine wJ hF (fun hg42 hF=>?_)
    refine zB rfl rfl (fun hb=>qK default rfl xl (zn vE hb) (zn vl hb) va (hg42 hb) (GNode.row_eq _)) vz ?_
    refine zB rfl rfl (fun hb=>zg rfl x6 (zn vk hb) rfl) vw ?_
    refine zB rfl rfl (fun hb=>ye rfl ty57 (zn vD hb) (zr rfl) (zb rfl)) vu ?_
    refine draw_glen rfl rfl (fun hb=>zS rfl rfl rfl rfl wn (zn vj hb) yb) vt ?_
    refine zB rfl rfl (fun hb=>zf rfl yF (zb rfl)) vf ?_
    refine zB rfl rfl (fun hb=>zf rfl yR (zb rfl)) vr ?_
    refine wJ hF (fun hg44 hF=>?_)
    refine zB rfl rfl (fun hb=>qK default rfl xl (zn vb hb) (zn vB hb) va (hg44 hb) (GNode.row_eq _)) vN ?_
    refine zB rfl rfl (fun hb=>zg rfl x6 (zn vQ hb) rfl) vM ?_
    refine zB rfl rfl (fun hb=>ye rfl ty57 (zn vJ hb) (zr rfl) (zb rfl)) (sk st0) ?_
    refine draw_glen rfl rfl (fun hb=>zS rfl rfl rfl rfl wn (zn (gk yq) hb) yb) (sk st1) ?_
    refine zB rfl rfl (fun hb=>zy rfl (zn vC hb) (zn (gk yF) hb) rfl) (sk xg) ?_
    refine zq rfl rfl (zM rfl vm rfl (gk yW) (z8 (fun ht=>gF ht))) (sk wa) ?_
    refine zq rfl rfl (zf rfl (gk xu) (zb rfl)) (sk yC) ?_
    refine zB rfl rfl (fun hb=>zf rfl yq (zb rfl)) (sk xw) ?_
    refine zB rfl rfl (fun hb=>zf rfl yR (zb rfl)) (sk xD) ?_
    refine wJ hF (fun hg46 hF=>?_)
    refine zB rfl rfl (fun hb=>qK default rfl xl (zn (gk yR) hb) (zn (gk yV) hb) va (hg46 hb) (GNode.row_eq _)) (sk xM) ?_
    refine zB rfl rfl (fun hb=>zg rfl fo59x2 (zn (gk xE) hb) rfl) (sk xU) ?_
    refine zB rfl rfl (fun hb=>ye rfl ty23 (zn (gk xp) hb) (zr rfl) (zb rfl)) (sk wy) ?_
    refine zB rfl rfl (fun hb=>zf rfl yF (zb rfl)) (sk yJ) ?_
    refine zB rfl rfl (fun hb=>zf rfl yR (zb rfl)) (sk yN) ?_
    refine wJ hF (fun hg47 hF=>?_)
    refine zB rfl rfl (fun hb=>qK default rfl xl (zn (gk yD) hb) (zn (gk yy) hb) va (hg47 hb) (GNode.row_eq _)) (sk yX) ?_
    refine zB rfl rfl (fun hb=>zg rfl fo59x2 (zn (gk yM) hb) rfl) (sk y4) ?_
    refine zB rfl rfl (fun hb=>ye rfl ty23 (zn (gk yE) hb) (zr rfl) (zb rfl)) (sk yZ) ?_
    refine yP hF (fun v48 hv48 hF=>?_)
    refine vc rfl rfl (fun hb=>zC rfl rfl rfl (zo (zn (gk xQ) hb) (zo (zn (gk yS) hb) zw)) (.cons (zb rfl) (.cons (zb rfl) .nil))) (fun hb=>ih (hv48 hb)) (sk y6) ?_
    refine zB rfl rfl (fun hb=>xT rfl (zn (gk yY) hb) rfl) (sk xj) ?_
    refine zq rfl rfl (zM rfl (gk yx) rfl (gk xh) (z8 (fun ht=>gF ht))) (sk xy) ?_
    refine yo ?_
    refine zj ?_
    refine zN (gk xq) hF (fun hc49 hF=>?_) (fun hc49 hF=>?_)
    ·refine zk (zd ?_)
     refine zc rfl (zi rfl rfl (zb rfl)) yC ?_
     refine ze (zj (zI (zx ?_)))
     refine zG ?_
     refine zx ?_
     refine yd ?_
     obtain rfl:=Option.some.inj hF
     replace hF:=hK1
     refine zG ?_
     refine zx ?_
     obtain rfl:=Option.some.inj hF
     refine zz rfl (zD yx zF) (zA (leV.refl _) rfl ?_)
     exact ⟨rfl,rfl⟩
    ·refine zK (zj (zk (zd ?_)))
     refine zc rfl (zi rfl rfl (zb rfl)) xD ?_
     refine ze (zj (zR ?_))
     refine yu (fun (n2:Nat) (s2:Unit)=>yQ [2,3,4,7,8,9,10,11,12,13,14,15,16,17,18,19,20,21,22,23,24,25,26,27,28,29,30,31,32,33,34,35,36,37,38,39,40,41,42,43,44,45,46,47,48,49,50,51,52,53,54,55,56,57,58,59,60,61,62,63,64,65,66,67,68,69,70,71,72,73,74,75,76,77,78,79,80,81,82,83,84,85] [(6,.int .i64 (n2:Int))]) (fun s2=>h.ext [] []) hF (fun _ _=>by simp only [yQ,upd,List.set_cons_succ,List.set_cons_zero];try rfl) (wk.le (by exact (.eq (.eq (.drop (.drop (.drop (.eq (.cons (leV.of_eq rfl) (.d16 (.d16 (.d16 (.d16 (.d4 (.d4 (.d4 (.drop (.drop (.drop leL.nil))))))))))))))))))) ?_
     intro n2 s2 hi2 hF
     refine zk (zk (zd ?_))
     refine zc rfl (zf rfl yV (zb rfl)) (sk xF) ?_
     refine zc rfl (zf rfl yq (zb rfl)) (sk xN) ?_
     refine zc rfl (zf rfl yR (zb rfl)) (sk x8) ?_
     refine zc rfl (xO rfl xl (gk xL) (gk x9) va (yO hx1) (GNode.row_eq _)) (sk wg) ?_
     refine zc rfl (zg rfl x6 (gk wb) rfl) (sk wo) ?_
     refine zc rfl (ye rfl ty57 (gk wl) (zr rfl) (zb rfl)) (sk we) ?_
     refine ya rfl (zS rfl rfl rfl rfl wn (gk x4) yb) (sk wi) fun hn59=>?_
     replace hn59:=xB hn59
     refine zc rfl (zy rfl (gk xC) (gk wh) rfl) (sk wt) ?_
     refine ze (zj ?_)
     refine yL (gk wp) hF (fun x2 o2 hl2 hx2 hF hK2=>?_) (fun hF=>?_)
     ·refine zK (zj (zk (zR (zk ?_))))
      refine yK [16] [] trivial mixed (by kernel_rfl) ?_
      refine zq rfl rfl (zf rfl yq (zb rfl)) (sk wX) ?_
      refine zq rfl rfl (zf rfl yR (zb rfl)) (sk vi) ?_
      refine zq rfl rfl (xO rfl xl (gk wT) (gk vm) va (yO hx1) (GNode.row_eq _)) (sk vh) ?_
      refine zq rfl rfl (zg rfl x6 (gk vE) rfl) (sk vg) ?_
      refine zq rfl rfl (ye rfl ty57 (gk vl) (zr rfl) (zb rfl)) (sk vz) ?_
      refine zq rfl rfl (zf rfl yV (zb rfl)) (sk vw) ?_
      refine zq rfl rfl (yk rfl wn (gk vk) (gk vD) va (yO hx2)) (sk vu) ?_
      refine zq rfl rfl (ye rfl ty42.choose_spec.1 (gk vj) (zH (cs':=[.int .u8 x2.typ,.int .i64 x2.n,.int .u64 x2.time,.int .u8 x2.dot.actor.rep,.int .u32 x2.dot.actor.inc,.int .u64 x2.dot.seq,.str x2.text,.sl 5 (x2.items.map GItem.row),.sl 3 (x2.tombs.map GDot.row)]) ty42.choose_spec.2 rfl rfl) (zb rfl)) (sk vt) ?_
      refine zq rfl rfl (zf rfl yF (zb rfl)) (sk vf) ?_
      refine zq rfl rfl (zf rfl yR (zb rfl)) (sk vr) ?_
      refine zQ hF (fun y60 hy60 hF=>?_)
      refine zq rfl rfl (xO rfl xl (gk vb) (gk vB) va hy60 (GNode.row_eq _)) (sk vN) ?_
      refine zq rfl rfl (zg rfl x6 (gk vQ) rfl) (sk vM) ?_
      refine zq rfl rfl (ye rfl ty57 (gk vJ) (zr rfl) (zb rfl)) (sk (sk st0)) ?_
      refine zq rfl rfl (zf rfl yV (zb rfl)) (sk (sk st1)) ?_
      refine zQ hF (fun y61 hy61 hF=>?_)
      refine zq rfl rfl (yk rfl wn (gk (gk yq)) (gk (gk yF)) va hy61) (sk (sk xg)) ?_
      refine zq rfl rfl (ye rfl ty42.choose_spec.1 (gk (gk yW)) (zH (cs':=[.int .u8 y61.typ,.int .i64 y61.n,.int .u64 y61.time,.int .u8 y61.dot.actor.rep,.int .u32 y61.dot.actor.inc,.int .u64 y61.dot.seq,.str y61.text,.sl 5 (y61.items.map GItem.row),.sl 3 (y61.tombs.map GDot.row)]) ty42.choose_spec.2 rfl rfl) (zb rfl)) (sk (sk wa)) ?_
      refine zQ hF (fun v62 hv62 hF=>?_)
      refine yv rfl rfl (fun _=>zC rfl rfl rfl (zo (gk vC) (zo (gk (gk xu)) zw)) (.cons (zb rfl) (.cons (zb rfl) .nil))) (by rintro _ ⟨B2,T2,rfl,hk2⟩;exact ok33 hv62) (sk (sk yC)) ?_
      refine zq rfl rfl (xT rfl (gk (gk yx)) rfl) (sk (sk xw)) ?_
      refine yo ?_
      refine zj ?_
      refine zN (gk (gk yR)) hF (fun hc63 hF=>?_) (fun hc63 hF=>?_)
      ·refine zk (zd ?_)
       refine zc rfl (zi rfl rfl (zb rfl)) yC ?_
       refine ze (zj (zI ?_))
       refine zG ?_
       refine zx ?_
       refine yd ?_
       obtain rfl:=Option.some.inj hF
       replace hF:=hK2
       refine zG ?_
       refine zG ?_
       refine zx ?_
       refine yd ?_
       obtain rfl:=Option.some.inj hF
       replace hF:=hK1
       refine zG ?_
       refine zx ?_
       obtain rfl:=Option.some.inj hF
       refine zz rfl (zD yx zF) (zA (leV.refl _) rfl ?_)
       exact ⟨rfl,rfl⟩
      ·refine zK (yg (zj (zd ?_)))
       refine zc rfl (zf rfl yV (zb rfl)) (sk wQ) ?_
       refine zc rfl (zy rfl (gk wO) rfl rfl) (sk wY) ?_
       refine zc rfl (zi rfl (gk wU) (zb rfl)) xD ?_
       refine ze (yH ?_)
       obtain rfl:=Option.some.inj hF
       exact ⟨(),hl2,hK2,wk.le (by exact (.eq (.eq (.drop (.drop (.drop (.eq (.cons (leV.of_eq (ve (by omega) (by omega))) (.d16 (.d16 (.d16 (.d16 (.d4 (.d4 (.d4 (.drop (.drop (.drop leL.nil))))))))))))))))))⟩
     ·refine yU ?_
      refine zZ ?_
      refine zW ?_
      refine zX ?_
      refine yg (zj (zd ?_))
      refine zc rfl (zf rfl yR (zb rfl)) xj ?_
      refine zc rfl (zy rfl xh rfl rfl) xy ?_
      refine zc rfl (zi rfl xq (zb rfl)) xw ?_
      refine ze (yH ?_)
      obtain rfl:=Option.some.inj hF
      exact ⟨(),hl1,hK1,wk.le (by exact (.eq (.eq (.drop (.drop (.drop (.cons (leV.of_eq (ve (by omega) (by omega))) (.d16 (.d16 (.d16 (.d16 (.d16 leL.nil))))))))))))⟩
   ·refine yU ?_
    refine zZ ?_
    refine zW ?_
    refine zX ?_
    refine zj (zk (zd ?_))
    refine zc rfl (zi rfl rfl (zb rfl)) yC ?_
    refine ze (zj (zI ?_))
    obtain rfl:=Option.some.inj hF
    refine zz rfl (zD yx zF) (zA (leV.refl _) rfl ?_)
    exact ⟨rfl,rfl⟩
theorem ok13 {a0:(List GNode)} {b1:(List GNode)} {res:Bool} {h:AH}  (hF:qT a0 b1=some res):Spec Tryz.prog 13 [.sl 3 (a0.map GNode.row),.sl 3 (b1.map GNode.row)] h (fun rr hh=>rr=.bool res∧hh=h):=by
 obtain ⟨n,hn⟩:=anyN_is hF
 exact ok13N n  hn
/-! varve/varvelaw31.DiffPart -/
theorem ok3 {a0:(List GNode)} {b1:(List GNode)} {p2:(List zJ)} {res:Bool} {h:AH}  (hF:qG a0 b1 p2=some res):Spec Tryz.prog 3 [.sl 3 (a0.map GNode.row),.sl 3 (b1.map GNode.row),.sl 1 (p2.map zP)] h (fun rr hh=>rr=.bool res∧hh=h):=by
 unfold qG at hF
 refine zt Tryz.func3 rfl (by kernel_rfl) (env:=[.sl 3 (a0.map GNode.row),.sl 3 (b1.map GNode.row),.sl 1 (p2.map zP),za,za,za,za,za,za,za,za,za,za,za,za,za,za,za,za,za,za,za,za,za,za,za,za,za,za,za,za,za,za,za,za,za,za,za,za,za,za,za,za,za,za,za,za,za,za,za,za,za,za,za,za,za,za,za,za,za,za,za,za,za,za,za,za,za,za,za,za,za,za,za,za,za,za,za,za,za,za,za,za,za,za,za,za,za,za,za,za,za,za,za,za,za,za,za,za,za,za,za,za,za,za,za,za,za,za,za,za,za,za,za,za,za,za,za,za,za,za,za,za,za,za,za,za,za,za,za]) (by rfl) ?_
 refine zk (zd ?_)
 refine zc rfl (zi rfl rfl (zb rfl)) xD ?_
 refine ze (zj (zk (zk (zd ?_))))
 refine zc rfl (zf rfl yq (zb rfl)) wo ?_
 refine zc rfl (zf rfl yF (zb rfl)) we ?_
 refine zQ hF (fun v1 hv1 hF=>?_)
 refine zL rfl (zC rfl rfl rfl (zo wl (zo x4 (zo rfl (zo rfl (zo rfl zw))))) (.cons (zb rfl) (.cons (zb rfl) (.cons (xi xl) (.cons (xi el29) (.cons (xi el29) .nil)))))) ((ok4 hv1).le (.eq (.eq (.cons (leV.osl _ _ _) (.cons (leV.osl _ _ _) (.cons (leV.osl _ _ _) leL.nil)))))) wi ?_
 refine zc rfl (zf rfl wh (zb rfl)) wt ?_
 refine zp rfl (fun hb=>zf rfl yq (zb rfl)) wQ ?_
 refine yP hF (fun v2 hv2 hF=>?_)
 refine yj rfl (fun hb=>zC rfl rfl rfl (zo (zn wO hb) zw) (.cons (zb rfl) .nil)) (fun hb=>ok5 (hv2 hb)) wY ?_
 refine zp rfl (fun hb=>xT rfl (zn wU hb) rfl) wX ?_
 refine zc rfl (zM rfl wp rfl wT (z8 (fun ht=>gF ht))) vi ?_
 refine zc rfl (zf rfl vm (zb rfl)) vh ?_
 refine zp rfl (fun hb=>zf rfl yF (zb rfl)) vg ?_
 refine yP hF (fun v3 hv3 hF=>?_)
 refine yj rfl (fun hb=>zC rfl rfl rfl (zo (zn vl hb) zw) (.cons (zb rfl) .nil)) (fun hb=>ok5 (hv3 hb)) vz ?_
 refine zp rfl (fun hb=>xT rfl (zn vk hb) rfl) vw ?_
 refine zc rfl (zM rfl vE rfl vD (z8 (fun ht=>gF ht))) vu ?_
 refine zc rfl (zf rfl vj (zb rfl)) vt ?_
 refine zp rfl (fun hb=>zf rfl yW (zb rfl)) vf ?_
 refine xA rfl (fun hb=>zS rfl rfl rfl rfl wD (zn vb hb) yb) vr fun hn4=>?_
 refine zp rfl (fun hb=>zy rfl (zn vB hb) rfl rfl) vN ?_
 refine zc rfl (zM rfl vC rfl vQ (z8 (fun ht=>gF ht))) vM ?_
 refine zc rfl (zf rfl vJ (zb rfl)) (sk st0) ?_
 refine zp rfl (fun hb=>zf rfl yW (zb rfl)) (sk st1) ?_
 refine yP hF (fun v5 hv5 hF=>?_)
 refine yj rfl (fun hb=>zC rfl rfl rfl (zo (zn (gk yF) hb) zw) (.cons (zb rfl) .nil)) (fun hb=>ok6 (hv5 hb)) (sk xg) ?_
 refine zp rfl (fun hb=>xT rfl (zn (gk yW) hb) rfl) (sk wa) ?_
 refine zc rfl (zM rfl (gk yq) rfl (gk xu) (z8 (fun ht=>gF ht))) (sk yC) ?_
 refine ze (zj ?_)
 refine zN (gk yx) hF (fun hc6 hF=>?_) (fun hc6 hF=>?_)
 ·refine zk (zd ?_)
  refine zQ hF (fun v7 hv7 hF=>?_)
  refine zL rfl (zC rfl rfl rfl zw .nil) (ok7 hv7) (sk xw) ?_
  refine zc rfl (zi rfl (gk yR) (zb rfl)) xD ?_
  refine ze (zj (zI (zx ?_)))
  obtain rfl:=Option.some.inj hF
  refine zz rfl (zD yV zF) (zA (leV.refl _) rfl ?_)
  exact ⟨rfl,rfl⟩
 ·refine zK (zj (zk (zd ?_)))
  refine zc rfl (zf rfl yq (zb rfl)) (sk xM) ?_
  refine zc rfl (zf rfl yF (zb rfl)) (sk xU) ?_
  refine zQ hF (fun v8 hv8 hF=>?_)
  refine zL rfl (zC rfl rfl rfl (zo (gk xE) (zo (gk xp) zw)) (.cons (zb rfl) (.cons (zb rfl) .nil))) (ok8 hv8) (sk wy) ?_
  refine zc rfl (zf rfl (gk xQ) (zb rfl)) (sk xD) ?_
  refine zc rfl (yl rfl (gk yV) rfl (zb rfl)) (sk yJ) ?_
  refine zc rfl (yl rfl (gk yV) rfl (zb rfl)) (sk yN) ?_
  refine zc rfl (zi rfl (gk yD) (zb rfl)) xM ?_
  refine zc rfl (zi rfl (gk yy) (zb rfl)) xU ?_
  refine ze (zj (zk (zd ?_)))
  refine zc rfl (zi rfl rfl (xi el29)) wy ?_
  refine ze (zj (zk (zk (zd ?_))))
  refine zc rfl (zf rfl xE (zb rfl)) (sk yX) ?_
  refine ya rfl (zS rfl rfl rfl rfl el29 (gk yM) yb) (sk y4) fun hn9=>?_
  replace hn9:=xB hn9
  refine zc rfl (zf rfl rfl (zb rfl)) (sk yZ) ?_
  refine ze (zj (zR ?_))
  refine yu (fun (n1:Nat) (s1:(List GEdit))=>yQ [3,4,5,6,7,10,11,12,13,14,15,16,17,18,19,20,21,22,23,24,25,26,27,28,29,30,31,32,33,34,35,36,37,38,39,40,41,42,43,44,45,46,47,48,49,50,51,55,56,57,58,59,60,61,62,63,64,65,66,67,68,69,70,71,72,73,74,75,76,77,78,79,80,81,82,83,84,85,86,87,88,89,90,91,92,93,94,95,96,97,98,99,100,101,102,103,104,105,106,107,108,109,110,111,112,113,114,115,116,117,118,119,120,121,122,123,124,125,126,127,128,129] [(9,.osl (some (h.toks.length+0)) 22 (s1.map GEdit.row)),(54,.int .i64 (n1:Int))]) (fun s1=>h.ext [] [(s1).length]) hF (fun _ _=>by simp only [yQ,upd,List.set_cons_succ,List.set_cons_zero];try rfl) (wk.trans (wk_tok xQ rfl wy rfl) (wk.le (by exact (.eq (.eq (.eq (.d4 (.drop (.eq (.cons (leV.of_eq rfl) (.d16 (.d16 (.d4 (.d4 (.drop (.drop (.eq (.eq (.cons (leV.of_eq rfl) (.d16 (.d16 (.d16 (.d16 (.d4 (.d4 (.drop (.drop (.drop leL.nil)))))))))))))))))))))))))))) ?_
  intro n1 s1 hi1 hF
  refine zk (zd ?_)
  refine zc rfl (zy rfl (gk yS) (gk yE) rfl) (sk y6) ?_
  refine ze (zj (zk ?_))
  refine yL (gk yY) hF (fun x1 o1 hl1 hx1 hF hK1=>?_) (fun hF=>?_)
  ·refine zK (zj (zk (zR (zk (zd ?_)))))
   refine zc rfl (yk rfl el29 (gk yM) (gk yS) va (yO hx1)) (sk xj) ?_
   refine zc rfl (ye rfl ty44.choose_spec.1 (gk xh) (zH (cs':=[.sl 1 (x1.path.map zP),.int .u8 x1.typ,.bool x1.had,.bool x1.has,.int .u8 x1.was.typ,.int .i64 x1.was.n,.int .u64 x1.was.time,.int .u8 x1.was.dot.actor.rep,.int .u32 x1.was.dot.actor.inc,.int .u64 x1.was.dot.seq,.str x1.was.text,.sl 5 (x1.was.items.map GItem.row),.sl 3 (x1.was.tombs.map GDot.row),.int .u8 x1.is.typ,.int .i64 x1.is.n,.int .u64 x1.is.time,.int .u8 x1.is.dot.actor.rep,.int .u32 x1.is.dot.actor.inc,.int .u64 x1.is.dot.seq,.str x1.is.text,.sl 5 (x1.is.items.map GItem.row),.sl 3 (x1.is.tombs.map GDot.row)]) ty44.choose_spec.2 rfl rfl) (zb rfl)) (sk xy) ?_
   refine zc rfl (xe (n:=0) rfl ze44 rfl) yN ?_
   refine zc rfl (yf (cs':=[.sl 1 (x1.path.map zP),.int .u8 x1.typ,.bool x1.had,.bool x1.has,.int .u8 x1.was.typ,.int .i64 x1.was.n,.int .u64 x1.was.time,.int .u8 x1.was.dot.actor.rep,.int .u32 x1.was.dot.actor.inc,.int .u64 x1.was.dot.seq,.str x1.was.text,.sl 5 (x1.was.items.map GItem.row),.sl 3 (x1.was.tombs.map GDot.row),.int .u8 x1.is.typ,.int .i64 x1.is.n,.int .u64 x1.is.time,.int .u8 x1.is.dot.actor.rep,.int .u32 x1.is.dot.actor.inc,.int .u64 x1.is.dot.seq,.str x1.is.text,.sl 5 (x1.is.items.map GItem.row),.sl 3 (x1.is.tombs.map GDot.row)]) rfl ty44.choose_spec.1 yy (gk xq) (zb rfl) rfl rfl rfl rfl rfl) rfl ?_
   refine ze (zj (zk (zd ?_)))
   refine zc rfl (zf rfl yW (zb rfl)) (sk xF) ?_
   refine zc rfl (zg rfl fo44x0 yy rfl) (sk xN) ?_
   refine zc rfl (zu rfl ty24 (gk xL) rfl (zr rfl) (zb rfl)) (sk x8) ?_
   refine zQ hF (fun v17 hv17 hF=>?_)
   refine zL rfl (zC rfl rfl rfl (zo (gk xC) (zo (gk x9) zw)) (.cons (zb rfl) (.cons (zb rfl) .nil))) (ok9 hv17) (sk wg) ?_
   refine ze (zj ?_)
   refine zN (gk wb) hF (fun hc18 hF=>?_) (fun hc18 hF=>?_)
   ·refine zd ?_
    refine zc rfl (zf rfl xQ (zb rfl)) (sk wo) ?_
    refine zc rfl (zu rfl ty44.choose_spec.1 yy rfl (zH (cs':=[.sl 1 (x1.path.map zP),.int .u8 x1.typ,.bool x1.had,.bool x1.has,.int .u8 x1.was.typ,.int .i64 x1.was.n,.int .u64 x1.was.time,.int .u8 x1.was.dot.actor.rep,.int .u32 x1.was.dot.actor.inc,.int .u64 x1.was.dot.seq,.str x1.was.text,.sl 5 (x1.was.items.map GItem.row),.sl 3 (x1.was.tombs.map GDot.row),.int .u8 x1.is.typ,.int .i64 x1.is.n,.int .u64 x1.is.time,.int .u8 x1.is.dot.actor.rep,.int .u32 x1.is.dot.actor.inc,.int .u64 x1.is.dot.seq,.str x1.is.text,.sl 5 (x1.is.items.map GItem.row),.sl 3 (x1.is.tombs.map GDot.row)]) ty44.choose_spec.2 rfl rfl) (zb rfl)) (sk we) ?_
    refine zc rfl (yr (es:=([x1]:List GEdit).map GEdit.row) rfl el29 ze44 rfl rfl (yh (gk x4) ym) (.cons (zb rfl) .nil) rfl rfl rfl) (sk wi) ?_
    refine wJ hF (fun hm19 hF=>?_)
    refine zc rfl (e_appT (j:=0) (T':=[((s1++([x1]:List GEdit))).length]) rfl rfl rfl rfl el29 el29 (gk wl) (gk wh) (zb rfl) (zb rfl) news_osl hm19 rfl rfl) (sk wt) ?_
    refine zc rfl (zi rfl (gk wp) (zb rfl)) wy ?_
    refine ze (yg (zj (zd ?_)))
    refine zc rfl (zy rfl (gk yS) rfl rfl) (sk wQ) ?_
    refine zc rfl (zf rfl (gk wO) (zb rfl)) (sk yZ) ?_
    refine ze (yH ?_)
    obtain rfl:=Option.some.inj hF
    exact ⟨(s1++([x1]:List GEdit)),hl1,hK1,wk.trans (wk.le (by exact (.eq (.eq (.eq (.d4 (.drop (.eq (.cons (leV.of_eq rfl) (.d16 (.d16 (.d4 (.d4 (.drop (.drop (.eq (.eq (.cons (leV.of_eq (ve (by omega) (by omega))) (.d16 (.d16 (.d16 (.d16 (.d4 (.d4 (.drop (.drop (.drop leL.nil))))))))))))))))))))))))))) (xJ (by simp [yi,AV.low]) rfl rfl (by simp [Blk.low,yi,AV.low]))⟩
   ·refine zK (yg (zj (zd ?_)))
    refine zc rfl (zy rfl (gk yS) rfl rfl) (sk wQ) ?_
    refine zc rfl (zf rfl (gk wO) (zb rfl)) (sk yZ) ?_
    refine ze (yH ?_)
    obtain rfl:=Option.some.inj hF
    exact ⟨s1,hl1,hK1,wk.trans (wk.le (by exact (.eq (.eq (.eq (.d4 (.drop (.eq (.cons (leV.of_eq rfl) (.d16 (.d16 (.d4 (.d4 (.drop (.drop (.eq (.eq (.cons (leV.of_eq (ve (by omega) (by omega))) (.d16 (.d16 (.d16 (.d16 (.d4 (.d4 (.drop (.drop (.drop leL.nil))))))))))))))))))))))))))) (xJ (by simp [yi,AV.low]) rfl rfl (by simp [Blk.low,yi,AV.low]))⟩
  ·refine yU ?_
   refine zZ ?_
   refine zW ?_
   refine zX ?_
   refine zj (zk (zd ?_))
   refine zc rfl (zf rfl yq (zb rfl)) (sk wX) ?_
   refine zc rfl (zf rfl xQ (zb rfl)) (sk vi) ?_
   refine zQ hF (fun v20 hv20 hF=>?_)
   refine zL rfl (zC rfl rfl rfl (zo (gk wT) (zo (gk vm) zw)) (.cons (zb rfl) (.cons (zb rfl) .nil))) ((ok10 hv20).le (.eq (.cons (leV.osl _ _ _) leL.nil))) (sk vh) ?_
   refine zc rfl (zf rfl (gk vE) (zb rfl)) (sk wY) ?_
   refine zc rfl (yl rfl (gk wU) rfl (zb rfl)) (sk vg) ?_
   refine zc rfl (yl rfl (gk wU) rfl (zb rfl)) (sk vz) ?_
   refine zc rfl (zi rfl (gk vl) (zb rfl)) yX ?_
   refine zc rfl (zi rfl (gk vk) (zb rfl)) y4 ?_
   refine ze (zj (zk (zk (zd ?_))))
   refine zc rfl (zf rfl xp (zb rfl)) (sk vw) ?_
   refine zc rfl (zy rfl (gk vD) rfl rfl) (sk vu) ?_
   refine zc rfl (zf rfl (gk vj) (zb rfl)) (sk vt) ?_
   refine zp rfl (fun hb=>zf rfl yE (zb rfl)) (sk vf) ?_
   refine zp rfl (fun hb=>zy rfl (zn (gk vb) hb) rfl rfl) (sk vr) ?_
   refine zc rfl (zM rfl (gk vC) rfl (gk vB) (z8 (fun ht=>gF ht))) (sk vN) ?_
   refine ze (zj ?_)
   refine zN (gk vQ) hF (fun hc21 hF=>?_) (fun hc21 hF=>?_)
   ·refine zk (zd ?_)
    refine zc rfl (zi rfl rfl (zb rfl)) xD ?_
    refine ze (zj (zI (zx ?_)))
    obtain rfl:=Option.some.inj hF
    refine zz rfl (zD yV zF) (zA (leV.refl _) rfl ?_)
    exact ⟨rfl,rfl⟩
   ·refine zK (zj (zk (zd ?_)))
    refine zc rfl (zf rfl yM (zb rfl)) (sk (sk st0)) ?_
    refine zc rfl (zf rfl yW (zb rfl)) (sk (sk st1)) ?_
    refine zQ hF (fun v22 hv22 hF=>?_)
    refine zL rfl (zC rfl rfl rfl (zo (gk (gk yq)) (zo (gk (gk yF)) zw)) (.cons (zb rfl) (.cons (zb rfl) .nil))) (ok11 hv22) (sk (sk xg)) ?_
    refine zc rfl (zf rfl (gk (gk yW)) (zb rfl)) (sk vM) ?_
    refine zc rfl (yl rfl (gk vJ) rfl (zb rfl)) (sk (sk wa)) ?_
    refine zc rfl (yl rfl (gk vJ) rfl (zb rfl)) (sk (sk yC)) ?_
    refine zc rfl (zi rfl (gk (gk xu)) (zb rfl)) yZ ?_
    refine zc rfl (zi rfl (gk (gk yx)) (zb rfl)) y6 ?_
    refine ze (zj (zk (zd ?_)))
    refine zc rfl (zf rfl yF (zb rfl)) (sk (sk xD)) ?_
    refine zc rfl (zf rfl yW (zb rfl)) (sk (sk xM)) ?_
    refine zQ hF (fun v23 hv23 hF=>?_)
    refine zL rfl (zC rfl rfl rfl (zo (gk (gk yV)) (zo (gk (gk xE)) zw)) (.cons (zb rfl) (.cons (zb rfl) .nil))) (ok11 hv23) (sk (sk xU)) ?_
    refine zc rfl (zf rfl (gk (gk xp)) (zb rfl)) (sk (sk xw)) ?_
    refine zc rfl (yl rfl (gk (gk yR)) rfl (zb rfl)) (sk (sk wy)) ?_
    refine zc rfl (yl rfl (gk (gk yR)) rfl (zb rfl)) (sk (sk yJ)) ?_
    refine zc rfl (zi rfl (gk (gk xQ)) (zb rfl)) xj ?_
    refine zc rfl (zi rfl (gk (gk yD)) (zb rfl)) xy ?_
    refine ze (zj (zk (zd ?_)))
    refine zc rfl (zf rfl yM (zb rfl)) (sk (sk yX)) ?_
    refine zc rfl (zf rfl yW (zb rfl)) (sk (sk y4)) ?_
    refine zQ hF (fun v24 hv24 hF=>?_)
    refine zL rfl (zC rfl rfl rfl (zo (gk (gk yM)) (zo (gk (gk yE)) zw)) (.cons (zb rfl) (.cons (zb rfl) .nil))) (ok12 hv24) (sk (sk yZ)) ?_
    refine zc rfl (zf rfl (gk (gk yS)) (zb rfl)) (sk (sk yN)) ?_
    refine zc rfl (yl rfl (gk (gk yy)) rfl (zb rfl)) (sk (sk y6)) ?_
    refine zc rfl (yl rfl (gk (gk yy)) rfl (zb rfl)) (sk (sk xj)) ?_
    refine zc rfl (zi rfl (gk (gk yY)) (zb rfl)) xF ?_
    refine zc rfl (zi rfl (gk (gk xh)) (zb rfl)) xN ?_
    refine ze (zj (zk (zd ?_)))
    refine zc rfl (zf rfl yq (zb rfl)) (sk (sk xF)) ?_
    refine zc rfl (zf rfl yW (zb rfl)) (sk (sk xN)) ?_
    refine zQ hF (fun v25 hv25 hF=>?_)
    refine zL rfl (zC rfl rfl rfl (zo (gk (gk xC)) (zo (gk (gk xL)) zw)) (.cons (zb rfl) (.cons (zb rfl) .nil))) (ok12 hv25) (sk (sk x8)) ?_
    refine zc rfl (zf rfl (gk (gk x9)) (zb rfl)) (sk (sk xy)) ?_
    refine zc rfl (yl rfl (gk (gk xq)) rfl (zb rfl)) (sk (sk wg)) ?_
    refine zc rfl (yl rfl (gk (gk xq)) rfl (zb rfl)) (sk (sk wo)) ?_
    refine zc rfl (zi rfl (gk (gk wb)) (zb rfl)) x8 ?_
    refine zc rfl (zi rfl (gk (gk wl)) (zb rfl)) wg ?_
    refine ze (zj (zk (zd ?_)))
    refine zc rfl (zf rfl yY (zb rfl)) (sk (sk we)) ?_
    refine zc rfl (zy rfl (gk (gk x4)) rfl rfl) (sk (sk wi)) ?_
    refine zc rfl (zf rfl (gk (gk wh)) (zb rfl)) (sk (sk wt)) ?_
    refine zp rfl (fun hb=>zf rfl xq (zb rfl)) (sk (sk wQ)) ?_
    refine zp rfl (fun hb=>zy rfl (zn (gk (gk wO)) hb) rfl rfl) (sk (sk wY)) ?_
    refine zc rfl (zM rfl (gk (gk wp)) (gk (gk wU)) rfl (zU (fun ht=>gT ht))) (sk (sk wX)) ?_
    refine zc rfl (zf rfl (gk (gk wT)) (zb rfl)) (sk (sk vi)) ?_
    refine zp rfl (fun hb=>zf rfl xL (zb rfl)) (sk (sk vh)) ?_
    refine zp rfl (fun hb=>zy rfl (zn (gk (gk vE)) hb) rfl rfl) (sk (sk vg)) ?_
    refine zc rfl (zM rfl (gk (gk vm)) (gk (gk vl)) rfl (zU (fun ht=>gT ht))) (sk (sk vz)) ?_
    refine zc rfl (zf rfl (gk (gk vk)) (zb rfl)) (sk (sk vw)) ?_
    refine zp rfl (fun hb=>zf rfl wb (zb rfl)) (sk (sk vu)) ?_
    refine zp rfl (fun hb=>zy rfl (zn (gk (gk vj)) hb) rfl rfl) (sk (sk vt)) ?_
    refine zc rfl (zM rfl (gk (gk vD)) (gk (gk vC)) rfl (zU (fun ht=>gT ht))) (sk (sk vf)) ?_
    refine zc rfl (zf rfl (gk (gk vb)) (zb rfl)) (sk (sk vr)) ?_
    refine zp rfl (fun hb=>zf rfl yS (zb rfl)) (sk (sk vN)) ?_
    refine zp rfl (fun hb=>zf rfl xh (zb rfl)) (sk (sk vM)) ?_
    refine yP hF (fun v26 hv26 hF=>?_)
    refine yj rfl (fun hb=>zC rfl rfl rfl (zo (zn (gk (gk vQ)) hb) (zo (zn (gk (gk vJ)) hb) zw)) (.cons (zb rfl) (.cons (zb rfl) .nil))) (fun hb=>ok13 (hv26 hb)) (sk (sk (sk st0))) ?_
    refine zc rfl (zM rfl (gk (gk vB)) (gk (gk (gk yq))) rfl (zU (fun ht=>gT ht))) (sk (sk (sk st1))) ?_
    refine zc rfl (zf rfl (gk (gk (gk yF))) (zb rfl)) (sk (sk (sk xg))) ?_
    refine zp rfl (fun hb=>zf rfl xC (zb rfl)) (sk (sk (sk wa))) ?_
    refine zp rfl (fun hb=>zf rfl x9 (zb rfl)) (sk (sk (sk yC))) ?_
    refine yP hF (fun v27 hv27 hF=>?_)
    refine yj rfl (fun hb=>zC rfl rfl rfl (zo (zn (gk (gk (gk xu))) hb) (zo (zn (gk (gk (gk yx))) hb) zw)) (.cons (zb rfl) (.cons (zb rfl) .nil))) (fun hb=>ok13 (hv27 hb)) (sk (sk (sk xw))) ?_
    refine zc rfl (zM rfl (gk (gk (gk yW))) (gk (gk (gk yR))) rfl (zU (fun ht=>gT ht))) (sk (sk (sk xD))) ?_
    refine zc rfl (zf rfl (gk (gk (gk yV))) (zb rfl)) (sk (sk (sk xM))) ?_
    refine yP hF (fun v28 hv28 hF=>?_)
    refine yj rfl (fun hb=>zC rfl rfl rfl zw .nil) (fun hb=>ok7 (hv28 hb)) (sk (sk (sk xU))) ?_
    refine zc rfl (zM rfl (gk (gk (gk xE))) (gk (gk (gk xp))) rfl (zU (fun ht=>gT ht))) (sk (sk (sk wy))) ?_
    refine zc rfl (zi rfl (gk (gk (gk xQ))) (zb rfl)) xD ?_
    refine ze (zj (zI ?_))
    obtain rfl:=Option.some.inj hF
    refine zz rfl (zD yV zF) (zA (leV.refl _) rfl ?_)
    exact ⟨rfl,rfl⟩
end Go.Vv
