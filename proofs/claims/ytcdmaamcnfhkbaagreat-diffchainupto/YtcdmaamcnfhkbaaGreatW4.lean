/- Each function that the law reaches computes what its reading says; printed by a program. -/
import Derived.Test.YtcdmaamcnfhkbaaGreatW3
namespace Go.Vv
open Go Go.Proofs
set_option maxRecDepth 100000
set_option maxHeartbeats 1000000
set_option linter.unusedSimpArgs false
set_option linter.unusedVariables false
/-! slices.IndexFunc[varve/api.Tree,varve/api.Node] -/
theorem ok85 {s0:(List GNode)} {f1:(GNode→Option Bool)} {ff1:FuncId} {af1 kf1:List AV} {res:Int} {h:AH} (hf1:∀ x0 v (L:List Blk) (M:List Nat),f1 x0=some v→Spec Tryz.prog ff1 (af1++[.agg [.str x0.name,.sl 9 (x0.leaves.map GLeaf.row),.sl 3 (x0.subs.map GNode.row)]]++kf1) (h.ext L M) (fun rr hh=>rr=.bool v∧hh=h.ext L M)) (hF:wv s0 f1=some res):Spec Tryz.prog 85 [.sl 3 (s0.map GNode.row),.fn (.func ff1) af1 kf1] h (fun rr hh=>rr=.int .i64 res∧hh=h):=by
 unfold wv at hF
 refine yG Tryz.func85 rfl (by kernel_rfl) (env:=[.sl 3 (s0.map GNode.row),.fn (.func ff1) af1 kf1,za,za,za,za,za,za,za,za,za,za,za,za,za,za,za,za,za]) (by rfl) (fun hlow hC=>?_)
 simp only [yi,AV.low,Bool.and_eq_true,Bool.true_and,and_true] at hlow
 have hlaf1:∀ n m,h.blks.length≤n→h.toks.length≤m→yi n m af1=true:=fun n m h1 h2=>y8 h1 h2 _ (by simp [hlow])
 have hlkf1:∀ n m,h.blks.length≤n→h.toks.length≤m→yi n m kf1=true:=fun n m h1 h2=>y8 h1 h2 _ (by simp [hlow])
 refine zk (zd ?_)
 refine zc rfl (zi rfl rfl (zb rfl)) yB ?_
 refine ze (zj (zk (zk (zd ?_))))
 refine zc rfl (zf rfl yr (zb rfl)) xE ?_
 refine yb rfl (zS rfl rfl rfl rfl xC yU yc) xO fun hn1=>?_
 replace hn1:=xl hn1
 refine zc rfl (zf rfl rfl (zb rfl)) xX ?_
 refine ze (zj (zQ ?_))
 refine yo (fun (n1:Nat) (s1:Unit)=>yO [2,3,4,5,6,9,10,11,12,13,14,15,16,17,18] [(8,.int .i64 (n1:Int))]) (fun s1=>h.ext [] []) hF (fun _ _=>by simp only [yO,upd,List.set_cons_succ,List.set_cons_zero];try rfl) (wk.le (by exact (.eq (.eq (.d4 (.drop (.eq (.cons (leV.of_eq rfl) (.d4 (.d4 (.drop (.drop leL.nil)))))))))))) ?_
 intro n1 s1 hi1 hF
 refine zk (zd ?_)
 refine zc rfl (zy rfl xj xH rfl) wB ?_
 refine ze (zj (zk ?_))
 refine yJ xV hF (fun x1 o1 hl1 hx1 hF hK1=>?_) (fun hF=>?_)
 ·refine zK (zj (zk (zQ (zk (zd ?_)))))
  refine zc rfl (zf rfl xj (zb rfl)) yL ?_
  refine zc rfl (zi rfl yq (zb rfl)) xz ?_
  refine ze (zj (zk (zd ?_)))
  refine zc rfl (zf rfl yF (zb rfl)) yP ?_
  refine zc rfl (zf rfl yr (zb rfl)) yX ?_
  refine zc rfl (zf rfl yS (zb rfl)) yW ?_
  refine zc rfl (xS rfl xC yM yC w7 (yK hx1) (GNode.row_eq _)) y5 ?_
  refine zc rfl (ye rfl ty51.choose_spec.1 yY (zH (cs':=[.str x1.name,.sl 9 (x1.leaves.map GLeaf.row),.sl 3 (x1.subs.map GNode.row)]) ty51.choose_spec.2 rfl rfl) (zb rfl)) y6 ?_
  refine zR hF (fun v7 hv7 hF=>?_)
  refine zN rfl (s_callC rfl rfl yA (zo yT zw) (.cons (zb rfl) .nil) rfl) (hf1 _ _ _ _ hv7) xg ?_
  refine ze (zj ?_)
  refine zO xd hF (fun hc8 hF=>?_) (fun hc8 hF=>?_)
  ·refine zk (zd ?_)
   refine zc rfl (zf rfl yS (zb rfl)) xk ?_
   refine zc rfl (zi rfl xi (zb rfl)) yB ?_
   refine ze (zj (zL ?_))
   refine zF ?_
   refine zx ?_
   refine yd ?_
   obtain rfl:=Option.some.inj hF
   replace hF:=hK1
   refine zF ?_
   refine zx ?_
   obtain rfl:=Option.some.inj hF
   refine zA rfl (zD yz zG) (zz (leV.refl _) rfl ?_)
   exact ⟨rfl,rfl⟩
  ·refine zK (yh (zj (zd ?_)))
   refine zc rfl (zy rfl xj rfl rfl) xD ?_
   refine zc rfl (zf rfl xB (zb rfl)) xX ?_
   refine ze (yH ?_)
   obtain rfl:=Option.some.inj hF
   exact ⟨(),hl1,hK1,wk.le (by exact (.eq (.eq (.d4 (.drop (.eq (.cons (leV.of_eq (w8 (by omega) (by omega))) (.d4 (.d4 (.drop (.drop leL.nil)))))))))))⟩
 ·refine yR ?_
  refine ya ?_
  refine zV ?_
  refine zW ?_
  refine zj (zk (zd ?_))
  refine zc rfl (zi rfl rfl (zb rfl)) yB ?_
  refine ze (zj (zL ?_))
  obtain rfl:=Option.some.inj hF
  refine zA rfl (zD yz zG) (zz (leV.refl _) rfl ?_)
  exact ⟨rfl,rfl⟩
/-! varve/tree.linear 1 -/
theorem ok86 {n0:GNode} {c0:zJ} {i0:Nat} {res:Bool} {h:AH} (hb0:h.blk i0=some (.cells [.str c0])) (hF:treeXlinearC1 n0 c0=some res):Spec Tryz.prog 86 [.agg [.str n0.name,.sl 9 (n0.leaves.map GLeaf.row),.sl 3 (n0.subs.map GNode.row)],.ptr i0 0] h (fun rr hh=>rr=.bool res∧hh=h):=by
 unfold treeXlinearC1 at hF
 refine zt Tryz.func86 rfl (by kernel_rfl) (env:=[.agg [.str n0.name,.sl 9 (n0.leaves.map GLeaf.row),.sl 3 (n0.subs.map GNode.row)],.ptr i0 0,za,za,za,za,za,za]) (by rfl) ?_
 refine zk (zd ?_)
 refine zc rfl (xw (n:=0) rfl yr (zb rfl) rfl rfl) xh ?_
 refine zc rfl (zi rfl rfl (zb rfl)) wo ?_
 refine ze (zj (zk (zd ?_)))
 refine zc rfl (zg rfl fo51x0 yV rfl) yB ?_
 refine zc rfl (zu rfl ty9 yz rfl (zr rfl) (zb rfl)) xz ?_
 refine zc rfl (b_load rfl ty9 yF hb0 (zr rfl) (zb rfl)) xE ?_
 refine zc rfl (zy rfl yS yU rfl) xO ?_
 refine zc rfl (zi rfl xH (zb rfl)) wo ?_
 refine ze (zj (zL ?_))
 obtain rfl:=Option.some.inj hF
 refine zA rfl (zD xn zG) (zz (leV.refl _) rfl ?_)
 exact ⟨rfl,rfl⟩
/-! varve/tree.linear -/
theorem ok46 {t0:(List GNode)} {name1:zJ} {res:(GNode×Bool)} {h:AH}  (hF:q9 t0 name1=some res):Spec Tryz.prog 46 [.sl 3 (t0.map GNode.row),.str name1] h (fun rr hh=>rr=.tup [.agg [.str res.1.name,.sl 9 (res.1.leaves.map GLeaf.row),.sl 3 (res.1.subs.map GNode.row)],.bool res.2]∧hh=h):=by
 unfold q9 at hF
 refine zt Tryz.func46 rfl (by kernel_rfl) (env:=[.sl 3 (t0.map GNode.row),.str name1,za,za,za,za,za,za,za,za,za,za,za,za,za,za,za]) (by rfl) ?_
 refine zk (zd ?_)
 refine zc rfl (xw (n:=0) rfl yF (zb rfl) rfl rfl) wo ?_
 refine zc rfl (y4 (n:=1) rfl ze51 rfl) yB ?_
 refine zc rfl (zi rfl rfl (zb rfl)) xz ?_
 refine ze (zj (zk (zd ?_)))
 refine zc rfl (zf rfl yr (zb rfl)) xO ?_
 refine zc rfl (s_makeFunc rfl rfl rfl) xX ?_
 refine zR hF (fun v1 hv1 hF=>?_)
 refine zN rfl (zC rfl rfl rfl (zo xH (zo xj zw)) (.cons (zb rfl) (.cons (zb rfl) .nil))) (ok85 (fun _ v L M hv=>ok86 (blk_ext2 (j:=0) rfl) hv) hv1) wB ?_
 refine zc rfl (zi rfl xV (zb rfl)) xE ?_
 refine ze (zj (zk (zk (zd ?_))))
 refine zc rfl (zf rfl yU (zb rfl)) yL ?_
 refine zc rfl (zy rfl yq rfl rfl) yP ?_
 refine ze (zj ?_)
 refine zO yA hF (fun hc2 hF=>?_) (fun hc2 hF=>?_)
 ·refine zk (zd ?_)
  refine zc rfl (qA (cs':=[.str ([]:zJ),.osl none 9 (([]:List GLeaf).map GLeaf.row),.osl none 3 (([]:List GNode).map GNode.row)]) rfl su51 ze51 pl51 yp .nil rfl rfl) yX ?_
  refine zc rfl (yg (cs':=[.str ([]:zJ),.osl none 9 (([]:List GLeaf).map GLeaf.row),.osl none 3 (([]:List GNode).map GNode.row)]) rfl ty51.choose_spec.1 yz yM (zb rfl) rfl rfl rfl rfl rfl) rfl ?_
  refine zc rfl (zi rfl rfl (zb rfl)) xz ?_
  refine ze (zj (zL (zx ?_)))
  obtain rfl:=Option.some.inj hF
  refine qm rfl (rl_cell ty51.choose_spec.1 yz rfl (zH (cs':=[.str ([]:zJ),.osl none 9 (([]:List GLeaf).map GLeaf.row),.osl none 3 (([]:List GNode).map GNode.row)]) ty51.choose_spec.2 rfl rfl) (zb rfl) (zD yS zG)) (zz (leV.tup (.cons (leV.agg (.eq (.cons (leV.osl _ _ _) (.cons (leV.osl _ _ _) leL.nil))) rfl) (.eq leL.nil))) rfl ?_)
  exact ⟨rfl,rfl⟩
 ·refine zK (zj (zk (zd ?_)))
  refine zc rfl (zf rfl yr (zb rfl)) yW ?_
  refine zc rfl (zf rfl yU (zb rfl)) y5 ?_
  refine zR hF (fun y3 hy3 hF=>?_)
  refine zc rfl (xS rfl xC yC yY w7 hy3 (GNode.row_eq _)) y6 ?_
  refine zc rfl (ye rfl ty51.choose_spec.1 yT (zH (cs':=[.str y3.name,.sl 9 (y3.leaves.map GLeaf.row),.sl 3 (y3.subs.map GNode.row)]) ty51.choose_spec.2 rfl rfl) (zb rfl)) xg ?_
  refine zc rfl (yg (cs':=[.str y3.name,.sl 9 (y3.leaves.map GLeaf.row),.sl 3 (y3.subs.map GNode.row)]) rfl ty51.choose_spec.1 yz xd (zb rfl) rfl rfl rfl rfl rfl) rfl ?_
  refine zc rfl (zi rfl rfl (zb rfl)) xz ?_
  refine ze (zj (zL ?_))
  obtain rfl:=Option.some.inj hF
  refine qm rfl (rl_cell ty51.choose_spec.1 yz rfl (zH (cs':=[.str y3.name,.sl 9 (y3.leaves.map GLeaf.row),.sl 3 (y3.subs.map GNode.row)]) ty51.choose_spec.2 rfl rfl) (zb rfl) (zD yS zG)) (zz (leV.refl _) rfl ?_)
  exact ⟨rfl,rfl⟩
/-! slices.IndexFunc[[]varve/api.Leaf,varve/api.Leaf] -/
theorem ok47 {s0:(List GLeaf)} {f1:(GLeaf→Option Bool)} {ff1:FuncId} {af1 kf1:List AV} {res:Int} {h:AH} (hf1:∀ x0 v (L:List Blk) (M:List Nat),f1 x0=some v→Spec Tryz.prog ff1 (af1++[.agg [.int .u8 x0.typ,.int .i64 x0.n,.int .u64 x0.time,.int .u8 x0.dot.actor.rep,.int .u32 x0.dot.actor.inc,.int .u64 x0.dot.seq,.str x0.text,.sl 5 (x0.items.map GItem.row),.sl 3 (x0.tombs.map GDot.row)]]++kf1) (h.ext L M) (fun rr hh=>rr=.bool v∧hh=h.ext L M)) (hF:yQ s0 f1=some res):Spec Tryz.prog 47 [.sl 9 (s0.map GLeaf.row),.fn (.func ff1) af1 kf1] h (fun rr hh=>rr=.int .i64 res∧hh=h):=by
 unfold yQ at hF
 refine yG Tryz.func47 rfl (by kernel_rfl) (env:=[.sl 9 (s0.map GLeaf.row),.fn (.func ff1) af1 kf1,za,za,za,za,za,za,za,za,za,za,za,za,za,za,za,za,za]) (by rfl) (fun hlow hC=>?_)
 simp only [yi,AV.low,Bool.and_eq_true,Bool.true_and,and_true] at hlow
 have hlaf1:∀ n m,h.blks.length≤n→h.toks.length≤m→yi n m af1=true:=fun n m h1 h2=>y8 h1 h2 _ (by simp [hlow])
 have hlkf1:∀ n m,h.blks.length≤n→h.toks.length≤m→yi n m kf1=true:=fun n m h1 h2=>y8 h1 h2 _ (by simp [hlow])
 refine zk (zd ?_)
 refine zc rfl (zi rfl rfl (zb rfl)) yB ?_
 refine ze (zj (zk (zk (zd ?_))))
 refine zc rfl (zf rfl yr (zb rfl)) xE ?_
 refine yb rfl (zS rfl rfl rfl rfl wu yU yc) xO fun hn1=>?_
 replace hn1:=xl hn1
 refine zc rfl (zf rfl rfl (zb rfl)) xX ?_
 refine ze (zj (zQ ?_))
 refine yo (fun (n1:Nat) (s1:Unit)=>yO [2,3,4,5,6,9,10,11,12,13,14,15,16,17,18] [(8,.int .i64 (n1:Int))]) (fun s1=>h.ext [] []) hF (fun _ _=>by simp only [yO,upd,List.set_cons_succ,List.set_cons_zero];try rfl) (wk.le (by exact (.eq (.eq (.d4 (.drop (.eq (.cons (leV.of_eq rfl) (.d4 (.d4 (.drop (.drop leL.nil)))))))))))) ?_
 intro n1 s1 hi1 hF
 refine zk (zd ?_)
 refine zc rfl (zy rfl xj xH rfl) wB ?_
 refine ze (zj (zk ?_))
 refine yJ xV hF (fun x1 o1 hl1 hx1 hF hK1=>?_) (fun hF=>?_)
 ·refine zK (zj (zk (zQ (zk (zd ?_)))))
  refine zc rfl (zf rfl xj (zb rfl)) yL ?_
  refine zc rfl (zi rfl yq (zb rfl)) xz ?_
  refine ze (zj (zk (zd ?_)))
  refine zc rfl (zf rfl yF (zb rfl)) yP ?_
  refine zc rfl (zf rfl yr (zb rfl)) yX ?_
  refine zc rfl (zf rfl yS (zb rfl)) yW ?_
  refine zc rfl (yj rfl wu yM yC w7 (yK hx1)) y5 ?_
  refine zc rfl (ye rfl ty48.choose_spec.1 yY (zH (cs':=[.int .u8 x1.typ,.int .i64 x1.n,.int .u64 x1.time,.int .u8 x1.dot.actor.rep,.int .u32 x1.dot.actor.inc,.int .u64 x1.dot.seq,.str x1.text,.sl 5 (x1.items.map GItem.row),.sl 3 (x1.tombs.map GDot.row)]) ty48.choose_spec.2 rfl rfl) (zb rfl)) y6 ?_
  refine zR hF (fun v7 hv7 hF=>?_)
  refine zN rfl (s_callC rfl rfl yA (zo yT zw) (.cons (zb rfl) .nil) rfl) (hf1 _ _ _ _ hv7) xg ?_
  refine ze (zj ?_)
  refine zO xd hF (fun hc8 hF=>?_) (fun hc8 hF=>?_)
  ·refine zk (zd ?_)
   refine zc rfl (zf rfl yS (zb rfl)) xk ?_
   refine zc rfl (zi rfl xi (zb rfl)) yB ?_
   refine ze (zj (zL ?_))
   refine zF ?_
   refine zx ?_
   refine yd ?_
   obtain rfl:=Option.some.inj hF
   replace hF:=hK1
   refine zF ?_
   refine zx ?_
   obtain rfl:=Option.some.inj hF
   refine zA rfl (zD yz zG) (zz (leV.refl _) rfl ?_)
   exact ⟨rfl,rfl⟩
  ·refine zK (yh (zj (zd ?_)))
   refine zc rfl (zy rfl xj rfl rfl) xD ?_
   refine zc rfl (zf rfl xB (zb rfl)) xX ?_
   refine ze (yH ?_)
   obtain rfl:=Option.some.inj hF
   exact ⟨(),hl1,hK1,wk.le (by exact (.eq (.eq (.d4 (.drop (.eq (.cons (leV.of_eq (w8 (by omega) (by omega))) (.d4 (.d4 (.drop (.drop leL.nil)))))))))))⟩
 ·refine yR ?_
  refine ya ?_
  refine zV ?_
  refine zW ?_
  refine zj (zk (zd ?_))
  refine zc rfl (zi rfl rfl (zb rfl)) yB ?_
  refine ze (zj (zL ?_))
  obtain rfl:=Option.some.inj hF
  refine zA rfl (zD yz zG) (zz (leV.refl _) rfl ?_)
  exact ⟨rfl,rfl⟩
theorem okR47 {bl tl:Nat} {s0:(List GLeaf)} {f1:(GLeaf→Option Bool)} {ff1:FuncId} {af1 kf1:List AV} {res:Int} {h:AH} (hbl:h.blks.length=bl) (htl:h.toks.length=tl) (hf1:∀ x0 v (L:List Blk) (M:List Nat),f1 x0=some v→Spec Tryz.prog ff1 (af1++[.agg [.int .u8 x0.typ,.int .i64 x0.n,.int .u64 x0.time,.int .u8 x0.dot.actor.rep,.int .u32 x0.dot.actor.inc,.int .u64 x0.dot.seq,.str x0.text,.sl 5 (x0.items.map GItem.row),.sl 3 (x0.tombs.map GDot.row)]]++kf1) (h.ext L M) (fun rr hh=>rr=.bool v∧hh=h.ext L M)) (hlaf1:∀ n m,h.blks.length≤n→h.toks.length≤m→yi n m af1=true) (hlkf1:∀ n m,h.blks.length≤n→h.toks.length≤m→yi n m kf1=true) (hF:yQ s0 f1=some res):Spec Tryz.prog 47 [.rsl bl tl 9 s0.length,.fn (.func ff1) af1 kf1] (h.ext [.row tl 9 (s0.map GLeaf.row)] [s0.length]) (fun rr hh=>rr=.int .i64 res∧hh=h.ext [.row tl 9 (s0.map GLeaf.row)] [s0.length]):=by
 unfold yQ at hF
 subst hbl htl
 refine spec_of_body_R Tryz.func47 rfl (by kernel_rfl) (env:=[.rsl h.blks.length h.toks.length 9 s0.length,.fn (.func ff1) af1 kf1,za,za,za,za,za,za,za,za,za,za,za,za,za,za,za,za,za]) (by rfl) ?_
 refine zk (zd ?_)
 refine zc rfl (zi rfl rfl (zb rfl)) yB ?_
 refine ze (zj (zk (zk (zd ?_))))
 refine zc rfl (zf rfl yr (zb rfl)) xE ?_
 refine yb rfl (zS rfl rfl rfl rfl wu yU rfl) xO fun hn1=>?_
 replace hn1:=xl hn1
 refine zc rfl (zf rfl rfl (zb rfl)) xX ?_
 refine ze (zj (zQ ?_))
 refine yo (fun (n1:Nat) (s1:Unit)=>yO [2,3,4,5,6,9,10,11,12,13,14,15,16,17,18] [(8,.int .i64 (n1:Int))]) (fun s1=>h.ext [.row (h.toks.length+0) 9 (s0.map GLeaf.row)] [s0.length]) hF (fun _ _=>by simp only [yO,upd,List.set_cons_succ,List.set_cons_zero];try rfl) (wk.le (by exact (.eq (.eq (.d4 (.drop (.eq (.cons (leV.of_eq rfl) (.d4 (.d4 (.drop (.drop leL.nil)))))))))))) ?_
 intro n1 s1 hi1 hF
 refine zk (zd ?_)
 refine zc rfl (zy rfl xj xH rfl) wB ?_
 refine ze (zj (zk ?_))
 refine yJ xV hF (fun x1 o1 hl1 hx1 hF hK1=>?_) (fun hF=>?_)
 ·refine zK (zj (zk (zQ (zk (zd ?_)))))
  refine zc rfl (zf rfl xj (zb rfl)) yL ?_
  refine zc rfl (zi rfl yq (zb rfl)) xz ?_
  refine ze (zj (zk (zd ?_)))
  refine zc rfl (zf rfl yF (zb rfl)) yP ?_
  refine zc rfl (zf rfl yr (zb rfl)) yX ?_
  refine zc rfl (zf rfl yS (zb rfl)) yW ?_
  refine zc rfl (e_idxR rfl wu yM yC (idxRn (yK hx1) rfl)) y5 ?_
  refine zc rfl (e_ldR (off:=0) (i:=0) (q:=h.toks.length+0) (z:=(n1:Int).toNat) (row:=GLeaf.row) (fun _=>rfl) rfl ty48.choose_spec.1 (by decide) yY rfl rfl (idxR (yK hx1)).2.2 (zH (cs':=[.int .u8 x1.typ,.int .i64 x1.n,.int .u64 x1.time,.int .u8 x1.dot.actor.rep,.int .u32 x1.dot.actor.inc,.int .u64 x1.dot.seq,.str x1.text,.sl 5 (x1.items.map GItem.row),.sl 3 (x1.tombs.map GDot.row)]) ty48.choose_spec.2 rfl rfl) (zb rfl)) y6 ?_
  refine zR hF (fun v8 hv8 hF=>?_)
  refine zN rfl (s_callC rfl rfl yA (zo yT zw) (.cons (zb rfl) .nil) rfl) (hf1 _ _ _ _ hv8) xg ?_
  refine ze (zj ?_)
  refine zO xd hF (fun hc9 hF=>?_) (fun hc9 hF=>?_)
  ·refine zk (zd ?_)
   refine zc rfl (zf rfl yS (zb rfl)) xk ?_
   refine zc rfl (zi rfl xi (zb rfl)) yB ?_
   refine ze (zj (zL ?_))
   refine zF ?_
   refine zx ?_
   refine yd ?_
   obtain rfl:=Option.some.inj hF
   replace hF:=hK1
   refine zF ?_
   refine zx ?_
   obtain rfl:=Option.some.inj hF
   refine zA rfl (zD yz zG) (fin_extR (L:=[]) (M:=[]) rfl rfl (leV.refl _) rfl ?_)
   exact ⟨rfl,rfl⟩
  ·refine zK (yh (zj (zd ?_)))
   refine zc rfl (zy rfl xj rfl rfl) xD ?_
   refine zc rfl (zf rfl xB (zb rfl)) xX ?_
   refine ze (yH ?_)
   obtain rfl:=Option.some.inj hF
   exact ⟨(),hl1,hK1,wk.le (by exact (.eq (.eq (.d4 (.drop (.eq (.cons (leV.of_eq (w8 (by omega) (by omega))) (.d4 (.d4 (.drop (.drop leL.nil)))))))))))⟩
 ·refine yR ?_
  refine ya ?_
  refine zV ?_
  refine zW ?_
  refine zj (zk (zd ?_))
  refine zc rfl (zi rfl rfl (zb rfl)) yB ?_
  refine ze (zj (zL ?_))
  obtain rfl:=Option.some.inj hF
  refine zA rfl (zD yz zG) (fin_extR (L:=[]) (M:=[]) rfl rfl (leV.refl _) rfl ?_)
  exact ⟨rfl,rfl⟩
/-! varve/tree.Leaf 1 -/
theorem ok48 {l0:GLeaf} {c0:Int} {i0:Nat} {res:Bool} {h:AH} (hb0:h.blk i0=some (.cells [.int .u8 c0])) (hF:treeLeafC1 l0 c0=some res):Spec Tryz.prog 48 [.agg [.int .u8 l0.typ,.int .i64 l0.n,.int .u64 l0.time,.int .u8 l0.dot.actor.rep,.int .u32 l0.dot.actor.inc,.int .u64 l0.dot.seq,.str l0.text,.sl 5 (l0.items.map GItem.row),.sl 3 (l0.tombs.map GDot.row)],.ptr i0 0] h (fun rr hh=>rr=.bool res∧hh=h):=by
 unfold treeLeafC1 at hF
 refine zt Tryz.func48 rfl (by kernel_rfl) (env:=[.agg [.int .u8 l0.typ,.int .i64 l0.n,.int .u64 l0.time,.int .u8 l0.dot.actor.rep,.int .u32 l0.dot.actor.inc,.int .u64 l0.dot.seq,.str l0.text,.sl 5 (l0.items.map GItem.row),.sl 3 (l0.tombs.map GDot.row)],.ptr i0 0,za,za,za,za,za,za]) (by rfl) ?_
 refine zk (zd ?_)
 refine zc rfl (xw (n:=0) rfl yr (zb rfl) rfl rfl) xh ?_
 refine zc rfl (zi rfl rfl (zb rfl)) wo ?_
 refine ze (zj (zk (zd ?_)))
 refine zc rfl (zg rfl wd yV rfl) yB ?_
 refine zc rfl (zu rfl ty5 yz rfl (zr rfl) (zb rfl)) xz ?_
 refine zc rfl (b_load rfl ty5 yF hb0 (zr rfl) (zb rfl)) xE ?_
 refine zc rfl (zy rfl yS yU rfl) xO ?_
 refine zc rfl (zi rfl xH (zb rfl)) wo ?_
 refine ze (zj (zL ?_))
 obtain rfl:=Option.some.inj hF
 refine zA rfl (zD xn zG) (zz (leV.refl _) rfl ?_)
 exact ⟨rfl,rfl⟩
/-! varve/leaf.New -/
theorem ok49 {kind0:Int} {res:GLeaf} {h:AH}  (hF:leafNew kind0=some res):Spec Tryz.prog 49 [.int .u8 kind0] h (fun rr hh=>rr=.agg [.int .u8 res.typ,.int .i64 res.n,.int .u64 res.time,.int .u8 res.dot.actor.rep,.int .u32 res.dot.actor.inc,.int .u64 res.dot.seq,.str res.text,.sl 5 (res.items.map GItem.row),.sl 3 (res.tombs.map GDot.row)]∧hh=h):=by
 unfold leafNew at hF
 refine zt Tryz.func49 rfl (by kernel_rfl) (env:=[.int .u8 kind0,za,za,za,za,za,za,za,za,za,za,za]) (by rfl) ?_
 refine zk (zd ?_)
 refine zc rfl (y4 (n:=0) rfl ze48 rfl) xh ?_
 refine ze (zj (zk (zk (zd ?_))))
 refine zc rfl (zf rfl yr (zb rfl)) wo ?_
 refine zc rfl (zy rfl xn rfl rfl) yB ?_
 refine zc rfl (zf rfl yz (zb rfl)) xz ?_
 refine zp rfl (fun hb=>zf rfl yr (zb rfl)) xE ?_
 refine zp rfl (fun hb=>zy rfl (zn yU hb) rfl rfl) xO ?_
 refine zc rfl (zM rfl yS rfl xH (z8 (fun ht=>gF ht))) xX ?_
 refine ze (zj ?_)
 refine zO xj hF (fun hc1 hF=>?_) (fun hc1 hF=>?_)
 ·refine zk (zd ?_)
  refine zc rfl (qA (cs':=[.int .u8 (0:Int),.int .i64 (0:Int),.int .u64 (0:Int),.int .u8 (0:Int),.int .u32 (0:Int),.int .u64 (0:Int),.str ([]:zJ),.osl none 5 (([]:List GItem).map GItem.row),.osl none 3 (([]:List GDot).map GDot.row)]) rfl su48 ze48 pl48 yp .nil rfl rfl) wB ?_
  refine zc rfl (yg (cs':=[.int .u8 (0:Int),.int .i64 (0:Int),.int .u64 (0:Int),.int .u8 (0:Int),.int .u32 (0:Int),.int .u64 (0:Int),.str ([]:zJ),.osl none 5 (([]:List GItem).map GItem.row),.osl none 3 (([]:List GDot).map GDot.row)]) rfl ty48.choose_spec.1 yV xV (zb rfl) rfl rfl rfl rfl rfl) rfl ?_
  refine ze (zj (zL (zx ?_)))
  obtain rfl:=Option.some.inj hF
  refine zA rfl (rl_cell ty48.choose_spec.1 yV rfl (zH (cs':=[.int .u8 (0:Int),.int .i64 (0:Int),.int .u64 (0:Int),.int .u8 (0:Int),.int .u32 (0:Int),.int .u64 (0:Int),.str ([]:zJ),.osl none 5 (([]:List GItem).map GItem.row),.osl none 3 (([]:List GDot).map GDot.row)]) ty48.choose_spec.2 rfl rfl) (zb rfl) zG) (zz (leV.agg (.eq (.eq (.eq (.eq (.eq (.eq (.eq (.cons (leV.osl _ _ _) (.cons (leV.osl _ _ _) leL.nil))))))))) rfl) rfl ?_)
  exact ⟨rfl,rfl⟩
 ·refine zK (zj (zk (zd ?_)))
  refine zc rfl (zf rfl yr (zb rfl)) yL ?_
  refine zc rfl (qA (cs':=[.int .u8 kind0,.int .i64 (0:Int),.int .u64 (0:Int),.int .u8 (0:Int),.int .u32 (0:Int),.int .u64 (0:Int),.str ([]:zJ),.osl none 5 (([]:List GItem).map GItem.row),.osl none 3 (([]:List GDot).map GDot.row)]) rfl su48 ze48 pl48 (yl yq yp) (.cons (zb rfl) .nil) rfl rfl) yP ?_
  refine zc rfl (yg (cs':=[.int .u8 kind0,.int .i64 (0:Int),.int .u64 (0:Int),.int .u8 (0:Int),.int .u32 (0:Int),.int .u64 (0:Int),.str ([]:zJ),.osl none 5 (([]:List GItem).map GItem.row),.osl none 3 (([]:List GDot).map GDot.row)]) rfl ty48.choose_spec.1 yV yA (zb rfl) rfl rfl rfl rfl rfl) rfl ?_
  refine ze (zj (zL ?_))
  obtain rfl:=Option.some.inj hF
  refine zA rfl (rl_cell ty48.choose_spec.1 yV rfl (zH (cs':=[.int .u8 kind0,.int .i64 (0:Int),.int .u64 (0:Int),.int .u8 (0:Int),.int .u32 (0:Int),.int .u64 (0:Int),.str ([]:zJ),.osl none 5 (([]:List GItem).map GItem.row),.osl none 3 (([]:List GDot).map GDot.row)]) ty48.choose_spec.2 rfl rfl) (zb rfl) zG) (zz (leV.agg (.eq (.eq (.eq (.eq (.eq (.eq (.eq (.cons (leV.osl _ _ _) (.cons (leV.osl _ _ _) leL.nil))))))))) rfl) rfl ?_)
  exact ⟨rfl,rfl⟩
/-! varve/tree.Leaf -/
theorem ok25 {t0:(List GNode)} {path1:(List zJ)} {kind2:Int} {res:(GLeaf×Bool)} {h:AH}  (hF:treeLeaf t0 path1 kind2=some res):Spec Tryz.prog 25 [.sl 3 (t0.map GNode.row),.sl 1 (path1.map zP),.int .u8 kind2] h (fun rr hh=>rr=.tup [.agg [.int .u8 res.1.typ,.int .i64 res.1.n,.int .u64 res.1.time,.int .u8 res.1.dot.actor.rep,.int .u32 res.1.dot.actor.inc,.int .u64 res.1.dot.seq,.str res.1.text,.sl 5 (res.1.items.map GItem.row),.sl 3 (res.1.tombs.map GDot.row)],.bool res.2]∧hh=h):=by
 unfold treeLeaf at hF
 refine zt Tryz.func25 rfl (by kernel_rfl) (env:=[.sl 3 (t0.map GNode.row),.sl 1 (path1.map zP),.int .u8 kind2,za,za,za,za,za,za,za,za,za,za,za,za,za,za,za,za,za,za,za,za,za,za,za,za,za,za,za,za,za,za,za,za,za,za,za,za,za,za,za,za,za,za,za,za,za,za,za,za,za,za,za,za,za,za,za,za,za,za,za,za,za,za,za]) (by rfl) ?_
 refine zk (zd ?_)
 refine zc rfl (xw (n:=0) rfl yV (zb rfl) rfl rfl) xz ?_
 refine zc rfl (y4 (n:=1) rfl ze48 rfl) xE ?_
 refine zc rfl (zi rfl rfl (zb rfl)) xO ?_
 refine ze (zj (zk (zd ?_)))
 refine zc rfl (y4 (n:=2) rfl ze51 rfl) xX ?_
 refine ze (zj (zk (zd ?_)))
 refine zc rfl (zf rfl yF (zb rfl)) y5 ?_
 refine yb rfl (zS rfl rfl rfl rfl wt yY yc) y6 fun hn1=>?_
 replace hn1:=xl hn1
 refine zc rfl (zy rfl yT rfl rfl) xg ?_
 refine zc rfl (zi rfl xd (zb rfl)) wB ?_
 refine ze (zj ?_)
 refine r_join (fun (s1:Bool×zJ×(List GLeaf)×(List GNode))=>yO [0,1,2,3,4,7,10,11,12,13,14,15,16,17,18,19,20,21,22,23,24,25,26,27,28,29,30,31,32,33,34,35,36,37,38,39,40,41,42,43,44,45,46,47,48,49,50,51,52,53,54,55,56,57,58,59,60,61,62,63,64,65] [(9,.bool s1.1)]) (fun s1=>h.ext [.cells [.int .u8 kind2],.cells [.int .u8 (0:Int),.int .i64 (0:Int),.int .u64 (0:Int),.int .u8 (0:Int),.int .u32 (0:Int),.int .u64 (0:Int),.str ([]:zJ),.osl none 5 (([]:List GItem).map GItem.row),.osl none 3 (([]:List GDot).map GDot.row)],.cells [.str s1.2.1,.sl 9 (s1.2.2.1.map GLeaf.row),.sl 3 (s1.2.2.2.map GNode.row)]] []) hF (fun _=>by simp only [yO,upd,List.set_cons_succ,List.set_cons_zero];try rfl) (fun o1 hF hK1=>?_) (fun s1 hF=>?_)
 ·refine zk (zd ?_)
  refine zc rfl (zf rfl yF (zb rfl)) xk ?_
  refine yb rfl (zS rfl rfl rfl rfl wt xi yc) xD fun hn26=>?_
  replace hn26:=xl hn26
  refine zc rfl (zf rfl rfl (zb rfl)) xK ?_
  refine ze (zj (zQ ?_))
  refine yo (fun (n2:Nat) (s2:(List GNode)×Bool×zJ×(List GLeaf)×(List GNode))=>yO [1,2,3,4,7,10,11,12,13,14,15,16,20,21,22,23,24,25,26,27,28,29,30,31,32,33,34,35,36,37,38,39,40,41,42,43,44,45,46,47,48,49,50,51,52,53,54,55,56,57,58,59,60,61,62,63,64,65] [(0,.sl 3 (s2.1.map GNode.row)),(9,.bool s2.2.1),(19,.int .i64 (n2:Int))]) (fun s2=>h.ext [.cells [.int .u8 kind2],.cells [.int .u8 (0:Int),.int .i64 (0:Int),.int .u64 (0:Int),.int .u8 (0:Int),.int .u32 (0:Int),.int .u64 (0:Int),.str ([]:zJ),.osl none 5 (([]:List GItem).map GItem.row),.osl none 3 (([]:List GDot).map GDot.row)],.cells [.str s2.2.2.1,.sl 9 (s2.2.2.2.1.map GLeaf.row),.sl 3 (s2.2.2.2.2.map GNode.row)]] []) hF (fun _ _=>by simp only [yO,upd,List.set_cons_succ,List.set_cons_zero];try rfl) (wk.trans (wk_leB (j:=2) rfl (by exact (.eq (.cons (leV.osl _ _ _) (.cons (leV.osl _ _ _) leL.nil)))) rfl rfl) (wk.le (by exact (.cons (leV.of_eq rfl) (.d4 (.eq (.eq (.drop (.eq (.cons (leV.of_eq rfl) (.d4 (.drop (.drop (.drop (.eq (.eq (.cons (leV.of_eq rfl) (.d16 (.d16 (.d4 (.d4 (.d4 (.drop (.drop leL.nil)))))))))))))))))))))))) ?_
  intro n2 s2 hi2 hF
  refine zk (zd ?_)
  refine zc rfl (zy rfl xJ xB rfl) xY ?_
  refine ze (zj (zk ?_))
  refine yJ xZ hF (fun x2 o2 hl2 hx2 hF hK2=>?_) (fun hF=>?_)
  ·refine zK (zj (zk (zQ (zk (zd ?_)))))
   refine zc rfl (yj rfl wt xi xJ w7 (yK hx2)) x7 ?_
   refine zc rfl (ye rfl ty9 x5 (zr rfl) (zb rfl)) wl ?_
   refine zc rfl (zi rfl wi (zb rfl)) yP ?_
   refine ze (zj (zk (zk (zd ?_))))
   refine zc rfl (zf rfl yr (zb rfl)) wh ?_
   refine zc rfl (zf rfl yA (zb rfl)) wj ?_
   refine zR hF (fun v47 hv47 hF=>?_)
   refine zN rfl (zC rfl rfl rfl (zo wc (zo wb zw)) (.cons (zb rfl) (.cons (zb rfl) .nil))) (ok46 hv47) wF ?_
   refine zc rfl (zf rfl wE (zb rfl)) x6 ?_
   refine zc rfl (yn rfl xN rfl (zb rfl)) wM ?_
   refine zc rfl (yn rfl xN rfl (zb rfl)) wL ?_
   refine zc rfl (yg (cs':=[.str v47.1.name,.sl 9 (v47.1.leaves.map GLeaf.row),.sl 3 (v47.1.subs.map GNode.row)]) rfl ty51.choose_spec.1 xj wN (zb rfl) rfl rfl rfl rfl rfl) rfl ?_
   refine zc rfl (zi rfl wH (zb rfl)) wB ?_
   refine ze (zj (zk (zd ?_)))
   refine zc rfl (zf rfl xV (zb rfl)) wW ?_
   refine zc rfl (xR rfl w6 rfl) wV ?_
   refine ze (zj ?_)
   refine zO vg hF (fun hc48 hF=>?_) (fun hc48 hF=>?_)
   ·refine yR ?_
    refine ya ?_
    refine q_block_miss (by decide) ?_
    refine ya ?_
    refine zV ?_
    obtain rfl:=Option.some.inj hF
    replace hF:=hK2
    refine zW ?_
    refine q_join ?_
    obtain rfl:=Option.some.inj hF
    exact ⟨(v47.2,v47.1.name,v47.1.leaves,v47.1.subs),hK1,wk.le (by exact (.d4 (.drop (.eq (.eq (.drop (.eq (.cons (leV.of_eq rfl) (.d16 (.d16 (.d16 (.d4 (.d4 leL.nil)))))))))))))⟩
   ·refine zK (zj (zd ?_))
    refine zc rfl (zg rfl fo51x2 xj rfl) wU ?_
    refine zc rfl (zu rfl ty23 w5 rfl (zr rfl) (zb rfl)) vl ?_
    refine zc rfl (zi rfl vf (zb rfl)) st0 ?_
    refine ze (yh (zj (zd ?_)))
    refine zc rfl (zy rfl xJ rfl rfl) vk ?_
    refine zc rfl (zf rfl vt (zb rfl)) xK ?_
    refine ze (yH ?_)
    obtain rfl:=Option.some.inj hF
    exact ⟨(v47.1.subs,v47.2,v47.1.name,v47.1.leaves,v47.1.subs),hl2,hK2,wk.le (by exact (.cons (leV.of_eq rfl) (.d4 (.eq (.eq (.drop (.eq (.cons (leV.of_eq rfl) (.d4 (.drop (.drop (.drop (.eq (.eq (.cons (leV.of_eq (w8 (by omega) (by omega))) (.d16 (.d16 (.d4 (.d4 (.d4 (.drop (.drop leL.nil))))))))))))))))))))))⟩
  ·refine yR ?_
   refine ya ?_
   refine zV ?_
   refine zW ?_
   refine q_join ?_
   obtain rfl:=Option.some.inj hF
   exact ⟨(s2.2.1,s2.2.2.1,s2.2.2.2.1,s2.2.2.2.2),hK1,wk.le (by exact (.d4 (.drop (.eq (.eq (.drop (.eq (.cons (leV.of_eq rfl) (.d16 (.d16 (.d16 (.d4 (.d4 leL.nil)))))))))))))⟩
 ·refine zk (zd ?_)
  refine zc rfl (zg rfl wm xj rfl) vb ?_
  refine zc rfl (zu rfl ty49 wZ rfl (zr rfl) (zb rfl)) va ?_
  refine zc rfl (s_makeFunc rfl rfl rfl) w9 ?_
  refine zR hF (fun v49 hv49 hF=>?_)
  refine zN rfl (zC rfl rfl rfl (zo ve (zo wY zw)) (.cons (zb rfl) (.cons (zb rfl) .nil))) (ok47 (fun _ v L M hv=>ok48 (blk_ext2 (j:=0) rfl) hv) hv49) vj ?_
  refine zc rfl (zi rfl wX (zb rfl)) yX ?_
  refine ze (zj (zk (zk (zd ?_))))
  refine zc rfl (zf rfl xV (zb rfl)) vI ?_
  refine zc rfl (xR rfl vM rfl) vA ?_
  refine zc rfl (zf rfl vr (zb rfl)) (sk st0) ?_
  refine zp rfl (fun hb=>zf rfl yM (zb rfl)) (sk st1) ?_
  refine zp rfl (fun hb=>zy rfl (zn (gk yF) hb) rfl rfl) (sk xh) ?_
  refine zc rfl (zM rfl (gk yr) rfl (gk yV) (z8 (fun ht=>gF ht))) (sk wo) ?_
  refine zc rfl (zf rfl (gk xn) (zb rfl)) (sk yB) ?_
  refine zp rfl (fun hb=>zu rfl ty5 yS rfl (zr rfl) (zb rfl)) (sk xz) ?_
  refine yN hF (fun v50 hv50 hF=>?_)
  refine yk rfl (fun hb=>zC rfl rfl rfl (zo (zn (gk yS) hb) zw) (.cons (zb rfl) .nil)) (fun hb=>ok49 (hv50 hb)) (sk xE) ?_
  refine zp rfl (fun hb=>s_field rfl wd ty5 (zn (gk yU) hb) rfl (zb rfl)) (sk xO) ?_
  refine zp rfl (fun hb=>zy rfl (zn (gk xH) hb) rfl rfl) (sk xX) ?_
  refine zc rfl (zM rfl (gk yz) rfl (gk xj) (z8 (fun ht=>gF ht))) (sk wB) ?_
  refine ze (zj ?_)
  refine zO (gk xV) hF (fun hc51 hF=>?_) (fun hc51 hF=>?_)
  ·refine zk (zd ?_)
   refine zc rfl (zu rfl ty5 yS rfl (zr rfl) (zb rfl)) (sk yL) ?_
   refine zR hF (fun v52 hv52 hF=>?_)
   refine zN rfl (zC rfl rfl rfl (zo (gk yq) zw) (.cons (zb rfl) .nil)) (ok49 hv52) (sk yP) ?_
   refine zc rfl (yg (cs':=[.int .u8 v52.typ,.int .i64 v52.n,.int .u64 v52.time,.int .u8 v52.dot.actor.rep,.int .u32 v52.dot.actor.inc,.int .u64 v52.dot.seq,.str v52.text,.sl 5 (v52.items.map GItem.row),.sl 3 (v52.tombs.map GDot.row)]) rfl ty48.choose_spec.1 yU (gk yA) (zb rfl) rfl rfl rfl rfl rfl) rfl ?_
   refine zc rfl (zi rfl rfl (zb rfl)) xO ?_
   refine ze (zj (zL (zx ?_)))
   obtain rfl:=Option.some.inj hF
   refine qm rfl (rl_cell ty48.choose_spec.1 yU rfl (zH (cs':=[.int .u8 v52.typ,.int .i64 v52.n,.int .u64 v52.time,.int .u8 v52.dot.actor.rep,.int .u32 v52.dot.actor.inc,.int .u64 v52.dot.seq,.str v52.text,.sl 5 (v52.items.map GItem.row),.sl 3 (v52.tombs.map GDot.row)]) ty48.choose_spec.2 rfl rfl) (zb rfl) (zD xH zG)) (zz (leV.refl _) rfl ?_)
   exact ⟨rfl,rfl⟩
  ·refine zK (zj (zk (zd ?_)))
   refine zc rfl (zg rfl wm xj rfl) (sk yX) ?_
   refine zc rfl (zu rfl ty49 (gk yM) rfl (zr rfl) (zb rfl)) (sk yW) ?_
   refine zc rfl (zf rfl yM (zb rfl)) (sk y5) ?_
   refine zR hF (fun y53 hy53 hF=>?_)
   refine zc rfl (yj rfl wu (gk yC) (gk yY) w7 hy53) (sk y6) ?_
   refine zc rfl (ye rfl ty48.choose_spec.1 (gk yT) (zH (cs':=[.int .u8 y53.typ,.int .i64 y53.n,.int .u64 y53.time,.int .u8 y53.dot.actor.rep,.int .u32 y53.dot.actor.inc,.int .u64 y53.dot.seq,.str y53.text,.sl 5 (y53.items.map GItem.row),.sl 3 (y53.tombs.map GDot.row)]) ty48.choose_spec.2 rfl rfl) (zb rfl)) (sk xg) ?_
   refine zc rfl (y4 (n:=3) rfl ze48 rfl) yW ?_
   refine zc rfl (yg (cs':=[.int .u8 y53.typ,.int .i64 y53.n,.int .u64 y53.time,.int .u8 y53.dot.actor.rep,.int .u32 y53.dot.actor.inc,.int .u64 y53.dot.seq,.str y53.text,.sl 5 (y53.items.map GItem.row),.sl 3 (y53.tombs.map GDot.row)]) rfl ty48.choose_spec.1 yC (gk xd) (zb rfl) rfl rfl rfl rfl rfl) rfl ?_
   refine ze (zj (zk ?_))
   refine yI [] [] trivial mixed (by kernel_rfl) ?_
   refine zq rfl rfl (zg rfl x4 yC rfl) (sk xk) ?_
   refine zq rfl rfl (zu rfl ty45 (gk xi) rfl (zr rfl) (zb rfl)) (sk xD) ?_
   refine zR hF (fun v54 hv54 hF=>?_)
   refine vD rfl FOk.nil (by rfl) rfl (zC rfl rfl rfl (zo (gk xB) zw) (.cons (zb rfl) .nil)) (own_ext (T':=[(v54).length]) (ok50 hv54) (m:=0) rfl rfl) (sk xK) ?_
   refine zq rfl rfl (zg rfl wr yC rfl) (sk xY) ?_
   refine zq rfl rfl (zu rfl ty46 (gk xZ) rfl (zr rfl) (zb rfl)) (sk x7) ?_
   refine zR hF (fun v55 hv55 hF=>?_)
   refine vD rfl FOk.nil (by rfl) rfl (zC rfl rfl rfl (zo (gk x5) zw) (.cons (zb rfl) .nil)) (own_ext (T':=[(v54).length,(v55).length]) (ok51 hv55) (m:=1) rfl rfl) (sk wl) ?_
   refine zq rfl rfl (zg rfl x4 yC rfl) (sk x6) ?_
   refine yZ rfl FOk.nil (by kernel_rfl) rfl (yg (cs':=[.int .u8 y53.typ,.int .i64 y53.n,.int .u64 y53.time,.int .u8 y53.dot.actor.rep,.int .u32 y53.dot.actor.inc,.int .u64 y53.dot.seq,.str y53.text,.osl (some (h.toks.length+0)) 5 (v54.map GItem.row),.sl 3 (y53.tombs.map GDot.row)]) rfl ty45 (gk xN) (gk xJ) (zb rfl) rfl rfl rfl rfl rfl) rfl ?_
   refine zq rfl rfl (zg rfl wr yC rfl) (sk wh) ?_
   refine yZ rfl FOk.nil (by kernel_rfl) rfl (yg (cs':=[.int .u8 y53.typ,.int .i64 y53.n,.int .u64 y53.time,.int .u8 y53.dot.actor.rep,.int .u32 y53.dot.actor.inc,.int .u64 y53.dot.seq,.str y53.text,.osl (some (h.toks.length+0)) 5 (v54.map GItem.row),.osl (some (h.toks.length+1)) 3 (v55.map GDot.row)]) rfl ty46 (gk wc) (gk wi) (zb rfl) rfl rfl rfl rfl rfl) rfl ?_
   refine ym ?_
   refine zj (zk (zd ?_))
   refine zc rfl (zu rfl ty48.choose_spec.1 yC rfl (zH (cs':=[.int .u8 y53.typ,.int .i64 y53.n,.int .u64 y53.time,.int .u8 y53.dot.actor.rep,.int .u32 y53.dot.actor.inc,.int .u64 y53.dot.seq,.str y53.text,.osl (some (h.toks.length+0)) 5 (v54.map GItem.row),.osl (some (h.toks.length+1)) 3 (v55.map GDot.row)]) ty48.choose_spec.2 rfl rfl) (zb rfl)) (sk wj) ?_
   refine zc rfl (yg (cs':=[.int .u8 y53.typ,.int .i64 y53.n,.int .u64 y53.time,.int .u8 y53.dot.actor.rep,.int .u32 y53.dot.actor.inc,.int .u64 y53.dot.seq,.str y53.text,.osl (some (h.toks.length+0)) 5 (v54.map GItem.row),.osl (some (h.toks.length+1)) 3 (v55.map GDot.row)]) rfl ty48.choose_spec.1 yU (gk wb) (zb rfl) rfl rfl rfl rfl rfl) rfl ?_
   refine zc rfl (zi rfl rfl (zb rfl)) xO ?_
   refine ze (zj (zL ?_))
   obtain rfl:=Option.some.inj hF
   refine qm rfl (rl_cell ty48.choose_spec.1 yU rfl (zH (cs':=[.int .u8 y53.typ,.int .i64 y53.n,.int .u64 y53.time,.int .u8 y53.dot.actor.rep,.int .u32 y53.dot.actor.inc,.int .u64 y53.dot.seq,.str y53.text,.osl (some (h.toks.length+0)) 5 (v54.map GItem.row),.osl (some (h.toks.length+1)) 3 (v55.map GDot.row)]) ty48.choose_spec.2 rfl rfl) (zb rfl) (zD xH zG)) (zz (leV.tup (.cons (leV.agg (.eq (.eq (.eq (.eq (.eq (.eq (.eq (.cons (leV.osl _ _ _) (.cons (leV.osl _ _ _) leL.nil))))))))) rfl) (.eq leL.nil))) rfl ?_)
   exact ⟨rfl,rfl⟩
/-! slices.BinarySearchFunc[varve/api.Tree,varve/api.Node,string] -/
theorem ok52 {x0:(List GNode)} {target1:zJ} {cmp2:(GNode→zJ→Option Int)} {fcmp2:FuncId} {acmp2 kcmp2:List AV} {res:(Int×Bool)} {h:AH} (hcmp2:∀ x0 x1 v (L:List Blk) (M:List Nat),cmp2 x0 x1=some v→Spec Tryz.prog fcmp2 (acmp2++[.agg [.str x0.name,.sl 9 (x0.leaves.map GLeaf.row),.sl 3 (x0.subs.map GNode.row)],.str x1]++kcmp2) (h.ext L M) (fun rr hh=>rr=.int .i64 v∧hh=h.ext L M)) (hF:yf x0 target1 cmp2=some res):Spec Tryz.prog 52 [.sl 3 (x0.map GNode.row),.str target1,.fn (.func fcmp2) acmp2 kcmp2] h (fun rr hh=>rr=.tup [.int .i64 res.1,.bool res.2]∧hh=h):=by
 unfold yf at hF
 refine yG Tryz.func52 rfl (by kernel_rfl) (env:=[.sl 3 (x0.map GNode.row),.str target1,.fn (.func fcmp2) acmp2 kcmp2,za,za,za,za,za,za,za,za,za,za,za,za,za,za,za,za,za,za,za,za,za,za,za,za,za,za,za,za,za,za,za,za,za,za,za,za,za,za,za,za,za,za,za,za,za,za]) (by rfl) (fun hlow hC=>?_)
 simp only [yi,AV.low,Bool.and_eq_true,Bool.true_and,and_true] at hlow
 have hlacmp2:∀ n m,h.blks.length≤n→h.toks.length≤m→yi n m acmp2=true:=fun n m h1 h2=>y8 h1 h2 _ (by simp [hlow])
 have hlkcmp2:∀ n m,h.blks.length≤n→h.toks.length≤m→yi n m kcmp2=true:=fun n m h1 h2=>y8 h1 h2 _ (by simp [hlow])
 refine zk (zd ?_)
 refine zc rfl (zi rfl rfl (zb rfl)) xE ?_
 refine zc rfl (zi rfl rfl (zb rfl)) xO ?_
 refine ze (zj (zk (zd ?_)))
 refine zc rfl (zf rfl yr (zb rfl)) yX ?_
 refine yb rfl (zS rfl rfl rfl rfl xC yM yc) yW fun hn1=>?_
 replace hn1:=xl hn1
 refine zc rfl (zi rfl yC (zb rfl)) xX ?_
 refine ze (zj (zk (zd ?_)))
 refine zc rfl (zf rfl xj (zb rfl)) y5 ?_
 refine zc rfl (zi rfl rfl (zb rfl)) wB ?_
 refine zc rfl (zi rfl yY (zb rfl)) yL ?_
 refine ze (zj (zk (zQ ?_)))
 refine r_loopWF (fun (s1:Int×Int)=>yO [3,4,5,6,7,11,12,13,14,15,16,17,18,19,20,21,22,23,24,25,26,27,28,29,30,31,32,33,34,35,36,37,38,39,40,41,42,43,44,45,46,47,48] [(9,.int .i64 s1.1),(10,.int .i64 s1.2)]) (fun s1=>h.ext [] []) hF (fun _=>by simp only [yO,upd,List.set_cons_succ,List.set_cons_zero];try rfl) (wk.le (by exact (.eq (.eq (.eq (.d4 (.drop (.eq (.cons (leV.of_eq rfl) (.cons (leV.of_eq rfl) (.d16 (.d16 (.d4 (.drop (.drop leL.nil))))))))))))))) ?_
 intro n1 s1 o1 hF hK1
 refine zk (zk (zd ?_))
 refine zc rfl (zf rfl xV (zb rfl)) y6 ?_
 refine zc rfl (zf rfl yq (zb rfl)) xg ?_
 refine zc rfl (zy rfl yT xd rfl) xk ?_
 refine ze (zj ?_)
 refine zO xi hF (fun hc8 hF=>?_) (fun hc8 hF=>?_)
 ·refine zK (zj (zQ (zk (zd ?_))))
  refine zc rfl (zf rfl xV (zb rfl)) xD ?_
  refine zc rfl (zf rfl yq (zb rfl)) xK ?_
  refine zc rfl (zy rfl xB xJ rfl) xY ?_
  refine zc rfl (s_convert rfl ty3 ty126 xZ rfl) x7 ?_
  refine zc rfl (zy rfl x5 rfl rfl) wl ?_
  refine zc rfl (s_convert rfl ty126 ty3 wi rfl) x6 ?_
  refine zc rfl (zi rfl xN (zb rfl)) yP ?_
  refine ze (zj (zk (zd ?_)))
  refine zc rfl (zf rfl yV (zb rfl)) wh ?_
  refine zc rfl (zf rfl yr (zb rfl)) wj ?_
  refine zc rfl (zf rfl yA (zb rfl)) wF ?_
  refine zR hF (fun y9 hy9 hF=>?_)
  refine zc rfl (xS rfl xC wb wE w7 hy9 (GNode.row_eq _)) wM ?_
  refine zc rfl (ye rfl ty51.choose_spec.1 wN (zH (cs':=[.str y9.name,.sl 9 (y9.leaves.map GLeaf.row),.sl 3 (y9.subs.map GNode.row)]) ty51.choose_spec.2 rfl rfl) (zb rfl)) wL ?_
  refine zc rfl (zf rfl yF (zb rfl)) wW ?_
  refine zR hF (fun v10 hv10 hF=>?_)
  refine zN rfl (s_callC rfl rfl wc (zo wH (zo w6 zw)) (.cons (zb rfl) (.cons (zb rfl) .nil)) rfl) (hcmp2 _ _ _ _ _ hv10) wV ?_
  refine zc rfl (zy rfl vg rfl rfl) wU ?_
  refine ze (zj ?_)
  refine zO w5 hF (fun hc11 hF=>?_) (fun hc11 hF=>?_)
  ·refine zd ?_
   refine zc rfl (zf rfl yA (zb rfl)) vl ?_
   refine zc rfl (zy rfl vf rfl rfl) vk ?_
   refine zc rfl (zi rfl vt (zb rfl)) wB ?_
   refine ze (yh (yH ?_))
   obtain rfl:=Option.some.inj hF
   exact ⟨((IntKind.wrap .i64 ((IntKind.wrap .i64 ((Int.fdiv (IntKind.wrap .u64 ((IntKind.wrap .i64 (s1.1+s1.2)))) (2 ^ (min (1:Int).toNat (IntKind.bits .u64))))))+(1:Int))),s1.2),hK1,wk.le (by exact (.eq (.eq (.eq (.d4 (.drop (.eq (.cons (leV.of_eq rfl) (.cons (leV.of_eq rfl) (.d16 (.d16 (.d4 (.drop (.drop leL.nil))))))))))))))⟩
  ·refine zd ?_
   refine zc rfl (zf rfl yA (zb rfl)) vb ?_
   refine zc rfl (zi rfl wZ (zb rfl)) yL ?_
   refine ze (yh (yH ?_))
   obtain rfl:=Option.some.inj hF
   exact ⟨(s1.1,(IntKind.wrap .i64 ((Int.fdiv (IntKind.wrap .u64 ((IntKind.wrap .i64 (s1.1+s1.2)))) (2 ^ (min (1:Int).toNat (IntKind.bits .u64))))))),hK1,wk.le (by exact (.eq (.eq (.eq (.d4 (.drop (.eq (.cons (leV.of_eq rfl) (.cons (leV.of_eq rfl) (.d16 (.d16 (.d4 (.drop (.drop leL.nil))))))))))))))⟩
 ·refine yR ?_
  refine ya ?_
  refine zV ?_
  obtain rfl:=Option.some.inj hF
  replace hF:=hK1
  refine zW ?_
  refine zj (zk (zd ?_))
  refine zc rfl (zf rfl xV (zb rfl)) va ?_
  refine zc rfl (zf rfl xV (zb rfl)) w9 ?_
  refine zc rfl (zf rfl xj (zb rfl)) vj ?_
  refine zc rfl (zy rfl wY wX rfl) vI ?_
  refine zc rfl (zf rfl vM (zb rfl)) vA ?_
  refine zp rfl (fun hb=>zf rfl yV (zb rfl)) (sk st0) ?_
  refine zp rfl (fun hb=>zf rfl yr (zb rfl)) (sk st1) ?_
  refine zp rfl (fun hb=>zf rfl xV (zb rfl)) (sk xh) ?_
  refine wS hF (fun hg14 hF=>?_)
  refine zp rfl (fun hb=>qU default rfl xC (zn (gk yF) hb) (zn (gk yV) hb) w7 (hg14 hb) (GNode.row_eq _)) (sk wo) ?_
  refine zp rfl (fun hb=>ye rfl ty51.choose_spec.1 (zn (gk xn) hb) (zH (cs':=[.str (((x0).getD s1.1.toNat default).name),.sl 9 ((((x0).getD s1.1.toNat default).leaves).map GLeaf.row),.sl 3 ((((x0).getD s1.1.toNat default).subs).map GNode.row)]) ty51.choose_spec.2 rfl rfl) (zb rfl)) (sk yB) ?_
  refine zp rfl (fun hb=>zf rfl yF (zb rfl)) (sk xz) ?_
  refine yN hF (fun v15 hv15 hF=>?_)
  refine yk rfl (fun hb=>s_callC rfl rfl (zn (gk yr) hb) (zo (zn (gk yz) hb) (zo (zn (gk yS) hb) zw)) (.cons (zb rfl) (.cons (zb rfl) .nil)) rfl) (fun hb=>hcmp2 _ _ _ _ _ (hv15 hb)) (sk xE) ?_
  refine zp rfl (fun hb=>zy rfl (zn (gk yU) hb) rfl rfl) (sk xO) ?_
  refine zc rfl (zM rfl vr (gk xH) rfl (zX (fun ht=>gT ht))) (sk xX) ?_
  refine zc rfl (zi rfl ve (zb rfl)) xE ?_
  refine zc rfl (zi rfl (gk xj) (zb rfl)) xO ?_
  refine ze (zj (zL ?_))
  obtain rfl:=Option.some.inj hF
  refine qm rfl (zD yU (zD xH zG)) (zz (leV.refl _) rfl ?_)
  exact ⟨rfl,rfl⟩
/-! strings.Compare -/
def scmpTryzRen:Go.Shelf.Ren :=
  { f:=fun x=>match x with
      | 106=>54
      | 213=>87
      | 265=>112
      | n=>n
    t:=fun x=>match x with
      | 3=>3
      | 9=>9
      | n=>n
    g:=fun n=>n }
theorem scmpTryzLays:Go.Proofs.Lays.n106 Tryz.prog scmpTryzRen where
  mixed:=mixed
  f106:=Tryz.func54.trans (by kernel_rfl)
  f213:=Tryz.func87.trans (by kernel_rfl)
  f265:=Tryz.func112.trans (by kernel_rfl)
  t3:=Tryz.underlying3
  a3:=Tryz.isAgg3
  z3:=Tryz.sizeOf3
  v3:=Tryz.zeroValue3
  t9:=Tryz.underlying9
  a9:=Tryz.isAgg9
  z9:=Tryz.sizeOf9
  v9:=Tryz.zeroValue9
theorem ok54 {p0:zJ} {p1:zJ} {res:Int} {h:AH} (hF:stringsCompare p0 p1=some res):Spec Tryz.prog 54 [.str p0,.str p1] h (fun rr hh=>rr=.int .i64 res∧hh=h):=by
 obtain rfl:=Option.some.inj hF
 exact spec_scompare scmpTryzLays
/-! varve/diff.lay 1 -/
theorem ok53 {n0:GNode} {name1:zJ} {res:Int} {h:AH}  (hF:qt n0 name1=some res):Spec Tryz.prog 53 [.agg [.str n0.name,.sl 9 (n0.leaves.map GLeaf.row),.sl 3 (n0.subs.map GNode.row)],.str name1] h (fun rr hh=>rr=.int .i64 res∧hh=h):=by
 unfold qt at hF
 refine zt Tryz.func53 rfl (by kernel_rfl) (env:=[.agg [.str n0.name,.sl 9 (n0.leaves.map GLeaf.row),.sl 3 (n0.subs.map GNode.row)],.str name1,za,za,za,za,za,za,za]) (by rfl) ?_
 refine zk (zd ?_)
 refine zc rfl (xw (n:=0) rfl yr (zb rfl) rfl rfl) xh ?_
 refine zc rfl (zi rfl rfl (zb rfl)) yB ?_
 refine ze (zj (zk (zd ?_)))
 refine zc rfl (zg rfl fo51x0 yV rfl) xz ?_
 refine zc rfl (zu rfl ty9 yS rfl (zr rfl) (zb rfl)) xE ?_
 refine zc rfl (zf rfl yF (zb rfl)) xO ?_
 refine zR hF (fun v1 hv1 hF=>?_)
 refine zN rfl (zC rfl rfl rfl (zo yU (zo xH zw)) (.cons (zb rfl) (.cons (zb rfl) .nil))) (ok54 hv1) xX ?_
 refine zc rfl (zi rfl xj (zb rfl)) yB ?_
 refine ze (zj (zL ?_))
 obtain rfl:=Option.some.inj hF
 refine zA rfl (zD yz zG) (zz (leV.refl _) rfl ?_)
 exact ⟨rfl,rfl⟩
/-! slices.DeleteFunc[[]varve/api.Leaf,varve/api.Leaf] -/
theorem okR55 {bl tl:Nat} {s0:(List GLeaf)} {del1:(GLeaf→Option Bool)} {fdel1:FuncId} {adel1 kdel1:List AV} {res:(List GLeaf)} {h:AH} (hbl:h.blks.length=bl) (htl:h.toks.length=tl) (hdel1:∀ x0 v (L:List Blk) (M:List Nat),del1 x0=some v→Spec Tryz.prog fdel1 (adel1++[.agg [.int .u8 x0.typ,.int .i64 x0.n,.int .u64 x0.time,.int .u8 x0.dot.actor.rep,.int .u32 x0.dot.actor.inc,.int .u64 x0.dot.seq,.str x0.text,.sl 5 (x0.items.map GItem.row),.sl 3 (x0.tombs.map GDot.row)]]++kdel1) (h.ext L M) (fun rr hh=>rr=.bool v∧hh=h.ext L M)) (hladel1:∀ n m,h.blks.length≤n→h.toks.length≤m→yi n m adel1=true) (hlkdel1:∀ n m,h.blks.length≤n→h.toks.length≤m→yi n m kdel1=true) (hF:xM s0 del1=some res):Spec Tryz.prog 55 [.rsl bl tl 9 s0.length,.fn (.func fdel1) adel1 kdel1] (h.ext [.row tl 9 (s0.map GLeaf.row)] [s0.length]) (TurnK h bl tl 9 res.length (res.map GLeaf.row)):=by
 unfold xM at hF
 subst hbl htl
 refine spec_of_body_R Tryz.func55 rfl (by kernel_rfl) (env:=[.rsl h.blks.length h.toks.length 9 s0.length,.fn (.func fdel1) adel1 kdel1,za,za,za,za,za,za,za,za,za,za,za,za,za,za,za,za,za,za,za,za,za,za,za,za,za,za,za,za,za,za,za,za,za,za,za,za,za,za,za,za]) (by rfl) ?_
 refine zk (zd ?_)
 refine zc rfl (zi rfl rfl (xy wu)) yB ?_
 refine ze (zj (zk (zd ?_)))
 refine zc rfl (zf rfl yr (zb rfl)) xX ?_
 refine zc rfl (zf rfl yF (zb rfl)) wB ?_
 refine zR hF (fun v1 hv1 hF=>?_)
 refine zN rfl (zC rfl rfl rfl (zo xj (zo xV zw)) (.cons (zb rfl) (.cons (zb rfl) .nil))) (row_read (B1:=[]) (T1:=[]) (okR47 (by simp [AH.ext]) (by simp [AH.ext]) (fun x0 v L M hv=>by rw [ww];exact hdel1 x0 v _ _ hv) (fun n m h1 h2=>hladel1 n m (by simp [AH.ext] at h1;omega) (by simp [AH.ext] at h2;omega)) (fun n m h1 h2=>hlkdel1 n m (by simp [AH.ext] at h1;omega) (by simp [AH.ext] at h2;omega)) hv1) rfl rfl) yL ?_
 refine zc rfl (zi rfl yq (zb rfl)) xz ?_
 refine ze (zj (zk (zk (zd ?_))))
 refine zc rfl (zf rfl yS (zb rfl)) yP ?_
 refine zc rfl (zy rfl yA rfl rfl) yX ?_
 refine ze (zj ?_)
 refine zO yM hF (fun hc2 hF=>?_) (fun hc2 hF=>?_)
 ·refine zk (zd ?_)
  refine zc rfl (zf rfl yr (zb rfl)) yW ?_
  refine zc rfl (zi rfl yC (zb rfl)) yB ?_
  refine ze (zj (zL (zx ?_)))
  obtain rfl:=Option.some.inj hF
  refine zA rfl (zD yz zG) (fin_turn0 (row:=GLeaf.row) ?_)
  exact ⟨rfl,_,rfl⟩
 ·refine zK (zj (zk (zk (zd ?_))))
  refine zc rfl (zf rfl yS (zb rfl)) y5 ?_
  refine zc rfl (zy rfl yY rfl rfl) y6 ?_
  refine zc rfl (zi rfl yT (zb rfl)) xE ?_
  refine ze (zj (zQ ?_))
  refine r_loopWF (fun (s1:Int×Int×(List GLeaf))=>yO [2,3,4,7,8,9,10,11,12,13,14,15,16,17,18,19,20,21,22,23,24,25,26,27,28,29,30,31,32,33,34,35,36,37,38,39,40,41] [(5,.int .i64 s1.1),(6,.int .i64 s1.2.1)]) (fun s1=>h.ext [.row (h.toks.length+0) 9 (s1.2.2.map GLeaf.row)] [s0.length]) hF (fun _=>by simp only [yO,upd,List.set_cons_succ,List.set_cons_zero];try rfl) (wk.le (by exact (.eq (.eq (.drop (.drop (.drop (.cons (leV.of_eq rfl) (.cons (leV.of_eq rfl) (.d16 (.d16 (.drop (.drop (.drop leL.nil)))))))))))))) ?_
  intro n1 s1 o1 hF hK1
  refine wS hF (fun hr1 hF=>?_)
  refine zk (zk (zd ?_))
  refine zc rfl (zf rfl yU (zb rfl)) xg ?_
  refine zc rfl (zf rfl yr (zb rfl)) xk ?_
  refine yb rfl (zS rfl rfl rfl rfl wu xi rfl) xD fun hn12=>?_
  refine zc rfl (zy rfl xd xB rfl) xK ?_
  refine ze (zj ?_)
  refine zO xJ hF (fun hc13 hF=>?_) (fun hc13 hF=>?_)
  ·refine zK (zj (zk (zQ (zk (zd ?_)))))
   refine zc rfl (zf rfl yr (zb rfl)) wl ?_
   refine zc rfl (zf rfl yU (zb rfl)) x6 ?_
   refine zR hF (fun y14 hy14 hF=>?_)
   refine zc rfl (e_idxR rfl wu wi xN (idxRn hy14 hr1)) wh ?_
   refine zc rfl (e_ldR (off:=0) (i:=0) (q:=h.toks.length+0) (z:=s1.2.1.toNat) (row:=GLeaf.row) (fun _=>rfl) rfl ty48.choose_spec.1 (by decide) wc rfl hr1 (idxR hy14).2.2 (zH (cs':=[.int .u8 y14.typ,.int .i64 y14.n,.int .u64 y14.time,.int .u8 y14.dot.actor.rep,.int .u32 y14.dot.actor.inc,.int .u64 y14.dot.seq,.str y14.text,.sl 5 (y14.items.map GItem.row),.sl 3 (y14.tombs.map GDot.row)]) ty48.choose_spec.2 rfl rfl) (zb rfl)) wj ?_
   refine zc rfl (y4 (n:=1) rfl ze48 rfl) xO ?_
   refine zc rfl (yg (cs':=[.int .u8 y14.typ,.int .i64 y14.n,.int .u64 y14.time,.int .u8 y14.dot.actor.rep,.int .u32 y14.dot.actor.inc,.int .u64 y14.dot.seq,.str y14.text,.sl 5 (y14.items.map GItem.row),.sl 3 (y14.tombs.map GDot.row)]) rfl ty48.choose_spec.1 xH wb (zb rfl) rfl rfl rfl rfl rfl) rfl ?_
   refine ze (zj (zk (zd ?_)))
   refine zc rfl (zf rfl yF (zb rfl)) wF ?_
   refine zc rfl (zu rfl ty48.choose_spec.1 xH rfl (zH (cs':=[.int .u8 y14.typ,.int .i64 y14.n,.int .u64 y14.time,.int .u8 y14.dot.actor.rep,.int .u32 y14.dot.actor.inc,.int .u64 y14.dot.seq,.str y14.text,.sl 5 (y14.items.map GItem.row),.sl 3 (y14.tombs.map GDot.row)]) ty48.choose_spec.2 rfl rfl) (zb rfl)) wM ?_
   refine zR hF (fun v15 hv15 hF=>?_)
   refine zN rfl (s_callC rfl rfl wE (zo wN zw) (.cons (zb rfl) .nil) rfl) (hdel1 _ _ _ _ hv15) wL ?_
   refine zc rfl (xR rfl wH rfl) wW ?_
   refine ze (zj ?_)
   refine zO w6 hF (fun hc16 hF=>?_) (fun hc16 hF=>?_)
   ·refine zk (zd ?_)
    refine zc rfl (zf rfl yr (zb rfl)) wV ?_
    refine zc rfl (zf rfl yS (zb rfl)) wU ?_
    refine zc rfl (zu rfl ty48.choose_spec.1 xH rfl (zH (cs':=[.int .u8 y14.typ,.int .i64 y14.n,.int .u64 y14.time,.int .u8 y14.dot.actor.rep,.int .u32 y14.dot.actor.inc,.int .u64 y14.dot.seq,.str y14.text,.sl 5 (y14.items.map GItem.row),.sl 3 (y14.tombs.map GDot.row)]) ty48.choose_spec.2 rfl rfl) (zb rfl)) vl ?_
    refine zR hF (fun y17 hy17 hF=>?_)
    refine zc rfl (e_idxR rfl wu vg w5 (idxRn hy17 hr1)) vk ?_
    refine zc rfl (e_stR (off:=0) (i:=0) (q:=h.toks.length+0) (z:=s1.1.toNat) (row:=GLeaf.row) (y':=y14) (us:=[.int .u8 y14.typ,.int .i64 y14.n,.int .u64 y14.time,.int .u8 y14.dot.actor.rep,.int .u32 y14.dot.actor.inc,.int .u64 y14.dot.seq,.str y14.text,.sl 5 (y14.items.map GItem.row),.sl 3 (y14.tombs.map GDot.row)]) (B':=[.row (h.toks.length+0) 9 ((s1.2.2.set s1.1.toNat y14).map GLeaf.row),.cells [.int .u8 y14.typ,.int .i64 y14.n,.int .u64 y14.time,.int .u8 y14.dot.actor.rep,.int .u32 y14.dot.actor.inc,.int .u64 y14.dot.seq,.str y14.text,.sl 5 (y14.items.map GItem.row),.sl 3 (y14.tombs.map GDot.row)]]) (fun _=>rfl) rfl ty48.choose_spec.1 vt vf (zb rfl) rfl rfl rfl rfl hr1 (idxR hy17).2.2 (by decide) rfl rfl) rfl ?_
    refine ze (zj (zd ?_))
    refine zc rfl (zf rfl yS (zb rfl)) vb ?_
    refine zc rfl (zy rfl wZ rfl rfl) va ?_
    refine zc rfl (zi rfl ve (zb rfl)) xz ?_
    refine ze (yh (zj (zd ?_)))
    refine zc rfl (zf rfl yU (zb rfl)) xY ?_
    refine zc rfl (zy rfl xZ rfl rfl) x7 ?_
    refine zc rfl (zi rfl x5 (zb rfl)) xE ?_
    refine ze (yH ?_)
    obtain rfl:=Option.some.inj hF
    exact ⟨((IntKind.wrap .i64 (s1.1+(1:Int))),(IntKind.wrap .i64 (s1.2.1+(1:Int))),(s1.2.2.set s1.1.toNat y14)),hK1,wk.trans (wk.le (by exact (.eq (.eq (.drop (.drop (.drop (.cons (leV.of_eq rfl) (.cons (leV.of_eq rfl) (.d16 (.d16 (.drop (.drop (.drop leL.nil)))))))))))))) (xI (by simp [yi,AV.low,hladel1,hlkdel1]) rfl rfl (by simp [Blk.low,yi,AV.low,hladel1,hlkdel1]))⟩
   ·refine zK (yh (zj (zd ?_)))
    refine zc rfl (zf rfl yU (zb rfl)) xY ?_
    refine zc rfl (zy rfl xZ rfl rfl) x7 ?_
    refine zc rfl (zi rfl x5 (zb rfl)) xE ?_
    refine ze (yH ?_)
    obtain rfl:=Option.some.inj hF
    exact ⟨(s1.1,(IntKind.wrap .i64 (s1.2.1+(1:Int))),s1.2.2),hK1,wk.trans (wk.le (by exact (.eq (.eq (.drop (.drop (.drop (.cons (leV.of_eq rfl) (.cons (leV.of_eq rfl) (.d16 (.d16 (.drop (.drop (.drop leL.nil)))))))))))))) (xI (by simp [yi,AV.low,hladel1,hlkdel1]) rfl rfl (by simp [Blk.low,yi,AV.low,hladel1,hlkdel1]))⟩
  ·refine yR ?_
   refine ya ?_
   refine zV ?_
   obtain rfl:=Option.some.inj hF
   replace hF:=hK1
   refine zW ?_
   refine zj (zk (zd ?_))
   refine zc rfl (zf rfl yr (zb rfl)) w9 ?_
   refine zc rfl (zf rfl yS (zb rfl)) vj ?_
   refine wS hF (fun hm20 hF=>?_)
   refine ops_b rfl (e_sufR rfl wu wY wX hm20) vI ?_
   refine ops_b rfl (e_clrR (i:=0) (q:=h.toks.length+0) (L:=s1.2.2) (row:=GLeaf.row) (d:=zZ) (B':=[.row (h.toks.length+0) 9 ((s1.2.2.take s1.1.toNat++List.replicate (s0.length - s1.1.toNat) zZ).map GLeaf.row)]) (fun _=>rfl) rfl rfl rfl rfl wu ze48 rfl vM rfl hr1 (Int.toNat_le.2 hm20.2) rfl) rfl ?_
   refine ze (zj (zk (zd ?_)))
   refine zc rfl (zf rfl yr (zb rfl)) vA ?_
   refine zc rfl (zf rfl yS (zb rfl)) (sk st0) ?_
   refine zR hF (fun m21 hm21 hF=>?_)
   refine ops_b rfl (e_cutR (i:=0) (j:=0) (L:=(s1.2.2.take s1.1.toNat++List.replicate (s0.length - s1.1.toNat) zZ)) (row:=GLeaf.row) (B':=[.dead,.row (h.toks.length+1) 9 (m21.map GLeaf.row)]) (T':=[s0.length+1,(m21).length]) rfl wu vr (gk yr) rfl (clr_len hr1 (Int.toNat_le.2 hm20.2)) hm21 rfl rfl rfl rfl) (sk st1) ?_
   refine zc rfl (zi rfl (gk yF) (zb rfl)) yB ?_
   refine ze (zj (zL ?_))
   obtain rfl:=Option.some.inj hF
   refine zA rfl (zD yz zG) (fin_at ?_)
   exact ⟨rfl,_,rfl⟩
/-! slices.Clone[[]varve/api.Leaf,varve/api.Leaf] -/
theorem ok56 {s0:(List GLeaf)} {res:(List GLeaf)} {h:AH}  (hF:wx s0=some res):Spec Tryz.prog 56 [.sl 9 (s0.map GLeaf.row)] h (OwnK h 9 res.length (res.map GLeaf.row)):=by
 unfold wx at hF
 refine zt Tryz.func56 rfl (by kernel_rfl) (env:=[.sl 9 (s0.map GLeaf.row),za,za,za,za,za,za,za]) (by rfl) ?_
 refine zk (zd ?_)
 refine zc rfl (zi rfl rfl (xy wu)) xh ?_
 refine ze (zj (zk (zk (zd ?_))))
 refine zc rfl (zf rfl yr (zb rfl)) wo ?_
 refine ops_nilqE rfl rfl wu xn w7 rfl (fun _=>yB) hF (fun b1 hb1 hF=>?_)
 refine ze (zj ?_)
 refine zO yz hF (fun hc2 hF=>?_) (fun hc2 hF=>?_)
 ·refine zk (zd ?_)
  refine zc rfl (zi rfl rfl (xy wu)) xh ?_
  refine ze (zj (zL (zx ?_)))
  obtain rfl:=Option.some.inj hF
  refine zA rfl (zD yV zG) (fin_own0 (row:=GLeaf.row) (L:=([]:List GLeaf)) ?_)
  exact ⟨rfl,rfl⟩
 ·refine zK (zj (zk (zd ?_)))
  refine zc rfl (yE (es:=([]:List GLeaf).map GLeaf.row) rfl wu ze48 rfl rfl yp .nil rfl rfl rfl) xz ?_
  refine zc rfl (zf rfl yr (zb rfl)) xE ?_
  refine wS hF (fun hm3 hF=>?_)
  refine zc rfl (e_appN (m:=0) (T':=[((([]:List GLeaf)++s0)).length]) rfl rfl rfl rfl wu wu yS yU (zb rfl) (zb rfl) news_sl hm3 rfl rfl) xO ?_
  refine zc rfl (zi rfl xH (zb rfl)) xh ?_
  refine ze (zj (zL ?_))
  obtain rfl:=Option.some.inj hF
  refine zA rfl (zD yV zG) (fin_own ?_)
  exact ⟨rfl,rfl⟩
theorem okR56 {s0:(List GLeaf)} {res:(List GLeaf)} {h:AH}  (hF:wx s0=some res):Spec Tryz.prog 56 [.sl 9 (s0.map GLeaf.row)] h (NewK h 9 res.length (res.map GLeaf.row)):=by
 unfold wx at hF
 refine zt Tryz.func56 rfl (by kernel_rfl) (env:=[.sl 9 (s0.map GLeaf.row),za,za,za,za,za,za,za]) (by rfl) ?_
 refine zk (zd ?_)
 refine zc rfl (zi rfl rfl (xy wu)) xh ?_
 refine ze (zj (zk (zk (zd ?_))))
 refine zc rfl (zf rfl yr (zb rfl)) wo ?_
 refine ops_nilqE rfl rfl wu xn w7 rfl (fun _=>yB) hF (fun b1 hb1 hF=>?_)
 refine ze (zj ?_)
 refine zO yz hF (fun hc2 hF=>?_) (fun hc2 hF=>?_)
 ·refine zk (zd ?_)
  refine zc rfl (zi rfl rfl (xy wu)) xh ?_
  refine ze (zj (zL (zx ?_)))
  obtain rfl:=Option.some.inj hF
  refine zA rfl (zD yV zG) (fin_row0 ?_)
  exact ⟨rfl,rfl⟩
 ·refine zK (zj (zk (zd ?_)))
  refine zc rfl (yE (es:=([]:List GLeaf).map GLeaf.row) rfl wu ze48 rfl rfl yp .nil rfl rfl rfl) xz ?_
  refine zc rfl (zf rfl yr (zb rfl)) xE ?_
  refine ops_swk (swk_thaw yS rfl rfl xz rfl rfl) ?_
  refine wS hF (fun hm3 hF=>?_)
  refine zc rfl (e_appR (i:=0) (j:=0) (B':=[.row (h.toks.length+0) 9 ((([]:List GLeaf)++s0).map GLeaf.row)]) (T':=[((([]:List GLeaf)++s0)).length]) rfl rfl rfl rfl wu wu yS yU rfl (zb rfl) news_sl hm3 rfl rfl rfl rfl rfl) xO ?_
  refine zc rfl (zi rfl xH (zb rfl)) xh ?_
  refine ze (zj (zL ?_))
  obtain rfl:=Option.some.inj hF
  refine zA rfl (zD yV zG) (fin_at ?_)
  exact ⟨rfl,rfl⟩
/-! varve/diff.lay 2 -/
theorem ok57 {x0:GLeaf} {c0:Int} {i0:Nat} {res:Bool} {h:AH} (hb0:h.blk i0=some (.cells [.int .u8 c0])) (hF:diffXlayC2 x0 c0=some res):Spec Tryz.prog 57 [.agg [.int .u8 x0.typ,.int .i64 x0.n,.int .u64 x0.time,.int .u8 x0.dot.actor.rep,.int .u32 x0.dot.actor.inc,.int .u64 x0.dot.seq,.str x0.text,.sl 5 (x0.items.map GItem.row),.sl 3 (x0.tombs.map GDot.row)],.ptr i0 0] h (fun rr hh=>rr=.bool res∧hh=h):=by
 unfold diffXlayC2 at hF
 refine zt Tryz.func57 rfl (by kernel_rfl) (env:=[.agg [.int .u8 x0.typ,.int .i64 x0.n,.int .u64 x0.time,.int .u8 x0.dot.actor.rep,.int .u32 x0.dot.actor.inc,.int .u64 x0.dot.seq,.str x0.text,.sl 5 (x0.items.map GItem.row),.sl 3 (x0.tombs.map GDot.row)],.ptr i0 0,za,za,za,za,za,za]) (by rfl) ?_
 refine zk (zd ?_)
 refine zc rfl (xw (n:=0) rfl yr (zb rfl) rfl rfl) xh ?_
 refine zc rfl (zi rfl rfl (zb rfl)) wo ?_
 refine ze (zj (zk (zd ?_)))
 refine zc rfl (zg rfl wd yV rfl) yB ?_
 refine zc rfl (zu rfl ty5 yz rfl (zr rfl) (zb rfl)) xz ?_
 refine zc rfl (b_load rfl ty5 yF hb0 (zr rfl) (zb rfl)) xE ?_
 refine zc rfl (zy rfl yS yU rfl) xO ?_
 refine zc rfl (zi rfl xH (zb rfl)) wo ?_
 refine ze (zj (zL ?_))
 obtain rfl:=Option.some.inj hF
 refine zA rfl (zD xn zG) (zz (leV.refl _) rfl ?_)
 exact ⟨rfl,rfl⟩
/-! slices.SortFunc[[]varve/api.Leaf,varve/api.Leaf] -/
def sort59TryzRen:Go.Shelf.Ren :=
  { f:=fun x=>match x with
      | 6=>59
      | 15=>78
      | 14=>88
      | 28=>108
      | 29=>109
      | 20=>113
      | 21=>114
      | 22=>115
      | 23=>116
      | 24=>117
      | 25=>118
      | 26=>119
      | 27=>120
      | 46=>135
      | 47=>130
      | 48=>131
      | 49=>136
      | 50=>137
      | 57=>145
      | n=>n
    t:=fun x=>match x with
      | 22=>49
      | 24=>48
      | 25=>105
      | 3=>3
      | 39=>126
      | 0=>0
      | 53=>40
      | 55=>39
      | 4=>4
      | 46=>144
      | 45=>143
      | 50=>96
      | 5=>5
      | 9=>9
      | 66=>165
      | 70=>169
      | 76=>180
      | 77=>181
      | n=>n
    g:=fun n=>n }
theorem sort59TryzLays:Go.Proofs.SlLaysF0.n6 Tryz.prog sort59TryzRen where
  mixed:=mixed
  f6:=⟨Tryz.f59.name,by kernel_rfl,Tryz.func59.trans (by kernel_rfl)⟩
  f15:=Tryz.func78.trans (by kernel_rfl)
  f14:=⟨Tryz.f88.name,by kernel_rfl,Tryz.func88.trans (by kernel_rfl)⟩
  f28:=Tryz.func108.trans (by kernel_rfl)
  f29:=Tryz.func109.trans (by kernel_rfl)
  f20:=⟨Tryz.f113.name,by kernel_rfl,Tryz.func113.trans (by kernel_rfl)⟩
  f21:=⟨Tryz.f114.name,by kernel_rfl,Tryz.func114.trans (by kernel_rfl)⟩
  f22:=⟨Tryz.f115.name,by kernel_rfl,Tryz.func115.trans (by kernel_rfl)⟩
  f23:=⟨Tryz.f116.name,by kernel_rfl,Tryz.func116.trans (by kernel_rfl)⟩
  f24:=⟨Tryz.f117.name,by kernel_rfl,Tryz.func117.trans (by kernel_rfl)⟩
  f25:=⟨Tryz.f118.name,by kernel_rfl,Tryz.func118.trans (by kernel_rfl)⟩
  f26:=⟨Tryz.f119.name,by kernel_rfl,Tryz.func119.trans (by kernel_rfl)⟩
  f27:=⟨Tryz.f120.name,by kernel_rfl,Tryz.func120.trans (by kernel_rfl)⟩
  f46:=⟨Tryz.f135.name,by kernel_rfl,Tryz.func135.trans (by kernel_rfl)⟩
  f47:=Tryz.func130.trans (by kernel_rfl)
  f48:=Tryz.func131.trans (by kernel_rfl)
  f49:=⟨Tryz.f136.name,by kernel_rfl,Tryz.func136.trans (by kernel_rfl)⟩
  f50:=⟨Tryz.f137.name,by kernel_rfl,Tryz.func137.trans (by kernel_rfl)⟩
  f57:=⟨Tryz.f145.name,by kernel_rfl,Tryz.func145.trans (by kernel_rfl)⟩
  t0:=Tryz.underlying0
  a0:=Tryz.isAgg0
  z0:=Tryz.sizeOf0
  v0:=Tryz.zeroValue0
  t3:=Tryz.underlying3
  a3:=Tryz.isAgg3
  z3:=Tryz.sizeOf3
  v3:=Tryz.zeroValue3
  t4:=Tryz.underlying4
  a4:=Tryz.isAgg4
  z4:=Tryz.sizeOf4
  v4:=Tryz.zeroValue4
  t5:=Tryz.underlying5
  a5:=Tryz.isAgg5
  z5:=Tryz.sizeOf5
  v5:=Tryz.zeroValue5
  t9:=Tryz.underlying9
  a9:=Tryz.isAgg9
  z9:=Tryz.sizeOf9
  v9:=Tryz.zeroValue9
  t22:=Tryz.underlying49
  a22:=Tryz.isAgg49
  z22:=Tryz.sizeOf49
  v22:=Tryz.zeroValue49
  t25:=Tryz.underlying105
  a25:=Tryz.isAgg105
  z25:=Tryz.sizeOf105
  v25:=Tryz.zeroValue105
  t39:=Tryz.underlying126
  a39:=Tryz.isAgg126
  z39:=Tryz.sizeOf126
  v39:=Tryz.zeroValue126
  t45:=Tryz.underlying143
  a45:=Tryz.isAgg143
  z45:=Tryz.sizeOf143
  v45:=Tryz.zeroValue143
  t46:=Tryz.underlying144
  a46:=Tryz.isAgg144
  z46:=Tryz.sizeOf144
  v46:=Tryz.zeroValue144
  t50:=Tryz.underlying96
  a50:=Tryz.isAgg96
  z50:=Tryz.sizeOf96
  v50:=Tryz.zeroValue96
  t53:=Tryz.underlying40
  a53:=Tryz.isAgg40
  z53:=Tryz.sizeOf40
  v53:=Tryz.zeroValue40
  t55:=Tryz.underlying39
  a55:=Tryz.isAgg39
  z55:=Tryz.sizeOf39
  v55:=Tryz.zeroValue39
  t66:=Tryz.underlying165
  a66:=Tryz.isAgg165
  z66:=Tryz.sizeOf165
  v66:=Tryz.zeroValue165
  t70:=Tryz.underlying169
  a70:=Tryz.isAgg169
  z70:=Tryz.sizeOf169
  v70:=Tryz.zeroValue169
  t76:=Tryz.underlying180
  a76:=Tryz.isAgg180
  z76:=Tryz.sizeOf180
  v76:=Tryz.zeroValue180
  t77:=Tryz.underlying181
  a77:=Tryz.isAgg181
  z77:=Tryz.sizeOf181
  v77:=Tryz.zeroValue181
/-! varve/diff.lay 3 -/
theorem ok60 {x0:GLeaf} {y1:GLeaf} {res:Int} {h:AH}  (hF:diffXlayC3 x0 y1=some res):Spec Tryz.prog 60 [.agg [.int .u8 x0.typ,.int .i64 x0.n,.int .u64 x0.time,.int .u8 x0.dot.actor.rep,.int .u32 x0.dot.actor.inc,.int .u64 x0.dot.seq,.str x0.text,.sl 5 (x0.items.map GItem.row),.sl 3 (x0.tombs.map GDot.row)],.agg [.int .u8 y1.typ,.int .i64 y1.n,.int .u64 y1.time,.int .u8 y1.dot.actor.rep,.int .u32 y1.dot.actor.inc,.int .u64 y1.dot.seq,.str y1.text,.sl 5 (y1.items.map GItem.row),.sl 3 (y1.tombs.map GDot.row)]] h (fun rr hh=>rr=.int .i64 res∧hh=h):=by
 unfold diffXlayC3 at hF
 refine zt Tryz.func60 rfl (by kernel_rfl) (env:=[.agg [.int .u8 x0.typ,.int .i64 x0.n,.int .u64 x0.time,.int .u8 x0.dot.actor.rep,.int .u32 x0.dot.actor.inc,.int .u64 x0.dot.seq,.str x0.text,.sl 5 (x0.items.map GItem.row),.sl 3 (x0.tombs.map GDot.row)],.agg [.int .u8 y1.typ,.int .i64 y1.n,.int .u64 y1.time,.int .u8 y1.dot.actor.rep,.int .u32 y1.dot.actor.inc,.int .u64 y1.dot.seq,.str y1.text,.sl 5 (y1.items.map GItem.row),.sl 3 (y1.tombs.map GDot.row)],za,za,za,za,za,za,za,za]) (by rfl) ?_
 refine zk (zd ?_)
 refine zc rfl (xw (n:=0) rfl yr (zb rfl) rfl rfl) xh ?_
 refine zc rfl (xw (n:=1) rfl yF (zb rfl) rfl rfl) wo ?_
 refine zc rfl (zi rfl rfl (zb rfl)) yB ?_
 refine ze (zj (zk (zd ?_)))
 refine zc rfl (zg rfl wd yV rfl) xz ?_
 refine zc rfl (zu rfl ty5 yS rfl (zr rfl) (zb rfl)) xE ?_
 refine zc rfl (zg rfl wd xn rfl) xO ?_
 refine zc rfl (zu rfl ty5 xH rfl (zr rfl) (zb rfl)) xX ?_
 refine zR hF (fun v1 hv1 hF=>?_)
 refine zN rfl (zC rfl rfl rfl (zo yU (zo xj zw)) (.cons (zb rfl) (.cons (zb rfl) .nil))) (ok61 hv1) wB ?_
 refine zc rfl (zi rfl xV (zb rfl)) yB ?_
 refine ze (zj (zL ?_))
 obtain rfl:=Option.some.inj hF
 refine zA rfl (zD yz zG) (zz (leV.refl _) rfl ?_)
 exact ⟨rfl,rfl⟩
/-! slices.Clone[varve/api.Tree,varve/api.Node] -/
theorem ok62 {s0:(List GNode)} {res:(List GNode)} {h:AH}  (hF:wD s0=some res):Spec Tryz.prog 62 [.sl 3 (s0.map GNode.row)] h (OwnK h 3 res.length (res.map GNode.row)):=by
 unfold wD at hF
 refine zt Tryz.func62 rfl (by kernel_rfl) (env:=[.sl 3 (s0.map GNode.row),za,za,za,za,za,za,za]) (by rfl) ?_
 refine zk (zd ?_)
 refine zc rfl (zi rfl rfl (xy xC)) xh ?_
 refine ze (zj (zk (zk (zd ?_))))
 refine zc rfl (zf rfl yr (zb rfl)) wo ?_
 refine ops_nilqE rfl rfl xC xn w7 rfl (fun _=>yB) hF (fun b1 hb1 hF=>?_)
 refine ze (zj ?_)
 refine zO yz hF (fun hc2 hF=>?_) (fun hc2 hF=>?_)
 ·refine zk (zd ?_)
  refine zc rfl (zi rfl rfl (xy xC)) xh ?_
  refine ze (zj (zL (zx ?_)))
  obtain rfl:=Option.some.inj hF
  refine zA rfl (zD yV zG) (fin_own0 (row:=GNode.row) (L:=([]:List GNode)) ?_)
  exact ⟨rfl,rfl⟩
 ·refine zK (zj (zk (zd ?_)))
  refine zc rfl (yE (es:=([]:List GNode).map GNode.row) rfl xC ze51 rfl rfl yp .nil rfl rfl (by simp only [List.map_cons,List.map_nil,GNode.row_eq];rfl)) xz ?_
  refine zc rfl (zf rfl yr (zb rfl)) xE ?_
  refine wS hF (fun hm3 hF=>?_)
  refine zc rfl (e_appN (m:=0) (T':=[((([]:List GNode)++s0)).length]) rfl rfl rfl rfl xC xC yS yU (zb rfl) (zb rfl) news_sl hm3 rfl rfl) xO ?_
  refine zc rfl (zi rfl xH (zb rfl)) xh ?_
  refine ze (zj (zL ?_))
  obtain rfl:=Option.some.inj hF
  refine zA rfl (zD yV zG) (fin_own ?_)
  exact ⟨rfl,rfl⟩
/-! varve/diff.lay -/
theorem ok26N (n:Nat):∀ {t0:(List GNode)} {path1:(List zJ)} {kind2:Int} {l3:GLeaf} {there4:Bool} {res:(List GNode)} {h:AH} , qF n t0 path1 kind2 l3 there4=some res→Spec Tryz.prog 26 [.sl 3 (t0.map GNode.row),.sl 1 (path1.map zP),.int .u8 kind2,.agg [.int .u8 l3.typ,.int .i64 l3.n,.int .u64 l3.time,.int .u8 l3.dot.actor.rep,.int .u32 l3.dot.actor.inc,.int .u64 l3.dot.seq,.str l3.text,.sl 5 (l3.items.map GItem.row),.sl 3 (l3.tombs.map GDot.row)],.bool there4] h (fun rr hh=>rr=.sl 3 (res.map GNode.row)∧hh=h):=by
 induction n with
 | zero=>intro t0 path1 kind2 l3 there4 res h  hF;simp [qF] at hF
 | succ n ih =>
  intro t0 path1 kind2 l3 there4 res h  hF
  unfold qF at hF
  refine zt Tryz.func26 rfl (by kernel_rfl) (env:=[.sl 3 (t0.map GNode.row),.sl 1 (path1.map zP),.int .u8 kind2,.agg [.int .u8 l3.typ,.int .i64 l3.n,.int .u64 l3.time,.int .u8 l3.dot.actor.rep,.int .u32 l3.dot.actor.inc,.int .u64 l3.dot.seq,.str l3.text,.sl 5 (l3.items.map GItem.row),.sl 3 (l3.tombs.map GDot.row)],.bool there4,za,za,za,za,za,za,za,za,za,za,za,za,za,za,za,za,za,za,za,za,za,za,za,za,za,za,za,za,za,za,za,za,za,za,za,za,za,za,za,za,za,za,za,za,za,za,za,za,za,za,za,za,za,za,za,za,za,za,za,za,za,za,za,za,za,za,za,za,za,za,za,za,za,za,za,za,za,za,za,za]) (by rfl) ?_
  refine zk (zd ?_)
  refine zc rfl (xw (n:=0) rfl yV (zb rfl) rfl rfl) xO ?_
  refine zc rfl (xw (n:=1) rfl xn (zb rfl) rfl rfl) xX ?_
  refine zc rfl (zi rfl rfl (xy xC)) yL ?_
  refine ze (zj (zk (zd ?_)))
  refine zc rfl (zf rfl yr (zb rfl)) xg ?_
  refine zc rfl (zf rfl yF (zb rfl)) xk ?_
  refine zR hF (fun y1 hy1 hF=>?_)
  refine zc rfl (yj rfl wt xi rfl w7 hy1) xD ?_
  refine zc rfl (ye rfl ty9 xB (zr rfl) (zb rfl)) xK ?_
  refine zR hF (fun v2 hv2 hF=>?_)
  refine zN rfl (zC rfl rfl rfl (zo xd (zo xJ (zo rfl zw))) (.cons (zb rfl) (.cons (zb rfl) (.cons (zb rfl) .nil)))) (ok52 (fun _ _ v L M hv=>ok53  hv) hv2) xY ?_
  refine zc rfl (zf rfl xZ (zb rfl)) y6 ?_
  refine zc rfl (yn rfl yT rfl (zb rfl)) x7 ?_
  refine zc rfl (yn rfl yT rfl (zb rfl)) wl ?_
  refine zc rfl (zi rfl x5 (zb rfl)) yP ?_
  refine zc rfl (zi rfl wi (zb rfl)) yX ?_
  refine ze (zj (zk (zd ?_)))
  refine zc rfl (zf rfl yF (zb rfl)) x6 ?_
  refine zR hF (fun y3 hy3 hF=>?_)
  refine zc rfl (yj rfl wt xN rfl w7 hy3) wh ?_
  refine zc rfl (ye rfl ty9 wc (zr rfl) (zb rfl)) wj ?_
  refine zc rfl (qA (cs':=[.str y3,.osl none 9 (([]:List GLeaf).map GLeaf.row),.osl none 3 (([]:List GNode).map GNode.row)]) rfl su51 ze51 pl51 (yl wb yp) (.cons (zb rfl) .nil) rfl rfl) wF ?_
  refine zc rfl (y4 (n:=2) rfl ze51 rfl) yW ?_
  refine zc rfl (yg (cs':=[.str y3,.osl none 9 (([]:List GLeaf).map GLeaf.row),.osl none 3 (([]:List GNode).map GNode.row)]) rfl ty51.choose_spec.1 yC wE (zb rfl) rfl rfl rfl rfl rfl) rfl ?_
  refine ze (zj ?_)
  refine r_join (fun (s1:zJ×(List GLeaf)×(List GNode))=>yO [2,3,5,6,9,10,14,15,16,17,18,19,20,21,22,23,24,25,26,27,28,29,30,31,32,33,34,35,36,37,38,39,40,41,42,43,44,45,46,47,48,49,50,51,52,53,54,55,56,57,58,59,60,61,62,63,64,65,66,67,68,69,70,71,72,73,74,75,76,77,78,79,80,81,82,83,84] []) (fun s1=>h.ext [.cells [.int .u8 kind2],.cells [.int .u8 l3.typ,.int .i64 l3.n,.int .u64 l3.time,.int .u8 l3.dot.actor.rep,.int .u32 l3.dot.actor.inc,.int .u64 l3.dot.seq,.str l3.text,.sl 5 (l3.items.map GItem.row),.sl 3 (l3.tombs.map GDot.row)],.cells [.str s1.1,.sl 9 (s1.2.1.map GLeaf.row),.sl 3 (s1.2.2.map GNode.row)]] []) hF (fun _=>by simp only [yO,upd,List.set_cons_succ,List.set_cons_zero];try rfl) (fun o1 hF hK1=>?_) (fun s1 hF=>?_)
  ·refine zk (zd ?_)
   refine zc rfl (zf rfl yM (zb rfl)) wM ?_
   refine ze (zj ?_)
   refine zO wN hF (fun hc6 hF=>?_) (fun hc6 hF=>?_)
   ·refine zd ?_
    refine zc rfl (zf rfl yr (zb rfl)) wL ?_
    refine zc rfl (zf rfl yA (zb rfl)) wW ?_
    refine zR hF (fun y7 hy7 hF=>?_)
    refine zc rfl (xS rfl xC wH w6 w7 hy7 (GNode.row_eq _)) wV ?_
    refine zc rfl (ye rfl ty51.choose_spec.1 vg (zH (cs':=[.str y7.name,.sl 9 (y7.leaves.map GLeaf.row),.sl 3 (y7.subs.map GNode.row)]) ty51.choose_spec.2 rfl rfl) (zb rfl)) wU ?_
    refine zc rfl (yg (cs':=[.str y7.name,.sl 9 (y7.leaves.map GLeaf.row),.sl 3 (y7.subs.map GNode.row)]) rfl ty51.choose_spec.1 yC w5 (zb rfl) rfl rfl rfl rfl rfl) rfl ?_
    refine ze (q_join ?_)
    obtain rfl:=Option.some.inj hF
    exact ⟨(y7.name,y7.leaves,y7.subs),hK1,wk.le (by exact (.eq (.eq (.drop (.drop (.eq (.drop (.drop (.eq (.eq (.drop (.drop (.eq (.eq (.eq (.d16 (.d16 (.d16 (.d16 (.d4 (.drop (.drop (.drop leL.nil)))))))))))))))))))))))⟩
   ·refine zK (q_join ?_)
    obtain rfl:=Option.some.inj hF
    exact ⟨(y3,([]:List GLeaf),([]:List GNode)),hK1,wk.trans (wk_leB (j:=2) rfl (by exact (.eq (.cons (leV.osl _ _ _) (.cons (leV.osl _ _ _) leL.nil)))) rfl rfl) (wk.le (by exact (.eq (.eq (.drop (.drop (.eq (.drop (.drop (.eq (.eq (.drop (.drop (.eq (.eq (.eq (.d16 (.d16 (.d16 (.d16 (.d4 (.drop (.drop (.drop leL.nil))))))))))))))))))))))))⟩
  ·refine r_join (fun (s2:(List GLeaf)×(List GNode))=>yO [1,2,3,4,5,6,7,8,9,10,14,15,16,17,18,19,20,21,22,23,24,25,26,27,28,29,30,31,32,33,34,35,36,37,38,39,40,41,42,43,44,45,46,47,48,49,50,51,52,53,54,55,56,57,58,59,60,61,62,63,64,65,66,67,68,69,70,71,72,73,74,75,76,77,78,79,80,81,82,83,84] []) (fun s2=>h.ext [.cells [.int .u8 kind2],.cells [.int .u8 l3.typ,.int .i64 l3.n,.int .u64 l3.time,.int .u8 l3.dot.actor.rep,.int .u32 l3.dot.actor.inc,.int .u64 l3.dot.seq,.str l3.text,.sl 5 (l3.items.map GItem.row),.sl 3 (l3.tombs.map GDot.row)],.cells [.str s1.1,.sl 9 (s2.1.map GLeaf.row),.sl 3 (s2.2.map GNode.row)]] []) hF (fun _=>by simp only [yO,upd,List.set_cons_succ,List.set_cons_zero];try rfl) (fun o2 hF hK2=>?_) (fun s2 hF=>?_)
   ·refine zk (zd ?_)
    refine zc rfl (zf rfl yF (zb rfl)) vl ?_
    refine yb rfl (zS rfl rfl rfl rfl wt vf yc) vk fun hn18=>?_
    replace hn18:=xl hn18
    refine zc rfl (zy rfl vt rfl rfl) vb ?_
    refine ze (zj ?_)
    refine zO wZ hF (fun hc19 hF=>?_) (fun hc19 hF=>?_)
    ·refine yI [7] [] trivial mixed (by kernel_rfl) ?_
     refine zq rfl rfl (zg rfl fo51x2 yC rfl) va ?_
     refine zq rfl rfl (zu rfl ty23 ve rfl (zr rfl) (zb rfl)) w9 ?_
     refine zq rfl rfl (zf rfl yF (zb rfl)) vj ?_
     refine zR hF (fun m20 hm20 hF=>?_)
     refine zq rfl rfl (s_slcSl rfl wt wX (.inl rfl) (.some rfl) .none hm20) vI ?_
     refine zq rfl rfl (zu rfl ty5 xH rfl (zr rfl) (zb rfl)) vA ?_
     refine zq rfl rfl (zu rfl ty48.choose_spec.1 xj rfl (zH (cs':=[.int .u8 l3.typ,.int .i64 l3.n,.int .u64 l3.time,.int .u8 l3.dot.actor.rep,.int .u32 l3.dot.actor.inc,.int .u64 l3.dot.seq,.str l3.text,.sl 5 (l3.items.map GItem.row),.sl 3 (l3.tombs.map GDot.row)]) ty48.choose_spec.2 rfl rfl) (zb rfl)) (sk st0) ?_
     refine zq rfl rfl (zf rfl yz (zb rfl)) (sk st1) ?_
     refine zR hF (fun v21 hv21 hF=>?_)
     refine yu rfl rfl (fun _=>zC rfl rfl rfl (zo wY (zo vM (zo vr (zo (gk yr) (zo (gk yF) zw))))) (.cons (zb rfl) (.cons (zb rfl) (.cons (zb rfl) (.cons (zb rfl) (.cons (zb rfl) .nil)))))) (by rintro _ ⟨B2,T2,rfl,hk2⟩;exact ih hv21) (sk xh) ?_
     refine zq rfl rfl (zg rfl fo51x2 yC rfl) (sk wo) ?_
     refine yZ rfl (FOk.cons (.inr (xP trivial)) FOk.nil) (by kernel_rfl) rfl (yg (cs':=[.str s1.1,.sl 9 (s1.2.1.map GLeaf.row),.sl 3 (v21.map GNode.row)]) rfl ty23 (gk xn) (gk yV) (zb rfl) rfl rfl rfl rfl rfl) rfl ?_
     refine ym ?_
     refine q_join ?_
     obtain rfl:=Option.some.inj hF
     exact ⟨(s1.2.1,v21),hK2,wk.le (by exact (.eq (.d4 (.d4 (.drop (.drop (.eq (.eq (.eq (.d16 (.d16 (.d16 (.d16 (.d4 (.drop (.drop (.drop leL.nil)))))))))))))))))⟩
    ·refine zk (zd ?_)
     refine zc rfl (zg rfl wm yC rfl) (sk yB) ?_
     refine zc rfl (zu rfl ty49 (gk yz) rfl (zr rfl) (zb rfl)) (sk xz) ?_
     refine zR hF (fun v22 hv22 hF=>?_)
     refine ops_callH rfl (zC rfl rfl rfl (zo (gk yS) zw) (.cons (zb rfl) .nil)) (row_new (B':=[.cells [.int .u8 kind2],.cells [.int .u8 l3.typ,.int .i64 l3.n,.int .u64 l3.time,.int .u8 l3.dot.actor.rep,.int .u32 l3.dot.actor.inc,.int .u64 l3.dot.seq,.str l3.text,.sl 5 (l3.items.map GItem.row),.sl 3 (l3.tombs.map GDot.row)],.cells [.str s1.1,.sl 9 (s1.2.1.map GLeaf.row),.sl 3 (s1.2.2.map GNode.row)],.row (h.toks.length+0) 9 (v22.map GLeaf.row)]) (T':=[(v22).length]) (okR56 hv22) rfl rfl rfl rfl) (sk xE) ?_
     refine zc rfl (s_makeFunc rfl rfl rfl) (sk xO) ?_
     refine zR hF (fun v23 hv23 hF=>?_)
     refine ops_turn (B1:=[.cells [.int .u8 kind2],.cells [.int .u8 l3.typ,.int .i64 l3.n,.int .u64 l3.time,.int .u8 l3.dot.actor.rep,.int .u32 l3.dot.actor.inc,.int .u64 l3.dot.seq,.str l3.text,.sl 5 (l3.items.map GItem.row),.sl 3 (l3.tombs.map GDot.row)],.cells [.str s1.1,.sl 9 (s1.2.1.map GLeaf.row),.sl 3 (s1.2.2.map GNode.row)]]) (T1:=[]) (j:=3) (i:=0) (B':=[.cells [.int .u8 kind2],.cells [.int .u8 l3.typ,.int .i64 l3.n,.int .u64 l3.time,.int .u8 l3.dot.actor.rep,.int .u32 l3.dot.actor.inc,.int .u64 l3.dot.seq,.str l3.text,.sl 5 (l3.items.map GItem.row),.sl 3 (l3.tombs.map GDot.row)],.cells [.str s1.1,.sl 9 (s1.2.1.map GLeaf.row),.sl 3 (s1.2.2.map GNode.row)],.dead,.row (h.toks.length+1) 9 (v23.map GLeaf.row)]) rfl (zC rfl rfl rfl (zo (gk yU) (zo (gk xH) zw)) (.cons (zb rfl) (.cons (zb rfl) .nil))) (okR55 (by simp [AH.ext]) (by simp [AH.ext]) (fun _ v L M hv=>ok57 (blk_ext2 (j:=0) rfl) hv) (fun _ _ _ _=>rfl) (fun n m h1 h2=>by simp [AH.ext] at h1;simp [yi,AV.low];omega) hv23) rfl rfl (sk xX) rfl (fun n_v23=>?_)
     refine zc rfl (zg rfl wm yC rfl) (sk wB) ?_
     refine zc rfl (yg (cs':=[.str s1.1,.rsl (h.blks.length+4) (h.toks.length+1) 9 ((v23).length),.sl 3 (s1.2.2.map GNode.row)]) rfl ty49 (gk xV) (gk xj) (zb rfl) rfl rfl rfl rfl rfl) rfl ?_
     refine ze (zj (zk (zd ?_)))
     refine zc rfl (zf rfl yz (zb rfl)) (sk yL) ?_
     refine ze (zj ?_)
     refine zO (gk yq) hF (fun hc24 hF=>?_) (fun hc24 hF=>?_)
     ·refine zk ?_
      refine yI [3] [] trivial mixed (by kernel_rfl) ?_
      refine zq rfl rfl (zg rfl wm yC rfl) (sk yP) ?_
      refine zq rfl rfl (zu rfl ty49 (gk yA) rfl (zr rfl) (zb rfl)) (sk yX) ?_
      refine zq rfl rfl (zu rfl ty48.choose_spec.1 xj rfl (zH (cs':=[.int .u8 l3.typ,.int .i64 l3.n,.int .u64 l3.time,.int .u8 l3.dot.actor.rep,.int .u32 l3.dot.actor.inc,.int .u64 l3.dot.seq,.str l3.text,.sl 5 (l3.items.map GItem.row),.sl 3 (l3.tombs.map GDot.row)]) ty48.choose_spec.2 rfl rfl) (zb rfl)) (sk yW) ?_
      refine zR hF (fun v25 hv25 hF=>?_)
      refine yu rfl rfl (fun _=>zC rfl rfl rfl (zo (gk yC) zw) (.cons (zb rfl) .nil)) (by rintro _ ⟨B2,T2,rfl,hk2⟩;exact ok58 hv25) (sk y5) ?_
      refine zq rfl rfl (yE (es:=([v25]:List GLeaf).map GLeaf.row) rfl wu ze48 rfl rfl (yl (gk yY) yp) (.cons (zb rfl) .nil) rfl rfl rfl) (sk y6) ?_
      refine wS hF (fun hm26 hF=>?_)
      refine yZ rfl (FOk.cons (.inr (xP trivial)) FOk.nil) (by kernel_rfl) rfl (e_appR (i:=4) (j:=1) (B':=[.cells [.int .u8 kind2],.cells [.int .u8 l3.typ,.int .i64 l3.n,.int .u64 l3.time,.int .u8 l3.dot.actor.rep,.int .u32 l3.dot.actor.inc,.int .u64 l3.dot.seq,.str l3.text,.sl 5 (l3.items.map GItem.row),.sl 3 (l3.tombs.map GDot.row)],.cells [.str s1.1,.rsl (h.blks.length+4) (h.toks.length+1) 9 ((v23).length),.sl 3 (s1.2.2.map GNode.row)],.dead,.row (h.toks.length+1) 9 ((v23++([v25]:List GLeaf)).map GLeaf.row)]) (T':=[n_v23,((v23++([v25]:List GLeaf))).length]) rfl rfl rfl rfl wu wu (gk yM) (gk yT) rfl (zb rfl) news_osl hm26 rfl rfl rfl rfl rfl) (sk xg) ?_
      refine zq rfl rfl (zg rfl wm yC rfl) (sk xk) ?_
      refine yZ rfl (FOk.cons (.inr (xP trivial)) FOk.nil) (by kernel_rfl) rfl (yg (cs':=[.str s1.1,.rsl (h.blks.length+4) (h.toks.length+1) 9 (((v23++([v25]:List GLeaf))).length),.sl 3 (s1.2.2.map GNode.row)]) rfl ty49 (gk xi) (gk xd) (zb rfl) rfl rfl rfl rfl rfl) rfl ?_
      refine ym ?_
      refine zj (zd ?_)
      refine zc rfl (zg rfl wm yC rfl) (sk xD) ?_
      refine zc rfl (zu rfl ty49 (gk xB) rfl (zr rfl) (zb rfl)) (sk xK) ?_
      refine zR hF (fun v27 hv27 hF=>?_)
      refine ops_callH rfl (zC rfl rfl rfl (zo (gk xJ) (zo rfl zw)) (.cons (zb rfl) (.cons (zb rfl) .nil))) (spec_sortO sort59TryzLays Tryz.isAgg48 Tryz.sizeOf48 (fun _=>rfl) (fun _=>rfl) (enters_fn Tryz.func60 rfl (by kernel_rfl)) (fun _ _ _ h=>ok60 h) hv27 (i:=4) (B':=[.cells [.int .u8 kind2],.cells [.int .u8 l3.typ,.int .i64 l3.n,.int .u64 l3.time,.int .u8 l3.dot.actor.rep,.int .u32 l3.dot.actor.inc,.int .u64 l3.dot.seq,.str l3.text,.sl 5 (l3.items.map GItem.row),.sl 3 (l3.tombs.map GDot.row)],.cells [.str s1.1,.rsl (h.blks.length+4) (h.toks.length+1) 9 (((v23++([v25]:List GLeaf))).length),.sl 3 (s1.2.2.map GNode.row)],.dead,.row (h.toks.length+1) 9 (v27.map GLeaf.row)]) rfl rfl) (sk xY) ?_
      refine ze (q_join ?_)
      obtain rfl:=Option.some.inj hF
      exact ⟨(v27,s1.2.2),hK2,wk.trans (wk.trans ((swk_freezeB (j:=4) (jb:=2) (m:=1) (B':=[.cells [.int .u8 kind2],.cells [.int .u8 l3.typ,.int .i64 l3.n,.int .u64 l3.time,.int .u8 l3.dot.actor.rep,.int .u32 l3.dot.actor.inc,.int .u64 l3.dot.seq,.str l3.text,.sl 5 (l3.items.map GItem.row),.sl 3 (l3.tombs.map GDot.row)],.cells [.str s1.1,.sl 9 (v27.map GLeaf.row),.sl 3 (s1.2.2.map GNode.row)],.dead,.dead]) (T':=[n_v23,(v27.map GLeaf.row).length+1]) rfl (by exact (FzL.cons (FzA.same _) (FzL.cons (FzA.same _) (FzL.cons (FzA.same _) (FzL.cons (FzA.same _) (FzL.cons (FzA.same _) (FzL.cons (FzA.same _) (FzL.cons (FzA.same _) (FzL.cons (FzA.same _) (FzL.cons (FzA.same _) (FzL.cons (FzA.same _) (FzL.cons (FzA.same _) (FzL.cons (FzA.same _) (FzL.cons (FzA.same _) (FzL.cons (FzA.same _) (FzL.cons (FzA.same _) (FzL.cons (FzA.same _) (FzL.cons (FzA.same _) (FzL.cons (FzA.same _) (FzL.cons (FzA.same _) (FzL.cons (FzA.same _) (FzL.cons (FzA.same _) (FzL.cons (FzA.same _) (FzL.cons (FzA.same _) (FzL.cons (FzA.same _) (FzL.cons (FzA.same _) (FzL.cons (FzA.same _) (FzL.cons (FzA.same _) (FzL.cons (FzA.same _) (FzL.cons (FzA.same _) (FzL.cons (FzA.same _) (FzL.cons (FzA.same _) (FzL.cons (FzA.same _) (FzL.cons (FzA.same _) (FzL.cons (FzA.same _) (FzL.cons (FzA.same _) (FzL.cons (FzA.same _) (FzL.cons (FzA.same _) (FzL.cons (FzA.same _) (FzL.cons (FzA.same _) (FzL.cons (FzA.same _) (FzL.cons (FzA.same _) (FzL.cons (FzA.same _) (FzL.cons (FzA.same _) (FzL.cons (FzA.same _) (FzL.cons (FzA.same _) (FzL.cons (FzA.same _) (FzL.cons (FzA.same _) (FzL.cons (FzA.same _) (FzL.cons (FzA.same _) (FzL.cons (FzA.same _) (FzL.cons (FzA.same _) (FzL.cons (FzA.same _) (FzL.cons (FzA.same _) (FzL.cons (FzA.same _) (FzL.cons (FzA.same _) (FzL.cons (FzA.same _) (FzL.cons (FzA.hit2 _ _ (by rw [List.length_map];exact (sortO_len hv27).symm)) (FzL.cons (FzA.same _) (FzL.cons (FzA.same _) (FzL.cons (FzA.hit2 _ _ (by rw [List.length_map];exact (sortO_len hv27).symm)) (FzL.refl _)))))))))))))))))))))))))))))))))))))))))))))))))))))))))))))) rfl (by exact (FzL.cons (FzA.same _) (FzL.cons (FzA.hit2 _ _ (by rw [List.length_map];exact (sortO_len hv27).symm)) (FzL.refl _)))) rfl rfl).wk) (wk.le (by exact (.eq (.d4 (.d4 (.drop (.drop (.eq (.eq (.eq (.d16 (.d16 (.d16 (.d16 (.d4 (.drop (.drop (.drop leL.nil))))))))))))))))))) (xI (by simp [yi,AV.low]) rfl rfl (by simp [Blk.low,yi,AV.low]))⟩
     ·refine zK (q_join ?_)
      obtain rfl:=Option.some.inj hF
      exact ⟨(v23,s1.2.2),hK2,wk.trans (wk.trans ((swk_freezeB (j:=4) (jb:=2) (m:=1) (B':=[.cells [.int .u8 kind2],.cells [.int .u8 l3.typ,.int .i64 l3.n,.int .u64 l3.time,.int .u8 l3.dot.actor.rep,.int .u32 l3.dot.actor.inc,.int .u64 l3.dot.seq,.str l3.text,.sl 5 (l3.items.map GItem.row),.sl 3 (l3.tombs.map GDot.row)],.cells [.str s1.1,.sl 9 (v23.map GLeaf.row),.sl 3 (s1.2.2.map GNode.row)],.dead,.dead]) (T':=[n_v23,(v23.map GLeaf.row).length+1]) rfl (by exact (FzL.cons (FzA.same _) (FzL.cons (FzA.same _) (FzL.cons (FzA.same _) (FzL.cons (FzA.same _) (FzL.cons (FzA.same _) (FzL.cons (FzA.same _) (FzL.cons (FzA.same _) (FzL.cons (FzA.same _) (FzL.cons (FzA.same _) (FzL.cons (FzA.same _) (FzL.cons (FzA.same _) (FzL.cons (FzA.same _) (FzL.cons (FzA.same _) (FzL.cons (FzA.same _) (FzL.cons (FzA.same _) (FzL.cons (FzA.same _) (FzL.cons (FzA.same _) (FzL.cons (FzA.same _) (FzL.cons (FzA.same _) (FzL.cons (FzA.same _) (FzL.cons (FzA.same _) (FzL.cons (FzA.same _) (FzL.cons (FzA.same _) (FzL.cons (FzA.same _) (FzL.cons (FzA.same _) (FzL.cons (FzA.same _) (FzL.cons (FzA.same _) (FzL.cons (FzA.same _) (FzL.cons (FzA.same _) (FzL.cons (FzA.same _) (FzL.cons (FzA.same _) (FzL.cons (FzA.same _) (FzL.cons (FzA.same _) (FzL.cons (FzA.same _) (FzL.cons (FzA.same _) (FzL.cons (FzA.same _) (FzL.cons (FzA.same _) (FzL.cons (FzA.same _) (FzL.cons (FzA.same _) (FzL.cons (FzA.same _) (FzL.cons (FzA.same _) (FzL.cons (FzA.same _) (FzL.cons (FzA.same _) (FzL.cons (FzA.same _) (FzL.cons (FzA.same _) (FzL.cons (FzA.same _) (FzL.cons (FzA.same _) (FzL.cons (FzA.same _) (FzL.cons (FzA.hit2 _ _ (by simp)) (FzL.refl _))))))))))))))))))))))))))))))))))))))))))))))))))) rfl (by exact (FzL.cons (FzA.same _) (FzL.cons (FzA.hit2 _ _ (by simp)) (FzL.refl _)))) rfl rfl).wk) (wk.le (by exact (.eq (.d4 (.d4 (.drop (.drop (.eq (.eq (.eq (.d16 (.d16 (.d16 (.d16 (.d4 (.drop (.drop (.drop leL.nil))))))))))))))))))) (xI (by simp [yi,AV.low]) rfl rfl (by simp [Blk.low,yi,AV.low]))⟩
   ·refine zk (zd ?_)
    refine zc rfl (zf rfl yr (zb rfl)) (sk x7) ?_
    refine zc rfl (zf rfl yA (zb rfl)) (sk wl) ?_
    refine zR hF (fun m28 hm28 hF=>?_)
    refine zc rfl (s_slcSl rfl xC (gk x5) (.inl rfl) .none (.some (gk wi)) hm28) (sk x6) ?_
    refine zR hF (fun v29 hv29 hF=>?_)
    refine ops_callH rfl (zC rfl rfl rfl (zo (gk xN) zw) (.cons (zb rfl) .nil)) (own_ext (T':=[(v29).length]) (ok62 hv29) (m:=0) rfl rfl) (sk wh) ?_
    refine zc rfl (zi rfl (gk wc) (zb rfl)) y5 ?_
    refine ze (zj (zk (zk (zd ?_))))
    refine zc rfl (zg rfl wm yC rfl) (sk wj) ?_
    refine zc rfl (zu rfl ty49 (gk wb) rfl (zr rfl) (zb rfl)) (sk wF) ?_
    refine yb rfl (zS rfl rfl rfl rfl wu (gk wE) yc) (sk wM) fun hn30=>?_
    replace hn30:=xl hn30
    refine zc rfl (zg rfl fo51x2 yC rfl) (sk wL) ?_
    refine zc rfl (zu rfl ty23 (gk wH) rfl (zr rfl) (zb rfl)) (sk wW) ?_
    refine yb rfl (zS rfl rfl rfl rfl xC (gk w6) yc) (sk wV) fun hn31=>?_
    replace hn31:=xl hn31
    refine zc rfl (zy rfl (gk wN) (gk vg) rfl) (sk wU) ?_
    refine zc rfl (zy rfl (gk w5) rfl rfl) (sk vl) ?_
    refine ze (zj ?_)
    refine zO (gk vf) hF (fun hc32 hF=>?_) (fun hc32 hF=>?_)
    ·refine zd ?_
     refine zc rfl (zf rfl yY (zb rfl)) (sk vk) ?_
     refine zc rfl (zu rfl ty51.choose_spec.1 yC rfl (zH (cs':=[.str s1.1,.sl 9 (s2.1.map GLeaf.row),.sl 3 (s2.2.map GNode.row)]) ty51.choose_spec.2 rfl rfl) (zb rfl)) (sk vb) ?_
     refine zc rfl (yE (es:=([(GNode.mk s1.1 s2.1 s2.2)]:List GNode).map GNode.row) rfl xC ze51 rfl rfl (yl (gk wZ) yp) (.cons (zb rfl) .nil) rfl rfl (by simp only [List.map_cons,List.map_nil,GNode.row_eq];rfl)) (sk va) ?_
     refine wS hF (fun hm33 hF=>?_)
     refine zc rfl (e_appT (j:=0) (T':=[((v29++([(GNode.mk s1.1 s2.1 s2.2)]:List GNode))).length]) rfl rfl rfl rfl xC xC (gk vt) (gk ve) (zb rfl) (zb rfl) news_osl hm33 rfl rfl) (sk w9) ?_
     refine zc rfl (zi rfl (gk wY) (zb rfl)) y5 ?_
     refine ze (zj (zk (zk (zd ?_))))
     refine zc rfl (zf rfl yM (zb rfl)) (sk vj) ?_
     refine ze (zj ?_)
     refine zO (gk wX) hF (fun hc34 hF=>?_) (fun hc34 hF=>?_)
     ·refine zd ?_
      refine zc rfl (zf rfl yA (zb rfl)) (sk vI) ?_
      refine zc rfl (zy rfl (gk vM) rfl rfl) (sk vA) ?_
      refine zc rfl (zi rfl (gk vr) (zb rfl)) yP ?_
      refine ze (zj (zk (zd ?_)))
      refine zc rfl (zf rfl yY (zb rfl)) (sk (sk st0)) ?_
      refine zc rfl (zf rfl yr (zb rfl)) (sk (sk st1)) ?_
      refine zc rfl (zf rfl yA (zb rfl)) (sk (sk xh)) ?_
      refine zR hF (fun m35 hm35 hF=>?_)
      refine zc rfl (s_slcSl rfl xC (gk (gk yF)) (.inl rfl) (.some (gk (gk yV))) .none hm35) (sk (sk wo)) ?_
      refine wS hF (fun hm36 hF=>?_)
      refine zc rfl (e_appT (j:=0) (T':=[(((v29++([(GNode.mk s1.1 s2.1 s2.2)]:List GNode))++m35)).length]) rfl rfl rfl rfl xC xC (gk (gk yr)) (gk (gk xn)) (zb rfl) (zb rfl) news_sl hm36 rfl rfl) (sk (sk yB)) ?_
      refine zc rfl (zi rfl (gk (gk yz)) (zb rfl)) yL ?_
      refine ze (zj (zL ?_))
      obtain rfl:=Option.some.inj hF
      refine zA rfl (zD yq zG) (zz (leV.osl _ _ _) rfl ?_)
      exact ⟨rfl,rfl⟩
     ·refine zK (zj (zk (zd ?_)))
      refine zc rfl (zf rfl yY (zb rfl)) (sk (sk st0)) ?_
      refine zc rfl (zf rfl yr (zb rfl)) (sk (sk st1)) ?_
      refine zc rfl (zf rfl yA (zb rfl)) (sk (sk xh)) ?_
      refine zR hF (fun m37 hm37 hF=>?_)
      refine zc rfl (s_slcSl rfl xC (gk (gk yF)) (.inl rfl) (.some (gk (gk yV))) .none hm37) (sk (sk wo)) ?_
      refine wS hF (fun hm38 hF=>?_)
      refine zc rfl (e_appT (j:=0) (T':=[(((v29++([(GNode.mk s1.1 s2.1 s2.2)]:List GNode))++m37)).length]) rfl rfl rfl rfl xC xC (gk (gk yr)) (gk (gk xn)) (zb rfl) (zb rfl) news_sl hm38 rfl rfl) (sk (sk yB)) ?_
      refine zc rfl (zi rfl (gk (gk yz)) (zb rfl)) yL ?_
      refine ze (zj (zL ?_))
      obtain rfl:=Option.some.inj hF
      refine zA rfl (zD yq zG) (zz (leV.osl _ _ _) rfl ?_)
      exact ⟨rfl,rfl⟩
    ·refine zK (zj (zk (zk (zd ?_))))
     refine zc rfl (zf rfl yM (zb rfl)) (sk vj) ?_
     refine ze (zj ?_)
     refine zO (gk wX) hF (fun hc39 hF=>?_) (fun hc39 hF=>?_)
     ·refine zd ?_
      refine zc rfl (zf rfl yA (zb rfl)) (sk vI) ?_
      refine zc rfl (zy rfl (gk vM) rfl rfl) (sk vA) ?_
      refine zc rfl (zi rfl (gk vr) (zb rfl)) yP ?_
      refine ze (zj (zk (zd ?_)))
      refine zc rfl (zf rfl yY (zb rfl)) (sk (sk st0)) ?_
      refine zc rfl (zf rfl yr (zb rfl)) (sk (sk st1)) ?_
      refine zc rfl (zf rfl yA (zb rfl)) (sk (sk xh)) ?_
      refine zR hF (fun m40 hm40 hF=>?_)
      refine zc rfl (s_slcSl rfl xC (gk (gk yF)) (.inl rfl) (.some (gk (gk yV))) .none hm40) (sk (sk wo)) ?_
      refine wS hF (fun hm41 hF=>?_)
      refine zc rfl (e_appT (j:=0) (T':=[((v29++m40)).length]) rfl rfl rfl rfl xC xC (gk (gk yr)) (gk (gk xn)) (zb rfl) (zb rfl) news_sl hm41 rfl rfl) (sk (sk yB)) ?_
      refine zc rfl (zi rfl (gk (gk yz)) (zb rfl)) yL ?_
      refine ze (zj (zL ?_))
      obtain rfl:=Option.some.inj hF
      refine zA rfl (zD yq zG) (zz (leV.osl _ _ _) rfl ?_)
      exact ⟨rfl,rfl⟩
     ·refine zK (zj (zk (zd ?_)))
      refine zc rfl (zf rfl yY (zb rfl)) (sk (sk st0)) ?_
      refine zc rfl (zf rfl yr (zb rfl)) (sk (sk st1)) ?_
      refine zc rfl (zf rfl yA (zb rfl)) (sk (sk xh)) ?_
      refine zR hF (fun m42 hm42 hF=>?_)
      refine zc rfl (s_slcSl rfl xC (gk (gk yF)) (.inl rfl) (.some (gk (gk yV))) .none hm42) (sk (sk wo)) ?_
      refine wS hF (fun hm43 hF=>?_)
      refine zc rfl (e_appT (j:=0) (T':=[((v29++m42)).length]) rfl rfl rfl rfl xC xC (gk (gk yr)) (gk (gk xn)) (zb rfl) (zb rfl) news_sl hm43 rfl rfl) (sk (sk yB)) ?_
      refine zc rfl (zi rfl (gk (gk yz)) (zb rfl)) yL ?_
      refine ze (zj (zL ?_))
      obtain rfl:=Option.some.inj hF
      refine zA rfl (zD yq zG) (zz (leV.osl _ _ _) rfl ?_)
      exact ⟨rfl,rfl⟩
theorem ok26 {t0:(List GNode)} {path1:(List zJ)} {kind2:Int} {l3:GLeaf} {there4:Bool} {res:(List GNode)} {h:AH}  (hF:diffXlay t0 path1 kind2 l3 there4=some res):Spec Tryz.prog 26 [.sl 3 (t0.map GNode.row),.sl 1 (path1.map zP),.int .u8 kind2,.agg [.int .u8 l3.typ,.int .i64 l3.n,.int .u64 l3.time,.int .u8 l3.dot.actor.rep,.int .u32 l3.dot.actor.inc,.int .u64 l3.dot.seq,.str l3.text,.sl 5 (l3.items.map GItem.row),.sl 3 (l3.tombs.map GDot.row)],.bool there4] h (fun rr hh=>rr=.sl 3 (res.map GNode.row)∧hh=h):=by
 obtain ⟨n,hn⟩:=anyN_is hF
 exact ok26N n  hn
/-! varve/diff.Patch -/
theorem ok10 {t0:(List GNode)} {l1:(List GEdit)} {res:((List GNode)×Int)} {h:AH}  (hF:vO t0 l1=some res):Spec Tryz.prog 10 [.sl 3 (t0.map GNode.row),.sl 22 (l1.map GEdit.row)] h (fun rr hh=>rr=.tup [.sl 3 (res.1.map GNode.row),.int .i64 res.2]∧hh=h):=by
 unfold vO at hF
 refine zt Tryz.func10 rfl (by kernel_rfl) (env:=[.sl 3 (t0.map GNode.row),.sl 22 (l1.map GEdit.row),za,za,za,za,za,za,za,za,za,za,za,za,za,za,za,za,za,za,za,za,za,za,za,za,za,za,za,za,za,za,za,za,za,za,za,za,za,za,za,za,za,za,za,za,za,za,za,za,za,za,za,za,za,za,za,za,za,za,za,za,za,za,za,za,za]) (by rfl) ?_
 refine zk (zd ?_)
 refine zc rfl (zi rfl rfl (xy xC)) yB ?_
 refine zc rfl (zi rfl rfl (zb rfl)) xz ?_
 refine ze (zj (zk (zk (zd ?_))))
 refine zc rfl (zf rfl yr (zb rfl)) yX ?_
 refine zR hF (fun v1 hv1 hF=>?_)
 refine zN rfl (zC rfl rfl rfl (zo yM zw) (.cons (zb rfl) .nil)) (ok15 hv1) yW ?_
 refine zc rfl (xR rfl yC rfl) y5 ?_
 refine zc rfl (zf rfl yY (zb rfl)) y6 ?_
 refine zp rfl (fun hb=>zf rfl yF (zb rfl)) xg ?_
 refine yN hF (fun v2 hv2 hF=>?_)
 refine yk rfl (fun hb=>zC rfl rfl rfl (zo (zn xd hb) zw) (.cons (zb rfl) .nil)) (fun hb=>ok19 (hv2 hb)) xk ?_
 refine zp rfl (fun hb=>xR rfl (zn xi hb) rfl) xD ?_
 refine zc rfl (zM rfl yT rfl xB (z8 (fun ht=>gF ht))) xK ?_
 refine ze (zj ?_)
 refine zO xJ hF (fun hc3 hF=>?_) (fun hc3 hF=>?_)
 ·refine zk (zd ?_)
  refine zc rfl (zi rfl rfl (xy xC)) yB ?_
  refine zc rfl (zi rfl rfl (zb rfl)) xz ?_
  refine ze (zj (zL (zx ?_)))
  obtain rfl:=Option.some.inj hF
  refine qm rfl (zD yz (zD yS zG)) (zz (leV.tup (.cons (leV.osl _ _ _) (.eq leL.nil))) rfl ?_)
  exact ⟨rfl,rfl⟩
 ·refine zK (zj (zk (zd ?_)))
  refine zc rfl (zf rfl yr (zb rfl)) x7 ?_
  refine zc rfl (yE (es:=([([42,42]:zJ)]:List zJ).map zP) rfl wt ze9 rfl rfl (yl rfl yp) (.cons (zb rfl) .nil) rfl rfl rfl) wl ?_
  refine zR hF (fun v4 hv4 hF=>?_)
  refine zN rfl (zC rfl rfl rfl (zo x5 (zo wi zw)) (.cons (zb rfl) (.cons (zb rfl) .nil))) ((ok24 hv4).le (.eq (.cons (leV.osl _ _ _) leL.nil))) x6 ?_
  refine zc rfl (zf rfl xN (zb rfl)) xY ?_
  refine zc rfl (yn rfl xZ rfl (zb rfl)) wh ?_
  refine zc rfl (yn rfl xZ rfl (zb rfl)) wj ?_
  refine zc rfl (zi rfl wc (zb rfl)) xE ?_
  refine zc rfl (zi rfl wb (zb rfl)) xO ?_
  refine ze (zj (zk (zk (zd ?_))))
  refine zc rfl (zf rfl yF (zb rfl)) wF ?_
  refine yb rfl (zS rfl rfl rfl rfl qE wE yc) wM fun hn5=>?_
  replace hn5:=xl hn5
  refine zc rfl (zf rfl rfl (zb rfl)) wL ?_
  refine ze (zj (zQ ?_))
  refine yo (fun (n1:Nat) (s1:(List GNode))=>yO [1,2,3,4,5,7,8,9,10,11,12,13,14,15,16,17,18,19,20,21,22,23,24,25,29,30,31,32,33,34,35,36,37,38,39,40,41,42,43,44,45,46,47,48,49,50,51,52,53,54,55,56,57,58,59,60,61,62,63,64,65,66] [(6,.sl 3 (s1.map GNode.row)),(28,.int .i64 (n1:Int))]) (fun s1=>h.ext [] []) hF (fun _ _=>by simp only [yO,upd,List.set_cons_succ,List.set_cons_zero];try rfl) (wk.le (by exact (.eq (.d4 (.drop (.cons (leV.of_eq rfl) (.d16 (.drop (.drop (.drop (.eq (.eq (.cons (leV.of_eq rfl) (.d16 (.d16 (.d4 (.drop (.drop leL.nil)))))))))))))))))) ?_
  intro n1 s1 hi1 hF
  refine zk (zd ?_)
  refine zc rfl (zy rfl wH wN rfl) wW ?_
  refine ze (zj (zk ?_))
  refine yJ w6 hF (fun x1 o1 hl1 hx1 hF hK1=>?_) (fun hF=>?_)
  ·refine zK (zj (zk (zQ (zk (zd ?_)))))
   refine zc rfl (yj rfl qE wE wH w7 (yK hx1)) wV ?_
   refine zc rfl (ye rfl ty54.choose_spec.1 vg (zH (cs':=[.sl 1 (x1.path.map zP),.int .u8 x1.typ,.bool x1.had,.bool x1.has,.int .u8 x1.was.typ,.int .i64 x1.was.n,.int .u64 x1.was.time,.int .u8 x1.was.dot.actor.rep,.int .u32 x1.was.dot.actor.inc,.int .u64 x1.was.dot.seq,.str x1.was.text,.sl 5 (x1.was.items.map GItem.row),.sl 3 (x1.was.tombs.map GDot.row),.int .u8 x1.is.typ,.int .i64 x1.is.n,.int .u64 x1.is.time,.int .u8 x1.is.dot.actor.rep,.int .u32 x1.is.dot.actor.inc,.int .u64 x1.is.dot.seq,.str x1.is.text,.sl 5 (x1.is.items.map GItem.row),.sl 3 (x1.is.tombs.map GDot.row)]) ty54.choose_spec.2 rfl rfl) (zb rfl)) wU ?_
   refine zc rfl (y4 (n:=0) rfl ze54 rfl) wB ?_
   refine zc rfl (yg (cs':=[.sl 1 (x1.path.map zP),.int .u8 x1.typ,.bool x1.had,.bool x1.has,.int .u8 x1.was.typ,.int .i64 x1.was.n,.int .u64 x1.was.time,.int .u8 x1.was.dot.actor.rep,.int .u32 x1.was.dot.actor.inc,.int .u64 x1.was.dot.seq,.str x1.was.text,.sl 5 (x1.was.items.map GItem.row),.sl 3 (x1.was.tombs.map GDot.row),.int .u8 x1.is.typ,.int .i64 x1.is.n,.int .u64 x1.is.time,.int .u8 x1.is.dot.actor.rep,.int .u32 x1.is.dot.actor.inc,.int .u64 x1.is.dot.seq,.str x1.is.text,.sl 5 (x1.is.items.map GItem.row),.sl 3 (x1.is.tombs.map GDot.row)]) rfl ty54.choose_spec.1 xV w5 (zb rfl) rfl rfl rfl rfl rfl) rfl ?_
   refine ze (zj (zk (zd ?_)))
   refine zc rfl (zf rfl yr (zb rfl)) vk ?_
   refine zc rfl (zg rfl qX xV rfl) vb ?_
   refine zc rfl (zu rfl ty52 wZ rfl (zr rfl) (zb rfl)) va ?_
   refine zc rfl (zg rfl fo54x1 xV rfl) w9 ?_
   refine zc rfl (zu rfl ty5 wY rfl (zr rfl) (zb rfl)) vj ?_
   refine zR hF (fun v14 hv14 hF=>?_)
   refine zN rfl (zC rfl rfl rfl (zo vt (zo ve (zo wX zw))) (.cons (zb rfl) (.cons (zb rfl) (.cons (zb rfl) .nil)))) (ok25 hv14) vI ?_
   refine zc rfl (zf rfl vM (zb rfl)) vl ?_
   refine zc rfl (yn rfl vf rfl (zb rfl)) vA ?_
   refine zc rfl (yn rfl vf rfl (zb rfl)) (sk st0) ?_
   refine zc rfl (y4 (n:=1) rfl ze48 rfl) yL ?_
   refine zc rfl (yg (cs':=[.int .u8 v14.1.typ,.int .i64 v14.1.n,.int .u64 v14.1.time,.int .u8 v14.1.dot.actor.rep,.int .u32 v14.1.dot.actor.inc,.int .u64 v14.1.dot.seq,.str v14.1.text,.sl 5 (v14.1.items.map GItem.row),.sl 3 (v14.1.tombs.map GDot.row)]) rfl ty48.choose_spec.1 yq vr (zb rfl) rfl rfl rfl rfl rfl) rfl ?_
   refine zc rfl (zi rfl (gk yr) (zb rfl)) yP ?_
   refine ze (zj (zk (zk (zd ?_))))
   refine zc rfl (zf rfl yA (zb rfl)) (sk st1) ?_
   refine zc rfl (zg rfl fo54x2 xV rfl) (sk xh) ?_
   refine zc rfl (zu rfl ty4 (gk yV) rfl (zr rfl) (zb rfl)) (sk wo) ?_
   refine zc rfl (zy rfl (gk yF) (gk xn) (bin_boolN ty4)) (sk yB) ?_
   refine zc rfl (zf rfl (gk yz) (zb rfl)) (sk xz) ?_
   refine zp rfl (fun hb=>zf rfl yA (zb rfl)) (sk xE) ?_
   refine zp rfl (fun hb=>zf rfl (zn (gk yU) hb) (zb rfl)) (sk xO) ?_
   refine zp (z7 rfl rfl rfl) (fun hb=>zu rfl ty48.choose_spec.1 yq rfl (zH (cs':=[.int .u8 v14.1.typ,.int .i64 v14.1.n,.int .u64 v14.1.time,.int .u8 v14.1.dot.actor.rep,.int .u32 v14.1.dot.actor.inc,.int .u64 v14.1.dot.seq,.str v14.1.text,.sl 5 (v14.1.items.map GItem.row),.sl 3 (v14.1.tombs.map GDot.row)]) ty48.choose_spec.2 rfl rfl) (zb rfl)) (sk xX) ?_
   refine zp (z7 rfl rfl rfl) (fun hb=>zg rfl fo54x4 xV rfl) (sk wB) ?_
   refine zp (z7 rfl rfl rfl) (fun hb=>zu rfl ty48.choose_spec.1 (zn (gk xV) hb) rfl (zH (cs':=[.int .u8 x1.was.typ,.int .i64 x1.was.n,.int .u64 x1.was.time,.int .u8 x1.was.dot.actor.rep,.int .u32 x1.was.dot.actor.inc,.int .u64 x1.was.dot.seq,.str x1.was.text,.sl 5 (x1.was.items.map GItem.row),.sl 3 (x1.was.tombs.map GDot.row)]) ty48.choose_spec.2 rfl rfl) (zb rfl)) (sk yL) ?_
   refine yN hF (fun v15 hv15 hF=>?_)
   refine yk (z7 rfl rfl rfl) (fun hb=>zC rfl rfl rfl (zo (zn (gk xj) hb) (zo (zn (gk yq) hb) zw)) (.cons (zb rfl) (.cons (zb rfl) .nil))) (fun hb=>ok20 (hv15 hb)) (sk yP) ?_
   refine zp (z7 rfl rfl rfl) (fun hb=>xR rfl (zn (gk yA) hb) rfl) (sk yX) ?_
   refine zp rfl (fun hb=>zM rfl (zn (gk xH) hb) (gk yM) rfl (zX (fun ht=>gT2 hb ht))) (sk yW) ?_
   refine zc rfl (zM rfl (gk yS) rfl (gk yC) (z8 (fun ht=>gF ht))) (sk y5) ?_
   refine ze (zj ?_)
   refine zO (gk yY) hF (fun hc16 hF=>?_) (fun hc16 hF=>?_)
   ·refine zk (zd ?_)
    refine zc rfl (zi rfl rfl (xy xC)) yB ?_
    refine zc rfl (zi rfl rfl (zb rfl)) xz ?_
    refine ze (zj (zL (zx ?_)))
    refine zF ?_
    refine zx ?_
    refine yd ?_
    obtain rfl:=Option.some.inj hF
    replace hF:=hK1
    refine zF ?_
    refine zx ?_
    obtain rfl:=Option.some.inj hF
    refine qm rfl (zD yz (zD yS zG)) (zz (leV.tup (.cons (leV.osl _ _ _) (.eq leL.nil))) rfl ?_)
    exact ⟨rfl,rfl⟩
   ·refine zK (zj (zd ?_))
    refine zc rfl (zf rfl yU (zb rfl)) (sk y6) ?_
    refine zc rfl (zg rfl qX xV rfl) (sk xg) ?_
    refine zc rfl (zu rfl ty52 (gk xd) rfl (zr rfl) (zb rfl)) (sk xk) ?_
    refine zc rfl (zg rfl fo54x1 xV rfl) (sk xD) ?_
    refine zc rfl (zu rfl ty5 (gk xB) rfl (zr rfl) (zb rfl)) (sk xK) ?_
    refine zc rfl (zg rfl fo54x5 xV rfl) (sk xY) ?_
    refine zc rfl (zu rfl ty48.choose_spec.1 (gk xZ) rfl (zH (cs':=[.int .u8 x1.is.typ,.int .i64 x1.is.n,.int .u64 x1.is.time,.int .u8 x1.is.dot.actor.rep,.int .u32 x1.is.dot.actor.inc,.int .u64 x1.is.dot.seq,.str x1.is.text,.sl 5 (x1.is.items.map GItem.row),.sl 3 (x1.is.tombs.map GDot.row)]) ty48.choose_spec.2 rfl rfl) (zb rfl)) (sk x7) ?_
    refine zc rfl (zg rfl fo54x3 xV rfl) (sk wl) ?_
    refine zc rfl (zu rfl ty4 (gk wi) rfl (zr rfl) (zb rfl)) (sk x6) ?_
    refine zR hF (fun v17 hv17 hF=>?_)
    refine zN rfl (zC rfl rfl rfl (zo (gk yT) (zo (gk xi) (zo (gk xJ) (zo (gk x5) (zo (gk xN) zw))))) (.cons (zb rfl) (.cons (zb rfl) (.cons (zb rfl) (.cons (zb rfl) (.cons (zb rfl) .nil)))))) (ok26 hv17) (sk wh) ?_
    refine zc rfl (zi rfl (gk wc) (zb rfl)) xE ?_
    refine ze (yh (zj (zd ?_)))
    refine zc rfl (zy rfl wH rfl rfl) (sk wj) ?_
    refine zc rfl (zf rfl (gk wb) (zb rfl)) wL ?_
    refine ze (yH ?_)
    obtain rfl:=Option.some.inj hF
    exact ⟨v17,hl1,hK1,wk.trans (wk.le (by exact (.eq (.d4 (.drop (.cons (leV.of_eq rfl) (.d16 (.drop (.drop (.drop (.eq (.eq (.cons (leV.of_eq (w8 (by omega) (by omega))) (.d16 (.d16 (.d4 (.drop (.drop leL.nil)))))))))))))))))) (xI (by simp [yi,AV.low]) rfl rfl (by simp [Blk.low,yi,AV.low]))⟩
  ·refine yR ?_
   refine ya ?_
   refine zV ?_
   refine zW ?_
   refine zj (zk (zd ?_))
   refine zc rfl (zf rfl yU (zb rfl)) (sk wF) ?_
   refine zc rfl (zi rfl (gk wE) (zb rfl)) yB ?_
   refine zc rfl (zi rfl rfl (zb rfl)) xz ?_
   refine ze (zj (zL ?_))
   obtain rfl:=Option.some.inj hF
   refine qm rfl (zD yz (zD yS zG)) (zz (leV.refl _) rfl ?_)
   exact ⟨rfl,rfl⟩
/-! varve/varveref05.Same -/
theorem ok27 {a0:GLeaf} {b1:GLeaf} {res:Bool} {h:AH}  (hF:qC a0 b1=some res):Spec Tryz.prog 27 [.agg [.int .u8 a0.typ,.int .i64 a0.n,.int .u64 a0.time,.int .u8 a0.dot.actor.rep,.int .u32 a0.dot.actor.inc,.int .u64 a0.dot.seq,.str a0.text,.sl 5 (a0.items.map GItem.row),.sl 3 (a0.tombs.map GDot.row)],.agg [.int .u8 b1.typ,.int .i64 b1.n,.int .u64 b1.time,.int .u8 b1.dot.actor.rep,.int .u32 b1.dot.actor.inc,.int .u64 b1.dot.seq,.str b1.text,.sl 5 (b1.items.map GItem.row),.sl 3 (b1.tombs.map GDot.row)]] h (fun rr hh=>rr=.bool res∧hh=h):=by
 unfold qC at hF
 refine zt Tryz.func27 rfl (by kernel_rfl) (env:=[.agg [.int .u8 a0.typ,.int .i64 a0.n,.int .u64 a0.time,.int .u8 a0.dot.actor.rep,.int .u32 a0.dot.actor.inc,.int .u64 a0.dot.seq,.str a0.text,.sl 5 (a0.items.map GItem.row),.sl 3 (a0.tombs.map GDot.row)],.agg [.int .u8 b1.typ,.int .i64 b1.n,.int .u64 b1.time,.int .u8 b1.dot.actor.rep,.int .u32 b1.dot.actor.inc,.int .u64 b1.dot.seq,.str b1.text,.sl 5 (b1.items.map GItem.row),.sl 3 (b1.tombs.map GDot.row)],za,za,za,za,za,za,za,za,za,za,za,za,za,za,za,za,za,za,za,za,za,za,za,za,za,za,za,za,za,za,za,za,za,za,za,za,za,za,za,za,za,za,za,za,za,za,za,za,za,za,za,za,za,za,za,za,za,za,za,za,za,za,za,za,za,za,za,za,za,za,za,za,za,za,za,za,za,za,za,za,za,za,za,za,za,za,za,za,za,za,za,za]) (by rfl) ?_
 refine zk (zd ?_)
 refine zc rfl (xw (n:=0) rfl yr (zb rfl) rfl rfl) xh ?_
 refine zc rfl (xw (n:=1) rfl yF (zb rfl) rfl rfl) wo ?_
 refine zc rfl (zi rfl rfl (zb rfl)) yB ?_
 refine ze (zj (zk (zk (zd ?_))))
 refine zc rfl (zg rfl wd yV rfl) xO ?_
 refine zc rfl (zu rfl ty5 xH rfl (zr rfl) (zb rfl)) xX ?_
 refine zc rfl (zg rfl wd xn rfl) wB ?_
 refine zc rfl (zu rfl ty5 xV rfl (zr rfl) (zb rfl)) yL ?_
 refine zc rfl (zy rfl xj yq rfl) yP ?_
 refine zc rfl (zf rfl yA (zb rfl)) yX ?_
 refine zp rfl (fun hb=>zg rfl fo48x1 yV rfl) yW ?_
 refine zp rfl (fun hb=>zu rfl ty2 (zn yC hb) rfl (zr rfl) (zb rfl)) y5 ?_
 refine zp rfl (fun hb=>zg rfl fo48x1 xn rfl) y6 ?_
 refine zp rfl (fun hb=>zu rfl ty2 (zn yT hb) rfl (zr rfl) (zb rfl)) xg ?_
 refine zp rfl (fun hb=>zy rfl (zn yY hb) (zn xd hb) rfl) xk ?_
 refine zc rfl (zM rfl yM rfl xi (z8 (fun ht=>gF ht))) xD ?_
 refine zc rfl (zf rfl xB (zb rfl)) xK ?_
 refine zp rfl (fun hb=>zg rfl fo48x2 yV rfl) xY ?_
 refine zp rfl (fun hb=>zu rfl ty39 (zn xZ hb) rfl (zr rfl) (zb rfl)) x7 ?_
 refine zp rfl (fun hb=>zg rfl fo48x2 xn rfl) wl ?_
 refine zp rfl (fun hb=>zu rfl ty39 (zn wi hb) rfl (zr rfl) (zb rfl)) x6 ?_
 refine zp rfl (fun hb=>zy rfl (zn x5 hb) (zn xN hb) rfl) wh ?_
 refine zc rfl (zM rfl xJ rfl wc (z8 (fun ht=>gF ht))) wj ?_
 refine zc rfl (zf rfl wb (zb rfl)) wF ?_
 refine zp rfl (fun hb=>zg rfl fo48x3 yV rfl) wM ?_
 refine zp rfl (fun hb=>zu rfl ty44.choose_spec.1 (zn wN hb) rfl (zH (cs':=[.int .u8 a0.dot.actor.rep,.int .u32 a0.dot.actor.inc,.int .u64 a0.dot.seq]) ty44.choose_spec.2 rfl rfl) (zb rfl)) wL ?_
 refine zp rfl (fun hb=>zg rfl fo48x3 xn rfl) wW ?_
 refine zp rfl (fun hb=>zu rfl ty44.choose_spec.1 (zn w6 hb) rfl (zH (cs':=[.int .u8 b1.dot.actor.rep,.int .u32 b1.dot.actor.inc,.int .u64 b1.dot.seq]) ty44.choose_spec.2 rfl rfl) (zb rfl)) wV ?_
 refine zp rfl (fun hb=>zy rfl (zn wH hb) (zn vg hb) (bin_ne pk44 rfl)) wU ?_
 refine zc rfl (zM rfl wE rfl w5 (z8 (fun ht=>gF ht))) vl ?_
 refine zc rfl (zf rfl vf (zb rfl)) vk ?_
 refine zp rfl (fun hb=>zg rfl fo48x4 yV rfl) vb ?_
 refine zp rfl (fun hb=>zu rfl ty9 (zn wZ hb) rfl (zr rfl) (zb rfl)) va ?_
 refine zp rfl (fun hb=>zg rfl fo48x4 xn rfl) w9 ?_
 refine zp rfl (fun hb=>zu rfl ty9 (zn wY hb) rfl (zr rfl) (zb rfl)) vj ?_
 refine zp rfl (fun hb=>zy rfl (zn ve hb) (zn wX hb) rfl) vI ?_
 refine zc rfl (zM rfl vt rfl vM (z8 (fun ht=>gF ht))) vA ?_
 refine zc rfl (zf rfl vr (zb rfl)) (sk st0) ?_
 refine zp rfl (fun hb=>zg rfl x4 yV rfl) (sk st1) ?_
 refine zp rfl (fun hb=>zu rfl ty45 (zn (gk yF) hb) rfl (zr rfl) (zb rfl)) (sk xh) ?_
 refine xA rfl (fun hb=>zS rfl rfl rfl rfl qj (zn (gk yV) hb) yc) (sk wo) fun hn1=>?_
 refine zp rfl (fun hb=>zg rfl x4 xn rfl) (sk yB) ?_
 refine zp rfl (fun hb=>zu rfl ty45 (zn (gk yz) hb) rfl (zr rfl) (zb rfl)) (sk xz) ?_
 refine xA rfl (fun hb=>zS rfl rfl rfl rfl qj (zn (gk yS) hb) yc) (sk xE) fun hn2=>?_
 refine zp rfl (fun hb=>zy rfl (zn (gk xn) hb) (zn (gk yU) hb) rfl) (sk xO) ?_
 refine zc rfl (zM rfl (gk yr) rfl (gk xH) (z8 (fun ht=>gF ht))) (sk xX) ?_
 refine zc rfl (zf rfl (gk xj) (zb rfl)) (sk wB) ?_
 refine zp rfl (fun hb=>zg rfl wr yV rfl) (sk yL) ?_
 refine zp rfl (fun hb=>zu rfl ty46 (zn (gk yq) hb) rfl (zr rfl) (zb rfl)) (sk yP) ?_
 refine xA rfl (fun hb=>zS rfl rfl rfl rfl el46 (zn (gk yA) hb) yc) (sk yX) fun hn3=>?_
 refine zp rfl (fun hb=>zg rfl wr xn rfl) (sk yW) ?_
 refine zp rfl (fun hb=>zu rfl ty46 (zn (gk yC) hb) rfl (zr rfl) (zb rfl)) (sk y5) ?_
 refine xA rfl (fun hb=>zS rfl rfl rfl rfl el46 (zn (gk yY) hb) yc) (sk y6) fun hn4=>?_
 refine zp rfl (fun hb=>zy rfl (zn (gk yM) hb) (zn (gk yT) hb) rfl) (sk xg) ?_
 refine zc rfl (zM rfl (gk xV) rfl (gk xd) (z8 (fun ht=>gF ht))) (sk xk) ?_
 refine ze (zj ?_)
 refine zO (gk xi) hF (fun hc5 hF=>?_) (fun hc5 hF=>?_)
 ·refine zk (zd ?_)
  refine zc rfl (zi rfl rfl (zb rfl)) yB ?_
  refine ze (zj (zL (zx ?_)))
  obtain rfl:=Option.some.inj hF
  refine zA rfl (zD yz zG) (zz (leV.refl _) rfl ?_)
  exact ⟨rfl,rfl⟩
 ·refine zK (zj (zk (zk (zd ?_))))
  refine zc rfl (zi rfl rfl (zb rfl)) xz ?_
  refine ze (zj (zQ ?_))
  refine yo (fun (n1:Nat) (s1:Unit)=>yO [0,1,4,6,7,8,9,10,11,12,13,14,15,16,17,18,19,20,21,22,23,24,25,26,27,28,29,30,31,32,33,34,35,36,37,38,39,40,41,42,43,44,45,46,47,48,49,50,51,52,53,54,55,56,57,58,59,60,61,62,63,64,65,66,67,68,69,70,71,72,73,74,75,76,77,78,79,80,81,82,83,84,85,86,87,88,89,90,91,92,93] [(5,.int .i64 (n1:Int))]) (fun s1=>h.ext [.cells [.int .u8 a0.typ,.int .i64 a0.n,.int .u64 a0.time,.int .u8 a0.dot.actor.rep,.int .u32 a0.dot.actor.inc,.int .u64 a0.dot.seq,.str a0.text,.sl 5 (a0.items.map GItem.row),.sl 3 (a0.tombs.map GDot.row)],.cells [.int .u8 b1.typ,.int .i64 b1.n,.int .u64 b1.time,.int .u8 b1.dot.actor.rep,.int .u32 b1.dot.actor.inc,.int .u64 b1.dot.seq,.str b1.text,.sl 5 (b1.items.map GItem.row),.sl 3 (b1.tombs.map GDot.row)]] []) hF (fun _ _=>by simp only [yO,upd,List.set_cons_succ,List.set_cons_zero];try rfl) (wk.le (by exact (.drop (.drop (.eq (.eq (.drop (.cons (leV.of_eq rfl) (.d16 (.d16 (.d16 (.d16 (.d16 (.d4 (.d4 leL.nil))))))))))))))) ?_
  intro n1 s1 hi1 hF
  refine zk (zk (zd ?_))
  refine zc rfl (zf rfl yS (zb rfl)) (sk xD) ?_
  refine zc rfl (zg rfl x4 yV rfl) (sk xK) ?_
  refine zc rfl (zu rfl ty45 (gk xJ) rfl (zr rfl) (zb rfl)) (sk xY) ?_
  refine yb rfl (zS rfl rfl rfl rfl qj (gk xZ) yc) (sk x7) fun hn31=>?_
  replace hn31:=xl hn31
  refine zc rfl (zy rfl (gk xB) (gk x5) rfl) (sk wl) ?_
  refine ze (zj ?_)
  refine yJ (gk wi) hF (fun x1 o1 hl1 hx1 hF hK1=>?_) (fun hF=>?_)
  ·refine zK (zj (zk (zQ (zk ?_))))
   refine yI [] [] trivial mixed (by kernel_rfl) ?_
   refine zq rfl rfl (zg rfl x4 yV rfl) (sk wj) ?_
   refine zq rfl rfl (zu rfl ty45 (gk wb) rfl (zr rfl) (zb rfl)) (sk wF) ?_
   refine zq rfl rfl (zf rfl yS (zb rfl)) (sk wM) ?_
   refine zq rfl rfl (yj rfl qj (gk wE) (gk wN) w7 (yK hx1)) (sk wL) ?_
   refine zq rfl rfl (ye rfl ty87.choose_spec.1 (gk wH) (zH (cs':=[.int .u64 x1.time,.int .u8 x1.dot.actor.rep,.int .u32 x1.dot.actor.inc,.int .u64 x1.dot.seq,.str x1.text]) ty87.choose_spec.2 rfl rfl) (zb rfl)) (sk wW) ?_
   refine zq rfl rfl (zg rfl x4 xn rfl) (sk wV) ?_
   refine zq rfl rfl (zu rfl ty45 (gk vg) rfl (zr rfl) (zb rfl)) (sk wU) ?_
   refine zq rfl rfl (zf rfl yS (zb rfl)) (sk vl) ?_
   refine zR hF (fun y32 hy32 hF=>?_)
   refine zq rfl rfl (yj rfl qj (gk w5) (gk vf) w7 hy32) (sk vk) ?_
   refine zq rfl rfl (ye rfl ty87.choose_spec.1 (gk vt) (zH (cs':=[.int .u64 y32.time,.int .u8 y32.dot.actor.rep,.int .u32 y32.dot.actor.inc,.int .u64 y32.dot.seq,.str y32.text]) ty87.choose_spec.2 rfl rfl) (zb rfl)) (sk vb) ?_
   refine zq rfl rfl (zy rfl (gk w6) (gk wZ) (bin_ne pk87 rfl)) (sk va) ?_
   refine ym ?_
   refine zj ?_
   refine zO (gk ve) hF (fun hc33 hF=>?_) (fun hc33 hF=>?_)
   ·refine zk (zd ?_)
    refine zc rfl (zi rfl rfl (zb rfl)) yB ?_
    refine ze (zj (zL ?_))
    refine zF ?_
    refine zx ?_
    refine yd ?_
    obtain rfl:=Option.some.inj hF
    replace hF:=hK1
    refine zF ?_
    refine zx ?_
    obtain rfl:=Option.some.inj hF
    refine zA rfl (zD yz zG) (zz (leV.refl _) rfl ?_)
    exact ⟨rfl,rfl⟩
   ·refine zK (yh (zj (zd ?_)))
    refine zc rfl (zf rfl yS (zb rfl)) (sk x6) ?_
    refine zc rfl (zy rfl (gk xN) rfl rfl) (sk wh) ?_
    refine zc rfl (zi rfl (gk wc) (zb rfl)) xz ?_
    refine ze (yH ?_)
    obtain rfl:=Option.some.inj hF
    exact ⟨(),hl1,hK1,wk.le (by exact (.drop (.drop (.eq (.eq (.drop (.cons (leV.of_eq (w8 (by omega) (by omega))) (.d16 (.d16 (.d16 (.d16 (.d16 (.d4 (.d4 leL.nil))))))))))))))⟩
  ·refine yR ?_
   refine ya ?_
   refine zV ?_
   refine zW ?_
   refine zj (zk (zk (zd ?_)))
   refine zc rfl (zi rfl rfl (zb rfl)) xE ?_
   refine ze (zj (zQ ?_))
   refine yo (fun (n2:Nat) (s2:Unit)=>yO [0,1,4,5,7,8,9,10,11,12,13,14,15,16,17,18,19,20,21,22,23,24,25,26,27,28,29,30,31,32,33,34,35,36,37,38,39,40,41,42,43,44,45,46,47,48,49,50,51,52,53,54,55,56,57,58,59,60,61,62,63,64,65,66,67,68,69,70,71,72,73,74,75,76,77,78,79,80,81,82,83,84,85,86,87,88,89,90,91,92,93] [(6,.int .i64 (n2:Int))]) (fun s2=>h.ext [.cells [.int .u8 a0.typ,.int .i64 a0.n,.int .u64 a0.time,.int .u8 a0.dot.actor.rep,.int .u32 a0.dot.actor.inc,.int .u64 a0.dot.seq,.str a0.text,.sl 5 (a0.items.map GItem.row),.sl 3 (a0.tombs.map GDot.row)],.cells [.int .u8 b1.typ,.int .i64 b1.n,.int .u64 b1.time,.int .u8 b1.dot.actor.rep,.int .u32 b1.dot.actor.inc,.int .u64 b1.dot.seq,.str b1.text,.sl 5 (b1.items.map GItem.row),.sl 3 (b1.tombs.map GDot.row)]] []) hF (fun _ _=>by simp only [yO,upd,List.set_cons_succ,List.set_cons_zero];try rfl) (wk.le (by exact (.drop (.drop (.eq (.eq (.drop (.drop (.cons (leV.of_eq rfl) (.d16 (.d16 (.d16 (.d16 (.d16 (.d4 (.drop (.drop (.drop leL.nil)))))))))))))))))) ?_
   intro n2 s2 hi2 hF
   refine zk (zk (zd ?_))
   refine zc rfl (zf rfl yU (zb rfl)) (sk w9) ?_
   refine zc rfl (zg rfl wr yV rfl) (sk vj) ?_
   refine zc rfl (zu rfl ty46 (gk wX) rfl (zr rfl) (zb rfl)) (sk vI) ?_
   refine yb rfl (zS rfl rfl rfl rfl el46 (gk vM) yc) (sk vA) fun hn59=>?_
   replace hn59:=xl hn59
   refine zc rfl (zy rfl (gk wY) (gk vr) rfl) (sk (sk st0)) ?_
   refine ze (zj ?_)
   refine yJ (gk (gk yr)) hF (fun x2 o2 hl2 hx2 hF hK2=>?_) (fun hF=>?_)
   ·refine zK (zj (zk (zQ (zk ?_))))
    refine yI [] [] trivial mixed (by kernel_rfl) ?_
    refine zq rfl rfl (zg rfl wr yV rfl) (sk (sk wo)) ?_
    refine zq rfl rfl (zu rfl ty46 (gk (gk xn)) rfl (zr rfl) (zb rfl)) (sk (sk yB)) ?_
    refine zq rfl rfl (zf rfl yU (zb rfl)) (sk (sk xz)) ?_
    refine zq rfl rfl (yj rfl el46 (gk (gk yz)) (gk (gk yS)) w7 (yK hx2)) (sk (sk xE)) ?_
    refine zq rfl rfl (ye rfl ty44.choose_spec.1 (gk (gk yU)) (zH (cs':=[.int .u8 x2.actor.rep,.int .u32 x2.actor.inc,.int .u64 x2.seq]) ty44.choose_spec.2 rfl rfl) (zb rfl)) (sk (sk xO)) ?_
    refine zq rfl rfl (zg rfl wr xn rfl) (sk (sk xX)) ?_
    refine zq rfl rfl (zu rfl ty46 (gk (gk xj)) rfl (zr rfl) (zb rfl)) (sk (sk wB)) ?_
    refine zq rfl rfl (zf rfl yU (zb rfl)) (sk (sk yL)) ?_
    refine zR hF (fun y60 hy60 hF=>?_)
    refine zq rfl rfl (yj rfl el46 (gk (gk xV)) (gk (gk yq)) w7 hy60) (sk (sk yP)) ?_
    refine zq rfl rfl (ye rfl ty44.choose_spec.1 (gk (gk yA)) (zH (cs':=[.int .u8 y60.actor.rep,.int .u32 y60.actor.inc,.int .u64 y60.seq]) ty44.choose_spec.2 rfl rfl) (zb rfl)) (sk (sk yX)) ?_
    refine zq rfl rfl (zy rfl (gk (gk xH)) (gk (gk yM)) (bin_ne pk44 rfl)) (sk (sk yW)) ?_
    refine ym ?_
    refine zj ?_
    refine zO (gk (gk yC)) hF (fun hc61 hF=>?_) (fun hc61 hF=>?_)
    ·refine zk (zd ?_)
     refine zc rfl (zi rfl rfl (zb rfl)) yB ?_
     refine ze (zj (zL ?_))
     refine zF ?_
     refine zx ?_
     refine yd ?_
     obtain rfl:=Option.some.inj hF
     replace hF:=hK2
     refine zF ?_
     refine zx ?_
     obtain rfl:=Option.some.inj hF
     refine zA rfl (zD yz zG) (zz (leV.refl _) rfl ?_)
     exact ⟨rfl,rfl⟩
    ·refine zK (yh (zj (zd ?_)))
     refine zc rfl (zf rfl yU (zb rfl)) (sk (sk st1)) ?_
     refine zc rfl (zy rfl (gk (gk yF)) rfl rfl) (sk (sk xh)) ?_
     refine zc rfl (zi rfl (gk (gk yV)) (zb rfl)) xE ?_
     refine ze (yH ?_)
     obtain rfl:=Option.some.inj hF
     exact ⟨(),hl2,hK2,wk.le (by exact (.drop (.drop (.eq (.eq (.drop (.drop (.cons (leV.of_eq (w8 (by omega) (by omega))) (.d16 (.d16 (.d16 (.d16 (.d16 (.d4 (.drop (.drop (.drop leL.nil)))))))))))))))))⟩
   ·refine yR ?_
    refine ya ?_
    refine zV ?_
    refine zW ?_
    refine zj (zk (zd ?_))
    refine zc rfl (zi rfl rfl (zb rfl)) yB ?_
    refine ze (zj (zL ?_))
    obtain rfl:=Option.some.inj hF
    refine zA rfl (zD yz zG) (zz (leV.refl _) rfl ?_)
    exact ⟨rfl,rfl⟩
/-! varve/varveref07.Same -/
theorem ok11N (n:Nat):∀ {a0:(List GNode)} {b1:(List GNode)} {res:Bool} {h:AH} , wR n a0 b1=some res→Spec Tryz.prog 11 [.sl 3 (a0.map GNode.row),.sl 3 (b1.map GNode.row)] h (fun rr hh=>rr=.bool res∧hh=h):=by
 induction n with
 | zero=>intro a0 b1 res h  hF;simp [wR] at hF
 | succ n ih =>
  intro a0 b1 res h  hF
  unfold wR at hF
  refine zt Tryz.func11 rfl (by kernel_rfl) (env:=[.sl 3 (a0.map GNode.row),.sl 3 (b1.map GNode.row),za,za,za,za,za,za,za,za,za,za,za,za,za,za,za,za,za,za,za,za,za,za,za,za,za,za,za,za,za,za,za,za,za,za,za,za,za,za,za,za,za,za,za,za,za,za,za,za,za,za,za,za,za,za,za,za,za,za,za,za,za,za,za,za,za,za,za,za,za,za,za,za,za,za,za,za,za,za,za,za,za,za,za,za]) (by rfl) ?_
  refine zk (zd ?_)
  refine zc rfl (zi rfl rfl (zb rfl)) yB ?_
  refine ze (zj (zk (zk (zd ?_))))
  refine zc rfl (zf rfl yr (zb rfl)) xO ?_
  refine yb rfl (zS rfl rfl rfl rfl xC xH yc) xX fun hn1=>?_
  replace hn1:=xl hn1
  refine zc rfl (zf rfl yF (zb rfl)) wB ?_
  refine yb rfl (zS rfl rfl rfl rfl xC xV yc) yL fun hn2=>?_
  replace hn2:=xl hn2
  refine zc rfl (zy rfl xj yq rfl) yP ?_
  refine ze (zj ?_)
  refine zO yA hF (fun hc3 hF=>?_) (fun hc3 hF=>?_)
  ·refine zk (zd ?_)
   refine zc rfl (zi rfl rfl (zb rfl)) yB ?_
   refine ze (zj (zL (zx ?_)))
   obtain rfl:=Option.some.inj hF
   refine zA rfl (zD yz zG) (zz (leV.refl _) rfl ?_)
   exact ⟨rfl,rfl⟩
  ·refine zK (zj (zk (zk (zd ?_))))
   refine zc rfl (zi rfl rfl (zb rfl)) xz ?_
   refine ze (zj (zQ ?_))
   refine yo (fun (n1:Nat) (s1:Unit)=>yO [2,3,4,6,7,8,9,10,11,12,13,14,15,16,17,18,19,20,21,22,23,24,25,26,27,28,29,30,31,32,33,34,35,36,37,38,39,40,41,42,43,44,45,46,47,48,49,50,51,52,53,54,55,56,57,58,59,60,61,62,63,64,65,66,67,68,69,70,71,72,73,74,75,76,77,78,79,80,81,82,83,84,85] [(5,.int .i64 (n1:Int))]) (fun s1=>h.ext [] []) hF (fun _ _=>by simp only [yO,upd,List.set_cons_succ,List.set_cons_zero];try rfl) (wk.le (by exact (.eq (.eq (.drop (.drop (.drop (.cons (leV.of_eq rfl) (.d16 (.d16 (.d16 (.d16 (.d16 leL.nil))))))))))))) ?_
   intro n1 s1 hi1 hF
   refine zk (zk (zd ?_))
   refine zc rfl (zf rfl yS (zb rfl)) yX ?_
   refine zc rfl (zf rfl yr (zb rfl)) yW ?_
   refine yb rfl (zS rfl rfl rfl rfl xC yC yc) y5 fun hn40=>?_
   replace hn40:=xl hn40
   refine zc rfl (zy rfl yM yY rfl) y6 ?_
   refine ze (zj ?_)
   refine yJ yT hF (fun x1 o1 hl1 hx1 hF hK1=>?_) (fun hF=>?_)
   ·refine zK (zj (zk (zQ (zk (zk ?_)))))
    refine yI [] [] trivial mixed (by kernel_rfl) ?_
    refine zq rfl rfl (zf rfl yr (zb rfl)) xD ?_
    refine zq rfl rfl (zf rfl yS (zb rfl)) xK ?_
    refine zq rfl rfl (xS rfl xC xB xJ w7 (yK hx1) (GNode.row_eq _)) xY ?_
    refine zq rfl rfl (zg rfl fo51x0 xZ rfl) x7 ?_
    refine zq rfl rfl (ye rfl ty9 x5 (zr rfl) (zb rfl)) wl ?_
    refine zq rfl rfl (zf rfl yF (zb rfl)) x6 ?_
    refine zq rfl rfl (zf rfl yS (zb rfl)) wh ?_
    refine zR hF (fun y41 hy41 hF=>?_)
    refine zq rfl rfl (xS rfl xC xN wc w7 hy41 (GNode.row_eq _)) wj ?_
    refine zq rfl rfl (zg rfl fo51x0 wb rfl) wF ?_
    refine zq rfl rfl (ye rfl ty9 wE (zr rfl) (zb rfl)) wM ?_
    refine zq rfl rfl (zy rfl wi wN rfl) wL ?_
    refine zq rfl rfl (zf rfl wH (zb rfl)) wW ?_
    refine zB rfl rfl (fun hb=>zf rfl yr (zb rfl)) wV ?_
    refine zB rfl rfl (fun hb=>zf rfl yS (zb rfl)) wU ?_
    refine wS hF (fun hg42 hF=>?_)
    refine zB rfl rfl (fun hb=>qU default rfl xC (zn vg hb) (zn w5 hb) w7 (hg42 hb) (GNode.row_eq _)) vl ?_
    refine zB rfl rfl (fun hb=>zg rfl wm (zn vf hb) rfl) vk ?_
    refine zB rfl rfl (fun hb=>ye rfl ty49 (zn vt hb) (zr rfl) (zb rfl)) vb ?_
    refine draw_glen rfl rfl (fun hb=>zS rfl rfl rfl rfl wu (zn wZ hb) yc) va ?_
    refine zB rfl rfl (fun hb=>zf rfl yF (zb rfl)) w9 ?_
    refine zB rfl rfl (fun hb=>zf rfl yS (zb rfl)) vj ?_
    refine wS hF (fun hg44 hF=>?_)
    refine zB rfl rfl (fun hb=>qU default rfl xC (zn wY hb) (zn wX hb) w7 (hg44 hb) (GNode.row_eq _)) vI ?_
    refine zB rfl rfl (fun hb=>zg rfl wm (zn vM hb) rfl) vA ?_
    refine zB rfl rfl (fun hb=>ye rfl ty49 (zn vr hb) (zr rfl) (zb rfl)) (sk st0) ?_
    refine draw_glen rfl rfl (fun hb=>zS rfl rfl rfl rfl wu (zn (gk yr) hb) yc) (sk st1) ?_
    refine zB rfl rfl (fun hb=>zy rfl (zn ve hb) (zn (gk yF) hb) rfl) (sk xh) ?_
    refine zq rfl rfl (zM rfl w6 rfl (gk yV) (z8 (fun ht=>gF ht))) (sk wo) ?_
    refine zq rfl rfl (zf rfl (gk xn) (zb rfl)) (sk yB) ?_
    refine zB rfl rfl (fun hb=>zf rfl yr (zb rfl)) (sk xz) ?_
    refine zB rfl rfl (fun hb=>zf rfl yS (zb rfl)) (sk xE) ?_
    refine wS hF (fun hg46 hF=>?_)
    refine zB rfl rfl (fun hb=>qU default rfl xC (zn (gk yS) hb) (zn (gk yU) hb) w7 (hg46 hb) (GNode.row_eq _)) (sk xO) ?_
    refine zB rfl rfl (fun hb=>zg rfl fo51x2 (zn (gk xH) hb) rfl) (sk xX) ?_
    refine zB rfl rfl (fun hb=>ye rfl ty23 (zn (gk xj) hb) (zr rfl) (zb rfl)) (sk wB) ?_
    refine zB rfl rfl (fun hb=>zf rfl yF (zb rfl)) (sk yL) ?_
    refine zB rfl rfl (fun hb=>zf rfl yS (zb rfl)) (sk yP) ?_
    refine wS hF (fun hg47 hF=>?_)
    refine zB rfl rfl (fun hb=>qU default rfl xC (zn (gk yq) hb) (zn (gk yA) hb) w7 (hg47 hb) (GNode.row_eq _)) (sk yX) ?_
    refine zB rfl rfl (fun hb=>zg rfl fo51x2 (zn (gk yM) hb) rfl) (sk yW) ?_
    refine zB rfl rfl (fun hb=>ye rfl ty23 (zn (gk yC) hb) (zr rfl) (zb rfl)) (sk y5) ?_
    refine yN hF (fun v48 hv48 hF=>?_)
    refine vC rfl rfl (fun hb=>zC rfl rfl rfl (zo (zn (gk xV) hb) (zo (zn (gk yY) hb) zw)) (.cons (zb rfl) (.cons (zb rfl) .nil))) (fun hb=>ih (hv48 hb)) (sk y6) ?_
    refine zB rfl rfl (fun hb=>xR rfl (zn (gk yT) hb) rfl) (sk xg) ?_
    refine zq rfl rfl (zM rfl (gk yz) rfl (gk xd) (z8 (fun ht=>gF ht))) (sk xk) ?_
    refine ym ?_
    refine zj ?_
    refine zO (gk xi) hF (fun hc49 hF=>?_) (fun hc49 hF=>?_)
    ·refine zk (zd ?_)
     refine zc rfl (zi rfl rfl (zb rfl)) yB ?_
     refine ze (zj (zL (zx ?_)))
     refine zF ?_
     refine zx ?_
     refine yd ?_
     obtain rfl:=Option.some.inj hF
     replace hF:=hK1
     refine zF ?_
     refine zx ?_
     obtain rfl:=Option.some.inj hF
     refine zA rfl (zD yz zG) (zz (leV.refl _) rfl ?_)
     exact ⟨rfl,rfl⟩
    ·refine zK (zj (zk (zd ?_)))
     refine zc rfl (zi rfl rfl (zb rfl)) xE ?_
     refine ze (zj (zQ ?_))
     refine yo (fun (n2:Nat) (s2:Unit)=>yO [2,3,4,7,8,9,10,11,12,13,14,15,16,17,18,19,20,21,22,23,24,25,26,27,28,29,30,31,32,33,34,35,36,37,38,39,40,41,42,43,44,45,46,47,48,49,50,51,52,53,54,55,56,57,58,59,60,61,62,63,64,65,66,67,68,69,70,71,72,73,74,75,76,77,78,79,80,81,82,83,84,85] [(6,.int .i64 (n2:Int))]) (fun s2=>h.ext [] []) hF (fun _ _=>by simp only [yO,upd,List.set_cons_succ,List.set_cons_zero];try rfl) (wk.le (by exact (.eq (.eq (.drop (.drop (.drop (.eq (.cons (leV.of_eq rfl) (.d16 (.d16 (.d16 (.d16 (.d4 (.d4 (.d4 (.drop (.drop (.drop leL.nil))))))))))))))))))) ?_
     intro n2 s2 hi2 hF
     refine zk (zk (zd ?_))
     refine zc rfl (zf rfl yU (zb rfl)) (sk xD) ?_
     refine zc rfl (zf rfl yr (zb rfl)) (sk xK) ?_
     refine zc rfl (zf rfl yS (zb rfl)) (sk xY) ?_
     refine zc rfl (xS rfl xC (gk xJ) (gk xZ) w7 (yK hx1) (GNode.row_eq _)) (sk x7) ?_
     refine zc rfl (zg rfl wm (gk x5) rfl) (sk wl) ?_
     refine zc rfl (ye rfl ty49 (gk wi) (zr rfl) (zb rfl)) (sk x6) ?_
     refine yb rfl (zS rfl rfl rfl rfl wu (gk xN) yc) (sk wh) fun hn59=>?_
     replace hn59:=xl hn59
     refine zc rfl (zy rfl (gk xB) (gk wc) rfl) (sk wj) ?_
     refine ze (zj ?_)
     refine yJ (gk wb) hF (fun x2 o2 hl2 hx2 hF hK2=>?_) (fun hF=>?_)
     ·refine zK (zj (zk (zQ (zk ?_))))
      refine yI [16] [] trivial mixed (by kernel_rfl) ?_
      refine zq rfl rfl (zf rfl yr (zb rfl)) (sk wL) ?_
      refine zq rfl rfl (zf rfl yS (zb rfl)) (sk wW) ?_
      refine zq rfl rfl (xS rfl xC (gk wH) (gk w6) w7 (yK hx1) (GNode.row_eq _)) (sk wV) ?_
      refine zq rfl rfl (zg rfl wm (gk vg) rfl) (sk wU) ?_
      refine zq rfl rfl (ye rfl ty49 (gk w5) (zr rfl) (zb rfl)) (sk vl) ?_
      refine zq rfl rfl (zf rfl yU (zb rfl)) (sk vk) ?_
      refine zq rfl rfl (yj rfl wu (gk vf) (gk vt) w7 (yK hx2)) (sk vb) ?_
      refine zq rfl rfl (ye rfl ty48.choose_spec.1 (gk wZ) (zH (cs':=[.int .u8 x2.typ,.int .i64 x2.n,.int .u64 x2.time,.int .u8 x2.dot.actor.rep,.int .u32 x2.dot.actor.inc,.int .u64 x2.dot.seq,.str x2.text,.sl 5 (x2.items.map GItem.row),.sl 3 (x2.tombs.map GDot.row)]) ty48.choose_spec.2 rfl rfl) (zb rfl)) (sk va) ?_
      refine zq rfl rfl (zf rfl yF (zb rfl)) (sk w9) ?_
      refine zq rfl rfl (zf rfl yS (zb rfl)) (sk vj) ?_
      refine zR hF (fun y60 hy60 hF=>?_)
      refine zq rfl rfl (xS rfl xC (gk wY) (gk wX) w7 hy60 (GNode.row_eq _)) (sk vI) ?_
      refine zq rfl rfl (zg rfl wm (gk vM) rfl) (sk vA) ?_
      refine zq rfl rfl (ye rfl ty49 (gk vr) (zr rfl) (zb rfl)) (sk (sk st0)) ?_
      refine zq rfl rfl (zf rfl yU (zb rfl)) (sk (sk st1)) ?_
      refine zR hF (fun y61 hy61 hF=>?_)
      refine zq rfl rfl (yj rfl wu (gk (gk yr)) (gk (gk yF)) w7 hy61) (sk (sk xh)) ?_
      refine zq rfl rfl (ye rfl ty48.choose_spec.1 (gk (gk yV)) (zH (cs':=[.int .u8 y61.typ,.int .i64 y61.n,.int .u64 y61.time,.int .u8 y61.dot.actor.rep,.int .u32 y61.dot.actor.inc,.int .u64 y61.dot.seq,.str y61.text,.sl 5 (y61.items.map GItem.row),.sl 3 (y61.tombs.map GDot.row)]) ty48.choose_spec.2 rfl rfl) (zb rfl)) (sk (sk wo)) ?_
      refine zR hF (fun v62 hv62 hF=>?_)
      refine yu rfl rfl (fun _=>zC rfl rfl rfl (zo (gk ve) (zo (gk (gk xn)) zw)) (.cons (zb rfl) (.cons (zb rfl) .nil))) (by rintro _ ⟨B2,T2,rfl,hk2⟩;exact ok27 hv62) (sk (sk yB)) ?_
      refine zq rfl rfl (xR rfl (gk (gk yz)) rfl) (sk (sk xz)) ?_
      refine ym ?_
      refine zj ?_
      refine zO (gk (gk yS)) hF (fun hc63 hF=>?_) (fun hc63 hF=>?_)
      ·refine zk (zd ?_)
       refine zc rfl (zi rfl rfl (zb rfl)) yB ?_
       refine ze (zj (zL ?_))
       refine zF ?_
       refine zx ?_
       refine yd ?_
       obtain rfl:=Option.some.inj hF
       replace hF:=hK2
       refine zF ?_
       refine zF ?_
       refine zx ?_
       refine yd ?_
       obtain rfl:=Option.some.inj hF
       replace hF:=hK1
       refine zF ?_
       refine zx ?_
       obtain rfl:=Option.some.inj hF
       refine zA rfl (zD yz zG) (zz (leV.refl _) rfl ?_)
       exact ⟨rfl,rfl⟩
      ·refine zK (yh (zj (zd ?_)))
       refine zc rfl (zf rfl yU (zb rfl)) (sk wF) ?_
       refine zc rfl (zy rfl (gk wE) rfl rfl) (sk wM) ?_
       refine zc rfl (zi rfl (gk wN) (zb rfl)) xE ?_
       refine ze (yH ?_)
       obtain rfl:=Option.some.inj hF
       exact ⟨(),hl2,hK2,wk.le (by exact (.eq (.eq (.drop (.drop (.drop (.eq (.cons (leV.of_eq (w8 (by omega) (by omega))) (.d16 (.d16 (.d16 (.d16 (.d4 (.d4 (.d4 (.drop (.drop (.drop leL.nil))))))))))))))))))⟩
     ·refine yR ?_
      refine ya ?_
      refine zV ?_
      refine zW ?_
      refine yh (zj (zd ?_))
      refine zc rfl (zf rfl yS (zb rfl)) xg ?_
      refine zc rfl (zy rfl xd rfl rfl) xk ?_
      refine zc rfl (zi rfl xi (zb rfl)) xz ?_
      refine ze (yH ?_)
      obtain rfl:=Option.some.inj hF
      exact ⟨(),hl1,hK1,wk.le (by exact (.eq (.eq (.drop (.drop (.drop (.cons (leV.of_eq (w8 (by omega) (by omega))) (.d16 (.d16 (.d16 (.d16 (.d16 leL.nil))))))))))))⟩
   ·refine yR ?_
    refine ya ?_
    refine zV ?_
    refine zW ?_
    refine zj (zk (zd ?_))
    refine zc rfl (zi rfl rfl (zb rfl)) yB ?_
    refine ze (zj (zL ?_))
    obtain rfl:=Option.some.inj hF
    refine zA rfl (zD yz zG) (zz (leV.refl _) rfl ?_)
    exact ⟨rfl,rfl⟩
theorem ok11 {a0:(List GNode)} {b1:(List GNode)} {res:Bool} {h:AH}  (hF:qB a0 b1=some res):Spec Tryz.prog 11 [.sl 3 (a0.map GNode.row),.sl 3 (b1.map GNode.row)] h (fun rr hh=>rr=.bool res∧hh=h):=by
 obtain ⟨n,hn⟩:=anyN_is hF
 exact ok11N n  hn
/-! varve/varvelaw31.DiffChain -/
theorem ok3 {a0:(List GNode)} {b1:(List GNode)} {c2:(List GNode)} {res:Bool} {h:AH}  (hF:qr a0 b1 c2=some res):Spec Tryz.prog 3 [.sl 3 (a0.map GNode.row),.sl 3 (b1.map GNode.row),.sl 3 (c2.map GNode.row)] h (fun rr hh=>rr=.bool res∧hh=h):=by
 unfold qr at hF
 refine zt Tryz.func3 rfl (by kernel_rfl) (env:=[.sl 3 (a0.map GNode.row),.sl 3 (b1.map GNode.row),.sl 3 (c2.map GNode.row),za,za,za,za,za,za,za,za,za,za,za,za,za,za,za,za,za,za,za,za,za,za,za,za,za,za,za,za,za,za,za,za,za,za,za,za,za,za,za,za,za,za,za,za,za,za,za,za,za,za,za,za,za,za,za,za,za,za,za,za,za,za,za,za,za,za,za,za,za,za,za,za,za,za,za,za,za,za,za,za,za,za,za,za,za,za,za,za,za,za,za,za,za,za,za,za,za,za,za,za,za,za,za,za,za,za,za,za,za,za,za,za,za]) (by rfl) ?_
 refine zk (zd ?_)
 refine zc rfl (zi rfl rfl (zb rfl)) xE ?_
 refine ze (zj (zk (zk (zd ?_))))
 refine zc rfl (zf rfl yr (zb rfl)) xk ?_
 refine zc rfl (zf rfl yF (zb rfl)) xD ?_
 refine zc rfl (zf rfl yV (zb rfl)) xK ?_
 refine zR hF (fun v1 hv1 hF=>?_)
 refine zN rfl (zC rfl rfl rfl (zo xi (zo xB (zo xJ (zo rfl (zo rfl zw))))) (.cons (zb rfl) (.cons (zb rfl) (.cons (zb rfl) (.cons (xy qE) (.cons (xy qE) .nil)))))) ((ok4 hv1).le (.eq (.eq (.eq (.cons (leV.osl _ _ _) (.cons (leV.osl _ _ _) leL.nil)))))) xY ?_
 refine zc rfl (zf rfl xZ (zb rfl)) x7 ?_
 refine zp rfl (fun hb=>zf rfl yr (zb rfl)) wl ?_
 refine yN hF (fun v2 hv2 hF=>?_)
 refine yk rfl (fun hb=>zC rfl rfl rfl (zo (zn wi hb) zw) (.cons (zb rfl) .nil)) (fun hb=>ok5 (hv2 hb)) x6 ?_
 refine zp rfl (fun hb=>xR rfl (zn xN hb) rfl) wh ?_
 refine zc rfl (zM rfl x5 rfl wc (z8 (fun ht=>gF ht))) wj ?_
 refine zc rfl (zf rfl wb (zb rfl)) wF ?_
 refine zp rfl (fun hb=>zf rfl yF (zb rfl)) wM ?_
 refine yN hF (fun v3 hv3 hF=>?_)
 refine yk rfl (fun hb=>zC rfl rfl rfl (zo (zn wN hb) zw) (.cons (zb rfl) .nil)) (fun hb=>ok5 (hv3 hb)) wL ?_
 refine zp rfl (fun hb=>xR rfl (zn wH hb) rfl) wW ?_
 refine zc rfl (zM rfl wE rfl w6 (z8 (fun ht=>gF ht))) wV ?_
 refine zc rfl (zf rfl vg (zb rfl)) wU ?_
 refine zp rfl (fun hb=>zf rfl yV (zb rfl)) vl ?_
 refine yN hF (fun v4 hv4 hF=>?_)
 refine yk rfl (fun hb=>zC rfl rfl rfl (zo (zn vf hb) zw) (.cons (zb rfl) .nil)) (fun hb=>ok5 (hv4 hb)) vk ?_
 refine zp rfl (fun hb=>xR rfl (zn vt hb) rfl) vb ?_
 refine zc rfl (zM rfl w5 rfl wZ (z8 (fun ht=>gF ht))) va ?_
 refine ze (zj ?_)
 refine zO ve hF (fun hc5 hF=>?_) (fun hc5 hF=>?_)
 ·refine zk (zd ?_)
  refine zR hF (fun v6 hv6 hF=>?_)
  refine zN rfl (zC rfl rfl rfl zw .nil) (ok6 hv6) w9 ?_
  refine zc rfl (zi rfl wY (zb rfl)) xE ?_
  refine ze (zj (zL (zx ?_)))
  obtain rfl:=Option.some.inj hF
  refine zA rfl (zD yU zG) (zz (leV.refl _) rfl ?_)
  exact ⟨rfl,rfl⟩
 ·refine zK (zj (zk (zd ?_)))
  refine zc rfl (zf rfl yr (zb rfl)) vI ?_
  refine zc rfl (zf rfl yF (zb rfl)) vA ?_
  refine zR hF (fun v7 hv7 hF=>?_)
  refine zN rfl (zC rfl rfl rfl (zo vM (zo vr zw)) (.cons (zb rfl) (.cons (zb rfl) .nil))) (ok7 hv7) (sk st0) ?_
  refine zc rfl (zf rfl (gk yr) (zb rfl)) vj ?_
  refine zc rfl (yn rfl wX rfl (zb rfl)) (sk st1) ?_
  refine zc rfl (yn rfl wX rfl (zb rfl)) (sk xh) ?_
  refine zc rfl (zi rfl (gk yF) (zb rfl)) xO ?_
  refine zc rfl (zi rfl (gk yV) (zb rfl)) xX ?_
  refine ze (zj (zk (zd ?_)))
  refine zc rfl (zf rfl yF (zb rfl)) (sk yB) ?_
  refine zc rfl (zf rfl yV (zb rfl)) (sk xz) ?_
  refine zR hF (fun v8 hv8 hF=>?_)
  refine zN rfl (zC rfl rfl rfl (zo (gk yz) (zo (gk yS) zw)) (.cons (zb rfl) (.cons (zb rfl) .nil))) (ok7 hv8) (sk xE) ?_
  refine zc rfl (zf rfl (gk yU) (zb rfl)) (sk wo) ?_
  refine zc rfl (yn rfl (gk xn) rfl (zb rfl)) (sk xO) ?_
  refine zc rfl (yn rfl (gk xn) rfl (zb rfl)) (sk xX) ?_
  refine zc rfl (zi rfl (gk xH) (zb rfl)) wB ?_
  refine zc rfl (zi rfl (gk xj) (zb rfl)) yL ?_
  refine ze (zj (zk (zd ?_)))
  refine zc rfl (zf rfl yr (zb rfl)) (sk yL) ?_
  refine zc rfl (zf rfl yV (zb rfl)) (sk yP) ?_
  refine zR hF (fun v9 hv9 hF=>?_)
  refine zN rfl (zC rfl rfl rfl (zo (gk yq) (zo (gk yA) zw)) (.cons (zb rfl) (.cons (zb rfl) .nil))) (ok7 hv9) (sk yX) ?_
  refine zc rfl (zf rfl (gk yM) (zb rfl)) (sk wB) ?_
  refine zc rfl (yn rfl (gk xV) rfl (zb rfl)) (sk yW) ?_
  refine zc rfl (yn rfl (gk xV) rfl (zb rfl)) (sk y5) ?_
  refine zc rfl (zi rfl (gk yC) (zb rfl)) yP ?_
  refine zc rfl (zi rfl (gk yY) (zb rfl)) yX ?_
  refine ze (zj (zk (zd ?_)))
  refine zc rfl (zf rfl xH (zb rfl)) (sk xg) ?_
  refine zc rfl (zf rfl xV (zb rfl)) (sk xk) ?_
  refine zR hF (fun v10 hv10 hF=>?_)
  refine zN rfl (zC rfl rfl rfl (zo (gk xd) (zo (gk xi) zw)) (.cons (zb rfl) (.cons (zb rfl) .nil))) (ok8 hv10) (sk xD) ?_
  refine zc rfl (zf rfl (gk xB) (zb rfl)) (sk y6) ?_
  refine zc rfl (yn rfl (gk yT) rfl (zb rfl)) (sk xK) ?_
  refine zc rfl (yn rfl (gk yT) rfl (zb rfl)) (sk xY) ?_
  refine zc rfl (zi rfl (gk xJ) (zb rfl)) yW ?_
  refine zc rfl (zi rfl (gk xZ) (zb rfl)) y5 ?_
  refine ze (zj (zk (zk (zd ?_))))
  refine zc rfl (zf rfl xj (zb rfl)) (sk x7) ?_
  refine zc rfl (zy rfl (gk x5) rfl rfl) (sk wl) ?_
  refine zc rfl (zf rfl (gk wi) (zb rfl)) (sk x6) ?_
  refine zp rfl (fun hb=>zf rfl yq (zb rfl)) (sk wh) ?_
  refine zp rfl (fun hb=>zy rfl (zn (gk wc) hb) rfl rfl) (sk wj) ?_
  refine zc rfl (zM rfl (gk xN) rfl (gk wb) (z8 (fun ht=>gF ht))) (sk wF) ?_
  refine zc rfl (zf rfl (gk wE) (zb rfl)) (sk wM) ?_
  refine zp rfl (fun hb=>zf rfl yM (zb rfl)) (sk wL) ?_
  refine zp rfl (fun hb=>zy rfl (zn (gk wH) hb) rfl rfl) (sk wW) ?_
  refine zc rfl (zM rfl (gk wN) rfl (gk w6) (z8 (fun ht=>gF ht))) (sk wV) ?_
  refine zc rfl (zf rfl (gk vg) (zb rfl)) (sk wU) ?_
  refine zp rfl (fun hb=>zf rfl yY (zb rfl)) (sk vl) ?_
  refine zp rfl (fun hb=>zy rfl (zn (gk vf) hb) rfl rfl) (sk vk) ?_
  refine zc rfl (zM rfl (gk w5) rfl (gk vt) (z8 (fun ht=>gF ht))) (sk vb) ?_
  refine zc rfl (zf rfl (gk wZ) (zb rfl)) (sk va) ?_
  refine zp rfl (fun hb=>zf rfl yC (zb rfl)) (sk w9) ?_
  refine zp rfl (fun hb=>zf rfl yA (zb rfl)) (sk vj) ?_
  refine yN hF (fun v11 hv11 hF=>?_)
  refine yk rfl (fun hb=>zC rfl rfl rfl (zo (zn (gk wY) hb) (zo (zn (gk wX) hb) zw)) (.cons (zb rfl) (.cons (zb rfl) .nil))) (fun hb=>ok9 (hv11 hb)) (sk vI) ?_
  refine zp rfl (fun hb=>xR rfl (zn (gk vM) hb) rfl) (sk vA) ?_
  refine zc rfl (zM rfl (gk ve) rfl (gk vr) (z8 (fun ht=>gF ht))) (sk (sk st0)) ?_
  refine ze (zj ?_)
  refine zO (gk (gk yr)) hF (fun hc12 hF=>?_) (fun hc12 hF=>?_)
  ·refine zk (zd ?_)
   refine zc rfl (zi rfl rfl (zb rfl)) xE ?_
   refine ze (zj (zL (zx ?_)))
   obtain rfl:=Option.some.inj hF
   refine zA rfl (zD yU zG) (zz (leV.refl _) rfl ?_)
   exact ⟨rfl,rfl⟩
  ·refine zK (zj (zk (zd ?_)))
   refine zc rfl (zf rfl yV (zb rfl)) (sk (sk xh)) ?_
   refine zc rfl (zf rfl xH (zb rfl)) (sk (sk wo)) ?_
   refine zR hF (fun v13 hv13 hF=>?_)
   refine zN rfl (zC rfl rfl rfl (zo (gk (gk yV)) (zo (gk (gk xn)) zw)) (.cons (zb rfl) (.cons (zb rfl) .nil))) (ok10 hv13) (sk (sk yB)) ?_
   refine zc rfl (zf rfl (gk (gk yz)) (zb rfl)) (sk (sk st1)) ?_
   refine zc rfl (yn rfl (gk (gk yF)) rfl (zb rfl)) (sk (sk xz)) ?_
   refine zc rfl (yn rfl (gk (gk yF)) rfl (zb rfl)) (sk (sk xE)) ?_
   refine zc rfl (zi rfl (gk (gk yS)) (zb rfl)) y6 ?_
   refine zc rfl (zi rfl (gk (gk yU)) (zb rfl)) xg ?_
   refine ze (zj (zk (zd ?_)))
   refine zc rfl (zf rfl xd (zb rfl)) (sk (sk xO)) ?_
   refine zc rfl (zy rfl (gk (gk xH)) rfl rfl) (sk (sk xX)) ?_
   refine zc rfl (zf rfl (gk (gk xj)) (zb rfl)) (sk (sk wB)) ?_
   refine zp rfl (fun hb=>zf rfl xd (zb rfl)) (sk (sk yL)) ?_
   refine zp rfl (fun hb=>zy rfl (zn (gk (gk yq)) hb) rfl rfl) (sk (sk yP)) ?_
   refine zp rfl (fun hb=>zf rfl (zn (gk (gk yA)) hb) (zb rfl)) (sk (sk yX)) ?_
   refine zp (z7 rfl rfl rfl) (fun hb=>zf rfl yT (zb rfl)) (sk (sk yW)) ?_
   refine xA (z7 rfl rfl rfl) (fun hb=>zS rfl rfl rfl rfl xC (zn (gk (gk yC)) hb) yc) (sk (sk y5)) fun hn14=>?_
   refine zp (z7 rfl rfl rfl) (fun hb=>zy rfl (zn (gk (gk yY)) hb) rfl rfl) (sk (sk y6)) ?_
   refine zp rfl (fun hb=>zM rfl (zn (gk (gk yM)) hb) (gk (gk yT)) rfl (zX (fun ht=>gT2 hb ht))) (sk (sk xg)) ?_
   refine zc rfl (zM rfl (gk (gk xV)) rfl (gk (gk xd)) (z8 (fun ht=>gF ht))) (sk (sk xk)) ?_
   refine zc rfl (zf rfl (gk (gk xi)) (zb rfl)) (sk (sk xD)) ?_
   refine zp rfl (fun hb=>zf rfl xd (zb rfl)) (sk (sk xK)) ?_
   refine zp rfl (fun hb=>zy rfl (zn (gk (gk xJ)) hb) rfl rfl) (sk (sk xY)) ?_
   refine zp rfl (fun hb=>zf rfl (zn (gk (gk xZ)) hb) (zb rfl)) (sk (sk x7)) ?_
   refine zp (z7 rfl rfl rfl) (fun hb=>zf rfl xH (zb rfl)) (sk (sk wl)) ?_
   refine xA (z7 rfl rfl rfl) (fun hb=>zS rfl rfl rfl rfl qE (zn (gk (gk wi)) hb) yc) (sk (sk x6)) fun hn15=>?_
   refine zp (z7 rfl rfl rfl) (fun hb=>zy rfl (zn (gk (gk xN)) hb) rfl rfl) (sk (sk wh)) ?_
   refine zp rfl (fun hb=>zM rfl (zn (gk (gk x5)) hb) rfl (gk (gk wc)) (z8 (fun ht=>gF2 hb ht))) (sk (sk wj)) ?_
   refine zp rfl (fun hb=>zf rfl (zn (gk (gk wb)) hb) (zb rfl)) (sk (sk wF)) ?_
   refine zp (z7 rfl rfl rfl) (fun hb=>zf rfl yT (zb rfl)) (sk (sk wM)) ?_
   refine zp (z7 rfl rfl rfl) (fun hb=>zf rfl yV (zb rfl)) (sk (sk wL)) ?_
   refine yN hF (fun v16 hv16 hF=>?_)
   refine yk (z7 rfl rfl rfl) (fun hb=>zC rfl rfl rfl (zo (zn (gk (gk wN)) hb) (zo (zn (gk (gk wH)) hb) zw)) (.cons (zb rfl) (.cons (zb rfl) .nil))) (fun hb=>ok11 (hv16 hb)) (sk (sk wW)) ?_
   refine zp (z7 rfl rfl rfl) (fun hb=>xR rfl (zn (gk (gk w6)) hb) rfl) (sk (sk wV)) ?_
   refine zp rfl (fun hb=>zM rfl (zn (gk (gk wE)) hb) rfl (gk (gk vg)) (z8 (fun ht=>gF2 hb ht))) (sk (sk wU)) ?_
   refine zc rfl (zM rfl (gk (gk xB)) (gk (gk w5)) rfl (zX (fun ht=>gT ht))) (sk (sk vl)) ?_
   refine zc rfl (zf rfl (gk (gk vf)) (zb rfl)) (sk (sk vk)) ?_
   refine yN hF (fun v17 hv17 hF=>?_)
   refine yk rfl (fun hb=>zC rfl rfl rfl zw .nil) (fun hb=>ok6 (hv17 hb)) (sk (sk vb)) ?_
   refine zc rfl (zM rfl (gk (gk vt)) (gk (gk wZ)) rfl (zX (fun ht=>gT ht))) (sk (sk va)) ?_
   refine zc rfl (zi rfl (gk (gk ve)) (zb rfl)) xE ?_
   refine ze (zj (zL ?_))
   obtain rfl:=Option.some.inj hF
   refine zA rfl (zD yU zG) (zz (leV.refl _) rfl ?_)
   exact ⟨rfl,rfl⟩
end Go.Vv
