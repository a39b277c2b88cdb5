/- Each function that the law reaches computes what its reading says; printed by a program. -/
import Derived.Test.YtbaclapbinkedaaW2
namespace Go.Vv
open Go Go.Proofs
set_option maxRecDepth 100000
set_option maxHeartbeats 1000000
set_option linter.unusedSimpArgs false
set_option linter.unusedVariables false
theorem ok18 {r0:GRow} {res:Int} {h:AH}  (hF:vH r0=some res):Spec Try.prog 18 [.agg [.sl 1 (r0.path.map zR),.int .u8 r0.leaf.typ,.int .i64 r0.leaf.n,.int .u64 r0.leaf.time,.int .u8 r0.leaf.dot.actor.rep,.int .u32 r0.leaf.dot.actor.inc,.int .u64 r0.leaf.dot.seq,.str r0.leaf.text,.sl 5 (r0.leaf.items.map GItem.row),.sl 3 (r0.leaf.tombs.map GDot.row)]] h (fun rr hh=>rr=.int .i64 res∧hh=h):=by
 unfold vH at hF
 refine zw Try.func18 rfl (by kernel_rfl) (env:=[.agg [.sl 1 (r0.path.map zR),.int .u8 r0.leaf.typ,.int .i64 r0.leaf.n,.int .u64 r0.leaf.time,.int .u8 r0.leaf.dot.actor.rep,.int .u32 r0.leaf.dot.actor.inc,.int .u64 r0.leaf.dot.seq,.str r0.leaf.text,.sl 5 (r0.leaf.items.map GItem.row),.sl 3 (r0.leaf.tombs.map GDot.row)],za,za,za,za,za,za,za,za,za,za,za]) (by rfl) ?_
 refine zn (zd ?_)
 refine zc rfl (xP (n:=0) rfl yd (zb rfl) rfl rfl) st1 ?_
 refine zc rfl (zi rfl rfl (zb rfl)) xj ?_
 refine zf (zj (zn (zd ?_)))
 refine zc rfl (zk rfl fo63x1 yo rfl) wA ?_
 refine zc rfl (zk rfl wq yY rfl) yK ?_
 refine zc rfl (zy rfl ty57 yG rfl (zt rfl) (zb rfl)) xI ?_
 refine z7 rfl (zX rfl rfl rfl rfl vV yX z8) xT fun hn1=>?_
 replace hn1:=xG hn1
 refine zc rfl (zk rfl fo63x1 yo rfl) x9 ?_
 refine zc rfl (zk rfl vh xE rfl) xS ?_
 refine zc rfl (zy rfl ty26 xu rfl (zt rfl) (zb rfl)) wE ?_
 refine z7 rfl (zX rfl rfl rfl rfl qK x4 z8) yC fun hn2=>?_
 replace hn2:=xG hn2
 refine zc rfl (zr rfl y5 yl rfl) yz ?_
 refine zc rfl (zi rfl yh (zb rfl)) xj ?_
 refine zf (zj (zO ?_))
 obtain rfl:=Option.some.inj hF
 refine zA rfl (zE yQ zB) (zD (leV.refl _) rfl ?_)
 exact ⟨rfl,rfl⟩
theorem okR46 {bl tl n0:Nat} {data0:(List GRow)} {a1:Int} {b2:Int} {cmp3:(GRow→GRow→Option Int)} {fcmp3:FuncId} {acmp3 kcmp3:List AV} {res:(List GRow)} {h:AH} (hbl:h.blks.length=bl) (htl:h.toks.length=tl) (hn0:data0.length=n0) (hcmp3:∀ x0 x1 v (L:List Blk) (M:List Nat),cmp3 x0 x1=some v→Spec Try.prog fcmp3 (acmp3++[.agg [.sl 1 (x0.path.map zR),.int .u8 x0.leaf.typ,.int .i64 x0.leaf.n,.int .u64 x0.leaf.time,.int .u8 x0.leaf.dot.actor.rep,.int .u32 x0.leaf.dot.actor.inc,.int .u64 x0.leaf.dot.seq,.str x0.leaf.text,.sl 5 (x0.leaf.items.map GItem.row),.sl 3 (x0.leaf.tombs.map GDot.row)],.agg [.sl 1 (x1.path.map zR),.int .u8 x1.leaf.typ,.int .i64 x1.leaf.n,.int .u64 x1.leaf.time,.int .u8 x1.leaf.dot.actor.rep,.int .u32 x1.leaf.dot.actor.inc,.int .u64 x1.leaf.dot.seq,.str x1.leaf.text,.sl 5 (x1.leaf.items.map GItem.row),.sl 3 (x1.leaf.tombs.map GDot.row)]]++kcmp3) (h.ext L M) (fun rr hh=>rr=.int .i64 v∧hh=h.ext L M)) (hlacmp3:∀ n m,h.blks.length≤n→h.toks.length≤m→z9 n m acmp3=true) (hlkcmp3:∀ n m,h.blks.length≤n→h.toks.length≤m→z9 n m kcmp3=true) (hF:yx data0 a1 b2 cmp3=some res):Spec Try.prog 46 [.rsl bl tl 10 n0,.int .i64 a1,.int .i64 b2,.fn (.func fcmp3) acmp3 kcmp3] (h.ext [.row tl 10 (data0.map GRow.row)] [n0]) (fun rr hh=>rr=.tup []∧res.length=n0∧hh=h.ext [.row tl 10 (res.map GRow.row)] [n0]):=by
 unfold yx at hF
 subst hbl htl hn0
 refine yA Try.func46 rfl (by kernel_rfl) (env:=[.rsl h.blks.length h.toks.length 10 data0.length,.int .i64 a1,.int .i64 b2,.fn (.func fcmp3) acmp3 kcmp3,za,za,za,za,za,za,za,za,za,za,za,za,za,za,za,za,za,za,za,za,za,za,za,za,za,za,za,za,za,za,za,za,za,za,za,za,za,za,za,za,za,za,za,za,za,za,za,za,za]) (by rfl) ?_
 refine zn (zd ?_)
 refine zc rfl (ze rfl yo (zb rfl)) yC ?_
 refine zc rfl (zr rfl yl rfl rfl) yz ?_
 refine zc rfl (zi rfl yh (zb rfl)) xS ?_
 refine zf (zj (zI ?_))
 refine wn (fun (s1:Int×(List GRow))=>yv [4,5,6,7,9,10,11,12,13,14,15,16,17,18,19,20,21,22,23,24,25,26,27,28,29,30,31,32,33,34,35,36,37,38,39,40,41,42,43,44,45,46,47,48,49,50,51,52] [(8,.int .i64 s1.1)]) (fun s1=>h.ext [.row (h.toks.length+0) 10 (s1.2.map GRow.row)] [data0.length]) hF (fun _=>by simp only [yv,upd,List.set_cons_succ,List.set_cons_zero];try rfl) (wk.le (by exact (.eq (.eq (.eq (.eq (.d4 (.cons (leV.of_eq rfl) (.d16 (.d16 (.d4 (.d4 (.d4 leL.nil))))))))))))) ?_
 intro n1 s1 o1 hF hK1
 refine wc hF (fun hr1 hF=>?_)
 refine zn (zn (zd ?_))
 refine zc rfl (ze rfl xu (zb rfl)) yL ?_
 refine zc rfl (ze rfl yQ (zb rfl)) yO ?_
 refine zc rfl (zr rfl yJ yE rfl) yS ?_
 refine zf (zj ?_)
 refine zG yP hF (fun hc23 hF=>?_) (fun hc23 hF=>?_)
 ·refine zH (zj (zn (zI (zn (zd ?_)))))
  refine zc rfl (ze rfl xu (zb rfl)) xd ?_
  refine zc rfl (zi rfl xb (zb rfl)) wE ?_
  refine zf (zj (zI ?_))
  refine wn (fun (s2:Int×(List GRow))=>yv [4,5,6,7,10,11,12,13,14,15,16,17,18,19,20,21,22,23,24,25,26,27,28,29,30,31,32,33,34,35,36,37,38,39,40,41,42,43,44,45,46,47,48,49,50,51,52] [(9,.int .i64 s2.1)]) (fun s2=>h.ext [.row (h.toks.length+0) 10 (s2.2.map GRow.row)] [data0.length]) hF (fun _=>by simp only [yv,upd,List.set_cons_succ,List.set_cons_zero];try rfl) (wk.le (by exact (.eq (.eq (.eq (.eq (.d4 (.eq (.cons (leV.of_eq rfl) (.d16 (.d16 (.d4 (.d4 (.drop (.drop (.drop leL.nil)))))))))))))))) ?_
  intro n2 s2 o2 hF hK2
  refine wc hF (fun hr2 hF=>?_)
  refine zn (zn ?_)
  refine yr [] [] trivial xF (by kernel_rfl) ?_
  refine zo rfl rfl (ze rfl x4 (zb rfl)) xq ?_
  refine zo rfl rfl (ze rfl yo (zb rfl)) xr ?_
  refine zo rfl rfl (zr rfl yD xz rfl) xV ?_
  refine zo rfl rfl (ze rfl xi (zb rfl)) xU ?_
  refine zx rfl rfl (fun hb=>ze rfl yY (zb rfl)) wa ?_
  refine zx rfl rfl (fun hb=>ze rfl yd (zb rfl)) wh ?_
  refine zx rfl rfl (fun hb=>ze rfl x4 (zb rfl)) wu ?_
  refine wc hF (fun hg34 hF=>?_)
  refine zx rfl rfl (fun hb=>x6 rfl wo (zp xH hb) (zp xg hb) (vp (idx_getD (hg34 hb)) hr2)) wB ?_
  refine zx rfl rfl (fun hb=>qX (off:=0) (i:=0) (q:=h.toks.length+0) (z:=s2.1.toNat) (row:=GRow.row) (fun _=>rfl) rfl ty63.choose_spec.1 (by decide) (zp ww hb) rfl hr2 (idxR (idx_getD (hg34 hb))).2.2 (zF (cs':=[.sl 1 ((((s2.2).getD s2.1.toNat default).path).map zR),.int .u8 (((s2.2).getD s2.1.toNat default).leaf.typ),.int .i64 (((s2.2).getD s2.1.toNat default).leaf.n),.int .u64 (((s2.2).getD s2.1.toNat default).leaf.time),.int .u8 (((s2.2).getD s2.1.toNat default).leaf.dot.actor.rep),.int .u32 (((s2.2).getD s2.1.toNat default).leaf.dot.actor.inc),.int .u64 (((s2.2).getD s2.1.toNat default).leaf.dot.seq),.str (((s2.2).getD s2.1.toNat default).leaf.text),.sl 5 ((((s2.2).getD s2.1.toNat default).leaf.items).map GItem.row),.sl 3 ((((s2.2).getD s2.1.toNat default).leaf.tombs).map GDot.row)]) ty63.choose_spec.2 rfl rfl) (zb rfl)) va ?_
  refine zx rfl rfl (fun hb=>ze rfl yd (zb rfl)) wV ?_
  refine zx rfl rfl (fun hb=>ze rfl x4 (zb rfl)) vm ?_
  refine zx rfl rfl (fun hb=>zr rfl (zp vo hb) rfl rfl) vu ?_
  refine wc hF (fun hg35 hF=>?_)
  refine zx rfl rfl (fun hb=>x6 rfl wo (zp wX hb) (zp vy hb) (vp (idx_getD (hg35 hb)) hr2)) vt ?_
  refine zx rfl rfl (fun hb=>qX (off:=0) (i:=0) (q:=h.toks.length+0) (z:=(IntKind.wrap .i64 (s2.1 - (1:Int))).toNat) (row:=GRow.row) (fun _=>rfl) rfl ty63.choose_spec.1 (by decide) (zp vn hb) rfl hr2 (idxR (idx_getD (hg35 hb))).2.2 (zF (cs':=[.sl 1 ((((s2.2).getD (IntKind.wrap .i64 (s2.1 - (1:Int))).toNat default).path).map zR),.int .u8 (((s2.2).getD (IntKind.wrap .i64 (s2.1 - (1:Int))).toNat default).leaf.typ),.int .i64 (((s2.2).getD (IntKind.wrap .i64 (s2.1 - (1:Int))).toNat default).leaf.n),.int .u64 (((s2.2).getD (IntKind.wrap .i64 (s2.1 - (1:Int))).toNat default).leaf.time),.int .u8 (((s2.2).getD (IntKind.wrap .i64 (s2.1 - (1:Int))).toNat default).leaf.dot.actor.rep),.int .u32 (((s2.2).getD (IntKind.wrap .i64 (s2.1 - (1:Int))).toNat default).leaf.dot.actor.inc),.int .u64 (((s2.2).getD (IntKind.wrap .i64 (s2.1 - (1:Int))).toNat default).leaf.dot.seq),.str (((s2.2).getD (IntKind.wrap .i64 (s2.1 - (1:Int))).toNat default).leaf.text),.sl 5 ((((s2.2).getD (IntKind.wrap .i64 (s2.1 - (1:Int))).toNat default).leaf.items).map GItem.row),.sl 3 ((((s2.2).getD (IntKind.wrap .i64 (s2.1 - (1:Int))).toNat default).leaf.tombs).map GDot.row)]) ty63.choose_spec.2 rfl rfl) (zb rfl)) vr ?_
  refine wi hF (fun v36 hv36 hF=>?_)
  refine vz rfl rfl (fun hb=>s_callC rfl rfl (zp wb hb) (zg (zp vg hb) (zg (zp vU hb) zu)) (.cons (zb rfl) (.cons (zb rfl) .nil)) rfl) (fun hb=>hcmp3 _ _ _ _ _ (hv36 hb)) wU ?_
  refine zx rfl rfl (fun hb=>zr rfl (zp wM hb) rfl rfl) w9 ?_
  refine zo rfl rfl (zM rfl xY wW rfl (zS (fun ht=>gT ht))) wT ?_
  refine yc ?_
  refine zj ?_
  refine zG wL hF (fun hc37 hF=>?_) (fun hc37 hF=>?_)
  ·refine zH (zj (zn (zI ?_)))
   refine yr [] [] trivial xF (by kernel_rfl) ?_
   refine zo rfl rfl (ze rfl yd (zb rfl)) wZ ?_
   refine zo rfl rfl (ze rfl x4 (zb rfl)) vD ?_
   refine zo rfl rfl (ze rfl yd (zb rfl)) vC ?_
   refine zo rfl rfl (ze rfl x4 (zb rfl)) (sk st0) ?_
   refine zo rfl rfl (zr rfl (gk yd) rfl rfl) (sk st1) ?_
   refine zo rfl rfl (ze rfl yd (zb rfl)) (sk xj) ?_
   refine zo rfl rfl (ze rfl x4 (zb rfl)) (sk wA) ?_
   refine zo rfl rfl (zr rfl (gk yY) rfl rfl) (sk yK) ?_
   refine zK hF (fun y38 hy38 hF=>?_)
   refine zo rfl rfl (x6 rfl wo (gk yQ) (gk yG) (vp hy38 hr2)) (sk xI) ?_
   refine zo rfl rfl (qX (off:=0) (i:=0) (q:=h.toks.length+0) (z:=(IntKind.wrap .i64 (s2.1 - (1:Int))).toNat) (row:=GRow.row) (fun _=>rfl) rfl ty63.choose_spec.1 (by decide) (gk yX) rfl hr2 (idxR hy38).2.2 (zF (cs':=[.sl 1 (y38.path.map zR),.int .u8 y38.leaf.typ,.int .i64 y38.leaf.n,.int .u64 y38.leaf.time,.int .u8 y38.leaf.dot.actor.rep,.int .u32 y38.leaf.dot.actor.inc,.int .u64 y38.leaf.dot.seq,.str y38.leaf.text,.sl 5 (y38.leaf.items.map GItem.row),.sl 3 (y38.leaf.tombs.map GDot.row)]) ty63.choose_spec.2 rfl rfl) (zb rfl)) (sk xT) ?_
   refine zo rfl rfl (ze rfl yd (zb rfl)) (sk x9) ?_
   refine zo rfl rfl (ze rfl x4 (zb rfl)) (sk xS) ?_
   refine zK hF (fun y39 hy39 hF=>?_)
   refine zo rfl rfl (x6 rfl wo (gk xE) (gk xu) (vp hy39 hr2)) (sk wE) ?_
   refine zo rfl rfl (qX (off:=0) (i:=0) (q:=h.toks.length+0) (z:=s2.1.toNat) (row:=GRow.row) (fun _=>rfl) rfl ty63.choose_spec.1 (by decide) (gk x4) rfl hr2 (idxR hy39).2.2 (zF (cs':=[.sl 1 (y39.path.map zR),.int .u8 y39.leaf.typ,.int .i64 y39.leaf.n,.int .u64 y39.leaf.time,.int .u8 y39.leaf.dot.actor.rep,.int .u32 y39.leaf.dot.actor.inc,.int .u64 y39.leaf.dot.seq,.str y39.leaf.text,.sl 5 (y39.leaf.items.map GItem.row),.sl 3 (y39.leaf.tombs.map GDot.row)]) ty63.choose_spec.2 rfl rfl) (zb rfl)) (sk yC) ?_
   refine zK hF (fun y40 hy40 hF=>?_)
   refine zo rfl rfl (x6 rfl wo ve vJ (vp hy40 hr2)) (sk yz) ?_
   refine x7 rfl FOk.nil (by kernel_rfl) rfl (e_stR (off:=0) (i:=0) (q:=h.toks.length+0) (z:=s2.1.toNat) (row:=GRow.row) (y':=y38) (us:=[.sl 1 (y38.path.map zR),.int .u8 y38.leaf.typ,.int .i64 y38.leaf.n,.int .u64 y38.leaf.time,.int .u8 y38.leaf.dot.actor.rep,.int .u32 y38.leaf.dot.actor.inc,.int .u64 y38.leaf.dot.seq,.str y38.leaf.text,.sl 5 (y38.leaf.items.map GItem.row),.sl 3 (y38.leaf.tombs.map GDot.row)]) (B':=[.row (h.toks.length+0) 10 ((s2.2.set s2.1.toNat y38).map GRow.row)]) (fun _=>rfl) rfl ty63.choose_spec.1 (gk yh) (gk y5) (zb rfl) rfl rfl rfl rfl hr2 (idxR hy40).2.2 (by decide) rfl rfl) rfl ?_
   refine zK hF (fun y41 hy41 hF=>?_)
   refine zo rfl rfl (x6 rfl wo vI (gk yo) (vp hy41 (List.length_set.trans hr2))) (sk yL) ?_
   refine x7 rfl FOk.nil (by kernel_rfl) rfl (e_stR (off:=0) (i:=0) (q:=h.toks.length+0) (z:=(IntKind.wrap .i64 (s2.1 - (1:Int))).toNat) (row:=GRow.row) (y':=y39) (us:=[.sl 1 (y39.path.map zR),.int .u8 y39.leaf.typ,.int .i64 y39.leaf.n,.int .u64 y39.leaf.time,.int .u8 y39.leaf.dot.actor.rep,.int .u32 y39.leaf.dot.actor.inc,.int .u64 y39.leaf.dot.seq,.str y39.leaf.text,.sl 5 (y39.leaf.items.map GItem.row),.sl 3 (y39.leaf.tombs.map GDot.row)]) (B':=[.row (h.toks.length+0) 10 (((s2.2.set s2.1.toNat y38).set (IntKind.wrap .i64 (s2.1 - (1:Int))).toNat y39).map GRow.row)]) (fun _=>rfl) rfl ty63.choose_spec.1 (gk yJ) (gk yl) (zb rfl) rfl rfl rfl rfl (List.length_set.trans hr2) (idxR hy41).2.2 (by decide) rfl rfl) rfl ?_
   refine yc ?_
   refine zY (zj (zd ?_))
   refine zc rfl (ze rfl x4 (zb rfl)) wS ?_
   refine zc rfl (zr rfl wP rfl rfl) w8 ?_
   refine zc rfl (zi rfl vf (zb rfl)) wE ?_
   refine zf (yi ?_)
   obtain rfl:=Option.some.inj hF
   exact ⟨((IntKind.wrap .i64 (s2.1 - (1:Int))),((s2.2.set s2.1.toNat y38).set (IntKind.wrap .i64 (s2.1 - (1:Int))).toNat y39)),hK2,wk.le (by exact (.eq (.eq (.eq (.eq (.d4 (.eq (.cons (leV.of_eq rfl) (.d16 (.d16 (.d4 (.d4 (.drop (.drop (.drop leL.nil)))))))))))))))⟩
  ·refine yy ?_
   refine zT ?_
   refine zP ?_
   obtain rfl:=Option.some.inj hF
   replace hF:=hK2
   refine zQ ?_
   refine zY (zj (zd ?_))
   refine zc rfl (ze rfl xu (zb rfl)) yW ?_
   refine zc rfl (zr rfl yU rfl rfl) xa ?_
   refine zc rfl (zi rfl yR (zb rfl)) xS ?_
   refine zf (yi ?_)
   obtain rfl:=Option.some.inj hF
   exact ⟨((IntKind.wrap .i64 (s1.1+(1:Int))),s2.2),hK1,wk.le (by exact (.eq (.eq (.eq (.eq (.d4 (.cons (leV.of_eq rfl) (.d16 (.d16 (.d4 (.d4 (.d4 leL.nil))))))))))))⟩
 ·refine yy ?_
  refine zT ?_
  refine zP ?_
  obtain rfl:=Option.some.inj hF
  replace hF:=hK1
  refine zQ ?_
  refine vF ?_
  obtain rfl:=Option.some.inj hF
  refine xf rfl zB (x5 ?_)
  exact ⟨rfl,hr1,rfl⟩
theorem okR71 {bl tl n0:Nat} {data0:(List GRow)} {a1:Int} {b2:Int} {n3:Int} {cmp4:(GRow→GRow→Option Int)} {fcmp4:FuncId} {acmp4 kcmp4:List AV} {res:(List GRow)} {h:AH} (hbl:h.blks.length=bl) (htl:h.toks.length=tl) (hn0:data0.length=n0) (hcmp4:∀ x0 x1 v (L:List Blk) (M:List Nat),cmp4 x0 x1=some v→Spec Try.prog fcmp4 (acmp4++[.agg [.sl 1 (x0.path.map zR),.int .u8 x0.leaf.typ,.int .i64 x0.leaf.n,.int .u64 x0.leaf.time,.int .u8 x0.leaf.dot.actor.rep,.int .u32 x0.leaf.dot.actor.inc,.int .u64 x0.leaf.dot.seq,.str x0.leaf.text,.sl 5 (x0.leaf.items.map GItem.row),.sl 3 (x0.leaf.tombs.map GDot.row)],.agg [.sl 1 (x1.path.map zR),.int .u8 x1.leaf.typ,.int .i64 x1.leaf.n,.int .u64 x1.leaf.time,.int .u8 x1.leaf.dot.actor.rep,.int .u32 x1.leaf.dot.actor.inc,.int .u64 x1.leaf.dot.seq,.str x1.leaf.text,.sl 5 (x1.leaf.items.map GItem.row),.sl 3 (x1.leaf.tombs.map GDot.row)]]++kcmp4) (h.ext L M) (fun rr hh=>rr=.int .i64 v∧hh=h.ext L M)) (hlacmp4:∀ n m,h.blks.length≤n→h.toks.length≤m→z9 n m acmp4=true) (hlkcmp4:∀ n m,h.blks.length≤n→h.toks.length≤m→z9 n m kcmp4=true) (hF:yB data0 a1 b2 n3 cmp4=some res):Spec Try.prog 71 [.rsl bl tl 10 n0,.int .i64 a1,.int .i64 b2,.int .i64 n3,.fn (.func fcmp4) acmp4 kcmp4] (h.ext [.row tl 10 (data0.map GRow.row)] [n0]) (fun rr hh=>rr=.tup []∧res.length=n0∧hh=h.ext [.row tl 10 (res.map GRow.row)] [n0]):=by
 unfold yB at hF
 subst hbl htl hn0
 refine yA Try.func71 rfl (by kernel_rfl) (env:=[.rsl h.blks.length h.toks.length 10 data0.length,.int .i64 a1,.int .i64 b2,.int .i64 n3,.fn (.func fcmp4) acmp4 kcmp4,za,za,za,za,za,za,za,za,za,za,za,za,za,za,za,za,za,za,za,za,za,za,za,za,za,za,za,za,za,za,za,za,za]) (by rfl) ?_
 refine zn (zd ?_)
 refine zc rfl (zi rfl rfl (zb rfl)) yC ?_
 refine zf (zj (zI ?_))
 refine wc hF (fun hR1 hF=>?_)
 refine yw (fun (n1:Nat) (s1:(List GRow))=>yv [4,5,6,7,8,9,11,12,13,14,15,16,17,18,19,20,21,22,23,24,25,26,27,28,29,30,31,32,33,34,35,36,37] [(10,.int .i64 (n1:Int))]) (fun s1=>h.ext [.row (h.toks.length+0) 10 (s1.map GRow.row)] [data0.length]) hF (fun _ _=>by simp only [yv,upd,List.set_cons_succ,List.set_cons_zero];try rfl) (wk.le (by exact (.eq (.eq (.eq (.eq (.d4 (.drop (.drop (.cons (leV.of_eq rfl) (.d16 (.d4 (.d4 (.drop (.drop (.drop leL.nil)))))))))))))))) ?_
 intro n1 s1 hi1 hF
 refine zn (zn (zd ?_))
 refine zc rfl (ze rfl yl (zb rfl)) yz ?_
 refine zc rfl (ze rfl yY (zb rfl)) yL ?_
 refine zc rfl (zr rfl yh yJ rfl) yO ?_
 refine zf (zj ?_)
 refine r_condR yE hF (fun x1 o1 hl1 hm1 hx1 hF hK1=>?_) (fun hF=>?_)
 ·refine wc hF (fun hr1 hF=>?_)
  refine zH (zj (zn (zI ?_)))
  refine yr [] [] trivial xF (by kernel_rfl) ?_
  refine zo rfl rfl (ze rfl yd (zb rfl)) xa ?_
  refine zo rfl rfl (ze rfl yo (zb rfl)) xd ?_
  refine zo rfl rfl (ze rfl yl (zb rfl)) xq ?_
  refine zo rfl rfl (zr rfl xb yD rfl) xr ?_
  refine zo rfl rfl (ze rfl yd (zb rfl)) xV ?_
  refine zo rfl rfl (ze rfl yQ (zb rfl)) xU ?_
  refine zo rfl rfl (ze rfl yl (zb rfl)) wa ?_
  refine zo rfl rfl (zr rfl xY wb rfl) wh ?_
  refine zo rfl rfl (ze rfl yd (zb rfl)) wu ?_
  refine zo rfl rfl (ze rfl yQ (zb rfl)) wB ?_
  refine zo rfl rfl (ze rfl yl (zb rfl)) va ?_
  refine zo rfl rfl (zr rfl ww vg rfl) wV ?_
  refine zK hF (fun y8 hy8 hF=>?_)
  refine zo rfl rfl (x6 rfl wo xg wX (vp hy8 hr1)) vm ?_
  refine zo rfl rfl (qX (off:=0) (i:=0) (q:=h.toks.length+0) (z:=(IntKind.wrap .i64 (b2+(n1:Int))).toNat) (row:=GRow.row) (fun _=>rfl) rfl ty63.choose_spec.1 (by decide) vo rfl hr1 (idxR hy8).2.2 (zF (cs':=[.sl 1 (y8.path.map zR),.int .u8 y8.leaf.typ,.int .i64 y8.leaf.n,.int .u64 y8.leaf.time,.int .u8 y8.leaf.dot.actor.rep,.int .u32 y8.leaf.dot.actor.inc,.int .u64 y8.leaf.dot.seq,.str y8.leaf.text,.sl 5 (y8.leaf.items.map GItem.row),.sl 3 (y8.leaf.tombs.map GDot.row)]) ty63.choose_spec.2 rfl rfl) (zb rfl)) vu ?_
  refine zo rfl rfl (ze rfl yd (zb rfl)) vt ?_
  refine zo rfl rfl (ze rfl yo (zb rfl)) vr ?_
  refine zo rfl rfl (ze rfl yl (zb rfl)) wU ?_
  refine zo rfl rfl (zr rfl vU wM rfl) w9 ?_
  refine zK hF (fun y9 hy9 hF=>?_)
  refine zo rfl rfl (x6 rfl wo vn wW (vp hy9 hr1)) wT ?_
  refine zo rfl rfl (qX (off:=0) (i:=0) (q:=h.toks.length+0) (z:=(IntKind.wrap .i64 (a1+(n1:Int))).toNat) (row:=GRow.row) (fun _=>rfl) rfl ty63.choose_spec.1 (by decide) wL rfl hr1 (idxR hy9).2.2 (zF (cs':=[.sl 1 (y9.path.map zR),.int .u8 y9.leaf.typ,.int .i64 y9.leaf.n,.int .u64 y9.leaf.time,.int .u8 y9.leaf.dot.actor.rep,.int .u32 y9.leaf.dot.actor.inc,.int .u64 y9.leaf.dot.seq,.str y9.leaf.text,.sl 5 (y9.leaf.items.map GItem.row),.sl 3 (y9.leaf.tombs.map GDot.row)]) ty63.choose_spec.2 rfl rfl) (zb rfl)) wS ?_
  refine zK hF (fun y10 hy10 hF=>?_)
  refine zo rfl rfl (x6 rfl wo yR xz (vp hy10 hr1)) w8 ?_
  refine x7 rfl FOk.nil (by kernel_rfl) rfl (e_stR (off:=0) (i:=0) (q:=h.toks.length+0) (z:=(IntKind.wrap .i64 (a1+(n1:Int))).toNat) (row:=GRow.row) (y':=y8) (us:=[.sl 1 (y8.path.map zR),.int .u8 y8.leaf.typ,.int .i64 y8.leaf.n,.int .u64 y8.leaf.time,.int .u8 y8.leaf.dot.actor.rep,.int .u32 y8.leaf.dot.actor.inc,.int .u64 y8.leaf.dot.seq,.str y8.leaf.text,.sl 5 (y8.leaf.items.map GItem.row),.sl 3 (y8.leaf.tombs.map GDot.row)]) (B':=[.row (h.toks.length+0) 10 ((s1.set (IntKind.wrap .i64 (a1+(n1:Int))).toNat y8).map GRow.row)]) (fun _=>rfl) rfl ty63.choose_spec.1 vf vy (zb rfl) rfl rfl rfl rfl hr1 (idxR hy10).2.2 (by decide) rfl rfl) rfl ?_
  refine zK hF (fun y11 hy11 hF=>?_)
  refine zo rfl rfl (x6 rfl wo xi xH (vp hy11 (List.length_set.trans hr1))) wZ ?_
  refine x7 rfl FOk.nil (by kernel_rfl) rfl (e_stR (off:=0) (i:=0) (q:=h.toks.length+0) (z:=(IntKind.wrap .i64 (b2+(n1:Int))).toNat) (row:=GRow.row) (y':=y9) (us:=[.sl 1 (y9.path.map zR),.int .u8 y9.leaf.typ,.int .i64 y9.leaf.n,.int .u64 y9.leaf.time,.int .u8 y9.leaf.dot.actor.rep,.int .u32 y9.leaf.dot.actor.inc,.int .u64 y9.leaf.dot.seq,.str y9.leaf.text,.sl 5 (y9.leaf.items.map GItem.row),.sl 3 (y9.leaf.tombs.map GDot.row)]) (B':=[.row (h.toks.length+0) 10 (((s1.set (IntKind.wrap .i64 (a1+(n1:Int))).toNat y8).set (IntKind.wrap .i64 (b2+(n1:Int))).toNat y9).map GRow.row)]) (fun _=>rfl) rfl ty63.choose_spec.1 ve wP (zb rfl) rfl rfl rfl rfl (List.length_set.trans hr1) (idxR hy11).2.2 (by decide) rfl rfl) rfl ?_
  refine yc ?_
  refine zY (zj (zd ?_))
  refine zc rfl (ze rfl yl (zb rfl)) yS ?_
  refine zc rfl (zr rfl yP rfl rfl) yW ?_
  refine zc rfl (zi rfl yU (zb rfl)) yC ?_
  refine zf (yi ?_)
  obtain rfl:=Option.some.inj hF
  exact ⟨((s1.set (IntKind.wrap .i64 (a1+(n1:Int))).toNat y8).set (IntKind.wrap .i64 (b2+(n1:Int))).toNat y9),hl1,hK1,wk.le (by exact (.eq (.eq (.eq (.eq (.d4 (.drop (.drop (.cons (leV.of_eq (qp (by omega) (by omega))) (.d16 (.d4 (.d4 (.drop (.drop (.drop leL.nil)))))))))))))))⟩
 ·refine wc hF (fun hr1 hF=>?_)
  refine yy ?_
  refine zT ?_
  refine zP ?_
  refine zQ ?_
  refine vF ?_
  obtain rfl:=Option.some.inj hF
  refine xf rfl zB (x5 ?_)
  exact ⟨rfl,hr1,rfl⟩
theorem okR61 {bl tl n0:Nat} {data0:(List GRow)} {a1:Int} {m2:Int} {b3:Int} {cmp4:(GRow→GRow→Option Int)} {fcmp4:FuncId} {acmp4 kcmp4:List AV} {res:(List GRow)} {h:AH} (hbl:h.blks.length=bl) (htl:h.toks.length=tl) (hn0:data0.length=n0) (hcmp4:∀ x0 x1 v (L:List Blk) (M:List Nat),cmp4 x0 x1=some v→Spec Try.prog fcmp4 (acmp4++[.agg [.sl 1 (x0.path.map zR),.int .u8 x0.leaf.typ,.int .i64 x0.leaf.n,.int .u64 x0.leaf.time,.int .u8 x0.leaf.dot.actor.rep,.int .u32 x0.leaf.dot.actor.inc,.int .u64 x0.leaf.dot.seq,.str x0.leaf.text,.sl 5 (x0.leaf.items.map GItem.row),.sl 3 (x0.leaf.tombs.map GDot.row)],.agg [.sl 1 (x1.path.map zR),.int .u8 x1.leaf.typ,.int .i64 x1.leaf.n,.int .u64 x1.leaf.time,.int .u8 x1.leaf.dot.actor.rep,.int .u32 x1.leaf.dot.actor.inc,.int .u64 x1.leaf.dot.seq,.str x1.leaf.text,.sl 5 (x1.leaf.items.map GItem.row),.sl 3 (x1.leaf.tombs.map GDot.row)]]++kcmp4) (h.ext L M) (fun rr hh=>rr=.int .i64 v∧hh=h.ext L M)) (hlacmp4:∀ n m,h.blks.length≤n→h.toks.length≤m→z9 n m acmp4=true) (hlkcmp4:∀ n m,h.blks.length≤n→h.toks.length≤m→z9 n m kcmp4=true) (hF:xh data0 a1 m2 b3 cmp4=some res):Spec Try.prog 61 [.rsl bl tl 10 n0,.int .i64 a1,.int .i64 m2,.int .i64 b3,.fn (.func fcmp4) acmp4 kcmp4] (h.ext [.row tl 10 (data0.map GRow.row)] [n0]) (fun rr hh=>rr=.tup []∧res.length=n0∧hh=h.ext [.row tl 10 (res.map GRow.row)] [n0]):=by
 unfold xh at hF
 subst hbl htl hn0
 refine yA Try.func61 rfl (by kernel_rfl) (env:=[.rsl h.blks.length h.toks.length 10 data0.length,.int .i64 a1,.int .i64 m2,.int .i64 b3,.fn (.func fcmp4) acmp4 kcmp4,za,za,za,za,za,za,za,za,za,za,za,za,za,za,za,za,za,za,za,za,za,za,za,za,za,za,za,za,za,za,za,za,za,za,za,za,za,za,za,za,za,za,za,za,za,za,za,za,za,za,za,za,za]) (by rfl) ?_
 refine zn (zd ?_)
 refine zc rfl (ze rfl yQ (zb rfl)) yL ?_
 refine zc rfl (ze rfl yo (zb rfl)) yO ?_
 refine zc rfl (zr rfl yJ yE rfl) yS ?_
 refine zc rfl (zi rfl yP (zb rfl)) yC ?_
 refine zf (zj (zn (zd ?_)))
 refine zc rfl (ze rfl yY (zb rfl)) yW ?_
 refine zc rfl (ze rfl yQ (zb rfl)) xa ?_
 refine zc rfl (zr rfl yU yR rfl) xd ?_
 refine zc rfl (zi rfl xb (zb rfl)) yz ?_
 refine zf (zj (zn (zI ?_)))
 refine wn (fun (s1:Int×Int×(List GRow))=>yv [1,3,5,6,7,8,9,12,13,14,15,16,17,18,19,20,21,22,23,24,25,26,27,28,29,30,31,32,33,34,35,36,37,38,39,40,41,42,43,44,45,46,47,48,49,50,51,52,53,54,55,56,57] [(10,.int .i64 s1.1),(11,.int .i64 s1.2.1)]) (fun s1=>h.ext [.row (h.toks.length+0) 10 (s1.2.2.map GRow.row)] [data0.length]) hF (fun _=>by simp only [yv,upd,List.set_cons_succ,List.set_cons_zero];try rfl) (wk.le (by exact (.eq (.drop (.eq (.drop (.eq (.d4 (.drop (.cons (leV.of_eq rfl) (.cons (leV.of_eq rfl) (.d16 (.d16 (.d4 (.d4 (.d4 (.drop (.drop leL.nil)))))))))))))))))) ?_
 intro n1 s1 o1 hF hK1
 refine wc hF (fun hr1 hF=>?_)
 refine zn (zn (zd ?_))
 refine zc rfl (ze rfl yl (zb rfl)) xq ?_
 refine zc rfl (ze rfl yh (zb rfl)) xr ?_
 refine zc rfl (zr rfl yD xz rfl) xV ?_
 refine zf (zj ?_)
 refine zG xi hF (fun hc8 hF=>?_) (fun hc8 hF=>?_)
 ·refine zH (zj (zI (zn (zd ?_))))
  refine zc rfl (ze rfl yl (zb rfl)) xU ?_
  refine zc rfl (ze rfl yh (zb rfl)) wa ?_
  refine zc rfl (zr rfl xY wb rfl) wh ?_
  refine zf (zj ?_)
  refine zG xH hF (fun hc9 hF=>?_) (fun hc9 hF=>?_)
  ·refine zn (zd ?_)
   refine zc rfl (ze rfl yd (zb rfl)) wu ?_
   refine zc rfl (ze rfl yQ (zb rfl)) wB ?_
   refine zc rfl (ze rfl yl (zb rfl)) va ?_
   refine zc rfl (zr rfl ww vg rfl) wV ?_
   refine zc rfl (ze rfl yQ (zb rfl)) vm ?_
   refine zc rfl (ze rfl yh (zb rfl)) vu ?_
   refine zc rfl (ze rfl yG (zb rfl)) vt ?_
   refine zK hF (fun v10 hv10 hF=>?_)
   refine yT (B1:=[]) (T1:=[]) (B':=[.row (h.toks.length+0) 10 (v10.map GRow.row)]) rfl (zz rfl rfl rfl (zg xg (zg wX (zg vo (zg vy (zg vn zu))))) (.cons (zb rfl) (.cons (zb rfl) (.cons (zb rfl) (.cons (zb rfl) (.cons (zb rfl) .nil)))))) (okR71 (by simp [AH.ext]) (by simp [AH.ext]) hr1 (fun x0 x1 v L M hv=>by rw [yj];exact hcmp4 x0 x1 v _ _ hv) (fun n m h1 h2=>hlacmp4 n m (by simp [AH.ext] at h1;omega) (by simp [AH.ext] at h2;omega)) (fun n m h1 h2=>hlkcmp4 n m (by simp [AH.ext] at h1;omega) (by simp [AH.ext] at h2;omega)) hv10) rfl rfl vr rfl (fun hlv10=>?_)
   refine zf (zj (zd ?_))
   refine zc rfl (ze rfl yl (zb rfl)) wU ?_
   refine zc rfl (ze rfl yh (zb rfl)) w9 ?_
   refine zc rfl (zr rfl wM wW rfl) wT ?_
   refine zc rfl (zi rfl wL (zb rfl)) yC ?_
   refine zf (zY (yi ?_))
   obtain rfl:=Option.some.inj hF
   exact ⟨((IntKind.wrap .i64 (s1.1 - s1.2.1)),s1.2.1,v10),hK1,wk.le (by exact (.eq (.drop (.eq (.drop (.eq (.d4 (.drop (.cons (leV.of_eq rfl) (.cons (leV.of_eq rfl) (.d16 (.d16 (.d4 (.d4 (.d4 (.drop (.drop leL.nil)))))))))))))))))⟩
  ·refine zn (zd ?_)
   refine zc rfl (ze rfl yd (zb rfl)) wS ?_
   refine zc rfl (ze rfl yQ (zb rfl)) w8 ?_
   refine zc rfl (ze rfl yl (zb rfl)) wZ ?_
   refine zc rfl (zr rfl vf ve rfl) vD ?_
   refine zc rfl (ze rfl yQ (zb rfl)) vC ?_
   refine zc rfl (ze rfl yh (zb rfl)) (sk st0) ?_
   refine zc rfl (zr rfl vI (gk yd) rfl) (sk st1) ?_
   refine zc rfl (ze rfl yl (zb rfl)) (sk xj) ?_
   refine zc rfl (zr rfl (gk yo) (gk yQ) rfl) (sk wA) ?_
   refine zc rfl (ze rfl yl (zb rfl)) (sk yK) ?_
   refine zc rfl (ze rfl yG (zb rfl)) (sk xI) ?_
   refine zK hF (fun v11 hv11 hF=>?_)
   refine yT (B1:=[]) (T1:=[]) (B':=[.row (h.toks.length+0) 10 (v11.map GRow.row)]) rfl (zz rfl rfl rfl (zg wP (zg vJ (zg (gk yY) (zg (gk yG) (zg (gk yX) zu))))) (.cons (zb rfl) (.cons (zb rfl) (.cons (zb rfl) (.cons (zb rfl) (.cons (zb rfl) .nil)))))) (okR71 (by simp [AH.ext]) (by simp [AH.ext]) hr1 (fun x0 x1 v L M hv=>by rw [yj];exact hcmp4 x0 x1 v _ _ hv) (fun n m h1 h2=>hlacmp4 n m (by simp [AH.ext] at h1;omega) (by simp [AH.ext] at h2;omega)) (fun n m h1 h2=>hlkcmp4 n m (by simp [AH.ext] at h1;omega) (by simp [AH.ext] at h2;omega)) hv11) rfl rfl (sk xT) rfl (fun hlv11=>?_)
   refine zf (zj (zd ?_))
   refine zc rfl (ze rfl yh (zb rfl)) (sk x9) ?_
   refine zc rfl (ze rfl yl (zb rfl)) (sk xS) ?_
   refine zc rfl (zr rfl (gk xE) (gk xu) rfl) (sk wE) ?_
   refine zc rfl (zi rfl (gk x4) (zb rfl)) yz ?_
   refine zf (zY (yi ?_))
   obtain rfl:=Option.some.inj hF
   exact ⟨(s1.1,(IntKind.wrap .i64 (s1.2.1 - s1.1)),v11),hK1,wk.le (by exact (.eq (.drop (.eq (.drop (.eq (.d4 (.drop (.cons (leV.of_eq rfl) (.cons (leV.of_eq rfl) (.d16 (.d16 (.d4 (.d4 (.d4 (.drop (.drop leL.nil)))))))))))))))))⟩
 ·refine yy ?_
  refine zT ?_
  refine zP ?_
  obtain rfl:=Option.some.inj hF
  replace hF:=hK1
  refine zQ ?_
  refine zj (zd ?_)
  refine zc rfl (ze rfl yd (zb rfl)) (sk yC) ?_
  refine zc rfl (ze rfl yQ (zb rfl)) (sk yz) ?_
  refine zc rfl (ze rfl yl (zb rfl)) (sk yL) ?_
  refine zc rfl (zr rfl (gk yh) (gk yJ) rfl) (sk yO) ?_
  refine zc rfl (ze rfl yQ (zb rfl)) (sk yS) ?_
  refine zc rfl (ze rfl yl (zb rfl)) (sk yW) ?_
  refine zc rfl (ze rfl yG (zb rfl)) (sk xa) ?_
  refine zK hF (fun v13 hv13 hF=>?_)
  refine yT (B1:=[]) (T1:=[]) (B':=[.row (h.toks.length+0) 10 (v13.map GRow.row)]) rfl (zz rfl rfl rfl (zg (gk yl) (zg (gk yE) (zg (gk yP) (zg (gk yU) (zg (gk yR) zu))))) (.cons (zb rfl) (.cons (zb rfl) (.cons (zb rfl) (.cons (zb rfl) (.cons (zb rfl) .nil)))))) (okR71 (by simp [AH.ext]) (by simp [AH.ext]) hr1 (fun x0 x1 v L M hv=>by rw [yj];exact hcmp4 x0 x1 v _ _ hv) (fun n m h1 h2=>hlacmp4 n m (by simp [AH.ext] at h1;omega) (by simp [AH.ext] at h2;omega)) (fun n m h1 h2=>hlkcmp4 n m (by simp [AH.ext] at h1;omega) (by simp [AH.ext] at h2;omega)) hv13) rfl rfl (sk xd) rfl (fun hlv13=>?_)
  refine zf (vF ?_)
  obtain rfl:=Option.some.inj hF
  refine xf rfl zB (x5 ?_)
  exact ⟨rfl,hlv13,rfl⟩
theorem okR47N (n:Nat):∀ {bl tl n0:Nat} {data0:(List GRow)} {a1:Int} {m2:Int} {b3:Int} {cmp4:(GRow→GRow→Option Int)} {fcmp4:FuncId} {acmp4 kcmp4:List AV} {res:(List GRow)} {h:AH} (hbl:h.blks.length=bl) (htl:h.toks.length=tl) (hn0:data0.length=n0) (hcmp4:∀ x0 x1 v (L:List Blk) (M:List Nat),cmp4 x0 x1=some v→Spec Try.prog fcmp4 (acmp4++[.agg [.sl 1 (x0.path.map zR),.int .u8 x0.leaf.typ,.int .i64 x0.leaf.n,.int .u64 x0.leaf.time,.int .u8 x0.leaf.dot.actor.rep,.int .u32 x0.leaf.dot.actor.inc,.int .u64 x0.leaf.dot.seq,.str x0.leaf.text,.sl 5 (x0.leaf.items.map GItem.row),.sl 3 (x0.leaf.tombs.map GDot.row)],.agg [.sl 1 (x1.path.map zR),.int .u8 x1.leaf.typ,.int .i64 x1.leaf.n,.int .u64 x1.leaf.time,.int .u8 x1.leaf.dot.actor.rep,.int .u32 x1.leaf.dot.actor.inc,.int .u64 x1.leaf.dot.seq,.str x1.leaf.text,.sl 5 (x1.leaf.items.map GItem.row),.sl 3 (x1.leaf.tombs.map GDot.row)]]++kcmp4) (h.ext L M) (fun rr hh=>rr=.int .i64 v∧hh=h.ext L M)) (hlacmp4:∀ n m,h.blks.length≤n→h.toks.length≤m→z9 n m acmp4=true) (hlkcmp4:∀ n m,h.blks.length≤n→h.toks.length≤m→z9 n m kcmp4=true),zL n data0 a1 m2 b3 cmp4=some res→Spec Try.prog 47 [.rsl bl tl 10 n0,.int .i64 a1,.int .i64 m2,.int .i64 b3,.fn (.func fcmp4) acmp4 kcmp4] (h.ext [.row tl 10 (data0.map GRow.row)] [n0]) (fun rr hh=>rr=.tup []∧res.length=n0∧hh=h.ext [.row tl 10 (res.map GRow.row)] [n0]):=by
 induction n with
 | zero=>intro bl tl n0 data0 a1 m2 b3 cmp4 fcmp4 acmp4 kcmp4 res h hbl htl hn0 hcmp4 hlacmp4 hlkcmp4 hF;simp [zL] at hF
 | succ n ih =>
  intro bl tl n0 data0 a1 m2 b3 cmp4 fcmp4 acmp4 kcmp4 res h hbl htl hn0 hcmp4 hlacmp4 hlkcmp4 hF
  unfold zL at hF
  subst hbl htl hn0
  refine yA Try.func47 rfl (by kernel_rfl) (env:=[.rsl h.blks.length h.toks.length 10 data0.length,.int .i64 a1,.int .i64 m2,.int .i64 b3,.fn (.func fcmp4) acmp4 kcmp4,za,za,za,za,za,za,za,za,za,za,za,za,za,za,za,za,za,za,za,za,za,za,za,za,za,za,za,za,za,za,za,za,za,za,za,za,za,za,za,za,za,za,za,za,za,za,za,za,za,za,za,za,za,za,za,za,za,za,za,za,za,za,za,za,za,za,za,za,za,za,za,za,za,za,za,za,za,za,za,za,za,za,za,za,za,za,za,za,za,za,za,za,za,za,za,za,za,za,za,za,za,za,za,za,za,za,za,za,za,za,za,za,za,za,za,za,za,za,za,za,za,za,za,za,za,za,za,za,za,za,za,za,za,za,za,za,za,za,za,za,za,za,za,za,za,za,za,za,za,za,za,za,za,za,za,za,za,za,za,za,za,za,za,za,za,za,za,za,za,za,za,za,za,za,za,za,za,za,za,za,za,za,za,za,za,za,za,za,za,za,za,za,za,za,za,za,za,za,za,za,za,za,za,za,za,za,za,za,za,za,za,za,za,za,za]) (by rfl) ?_
  refine zn (zn (zd ?_))
  refine zc rfl (ze rfl yQ (zb rfl)) wB ?_
  refine zc rfl (ze rfl yo (zb rfl)) va ?_
  refine zc rfl (zr rfl ww vg rfl) wV ?_
  refine zc rfl (zr rfl wX rfl rfl) vm ?_
  refine zf (zj ?_)
  refine zG vo hF (fun hc1 hF=>?_) (fun hc1 hF=>?_)
  ·refine zn (zd ?_)
   refine zc rfl (ze rfl yQ (zb rfl)) vu ?_
   refine zc rfl (zi rfl vy (zb rfl)) yC ?_
   refine zf (zj (zn (zd ?_)))
   refine zc rfl (ze rfl yY (zb rfl)) vt ?_
   refine zc rfl (zi rfl vn (zb rfl)) yz ?_
   refine zf (zj (zn (zI ?_)))
   refine wn (fun (s1:Int×Int)=>yv [2,3,5,6,7,8,9,12,13,14,15,16,17,18,19,20,21,22,23,24,25,26,27,28,29,30,31,32,33,34,35,36,37,38,39,40,41,42,43,44,45,46,47,48,49,50,51,52,53,54,55,56,57,58,59,60,61,62,63,64,65,66,67,68,69,70,71,72,73,74,75,76,77,78,79,80,81,82,83,84,85,86,87,88,89,90,91,92,93,94,95,96,97,98,99,100,101,102,103,104,105,106,107,108,109,110,111,112,113,114,115,116,117,118,119,120,121,122,123,124,125,126,127,128,129,130,131,132,133,134,135,136,137,138,139,140,141,142,143,144,145,146,147,148,149,150,151,152,153,154,155,156,157,158,159,160,161,162,163,164,165,166,167,168,169,170,171,172,173,174,175,176,177,178,179,180,181,182,183,184,185,186,187,188,189,190,191,192,193,194,195,196,197,198,199,200,201,202,203,204,205,206,207,208,209,210,211,212,213,214,215,216,217,218,219] [(10,.int .i64 s1.1),(11,.int .i64 s1.2)]) (fun s1=>h.ext [.row (h.toks.length+0) 10 (data0.map GRow.row)] [data0.length]) hF (fun _=>by simp only [yv,upd,List.set_cons_succ,List.set_cons_zero];try rfl) (wk.le (by exact (.eq (.eq (.drop (.drop (.eq (.d4 (.drop (.cons (leV.of_eq rfl) (.cons (leV.of_eq rfl) (.d16 (.d16 (.d16 (.d16 (.d16 (.d16 (.d16 (.d16 (.d16 (.d16 (.d16 (.d16 (.d16 leL.nil)))))))))))))))))))))))) ?_
   intro n1 s1 o1 hF hK1
   refine zn (zn (zd ?_))
   refine zc rfl (ze rfl yl (zb rfl)) vr ?_
   refine zc rfl (ze rfl yh (zb rfl)) wU ?_
   refine zc rfl (zr rfl vU wM rfl) w9 ?_
   refine zf (zj ?_)
   refine zG wW hF (fun hc10 hF=>?_) (fun hc10 hF=>?_)
   ·refine zH (zj (zI (zn (zd ?_))))
    refine zc rfl (ze rfl yl (zb rfl)) wT ?_
    refine zc rfl (ze rfl yh (zb rfl)) wS ?_
    refine zc rfl (zr rfl wL wP rfl) w8 ?_
    refine zc rfl (y6 rfl ty3 ty103 vf rfl) wZ ?_
    refine zc rfl (zr rfl ve rfl rfl) vD ?_
    refine zc rfl (y6 rfl ty103 ty3 vJ rfl) vC ?_
    refine zc rfl (zi rfl vI (zb rfl)) yL ?_
    refine zf (zj (zn ?_))
    refine yr [] [] trivial xF (by kernel_rfl) ?_
    refine zo rfl rfl (ze rfl yG (zb rfl)) (sk st0) ?_
    refine zo rfl rfl (ze rfl yd (zb rfl)) (sk st1) ?_
    refine zo rfl rfl (ze rfl yJ (zb rfl)) (sk xj) ?_
    refine zK hF (fun y11 hy11 hF=>?_)
    refine zo rfl rfl (x6 rfl wo (gk yo) (gk yQ) (vp hy11 rfl)) (sk wA) ?_
    refine zo rfl rfl (qX (off:=0) (i:=0) (q:=h.toks.length+0) (z:=(IntKind.wrap .i64 ((Int.fdiv (IntKind.wrap .u64 ((IntKind.wrap .i64 (s1.1+s1.2)))) (2 ^ (min (1:Int).toNat (IntKind.bits .u64)))))).toNat) (row:=GRow.row) (fun _=>rfl) rfl ty63.choose_spec.1 (by decide) (gk yY) rfl rfl (idxR hy11).2.2 (zF (cs':=[.sl 1 (y11.path.map zR),.int .u8 y11.leaf.typ,.int .i64 y11.leaf.n,.int .u64 y11.leaf.time,.int .u8 y11.leaf.dot.actor.rep,.int .u32 y11.leaf.dot.actor.inc,.int .u64 y11.leaf.dot.seq,.str y11.leaf.text,.sl 5 (y11.leaf.items.map GItem.row),.sl 3 (y11.leaf.tombs.map GDot.row)]) ty63.choose_spec.2 rfl rfl) (zb rfl)) (sk yK) ?_
    refine zo rfl rfl (ze rfl yd (zb rfl)) (sk xI) ?_
    refine zo rfl rfl (ze rfl yo (zb rfl)) (sk xT) ?_
    refine zK hF (fun y12 hy12 hF=>?_)
    refine zo rfl rfl (x6 rfl wo (gk yX) (gk y5) (vp hy12 rfl)) (sk x9) ?_
    refine zo rfl rfl (qX (off:=0) (i:=0) (q:=h.toks.length+0) (z:=a1.toNat) (row:=GRow.row) (fun _=>rfl) rfl ty63.choose_spec.1 (by decide) (gk xE) rfl rfl (idxR hy12).2.2 (zF (cs':=[.sl 1 (y12.path.map zR),.int .u8 y12.leaf.typ,.int .i64 y12.leaf.n,.int .u64 y12.leaf.time,.int .u8 y12.leaf.dot.actor.rep,.int .u32 y12.leaf.dot.actor.inc,.int .u64 y12.leaf.dot.seq,.str y12.leaf.text,.sl 5 (y12.leaf.items.map GItem.row),.sl 3 (y12.leaf.tombs.map GDot.row)]) ty63.choose_spec.2 rfl rfl) (zb rfl)) (sk xS) ?_
    refine zK hF (fun v13 hv13 hF=>?_)
    refine draw_call rfl rfl (s_callC rfl rfl (gk yd) (zg (gk yG) (zg (gk xu) zu)) (.cons (zb rfl) (.cons (zb rfl) .nil)) rfl) (hcmp4 _ _ _ _ _ hv13) (sk wE) ?_
    refine zo rfl rfl (zr rfl (gk x4) rfl rfl) (sk yC) ?_
    refine yc ?_
    refine zj ?_
    refine zG (gk yl) hF (fun hc14 hF=>?_) (fun hc14 hF=>?_)
    ·refine zd ?_
     refine zc rfl (ze rfl yJ (zb rfl)) (sk yz) ?_
     refine zc rfl (zr rfl (gk yh) rfl rfl) (sk yL) ?_
     refine zc rfl (zi rfl (gk yJ) (zb rfl)) yC ?_
     refine zf (zY (yi ?_))
     obtain rfl:=Option.some.inj hF
     exact ⟨((IntKind.wrap .i64 ((IntKind.wrap .i64 ((Int.fdiv (IntKind.wrap .u64 ((IntKind.wrap .i64 (s1.1+s1.2)))) (2 ^ (min (1:Int).toNat (IntKind.bits .u64))))))+(1:Int))),s1.2),hK1,wk.le (by exact (.eq (.eq (.drop (.drop (.eq (.d4 (.drop (.cons (leV.of_eq rfl) (.cons (leV.of_eq rfl) (.d16 (.d16 (.d16 (.d16 (.d16 (.d16 (.d16 (.d16 (.d16 (.d16 (.d16 (.d16 (.d16 leL.nil)))))))))))))))))))))))⟩
    ·refine zd ?_
     refine zc rfl (ze rfl yJ (zb rfl)) (sk yO) ?_
     refine zc rfl (zi rfl (gk yE) (zb rfl)) yz ?_
     refine zf (zY (yi ?_))
     obtain rfl:=Option.some.inj hF
     exact ⟨(s1.1,(IntKind.wrap .i64 ((Int.fdiv (IntKind.wrap .u64 ((IntKind.wrap .i64 (s1.1+s1.2)))) (2 ^ (min (1:Int).toNat (IntKind.bits .u64))))))),hK1,wk.le (by exact (.eq (.eq (.drop (.drop (.eq (.d4 (.drop (.cons (leV.of_eq rfl) (.cons (leV.of_eq rfl) (.d16 (.d16 (.d16 (.d16 (.d16 (.d16 (.d16 (.d16 (.d16 (.d16 (.d16 (.d16 (.d16 leL.nil)))))))))))))))))))))))⟩
   ·refine yy ?_
    refine zT ?_
    refine zP ?_
    obtain rfl:=Option.some.inj hF
    replace hF:=hK1
    refine zQ ?_
    refine zj (zn (zn (zd ?_)))
    refine zc rfl (ze rfl yo (zb rfl)) (sk yS) ?_
    refine zc rfl (zi rfl (gk yP) (zb rfl)) yO ?_
    refine zf (zj (zI ?_))
    refine wn (fun (s2:Int×(List GRow))=>yv [1,2,3,4,5,6,7,8,9,11,12,14,15,16,17,18,19,20,21,22,23,24,25,26,27,28,29,30,31,32,33,34,35,36,37,38,39,40,41,42,43,44,45,46,47,48,49,50,51,52,53,54,55,56,57,58,59,60,61,62,63,64,65,66,67,68,69,70,71,72,73,74,75,76,77,78,79,80,81,82,83,84,85,86,87,88,89,90,91,92,93,94,95,96,97,98,99,100,101,102,103,104,105,106,107,108,109,110,111,112,113,114,115,116,117,118,119,120,121,122,123,124,125,126,127,128,129,130,131,132,133,134,135,136,137,138,139,140,141,142,143,144,145,146,147,148,149,150,151,152,153,154,155,156,157,158,159,160,161,162,163,164,165,166,167,168,169,170,171,172,173,174,175,176,177,178,179,180,181,182,183,184,185,186,187,188,189,190,191,192,193,194,195,196,197,198,199,200,201,202,203,204,205,206,207,208,209,210,211,212,213,214,215,216,217,218,219] [(13,.int .i64 s2.1)]) (fun s2=>h.ext [.row (h.toks.length+0) 10 (s2.2.map GRow.row)] [data0.length]) hF (fun _=>by simp only [yv,upd,List.set_cons_succ,List.set_cons_zero];try rfl) (wk.le (by exact (.eq (.d4 (.d4 (.drop (.eq (.drop (.drop (.cons (leV.of_eq rfl) (.d16 (.d16 (.d16 (.d16 (.d16 (.d16 (.d16 (.d16 (.d16 (.d16 (.d16 (.d16 (.d4 (.d4 (.d4 (.drop (.drop leL.nil))))))))))))))))))))))))))) ?_
    intro n2 s2 o2 hF hK2
    refine wc hF (fun hr2 hF=>?_)
    refine zn (zn (zd ?_))
    refine zc rfl (ze rfl yE (zb rfl)) (sk yW) ?_
    refine zc rfl (ze rfl yl (zb rfl)) (sk xa) ?_
    refine zc rfl (zr rfl (gk yR) rfl rfl) (sk xd) ?_
    refine zc rfl (zr rfl (gk yU) (gk xb) rfl) (sk xq) ?_
    refine zf (zj ?_)
    refine zG (gk yD) hF (fun hc34 hF=>?_) (fun hc34 hF=>?_)
    ·refine zH (zj (zn (zI ?_)))
     refine yr [] [] trivial xF (by kernel_rfl) ?_
     refine zo rfl rfl (ze rfl yd (zb rfl)) (sk xU) ?_
     refine zo rfl rfl (ze rfl yE (zb rfl)) (sk wa) ?_
     refine zo rfl rfl (ze rfl yd (zb rfl)) (sk wh) ?_
     refine zo rfl rfl (ze rfl yE (zb rfl)) (sk wu) ?_
     refine zo rfl rfl (zr rfl (gk xg) rfl rfl) (sk wB) ?_
     refine zo rfl rfl (ze rfl yd (zb rfl)) (sk va) ?_
     refine zo rfl rfl (ze rfl yE (zb rfl)) (sk wV) ?_
     refine zo rfl rfl (zr rfl (gk wX) rfl rfl) (sk vm) ?_
     refine zK hF (fun y35 hy35 hF=>?_)
     refine zo rfl rfl (x6 rfl wo (gk vg) (gk vo) (vp hy35 hr2)) (sk vu) ?_
     refine zo rfl rfl (qX (off:=0) (i:=0) (q:=h.toks.length+0) (z:=(IntKind.wrap .i64 (s2.1+(1:Int))).toNat) (row:=GRow.row) (fun _=>rfl) rfl ty63.choose_spec.1 (by decide) (gk vy) rfl hr2 (idxR hy35).2.2 (zF (cs':=[.sl 1 (y35.path.map zR),.int .u8 y35.leaf.typ,.int .i64 y35.leaf.n,.int .u64 y35.leaf.time,.int .u8 y35.leaf.dot.actor.rep,.int .u32 y35.leaf.dot.actor.inc,.int .u64 y35.leaf.dot.seq,.str y35.leaf.text,.sl 5 (y35.leaf.items.map GItem.row),.sl 3 (y35.leaf.tombs.map GDot.row)]) ty63.choose_spec.2 rfl rfl) (zb rfl)) (sk vt) ?_
     refine zo rfl rfl (ze rfl yd (zb rfl)) (sk vr) ?_
     refine zo rfl rfl (ze rfl yE (zb rfl)) (sk wU) ?_
     refine zK hF (fun y36 hy36 hF=>?_)
     refine zo rfl rfl (x6 rfl wo (gk vU) (gk wM) (vp hy36 hr2)) (sk w9) ?_
     refine zo rfl rfl (qX (off:=0) (i:=0) (q:=h.toks.length+0) (z:=s2.1.toNat) (row:=GRow.row) (fun _=>rfl) rfl ty63.choose_spec.1 (by decide) (gk wW) rfl hr2 (idxR hy36).2.2 (zF (cs':=[.sl 1 (y36.path.map zR),.int .u8 y36.leaf.typ,.int .i64 y36.leaf.n,.int .u64 y36.leaf.time,.int .u8 y36.leaf.dot.actor.rep,.int .u32 y36.leaf.dot.actor.inc,.int .u64 y36.leaf.dot.seq,.str y36.leaf.text,.sl 5 (y36.leaf.items.map GItem.row),.sl 3 (y36.leaf.tombs.map GDot.row)]) ty63.choose_spec.2 rfl rfl) (zb rfl)) (sk wT) ?_
     refine zK hF (fun y37 hy37 hF=>?_)
     refine zo rfl rfl (x6 rfl wo (gk xY) (gk wb) (vp hy37 hr2)) (sk wS) ?_
     refine x7 rfl FOk.nil (by kernel_rfl) rfl (e_stR (off:=0) (i:=0) (q:=h.toks.length+0) (z:=s2.1.toNat) (row:=GRow.row) (y':=y35) (us:=[.sl 1 (y35.path.map zR),.int .u8 y35.leaf.typ,.int .i64 y35.leaf.n,.int .u64 y35.leaf.time,.int .u8 y35.leaf.dot.actor.rep,.int .u32 y35.leaf.dot.actor.inc,.int .u64 y35.leaf.dot.seq,.str y35.leaf.text,.sl 5 (y35.leaf.items.map GItem.row),.sl 3 (y35.leaf.tombs.map GDot.row)]) (B':=[.row (h.toks.length+0) 10 ((s2.2.set s2.1.toNat y35).map GRow.row)]) (fun _=>rfl) rfl ty63.choose_spec.1 (gk wP) (gk vn) (zb rfl) rfl rfl rfl rfl hr2 (idxR hy37).2.2 (by decide) rfl rfl) rfl ?_
     refine zK hF (fun y38 hy38 hF=>?_)
     refine zo rfl rfl (x6 rfl wo (gk xH) (gk ww) (vp hy38 (List.length_set.trans hr2))) (sk w8) ?_
     refine x7 rfl FOk.nil (by kernel_rfl) rfl (e_stR (off:=0) (i:=0) (q:=h.toks.length+0) (z:=(IntKind.wrap .i64 (s2.1+(1:Int))).toNat) (row:=GRow.row) (y':=y36) (us:=[.sl 1 (y36.path.map zR),.int .u8 y36.leaf.typ,.int .i64 y36.leaf.n,.int .u64 y36.leaf.time,.int .u8 y36.leaf.dot.actor.rep,.int .u32 y36.leaf.dot.actor.inc,.int .u64 y36.leaf.dot.seq,.str y36.leaf.text,.sl 5 (y36.leaf.items.map GItem.row),.sl 3 (y36.leaf.tombs.map GDot.row)]) (B':=[.row (h.toks.length+0) 10 (((s2.2.set s2.1.toNat y35).set (IntKind.wrap .i64 (s2.1+(1:Int))).toNat y36).map GRow.row)]) (fun _=>rfl) rfl ty63.choose_spec.1 (gk vf) (gk wL) (zb rfl) rfl rfl rfl rfl (List.length_set.trans hr2) (idxR hy38).2.2 (by decide) rfl rfl) rfl ?_
     refine yc ?_
     refine zY (zj (zd ?_))
     refine zc rfl (ze rfl yE (zb rfl)) (sk xr) ?_
     refine zc rfl (zr rfl (gk xz) rfl rfl) (sk xV) ?_
     refine zc rfl (zi rfl (gk xi) (zb rfl)) yO ?_
     refine zf (yi ?_)
     obtain rfl:=Option.some.inj hF
     exact ⟨((IntKind.wrap .i64 (s2.1+(1:Int))),((s2.2.set s2.1.toNat y35).set (IntKind.wrap .i64 (s2.1+(1:Int))).toNat y36)),hK2,wk.le (by exact (.eq (.d4 (.d4 (.drop (.eq (.drop (.drop (.cons (leV.of_eq rfl) (.d16 (.d16 (.d16 (.d16 (.d16 (.d16 (.d16 (.d16 (.d16 (.d16 (.d16 (.d16 (.d4 (.d4 (.d4 (.drop (.drop leL.nil))))))))))))))))))))))))))⟩
    ·refine yy ?_
     refine zT ?_
     refine zP ?_
     obtain rfl:=Option.some.inj hF
     replace hF:=hK2
     refine zQ ?_
     refine zj (zO (zC ?_))
     obtain rfl:=Option.some.inj hF
     refine xf rfl zB (x5 ?_)
     exact ⟨rfl,hr2,rfl⟩
  ·refine zH (zj (zn (zn (zd ?_))))
   refine zc rfl (ze rfl yY (zb rfl)) (sk wZ) ?_
   refine zc rfl (ze rfl yQ (zb rfl)) (sk vD) ?_
   refine zc rfl (zr rfl (gk ve) (gk vJ) rfl) (sk vC) ?_
   refine zc rfl (zr rfl (gk vI) rfl rfl) (sk (sk st0)) ?_
   refine zf (zj ?_)
   refine zG (gk (gk yd)) hF (fun hc39 hF=>?_) (fun hc39 hF=>?_)
   ·refine zn (zd ?_)
    refine zc rfl (ze rfl yo (zb rfl)) (sk (sk st1)) ?_
    refine zc rfl (zi rfl (gk (gk yo)) (zb rfl)) yS ?_
    refine zf (zj (zn (zd ?_)))
    refine zc rfl (ze rfl yQ (zb rfl)) (sk (sk xj)) ?_
    refine zc rfl (zi rfl (gk (gk yQ)) (zb rfl)) yW ?_
    refine zf (zj (zn (zI ?_)))
    refine wn (fun (s1:Int×Int)=>yv [1,3,5,6,7,8,9,10,11,12,13,16,17,18,19,20,21,22,23,24,25,26,27,28,29,30,31,32,33,34,35,36,37,38,39,40,41,42,43,44,45,46,47,48,49,50,51,52,53,54,55,56,57,58,59,60,61,62,63,64,65,66,67,68,69,70,71,72,73,74,75,76,77,78,79,80,81,82,83,84,85,86,87,88,89,90,91,92,93,94,95,96,97,98,99,100,101,102,103,104,105,106,107,108,109,110,111,112,113,114,115,116,117,118,119,120,121,122,123,124,125,126,127,128,129,130,131,132,133,134,135,136,137,138,139,140,141,142,143,144,145,146,147,148,149,150,151,152,153,154,155,156,157,158,159,160,161,162,163,164,165,166,167,168,169,170,171,172,173,174,175,176,177,178,179,180,181,182,183,184,185,186,187,188,189,190,191,192,193,194,195,196,197,198,199,200,201,202,203,204,205,206,207,208,209,210,211,212,213,214,215,216,217,218,219] [(14,.int .i64 s1.1),(15,.int .i64 s1.2)]) (fun s1=>h.ext [.row (h.toks.length+0) 10 (data0.map GRow.row)] [data0.length]) hF (fun _=>by simp only [yv,upd,List.set_cons_succ,List.set_cons_zero];try rfl) (wk.le (by exact (.eq (.drop (.eq (.drop (.eq (.d4 (.d4 (.drop (.cons (leV.of_eq rfl) (.cons (leV.of_eq rfl) (.d16 (.d16 (.d16 (.d16 (.d16 (.d16 (.d16 (.d16 (.d16 (.d16 (.d16 (.d16 (.d4 (.d4 (.d4 leL.nil))))))))))))))))))))))))))) ?_
    intro n1 s1 o1 hF hK1
    refine zn (zn (zd ?_))
    refine zc rfl (ze rfl yP (zb rfl)) (sk (sk wA)) ?_
    refine zc rfl (ze rfl yU (zb rfl)) (sk (sk yK)) ?_
    refine zc rfl (zr rfl (gk (gk yY)) (gk (gk yG)) rfl) (sk (sk xI)) ?_
    refine zf (zj ?_)
    refine zG (gk (gk yX)) hF (fun hc48 hF=>?_) (fun hc48 hF=>?_)
    ·refine zH (zj (zI (zn (zd ?_))))
     refine zc rfl (ze rfl yP (zb rfl)) (sk (sk xT)) ?_
     refine zc rfl (ze rfl yU (zb rfl)) (sk (sk x9)) ?_
     refine zc rfl (zr rfl (gk (gk y5)) (gk (gk xE)) rfl) (sk (sk xS)) ?_
     refine zc rfl (y6 rfl ty3 ty103 (gk (gk xu)) rfl) (sk (sk wE)) ?_
     refine zc rfl (zr rfl (gk (gk x4)) rfl rfl) (sk (sk yC)) ?_
     refine zc rfl (y6 rfl ty103 ty3 (gk (gk yl)) rfl) (sk (sk yz)) ?_
     refine zc rfl (zi rfl (gk (gk yh)) (zb rfl)) xa ?_
     refine zf (zj (zn ?_))
     refine yr [] [] trivial xF (by kernel_rfl) ?_
     refine zo rfl rfl (ze rfl yG (zb rfl)) (sk (sk yL)) ?_
     refine zo rfl rfl (ze rfl yd (zb rfl)) (sk (sk yO)) ?_
     refine zo rfl rfl (ze rfl yQ (zb rfl)) (sk (sk yS)) ?_
     refine zK hF (fun y49 hy49 hF=>?_)
     refine zo rfl rfl (x6 rfl wo (gk (gk yE)) (gk (gk yP)) (vp hy49 rfl)) (sk (sk yW)) ?_
     refine zo rfl rfl (qX (off:=0) (i:=0) (q:=h.toks.length+0) (z:=m2.toNat) (row:=GRow.row) (fun _=>rfl) rfl ty63.choose_spec.1 (by decide) (gk (gk yU)) rfl rfl (idxR hy49).2.2 (zF (cs':=[.sl 1 (y49.path.map zR),.int .u8 y49.leaf.typ,.int .i64 y49.leaf.n,.int .u64 y49.leaf.time,.int .u8 y49.leaf.dot.actor.rep,.int .u32 y49.leaf.dot.actor.inc,.int .u64 y49.leaf.dot.seq,.str y49.leaf.text,.sl 5 (y49.leaf.items.map GItem.row),.sl 3 (y49.leaf.tombs.map GDot.row)]) ty63.choose_spec.2 rfl rfl) (zb rfl)) (sk (sk xa)) ?_
     refine zo rfl rfl (ze rfl yd (zb rfl)) (sk (sk xd)) ?_
     refine zo rfl rfl (ze rfl yR (zb rfl)) (sk (sk xq)) ?_
     refine zK hF (fun y50 hy50 hF=>?_)
     refine zo rfl rfl (x6 rfl wo (gk (gk xb)) (gk (gk yD)) (vp hy50 rfl)) (sk (sk xr)) ?_
     refine zo rfl rfl (qX (off:=0) (i:=0) (q:=h.toks.length+0) (z:=(IntKind.wrap .i64 ((Int.fdiv (IntKind.wrap .u64 ((IntKind.wrap .i64 (s1.1+s1.2)))) (2 ^ (min (1:Int).toNat (IntKind.bits .u64)))))).toNat) (row:=GRow.row) (fun _=>rfl) rfl ty63.choose_spec.1 (by decide) (gk (gk xz)) rfl rfl (idxR hy50).2.2 (zF (cs':=[.sl 1 (y50.path.map zR),.int .u8 y50.leaf.typ,.int .i64 y50.leaf.n,.int .u64 y50.leaf.time,.int .u8 y50.leaf.dot.actor.rep,.int .u32 y50.leaf.dot.actor.inc,.int .u64 y50.leaf.dot.seq,.str y50.leaf.text,.sl 5 (y50.leaf.items.map GItem.row),.sl 3 (y50.leaf.tombs.map GDot.row)]) ty63.choose_spec.2 rfl rfl) (zb rfl)) (sk (sk xV)) ?_
     refine zK hF (fun v51 hv51 hF=>?_)
     refine draw_call rfl rfl (s_callC rfl rfl (gk (gk yJ)) (zg (gk (gk yR)) (zg (gk (gk xi)) zu)) (.cons (zb rfl) (.cons (zb rfl) .nil)) rfl) (hcmp4 _ _ _ _ _ hv51) (sk (sk xU)) ?_
     refine zo rfl rfl (zr rfl (gk (gk xY)) rfl rfl) (sk (sk wa)) ?_
     refine zo rfl rfl (qm rfl (gk (gk wb)) rfl) (sk (sk wh)) ?_
     refine yc ?_
     refine zj ?_
     refine zG (gk (gk xH)) hF (fun hc52 hF=>?_) (fun hc52 hF=>?_)
     ·refine zd ?_
      refine zc rfl (ze rfl yR (zb rfl)) (sk (sk wu)) ?_
      refine zc rfl (zr rfl (gk (gk xg)) rfl rfl) (sk (sk wB)) ?_
      refine zc rfl (zi rfl (gk (gk ww)) (zb rfl)) yS ?_
      refine zf (zY (yi ?_))
      obtain rfl:=Option.some.inj hF
      exact ⟨((IntKind.wrap .i64 ((IntKind.wrap .i64 ((Int.fdiv (IntKind.wrap .u64 ((IntKind.wrap .i64 (s1.1+s1.2)))) (2 ^ (min (1:Int).toNat (IntKind.bits .u64))))))+(1:Int))),s1.2),hK1,wk.le (by exact (.eq (.drop (.eq (.drop (.eq (.d4 (.d4 (.drop (.cons (leV.of_eq rfl) (.cons (leV.of_eq rfl) (.d16 (.d16 (.d16 (.d16 (.d16 (.d16 (.d16 (.d16 (.d16 (.d16 (.d16 (.d16 (.d4 (.d4 (.d4 leL.nil))))))))))))))))))))))))))⟩
     ·refine zd ?_
      refine zc rfl (ze rfl yR (zb rfl)) (sk (sk va)) ?_
      refine zc rfl (zi rfl (gk (gk vg)) (zb rfl)) yW ?_
      refine zf (zY (yi ?_))
      obtain rfl:=Option.some.inj hF
      exact ⟨(s1.1,(IntKind.wrap .i64 ((Int.fdiv (IntKind.wrap .u64 ((IntKind.wrap .i64 (s1.1+s1.2)))) (2 ^ (min (1:Int).toNat (IntKind.bits .u64))))))),hK1,wk.le (by exact (.eq (.drop (.eq (.drop (.eq (.d4 (.d4 (.drop (.cons (leV.of_eq rfl) (.cons (leV.of_eq rfl) (.d16 (.d16 (.d16 (.d16 (.d16 (.d16 (.d16 (.d16 (.d16 (.d16 (.d16 (.d16 (.d4 (.d4 (.d4 leL.nil))))))))))))))))))))))))))⟩
    ·refine yy ?_
     refine zT ?_
     refine zP ?_
     obtain rfl:=Option.some.inj hF
     replace hF:=hK1
     refine zQ ?_
     refine zj (zn (zn (zd ?_)))
     refine zc rfl (ze rfl yQ (zb rfl)) (sk (sk wV)) ?_
     refine zc rfl (zi rfl (gk (gk wX)) (zb rfl)) xd ?_
     refine zf (zj (zI ?_))
     refine wn (fun (s2:Int×(List GRow))=>yv [1,2,3,4,5,6,7,8,9,10,11,12,13,15,16,18,19,20,21,22,23,24,25,26,27,28,29,30,31,32,33,34,35,36,37,38,39,40,41,42,43,44,45,46,47,48,49,50,51,52,53,54,55,56,57,58,59,60,61,62,63,64,65,66,67,68,69,70,71,72,73,74,75,76,77,78,79,80,81,82,83,84,85,86,87,88,89,90,91,92,93,94,95,96,97,98,99,100,101,102,103,104,105,106,107,108,109,110,111,112,113,114,115,116,117,118,119,120,121,122,123,124,125,126,127,128,129,130,131,132,133,134,135,136,137,138,139,140,141,142,143,144,145,146,147,148,149,150,151,152,153,154,155,156,157,158,159,160,161,162,163,164,165,166,167,168,169,170,171,172,173,174,175,176,177,178,179,180,181,182,183,184,185,186,187,188,189,190,191,192,193,194,195,196,197,198,199,200,201,202,203,204,205,206,207,208,209,210,211,212,213,214,215,216,217,218,219] [(17,.int .i64 s2.1)]) (fun s2=>h.ext [.row (h.toks.length+0) 10 (s2.2.map GRow.row)] [data0.length]) hF (fun _=>by simp only [yv,upd,List.set_cons_succ,List.set_cons_zero];try rfl) (wk.le (by exact (.eq (.d4 (.d4 (.d4 (.drop (.eq (.drop (.drop (.cons (leV.of_eq rfl) (.d16 (.d16 (.d16 (.d16 (.d16 (.d16 (.d16 (.d16 (.d16 (.d16 (.d16 (.d16 (.d4 (.d4 (.drop (.drop leL.nil))))))))))))))))))))))))))) ?_
     intro n2 s2 o2 hF hK2
     refine wc hF (fun hr2 hF=>?_)
     refine zn (zn (zd ?_))
     refine zc rfl (ze rfl xb (zb rfl)) (sk (sk vm)) ?_
     refine zc rfl (ze rfl yP (zb rfl)) (sk (sk vu)) ?_
     refine zc rfl (zr rfl (gk (gk vo)) (gk (gk vy)) rfl) (sk (sk vt)) ?_
     refine zf (zj ?_)
     refine zG (gk (gk vn)) hF (fun hc72 hF=>?_) (fun hc72 hF=>?_)
     ·refine zH (zj (zn (zI ?_)))
      refine yr [] [] trivial xF (by kernel_rfl) ?_
      refine zo rfl rfl (ze rfl yd (zb rfl)) (sk (sk w9)) ?_
      refine zo rfl rfl (ze rfl xb (zb rfl)) (sk (sk wT)) ?_
      refine zo rfl rfl (ze rfl yd (zb rfl)) (sk (sk wS)) ?_
      refine zo rfl rfl (ze rfl xb (zb rfl)) (sk (sk w8)) ?_
      refine zo rfl rfl (zr rfl (gk (gk vf)) rfl rfl) (sk (sk wZ)) ?_
      refine zo rfl rfl (ze rfl yd (zb rfl)) (sk (sk vD)) ?_
      refine zo rfl rfl (ze rfl xb (zb rfl)) (sk (sk vC)) ?_
      refine zo rfl rfl (zr rfl (gk (gk vI)) rfl rfl) (sk (sk (sk st0))) ?_
      refine zK hF (fun y73 hy73 hF=>?_)
      refine zo rfl rfl (x6 rfl wo (gk (gk vJ)) (gk (gk (gk yd))) (vp hy73 hr2)) (sk (sk (sk st1))) ?_
      refine zo rfl rfl (qX (off:=0) (i:=0) (q:=h.toks.length+0) (z:=(IntKind.wrap .i64 (s2.1 - (1:Int))).toNat) (row:=GRow.row) (fun _=>rfl) rfl ty63.choose_spec.1 (by decide) (gk (gk (gk yo))) rfl hr2 (idxR hy73).2.2 (zF (cs':=[.sl 1 (y73.path.map zR),.int .u8 y73.leaf.typ,.int .i64 y73.leaf.n,.int .u64 y73.leaf.time,.int .u8 y73.leaf.dot.actor.rep,.int .u32 y73.leaf.dot.actor.inc,.int .u64 y73.leaf.dot.seq,.str y73.leaf.text,.sl 5 (y73.leaf.items.map GItem.row),.sl 3 (y73.leaf.tombs.map GDot.row)]) ty63.choose_spec.2 rfl rfl) (zb rfl)) (sk (sk (sk xj))) ?_
      refine zo rfl rfl (ze rfl yd (zb rfl)) (sk (sk (sk wA))) ?_
      refine zo rfl rfl (ze rfl xb (zb rfl)) (sk (sk (sk yK))) ?_
      refine zK hF (fun y74 hy74 hF=>?_)
      refine zo rfl rfl (x6 rfl wo (gk (gk (gk yY))) (gk (gk (gk yG))) (vp hy74 hr2)) (sk (sk (sk xI))) ?_
      refine zo rfl rfl (qX (off:=0) (i:=0) (q:=h.toks.length+0) (z:=s2.1.toNat) (row:=GRow.row) (fun _=>rfl) rfl ty63.choose_spec.1 (by decide) (gk (gk (gk yX))) rfl hr2 (idxR hy74).2.2 (zF (cs':=[.sl 1 (y74.path.map zR),.int .u8 y74.leaf.typ,.int .i64 y74.leaf.n,.int .u64 y74.leaf.time,.int .u8 y74.leaf.dot.actor.rep,.int .u32 y74.leaf.dot.actor.inc,.int .u64 y74.leaf.dot.seq,.str y74.leaf.text,.sl 5 (y74.leaf.items.map GItem.row),.sl 3 (y74.leaf.tombs.map GDot.row)]) ty63.choose_spec.2 rfl rfl) (zb rfl)) (sk (sk (sk xT))) ?_
      refine zK hF (fun y75 hy75 hF=>?_)
      refine zo rfl rfl (x6 rfl wo (gk (gk wW)) (gk (gk wL)) (vp hy75 hr2)) (sk (sk (sk x9))) ?_
      refine x7 rfl FOk.nil (by kernel_rfl) rfl (e_stR (off:=0) (i:=0) (q:=h.toks.length+0) (z:=s2.1.toNat) (row:=GRow.row) (y':=y73) (us:=[.sl 1 (y73.path.map zR),.int .u8 y73.leaf.typ,.int .i64 y73.leaf.n,.int .u64 y73.leaf.time,.int .u8 y73.leaf.dot.actor.rep,.int .u32 y73.leaf.dot.actor.inc,.int .u64 y73.leaf.dot.seq,.str y73.leaf.text,.sl 5 (y73.leaf.items.map GItem.row),.sl 3 (y73.leaf.tombs.map GDot.row)]) (B':=[.row (h.toks.length+0) 10 ((s2.2.set s2.1.toNat y73).map GRow.row)]) (fun _=>rfl) rfl ty63.choose_spec.1 (gk (gk (gk xE))) (gk (gk (gk yQ))) (zb rfl) rfl rfl rfl rfl hr2 (idxR hy75).2.2 (by decide) rfl rfl) rfl ?_
      refine zK hF (fun y76 hy76 hF=>?_)
      refine zo rfl rfl (x6 rfl wo (gk (gk wP)) (gk (gk ve)) (vp hy76 (List.length_set.trans hr2))) (sk (sk (sk xS))) ?_
      refine x7 rfl FOk.nil (by kernel_rfl) rfl (e_stR (off:=0) (i:=0) (q:=h.toks.length+0) (z:=(IntKind.wrap .i64 (s2.1 - (1:Int))).toNat) (row:=GRow.row) (y':=y74) (us:=[.sl 1 (y74.path.map zR),.int .u8 y74.leaf.typ,.int .i64 y74.leaf.n,.int .u64 y74.leaf.time,.int .u8 y74.leaf.dot.actor.rep,.int .u32 y74.leaf.dot.actor.inc,.int .u64 y74.leaf.dot.seq,.str y74.leaf.text,.sl 5 (y74.leaf.items.map GItem.row),.sl 3 (y74.leaf.tombs.map GDot.row)]) (B':=[.row (h.toks.length+0) 10 (((s2.2.set s2.1.toNat y73).set (IntKind.wrap .i64 (s2.1 - (1:Int))).toNat y74).map GRow.row)]) (fun _=>rfl) rfl ty63.choose_spec.1 (gk (gk (gk xu))) (gk (gk (gk y5))) (zb rfl) rfl rfl rfl rfl (List.length_set.trans hr2) (idxR hy76).2.2 (by decide) rfl rfl) rfl ?_
      refine yc ?_
      refine zY (zj (zd ?_))
      refine zc rfl (ze rfl xb (zb rfl)) (sk (sk vr)) ?_
      refine zc rfl (zr rfl (gk (gk vU)) rfl rfl) (sk (sk wU)) ?_
      refine zc rfl (zi rfl (gk (gk wM)) (zb rfl)) xd ?_
      refine zf (yi ?_)
      obtain rfl:=Option.some.inj hF
      exact ⟨((IntKind.wrap .i64 (s2.1 - (1:Int))),((s2.2.set s2.1.toNat y73).set (IntKind.wrap .i64 (s2.1 - (1:Int))).toNat y74)),hK2,wk.le (by exact (.eq (.d4 (.d4 (.d4 (.drop (.eq (.drop (.drop (.cons (leV.of_eq rfl) (.d16 (.d16 (.d16 (.d16 (.d16 (.d16 (.d16 (.d16 (.d16 (.d16 (.d16 (.d16 (.d4 (.d4 (.drop (.drop leL.nil))))))))))))))))))))))))))⟩
     ·refine yy ?_
      refine zT ?_
      refine zP ?_
      obtain rfl:=Option.some.inj hF
      replace hF:=hK2
      refine zQ ?_
      refine zj (zO (zC ?_))
      obtain rfl:=Option.some.inj hF
      refine xf rfl zB (x5 ?_)
      exact ⟨rfl,hr2,rfl⟩
   ·refine zH (zj (zn (zd ?_)))
    refine zc rfl (ze rfl yo (zb rfl)) (sk (sk (sk wE))) ?_
    refine zc rfl (ze rfl yY (zb rfl)) (sk (sk (sk yC))) ?_
    refine zc rfl (zr rfl (gk (gk (gk x4))) (gk (gk (gk yl))) rfl) (sk (sk (sk yz))) ?_
    refine zc rfl (y6 rfl ty3 ty103 (gk (gk (gk yh))) rfl) (sk (sk (sk yL))) ?_
    refine zc rfl (zr rfl (gk (gk (gk yJ))) rfl rfl) (sk (sk (sk yO))) ?_
    refine zc rfl (y6 rfl ty103 ty3 (gk (gk (gk yE))) rfl) (sk (sk (sk yS))) ?_
    refine zc rfl (zi rfl (gk (gk (gk yP))) (zb rfl)) xq ?_
    refine zf (zj (zn (zd ?_)))
    refine zc rfl (ze rfl yD (zb rfl)) (sk (sk (sk yW))) ?_
    refine zc rfl (ze rfl yQ (zb rfl)) (sk (sk (sk xa))) ?_
    refine zc rfl (zr rfl (gk (gk (gk yU))) (gk (gk (gk yR))) rfl) (sk (sk (sk xd))) ?_
    refine zc rfl (zi rfl (gk (gk (gk xb))) (zb rfl)) xr ?_
    refine zf (zj (zn (zd ?_)))
    refine zc rfl (zi rfl rfl (zb rfl)) xV ?_
    refine zc rfl (zi rfl rfl (zb rfl)) xU ?_
    refine zf (zj (zn (zn (zd ?_))))
    refine zc rfl (ze rfl yQ (zb rfl)) (sk (sk (sk xq))) ?_
    refine zc rfl (ze rfl yD (zb rfl)) (sk (sk (sk xr))) ?_
    refine zc rfl (zr rfl (gk (gk (gk yD))) (gk (gk (gk xz))) rfl) (sk (sk (sk xV))) ?_
    refine zf (zj ?_)
    refine zG (gk (gk (gk xi))) hF (fun hc77 hF=>?_) (fun hc77 hF=>?_)
    ·refine zn (zd ?_)
     refine zc rfl (ze rfl xz (zb rfl)) (sk (sk (sk xU))) ?_
     refine zc rfl (ze rfl yY (zb rfl)) (sk (sk (sk wa))) ?_
     refine zc rfl (zr rfl (gk (gk (gk xY))) (gk (gk (gk wb))) rfl) (sk (sk (sk wh))) ?_
     refine zc rfl (zi rfl (gk (gk (gk xH))) (zb rfl)) xV ?_
     refine zf (zj (zd ?_))
     refine zc rfl (ze rfl yD (zb rfl)) (sk (sk (sk wu))) ?_
     refine zc rfl (zi rfl (gk (gk (gk xg))) (zb rfl)) xU ?_
     refine zf (zj (zn (zd ?_)))
     refine zc rfl (ze rfl xz (zb rfl)) (sk (sk (sk wV))) ?_
     refine zc rfl (zr rfl (gk (gk (gk wX))) rfl rfl) (sk (sk (sk vm))) ?_
     refine zc rfl (zi rfl (gk (gk (gk vo))) (zb rfl)) wa ?_
     refine zf (zj (zn (zI ?_)))
     refine wn (fun (s1:Int×Int)=>yv [5,6,7,8,9,10,11,12,13,14,15,16,17,23,24,25,26,27,28,29,30,31,32,33,34,35,36,37,38,39,40,41,42,43,44,45,46,47,48,49,50,51,52,53,54,55,56,57,58,59,60,61,62,63,64,65,66,67,68,69,70,71,72,73,74,75,76,77,78,79,80,81,82,83,84,85,86,87,88,89,90,91,92,93,94,95,96,97,98,99,100,101,102,103,104,105,106,107,108,109,110,111,112,113,114,115,116,117,118,119,120,121,122,123,124,125,126,127,128,129,130,131,132,133,134,135,136,137,138,139,140,141,142,143,144,145,146,147,148,149,150,151,152,153,154,155,156,157,158,159,160,161,162,163,164,165,166,167,168,169,170,171,172,173,174,175,176,177,178,179,180,181,182,183,184,185,186,187,188,189,190,191,192,193,194,195,196,197,198,199,200,201,202,203,204,205,206,207,208,209,210,211,212,213,214,215,216,217,218,219] [(20,.int .i64 s1.1),(21,.int .i64 s1.2)]) (fun s1=>h.ext [.row (h.toks.length+0) 10 (data0.map GRow.row)] [data0.length]) hF (fun _=>by simp only [yv,upd,List.set_cons_succ,List.set_cons_zero];try rfl) (wk.le (by exact (.eq (.eq (.eq (.eq (.eq (.d4 (.d4 (.d4 (.drop (.eq (.eq (.cons (leV.of_eq rfl) (.cons (leV.of_eq rfl) (.eq (.d16 (.d16 (.d16 (.d16 (.d16 (.d16 (.d16 (.d16 (.d16 (.d16 (.d16 (.d16 (.d4 (.drop leL.nil)))))))))))))))))))))))))))))) ?_
     intro n1 s1 o1 hF hK1
     refine zn (zn (zd ?_))
     refine zc rfl (ze rfl xi (zb rfl)) (sk (sk (sk vu))) ?_
     refine zc rfl (ze rfl xY (zb rfl)) (sk (sk (sk vt))) ?_
     refine zc rfl (zr rfl (gk (gk (gk vy))) (gk (gk (gk vn))) rfl) (sk (sk (sk vr))) ?_
     refine zf (zj ?_)
     refine zG (gk (gk (gk vU))) hF (fun hc86 hF=>?_) (fun hc86 hF=>?_)
     ·refine zH (zj (zI (zn (zd ?_))))
      refine zc rfl (ze rfl xi (zb rfl)) (sk (sk (sk wU))) ?_
      refine zc rfl (ze rfl xY (zb rfl)) (sk (sk (sk w9))) ?_
      refine zc rfl (zr rfl (gk (gk (gk wM))) (gk (gk (gk wW))) rfl) (sk (sk (sk wT))) ?_
      refine zc rfl (y6 rfl ty3 ty103 (gk (gk (gk wL))) rfl) (sk (sk (sk wS))) ?_
      refine zc rfl (zr rfl (gk (gk (gk wP))) rfl rfl) (sk (sk (sk w8))) ?_
      refine zc rfl (y6 rfl ty103 ty3 (gk (gk (gk vf))) rfl) (sk (sk (sk wZ))) ?_
      refine zc rfl (zi rfl (gk (gk (gk ve))) (zb rfl)) wh ?_
      refine zf (zj (zn ?_))
      refine yr [] [] trivial xF (by kernel_rfl) ?_
      refine zo rfl rfl (ze rfl yG (zb rfl)) (sk (sk (sk vD))) ?_
      refine zo rfl rfl (ze rfl yd (zb rfl)) (sk (sk (sk vC))) ?_
      refine zo rfl rfl (ze rfl wb (zb rfl)) (sk (sk (sk (sk st0)))) ?_
      refine zo rfl rfl (ze rfl xH (zb rfl)) (sk (sk (sk (sk st1)))) ?_
      refine zo rfl rfl (zr rfl (gk (gk (gk (gk yd)))) (gk (gk (gk (gk yo)))) rfl) (sk (sk (sk (sk xj)))) ?_
      refine zK hF (fun y87 hy87 hF=>?_)
      refine zo rfl rfl (x6 rfl wo (gk (gk (gk vI))) (gk (gk (gk (gk yQ)))) (vp hy87 rfl)) (sk (sk (sk (sk wA)))) ?_
      refine zo rfl rfl (qX (off:=0) (i:=0) (q:=h.toks.length+0) (z:=(IntKind.wrap .i64 ((IntKind.wrap .i64 ((IntKind.wrap .i64 ((IntKind.wrap .i64 ((Int.fdiv (IntKind.wrap .u64 ((IntKind.wrap .i64 (a1+b3)))) (2 ^ (min (1:Int).toNat (IntKind.bits .u64))))))+m2)) - (1:Int))) - (IntKind.wrap .i64 ((Int.fdiv (IntKind.wrap .u64 ((IntKind.wrap .i64 (s1.1+s1.2)))) (2 ^ (min (1:Int).toNat (IntKind.bits .u64)))))))).toNat) (row:=GRow.row) (fun _=>rfl) rfl ty63.choose_spec.1 (by decide) (gk (gk (gk (gk yY)))) rfl rfl (idxR hy87).2.2 (zF (cs':=[.sl 1 (y87.path.map zR),.int .u8 y87.leaf.typ,.int .i64 y87.leaf.n,.int .u64 y87.leaf.time,.int .u8 y87.leaf.dot.actor.rep,.int .u32 y87.leaf.dot.actor.inc,.int .u64 y87.leaf.dot.seq,.str y87.leaf.text,.sl 5 (y87.leaf.items.map GItem.row),.sl 3 (y87.leaf.tombs.map GDot.row)]) ty63.choose_spec.2 rfl rfl) (zb rfl)) (sk (sk (sk (sk yK)))) ?_
      refine zo rfl rfl (ze rfl yd (zb rfl)) (sk (sk (sk (sk xI)))) ?_
      refine zo rfl rfl (ze rfl xH (zb rfl)) (sk (sk (sk (sk xT)))) ?_
      refine zK hF (fun y88 hy88 hF=>?_)
      refine zo rfl rfl (x6 rfl wo (gk (gk (gk (gk yX)))) (gk (gk (gk (gk y5)))) (vp hy88 rfl)) (sk (sk (sk (sk x9)))) ?_
      refine zo rfl rfl (qX (off:=0) (i:=0) (q:=h.toks.length+0) (z:=(IntKind.wrap .i64 ((Int.fdiv (IntKind.wrap .u64 ((IntKind.wrap .i64 (s1.1+s1.2)))) (2 ^ (min (1:Int).toNat (IntKind.bits .u64)))))).toNat) (row:=GRow.row) (fun _=>rfl) rfl ty63.choose_spec.1 (by decide) (gk (gk (gk (gk xE)))) rfl rfl (idxR hy88).2.2 (zF (cs':=[.sl 1 (y88.path.map zR),.int .u8 y88.leaf.typ,.int .i64 y88.leaf.n,.int .u64 y88.leaf.time,.int .u8 y88.leaf.dot.actor.rep,.int .u32 y88.leaf.dot.actor.inc,.int .u64 y88.leaf.dot.seq,.str y88.leaf.text,.sl 5 (y88.leaf.items.map GItem.row),.sl 3 (y88.leaf.tombs.map GDot.row)]) ty63.choose_spec.2 rfl rfl) (zb rfl)) (sk (sk (sk (sk xS)))) ?_
      refine zK hF (fun v89 hv89 hF=>?_)
      refine draw_call rfl rfl (s_callC rfl rfl (gk (gk (gk vJ))) (zg (gk (gk (gk (gk yG)))) (zg (gk (gk (gk (gk xu)))) zu)) (.cons (zb rfl) (.cons (zb rfl) .nil)) rfl) (hcmp4 _ _ _ _ _ hv89) (sk (sk (sk (sk wE)))) ?_
      refine zo rfl rfl (zr rfl (gk (gk (gk (gk x4)))) rfl rfl) (sk (sk (sk (sk yC)))) ?_
      refine zo rfl rfl (qm rfl (gk (gk (gk (gk yl)))) rfl) (sk (sk (sk (sk yz)))) ?_
      refine yc ?_
      refine zj ?_
      refine zG (gk (gk (gk (gk yh)))) hF (fun hc90 hF=>?_) (fun hc90 hF=>?_)
      ·refine zd ?_
       refine zc rfl (ze rfl xH (zb rfl)) (sk (sk (sk (sk yL)))) ?_
       refine zc rfl (zr rfl (gk (gk (gk (gk yJ)))) rfl rfl) (sk (sk (sk (sk yO)))) ?_
       refine zc rfl (zi rfl (gk (gk (gk (gk yE)))) (zb rfl)) xV ?_
       refine zf (zY (yi ?_))
       obtain rfl:=Option.some.inj hF
       exact ⟨((IntKind.wrap .i64 ((IntKind.wrap .i64 ((Int.fdiv (IntKind.wrap .u64 ((IntKind.wrap .i64 (s1.1+s1.2)))) (2 ^ (min (1:Int).toNat (IntKind.bits .u64))))))+(1:Int))),s1.2),hK1,wk.le (by exact (.eq (.eq (.eq (.eq (.eq (.d4 (.d4 (.d4 (.drop (.eq (.eq (.cons (leV.of_eq rfl) (.cons (leV.of_eq rfl) (.eq (.d16 (.d16 (.d16 (.d16 (.d16 (.d16 (.d16 (.d16 (.d16 (.d16 (.d16 (.d16 (.d4 (.drop leL.nil)))))))))))))))))))))))))))))⟩
      ·refine zd ?_
       refine zc rfl (ze rfl xH (zb rfl)) (sk (sk (sk (sk yS)))) ?_
       refine zc rfl (zi rfl (gk (gk (gk (gk yP)))) (zb rfl)) xU ?_
       refine zf (zY (yi ?_))
       obtain rfl:=Option.some.inj hF
       exact ⟨(s1.1,(IntKind.wrap .i64 ((Int.fdiv (IntKind.wrap .u64 ((IntKind.wrap .i64 (s1.1+s1.2)))) (2 ^ (min (1:Int).toNat (IntKind.bits .u64))))))),hK1,wk.le (by exact (.eq (.eq (.eq (.eq (.eq (.d4 (.d4 (.d4 (.drop (.eq (.eq (.cons (leV.of_eq rfl) (.cons (leV.of_eq rfl) (.eq (.d16 (.d16 (.d16 (.d16 (.d16 (.d16 (.d16 (.d16 (.d16 (.d16 (.d16 (.d16 (.d4 (.drop leL.nil)))))))))))))))))))))))))))))⟩
     ·refine yy ?_
      refine zT ?_
      refine zP ?_
      obtain rfl:=Option.some.inj hF
      replace hF:=hK1
      refine zQ ?_
      refine zj (zn (zd ?_))
      refine zc rfl (ze rfl xz (zb rfl)) (sk (sk (sk (sk yW)))) ?_
      refine zc rfl (ze rfl xi (zb rfl)) (sk (sk (sk (sk xa)))) ?_
      refine zc rfl (zr rfl (gk (gk (gk (gk yU)))) (gk (gk (gk (gk yR)))) rfl) (sk (sk (sk (sk xd)))) ?_
      refine zc rfl (zi rfl (gk (gk (gk (gk xb)))) (zb rfl)) wu ?_
      refine zf (zj (zn (zn (zd ?_))))
      refine zc rfl (ze rfl xi (zb rfl)) (sk (sk (sk (sk xq)))) ?_
      refine zc rfl (ze rfl yQ (zb rfl)) (sk (sk (sk (sk xr)))) ?_
      refine zc rfl (zr rfl (gk (gk (gk (gk yD)))) (gk (gk (gk (gk xz)))) rfl) (sk (sk (sk (sk xV)))) ?_
      refine zc rfl (ze rfl (gk (gk (gk (gk xi)))) (zb rfl)) (sk (sk (sk (sk xU)))) ?_
      refine zq rfl (fun hb=>ze rfl yQ (zb rfl)) (sk (sk (sk (sk wa)))) ?_
      refine zq rfl (fun hb=>ze rfl xg (zb rfl)) (sk (sk (sk (sk wh)))) ?_
      refine zq rfl (fun hb=>zr rfl (zp (gk (gk (gk (gk wb)))) hb) (zp (gk (gk (gk (gk xH)))) hb) rfl) (sk (sk (sk (sk wu)))) ?_
      refine zc rfl (zM rfl (gk (gk (gk (gk xY)))) (gk (gk (gk (gk xg)))) rfl (zS (fun ht=>gT ht))) (sk (sk (sk (sk wB)))) ?_
      refine zf (zj ?_)
      refine zG (gk (gk (gk (gk ww)))) hF (fun hc105 hF=>?_) (fun hc105 hF=>?_)
      ·refine zd ?_
       refine zc rfl (ze rfl yd (zb rfl)) (sk (sk (sk (sk va)))) ?_
       refine zc rfl (ze rfl xi (zb rfl)) (sk (sk (sk (sk wV)))) ?_
       refine zc rfl (ze rfl yQ (zb rfl)) (sk (sk (sk (sk vm)))) ?_
       refine zc rfl (ze rfl xg (zb rfl)) (sk (sk (sk (sk vu)))) ?_
       refine zc rfl (ze rfl yG (zb rfl)) (sk (sk (sk (sk vt)))) ?_
       refine zK hF (fun v106 hv106 hF=>?_)
       refine yT (B1:=[]) (T1:=[]) (B':=[.row (h.toks.length+0) 10 (v106.map GRow.row)]) rfl (zz rfl rfl rfl (zg (gk (gk (gk (gk vg)))) (zg (gk (gk (gk (gk wX)))) (zg (gk (gk (gk (gk vo)))) (zg (gk (gk (gk (gk vy)))) (zg (gk (gk (gk (gk vn)))) zu))))) (.cons (zb rfl) (.cons (zb rfl) (.cons (zb rfl) (.cons (zb rfl) (.cons (zb rfl) .nil)))))) (okR61 (by simp [AH.ext]) (by simp [AH.ext]) rfl (fun x0 x1 v L M hv=>by rw [yj];exact hcmp4 x0 x1 v _ _ hv) (fun n m h1 h2=>hlacmp4 n m (by simp [AH.ext] at h1;omega) (by simp [AH.ext] at h2;omega)) (fun n m h1 h2=>hlkcmp4 n m (by simp [AH.ext] at h1;omega) (by simp [AH.ext] at h2;omega)) hv106) rfl rfl (sk (sk (sk (sk vr)))) rfl (fun hlv106=>?_)
       refine zf (zj (zn (zn (zd ?_))))
       refine zc rfl (ze rfl yo (zb rfl)) (sk (sk (sk (sk wU)))) ?_
       refine zc rfl (ze rfl xi (zb rfl)) (sk (sk (sk (sk w9)))) ?_
       refine zc rfl (zr rfl (gk (gk (gk (gk wM)))) (gk (gk (gk (gk wW)))) rfl) (sk (sk (sk (sk wT)))) ?_
       refine zc rfl (ze rfl (gk (gk (gk (gk wL)))) (zb rfl)) (sk (sk (sk (sk wS)))) ?_
       refine zq rfl (fun hb=>ze rfl xi (zb rfl)) (sk (sk (sk (sk w8)))) ?_
       refine zq rfl (fun hb=>ze rfl yD (zb rfl)) (sk (sk (sk (sk wZ)))) ?_
       refine zq rfl (fun hb=>zr rfl (zp (gk (gk (gk (gk vf)))) hb) (zp (gk (gk (gk (gk ve)))) hb) rfl) (sk (sk (sk (sk vD)))) ?_
       refine zc rfl (zM rfl (gk (gk (gk (gk wP)))) (gk (gk (gk (gk vJ)))) rfl (zS (fun ht=>gT ht))) (sk (sk (sk (sk vC)))) ?_
       refine zf (zj ?_)
       refine zG (gk (gk (gk (gk vI)))) hF (fun hc107 hF=>?_) (fun hc107 hF=>?_)
       ·refine zd ?_
        refine zc rfl (ze rfl yd (zb rfl)) (sk (sk (sk (sk (sk st0))))) ?_
        refine zc rfl (ze rfl yo (zb rfl)) (sk (sk (sk (sk (sk st1))))) ?_
        refine zc rfl (ze rfl xi (zb rfl)) (sk (sk (sk (sk (sk xj))))) ?_
        refine zc rfl (ze rfl yD (zb rfl)) (sk (sk (sk (sk (sk wA))))) ?_
        refine zc rfl (ze rfl yG (zb rfl)) (sk (sk (sk (sk (sk yK))))) ?_
        refine zK hF (fun v108 hv108 hF=>?_)
        refine yT (B1:=[]) (T1:=[]) (B':=[.row (h.toks.length+0) 10 (v108.map GRow.row)]) rfl (zz rfl rfl rfl (zg (gk (gk (gk (gk (gk yd))))) (zg (gk (gk (gk (gk (gk yo))))) (zg (gk (gk (gk (gk (gk yQ))))) (zg (gk (gk (gk (gk (gk yY))))) (zg (gk (gk (gk (gk (gk yG))))) zu))))) (.cons (zb rfl) (.cons (zb rfl) (.cons (zb rfl) (.cons (zb rfl) (.cons (zb rfl) .nil)))))) (ih (by simp [AH.ext]) (by simp [AH.ext]) hlv106 (fun x0 x1 v L M hv=>by rw [yj];exact hcmp4 x0 x1 v _ _ hv) (fun n m h1 h2=>hlacmp4 n m (by simp [AH.ext] at h1;omega) (by simp [AH.ext] at h2;omega)) (fun n m h1 h2=>hlkcmp4 n m (by simp [AH.ext] at h1;omega) (by simp [AH.ext] at h2;omega)) hv108) rfl rfl (sk (sk (sk (sk (sk xI))))) rfl (fun hlv108=>?_)
        refine zf (zj (zn (zd ?_)))
        refine zc rfl (ze rfl yD (zb rfl)) (sk (sk (sk (sk (sk xT))))) ?_
        refine zc rfl (ze rfl xg (zb rfl)) (sk (sk (sk (sk (sk x9))))) ?_
        refine zc rfl (zr rfl (gk (gk (gk (gk (gk y5))))) (gk (gk (gk (gk (gk xE))))) rfl) (sk (sk (sk (sk (sk xS))))) ?_
        refine zc rfl (ze rfl (gk (gk (gk (gk (gk xu))))) (zb rfl)) (sk (sk (sk (sk (sk wE))))) ?_
        refine zq rfl (fun hb=>ze rfl xg (zb rfl)) (sk (sk (sk (sk (sk yC))))) ?_
        refine zq rfl (fun hb=>ze rfl yY (zb rfl)) (sk (sk (sk (sk (sk yz))))) ?_
        refine zq rfl (fun hb=>zr rfl (zp (gk (gk (gk (gk (gk yl))))) hb) (zp (gk (gk (gk (gk (gk yh))))) hb) rfl) (sk (sk (sk (sk (sk yL))))) ?_
        refine zc rfl (zM rfl (gk (gk (gk (gk (gk x4))))) (gk (gk (gk (gk (gk yJ))))) rfl (zS (fun ht=>gT ht))) (sk (sk (sk (sk (sk yO))))) ?_
        refine zf (zj ?_)
        refine zG (gk (gk (gk (gk (gk yE))))) hF (fun hc109 hF=>?_) (fun hc109 hF=>?_)
        ·refine zd ?_
         refine zc rfl (ze rfl yd (zb rfl)) (sk (sk (sk (sk (sk yS))))) ?_
         refine zc rfl (ze rfl yD (zb rfl)) (sk (sk (sk (sk (sk yW))))) ?_
         refine zc rfl (ze rfl xg (zb rfl)) (sk (sk (sk (sk (sk xa))))) ?_
         refine zc rfl (ze rfl yY (zb rfl)) (sk (sk (sk (sk (sk xd))))) ?_
         refine zc rfl (ze rfl yG (zb rfl)) (sk (sk (sk (sk (sk xq))))) ?_
         refine zK hF (fun v110 hv110 hF=>?_)
         refine yT (B1:=[]) (T1:=[]) (B':=[.row (h.toks.length+0) 10 (v110.map GRow.row)]) rfl (zz rfl rfl rfl (zg (gk (gk (gk (gk (gk yP))))) (zg (gk (gk (gk (gk (gk yU))))) (zg (gk (gk (gk (gk (gk yR))))) (zg (gk (gk (gk (gk (gk xb))))) (zg (gk (gk (gk (gk (gk yD))))) zu))))) (.cons (zb rfl) (.cons (zb rfl) (.cons (zb rfl) (.cons (zb rfl) (.cons (zb rfl) .nil)))))) (ih (by simp [AH.ext]) (by simp [AH.ext]) hlv108 (fun x0 x1 v L M hv=>by rw [yj];exact hcmp4 x0 x1 v _ _ hv) (fun n m h1 h2=>hlacmp4 n m (by simp [AH.ext] at h1;omega) (by simp [AH.ext] at h2;omega)) (fun n m h1 h2=>hlkcmp4 n m (by simp [AH.ext] at h1;omega) (by simp [AH.ext] at h2;omega)) hv110) rfl rfl (sk (sk (sk (sk (sk xr))))) rfl (fun hlv110=>?_)
         refine zf (vF ?_)
         obtain rfl:=Option.some.inj hF
         refine xf rfl zB (x5 ?_)
         exact ⟨rfl,hlv110,rfl⟩
        ·refine zH (vF ?_)
         obtain rfl:=Option.some.inj hF
         refine xf rfl zB (x5 ?_)
         exact ⟨rfl,hlv108,rfl⟩
       ·refine zH (zj (zn (zd ?_)))
        refine zc rfl (ze rfl yD (zb rfl)) (sk (sk (sk (sk (sk xT))))) ?_
        refine zc rfl (ze rfl xg (zb rfl)) (sk (sk (sk (sk (sk x9))))) ?_
        refine zc rfl (zr rfl (gk (gk (gk (gk (gk y5))))) (gk (gk (gk (gk (gk xE))))) rfl) (sk (sk (sk (sk (sk xS))))) ?_
        refine zc rfl (ze rfl (gk (gk (gk (gk (gk xu))))) (zb rfl)) (sk (sk (sk (sk (sk wE))))) ?_
        refine zq rfl (fun hb=>ze rfl xg (zb rfl)) (sk (sk (sk (sk (sk yC))))) ?_
        refine zq rfl (fun hb=>ze rfl yY (zb rfl)) (sk (sk (sk (sk (sk yz))))) ?_
        refine zq rfl (fun hb=>zr rfl (zp (gk (gk (gk (gk (gk yl))))) hb) (zp (gk (gk (gk (gk (gk yh))))) hb) rfl) (sk (sk (sk (sk (sk yL))))) ?_
        refine zc rfl (zM rfl (gk (gk (gk (gk (gk x4))))) (gk (gk (gk (gk (gk yJ))))) rfl (zS (fun ht=>gT ht))) (sk (sk (sk (sk (sk yO))))) ?_
        refine zf (zj ?_)
        refine zG (gk (gk (gk (gk (gk yE))))) hF (fun hc111 hF=>?_) (fun hc111 hF=>?_)
        ·refine zd ?_
         refine zc rfl (ze rfl yd (zb rfl)) (sk (sk (sk (sk (sk yS))))) ?_
         refine zc rfl (ze rfl yD (zb rfl)) (sk (sk (sk (sk (sk yW))))) ?_
         refine zc rfl (ze rfl xg (zb rfl)) (sk (sk (sk (sk (sk xa))))) ?_
         refine zc rfl (ze rfl yY (zb rfl)) (sk (sk (sk (sk (sk xd))))) ?_
         refine zc rfl (ze rfl yG (zb rfl)) (sk (sk (sk (sk (sk xq))))) ?_
         refine zK hF (fun v112 hv112 hF=>?_)
         refine yT (B1:=[]) (T1:=[]) (B':=[.row (h.toks.length+0) 10 (v112.map GRow.row)]) rfl (zz rfl rfl rfl (zg (gk (gk (gk (gk (gk yP))))) (zg (gk (gk (gk (gk (gk yU))))) (zg (gk (gk (gk (gk (gk yR))))) (zg (gk (gk (gk (gk (gk xb))))) (zg (gk (gk (gk (gk (gk yD))))) zu))))) (.cons (zb rfl) (.cons (zb rfl) (.cons (zb rfl) (.cons (zb rfl) (.cons (zb rfl) .nil)))))) (ih (by simp [AH.ext]) (by simp [AH.ext]) hlv106 (fun x0 x1 v L M hv=>by rw [yj];exact hcmp4 x0 x1 v _ _ hv) (fun n m h1 h2=>hlacmp4 n m (by simp [AH.ext] at h1;omega) (by simp [AH.ext] at h2;omega)) (fun n m h1 h2=>hlkcmp4 n m (by simp [AH.ext] at h1;omega) (by simp [AH.ext] at h2;omega)) hv112) rfl rfl (sk (sk (sk (sk (sk xr))))) rfl (fun hlv112=>?_)
         refine zf (vF ?_)
         obtain rfl:=Option.some.inj hF
         refine xf rfl zB (x5 ?_)
         exact ⟨rfl,hlv112,rfl⟩
        ·refine zH (vF ?_)
         obtain rfl:=Option.some.inj hF
         refine xf rfl zB (x5 ?_)
         exact ⟨rfl,hlv106,rfl⟩
      ·refine zH (zj (zn (zn (zd ?_))))
       refine zc rfl (ze rfl yo (zb rfl)) (sk (sk (sk (sk wU)))) ?_
       refine zc rfl (ze rfl xi (zb rfl)) (sk (sk (sk (sk w9)))) ?_
       refine zc rfl (zr rfl (gk (gk (gk (gk wM)))) (gk (gk (gk (gk wW)))) rfl) (sk (sk (sk (sk wT)))) ?_
       refine zc rfl (ze rfl (gk (gk (gk (gk wL)))) (zb rfl)) (sk (sk (sk (sk wS)))) ?_
       refine zq rfl (fun hb=>ze rfl xi (zb rfl)) (sk (sk (sk (sk w8)))) ?_
       refine zq rfl (fun hb=>ze rfl yD (zb rfl)) (sk (sk (sk (sk wZ)))) ?_
       refine zq rfl (fun hb=>zr rfl (zp (gk (gk (gk (gk vf)))) hb) (zp (gk (gk (gk (gk ve)))) hb) rfl) (sk (sk (sk (sk vD)))) ?_
       refine zc rfl (zM rfl (gk (gk (gk (gk wP)))) (gk (gk (gk (gk vJ)))) rfl (zS (fun ht=>gT ht))) (sk (sk (sk (sk vC)))) ?_
       refine zf (zj ?_)
       refine zG (gk (gk (gk (gk vI)))) hF (fun hc113 hF=>?_) (fun hc113 hF=>?_)
       ·refine zd ?_
        refine zc rfl (ze rfl yd (zb rfl)) (sk (sk (sk (sk (sk st0))))) ?_
        refine zc rfl (ze rfl yo (zb rfl)) (sk (sk (sk (sk (sk st1))))) ?_
        refine zc rfl (ze rfl xi (zb rfl)) (sk (sk (sk (sk (sk xj))))) ?_
        refine zc rfl (ze rfl yD (zb rfl)) (sk (sk (sk (sk (sk wA))))) ?_
        refine zc rfl (ze rfl yG (zb rfl)) (sk (sk (sk (sk (sk yK))))) ?_
        refine zK hF (fun v114 hv114 hF=>?_)
        refine yT (B1:=[]) (T1:=[]) (B':=[.row (h.toks.length+0) 10 (v114.map GRow.row)]) rfl (zz rfl rfl rfl (zg (gk (gk (gk (gk (gk yd))))) (zg (gk (gk (gk (gk (gk yo))))) (zg (gk (gk (gk (gk (gk yQ))))) (zg (gk (gk (gk (gk (gk yY))))) (zg (gk (gk (gk (gk (gk yG))))) zu))))) (.cons (zb rfl) (.cons (zb rfl) (.cons (zb rfl) (.cons (zb rfl) (.cons (zb rfl) .nil)))))) (ih (by simp [AH.ext]) (by simp [AH.ext]) rfl (fun x0 x1 v L M hv=>by rw [yj];exact hcmp4 x0 x1 v _ _ hv) (fun n m h1 h2=>hlacmp4 n m (by simp [AH.ext] at h1;omega) (by simp [AH.ext] at h2;omega)) (fun n m h1 h2=>hlkcmp4 n m (by simp [AH.ext] at h1;omega) (by simp [AH.ext] at h2;omega)) hv114) rfl rfl (sk (sk (sk (sk (sk xI))))) rfl (fun hlv114=>?_)
        refine zf (zj (zn (zd ?_)))
        refine zc rfl (ze rfl yD (zb rfl)) (sk (sk (sk (sk (sk xT))))) ?_
        refine zc rfl (ze rfl xg (zb rfl)) (sk (sk (sk (sk (sk x9))))) ?_
        refine zc rfl (zr rfl (gk (gk (gk (gk (gk y5))))) (gk (gk (gk (gk (gk xE))))) rfl) (sk (sk (sk (sk (sk xS))))) ?_
        refine zc rfl (ze rfl (gk (gk (gk (gk (gk xu))))) (zb rfl)) (sk (sk (sk (sk (sk wE))))) ?_
        refine zq rfl (fun hb=>ze rfl xg (zb rfl)) (sk (sk (sk (sk (sk yC))))) ?_
        refine zq rfl (fun hb=>ze rfl yY (zb rfl)) (sk (sk (sk (sk (sk yz))))) ?_
        refine zq rfl (fun hb=>zr rfl (zp (gk (gk (gk (gk (gk yl))))) hb) (zp (gk (gk (gk (gk (gk yh))))) hb) rfl) (sk (sk (sk (sk (sk yL))))) ?_
        refine zc rfl (zM rfl (gk (gk (gk (gk (gk x4))))) (gk (gk (gk (gk (gk yJ))))) rfl (zS (fun ht=>gT ht))) (sk (sk (sk (sk (sk yO))))) ?_
        refine zf (zj ?_)
        refine zG (gk (gk (gk (gk (gk yE))))) hF (fun hc115 hF=>?_) (fun hc115 hF=>?_)
        ·refine zd ?_
         refine zc rfl (ze rfl yd (zb rfl)) (sk (sk (sk (sk (sk yS))))) ?_
         refine zc rfl (ze rfl yD (zb rfl)) (sk (sk (sk (sk (sk yW))))) ?_
         refine zc rfl (ze rfl xg (zb rfl)) (sk (sk (sk (sk (sk xa))))) ?_
         refine zc rfl (ze rfl yY (zb rfl)) (sk (sk (sk (sk (sk xd))))) ?_
         refine zc rfl (ze rfl yG (zb rfl)) (sk (sk (sk (sk (sk xq))))) ?_
         refine zK hF (fun v116 hv116 hF=>?_)
         refine yT (B1:=[]) (T1:=[]) (B':=[.row (h.toks.length+0) 10 (v116.map GRow.row)]) rfl (zz rfl rfl rfl (zg (gk (gk (gk (gk (gk yP))))) (zg (gk (gk (gk (gk (gk yU))))) (zg (gk (gk (gk (gk (gk yR))))) (zg (gk (gk (gk (gk (gk xb))))) (zg (gk (gk (gk (gk (gk yD))))) zu))))) (.cons (zb rfl) (.cons (zb rfl) (.cons (zb rfl) (.cons (zb rfl) (.cons (zb rfl) .nil)))))) (ih (by simp [AH.ext]) (by simp [AH.ext]) hlv114 (fun x0 x1 v L M hv=>by rw [yj];exact hcmp4 x0 x1 v _ _ hv) (fun n m h1 h2=>hlacmp4 n m (by simp [AH.ext] at h1;omega) (by simp [AH.ext] at h2;omega)) (fun n m h1 h2=>hlkcmp4 n m (by simp [AH.ext] at h1;omega) (by simp [AH.ext] at h2;omega)) hv116) rfl rfl (sk (sk (sk (sk (sk xr))))) rfl (fun hlv116=>?_)
         refine zf (vF ?_)
         obtain rfl:=Option.some.inj hF
         refine xf rfl zB (x5 ?_)
         exact ⟨rfl,hlv116,rfl⟩
        ·refine zH (vF ?_)
         obtain rfl:=Option.some.inj hF
         refine xf rfl zB (x5 ?_)
         exact ⟨rfl,hlv114,rfl⟩
       ·refine zH (zj (zn (zd ?_)))
        refine zc rfl (ze rfl yD (zb rfl)) (sk (sk (sk (sk (sk xT))))) ?_
        refine zc rfl (ze rfl xg (zb rfl)) (sk (sk (sk (sk (sk x9))))) ?_
        refine zc rfl (zr rfl (gk (gk (gk (gk (gk y5))))) (gk (gk (gk (gk (gk xE))))) rfl) (sk (sk (sk (sk (sk xS))))) ?_
        refine zc rfl (ze rfl (gk (gk (gk (gk (gk xu))))) (zb rfl)) (sk (sk (sk (sk (sk wE))))) ?_
        refine zq rfl (fun hb=>ze rfl xg (zb rfl)) (sk (sk (sk (sk (sk yC))))) ?_
        refine zq rfl (fun hb=>ze rfl yY (zb rfl)) (sk (sk (sk (sk (sk yz))))) ?_
        refine zq rfl (fun hb=>zr rfl (zp (gk (gk (gk (gk (gk yl))))) hb) (zp (gk (gk (gk (gk (gk yh))))) hb) rfl) (sk (sk (sk (sk (sk yL))))) ?_
        refine zc rfl (zM rfl (gk (gk (gk (gk (gk x4))))) (gk (gk (gk (gk (gk yJ))))) rfl (zS (fun ht=>gT ht))) (sk (sk (sk (sk (sk yO))))) ?_
        refine zf (zj ?_)
        refine zG (gk (gk (gk (gk (gk yE))))) hF (fun hc117 hF=>?_) (fun hc117 hF=>?_)
        ·refine zd ?_
         refine zc rfl (ze rfl yd (zb rfl)) (sk (sk (sk (sk (sk yS))))) ?_
         refine zc rfl (ze rfl yD (zb rfl)) (sk (sk (sk (sk (sk yW))))) ?_
         refine zc rfl (ze rfl xg (zb rfl)) (sk (sk (sk (sk (sk xa))))) ?_
         refine zc rfl (ze rfl yY (zb rfl)) (sk (sk (sk (sk (sk xd))))) ?_
         refine zc rfl (ze rfl yG (zb rfl)) (sk (sk (sk (sk (sk xq))))) ?_
         refine zK hF (fun v118 hv118 hF=>?_)
         refine yT (B1:=[]) (T1:=[]) (B':=[.row (h.toks.length+0) 10 (v118.map GRow.row)]) rfl (zz rfl rfl rfl (zg (gk (gk (gk (gk (gk yP))))) (zg (gk (gk (gk (gk (gk yU))))) (zg (gk (gk (gk (gk (gk yR))))) (zg (gk (gk (gk (gk (gk xb))))) (zg (gk (gk (gk (gk (gk yD))))) zu))))) (.cons (zb rfl) (.cons (zb rfl) (.cons (zb rfl) (.cons (zb rfl) (.cons (zb rfl) .nil)))))) (ih (by simp [AH.ext]) (by simp [AH.ext]) rfl (fun x0 x1 v L M hv=>by rw [yj];exact hcmp4 x0 x1 v _ _ hv) (fun n m h1 h2=>hlacmp4 n m (by simp [AH.ext] at h1;omega) (by simp [AH.ext] at h2;omega)) (fun n m h1 h2=>hlkcmp4 n m (by simp [AH.ext] at h1;omega) (by simp [AH.ext] at h2;omega)) hv118) rfl rfl (sk (sk (sk (sk (sk xr))))) rfl (fun hlv118=>?_)
         refine zf (vF ?_)
         obtain rfl:=Option.some.inj hF
         refine xf rfl zB (x5 ?_)
         exact ⟨rfl,hlv118,rfl⟩
        ·refine zH (vF ?_)
         obtain rfl:=Option.some.inj hF
         refine xf rfl zB (x5 ?_)
         exact ⟨rfl,rfl,rfl⟩
    ·refine zn (zd ?_)
     refine zc rfl (ze rfl yo (zb rfl)) (sk (sk (sk wB))) ?_
     refine zc rfl (zi rfl (gk (gk (gk ww))) (zb rfl)) xV ?_
     refine zf (zj (zd ?_))
     refine zc rfl (ze rfl yQ (zb rfl)) (sk (sk (sk va))) ?_
     refine zc rfl (zi rfl (gk (gk (gk vg))) (zb rfl)) xU ?_
     refine zf (zj (zn (zd ?_)))
     refine zc rfl (ze rfl xz (zb rfl)) (sk (sk (sk wV))) ?_
     refine zc rfl (zr rfl (gk (gk (gk wX))) rfl rfl) (sk (sk (sk vm))) ?_
     refine zc rfl (zi rfl (gk (gk (gk vo))) (zb rfl)) wa ?_
     refine zf (zj (zn (zI ?_)))
     refine wn (fun (s1:Int×Int)=>yv [5,6,7,8,9,10,11,12,13,14,15,16,17,23,24,25,26,27,28,29,30,31,32,33,34,35,36,37,38,39,40,41,42,43,44,45,46,47,48,49,50,51,52,53,54,55,56,57,58,59,60,61,62,63,64,65,66,67,68,69,70,71,72,73,74,75,76,77,78,79,80,81,82,83,84,85,86,87,88,89,90,91,92,93,94,95,96,97,98,99,100,101,102,103,104,105,106,107,108,109,110,111,112,113,114,115,116,117,118,119,120,121,122,123,124,125,126,127,128,129,130,131,132,133,134,135,136,137,138,139,140,141,142,143,144,145,146,147,148,149,150,151,152,153,154,155,156,157,158,159,160,161,162,163,164,165,166,167,168,169,170,171,172,173,174,175,176,177,178,179,180,181,182,183,184,185,186,187,188,189,190,191,192,193,194,195,196,197,198,199,200,201,202,203,204,205,206,207,208,209,210,211,212,213,214,215,216,217,218,219] [(20,.int .i64 s1.1),(21,.int .i64 s1.2)]) (fun s1=>h.ext [.row (h.toks.length+0) 10 (data0.map GRow.row)] [data0.length]) hF (fun _=>by simp only [yv,upd,List.set_cons_succ,List.set_cons_zero];try rfl) (wk.le (by exact (.eq (.eq (.eq (.eq (.eq (.d4 (.d4 (.d4 (.drop (.eq (.eq (.cons (leV.of_eq rfl) (.cons (leV.of_eq rfl) (.eq (.d16 (.d16 (.d16 (.d16 (.d16 (.d16 (.d16 (.d16 (.d16 (.d16 (.d16 (.d16 (.d4 (.drop leL.nil)))))))))))))))))))))))))))))) ?_
     intro n1 s1 o1 hF hK1
     refine zn (zn (zd ?_))
     refine zc rfl (ze rfl xi (zb rfl)) (sk (sk (sk vu))) ?_
     refine zc rfl (ze rfl xY (zb rfl)) (sk (sk (sk vt))) ?_
     refine zc rfl (zr rfl (gk (gk (gk vy))) (gk (gk (gk vn))) rfl) (sk (sk (sk vr))) ?_
     refine zf (zj ?_)
     refine zG (gk (gk (gk vU))) hF (fun hc127 hF=>?_) (fun hc127 hF=>?_)
     ·refine zH (zj (zI (zn (zd ?_))))
      refine zc rfl (ze rfl xi (zb rfl)) (sk (sk (sk wU))) ?_
      refine zc rfl (ze rfl xY (zb rfl)) (sk (sk (sk w9))) ?_
      refine zc rfl (zr rfl (gk (gk (gk wM))) (gk (gk (gk wW))) rfl) (sk (sk (sk wT))) ?_
      refine zc rfl (y6 rfl ty3 ty103 (gk (gk (gk wL))) rfl) (sk (sk (sk wS))) ?_
      refine zc rfl (zr rfl (gk (gk (gk wP))) rfl rfl) (sk (sk (sk w8))) ?_
      refine zc rfl (y6 rfl ty103 ty3 (gk (gk (gk vf))) rfl) (sk (sk (sk wZ))) ?_
      refine zc rfl (zi rfl (gk (gk (gk ve))) (zb rfl)) wh ?_
      refine zf (zj (zn ?_))
      refine yr [] [] trivial xF (by kernel_rfl) ?_
      refine zo rfl rfl (ze rfl yG (zb rfl)) (sk (sk (sk vD))) ?_
      refine zo rfl rfl (ze rfl yd (zb rfl)) (sk (sk (sk vC))) ?_
      refine zo rfl rfl (ze rfl wb (zb rfl)) (sk (sk (sk (sk st0)))) ?_
      refine zo rfl rfl (ze rfl xH (zb rfl)) (sk (sk (sk (sk st1)))) ?_
      refine zo rfl rfl (zr rfl (gk (gk (gk (gk yd)))) (gk (gk (gk (gk yo)))) rfl) (sk (sk (sk (sk xj)))) ?_
      refine zK hF (fun y128 hy128 hF=>?_)
      refine zo rfl rfl (x6 rfl wo (gk (gk (gk vI))) (gk (gk (gk (gk yQ)))) (vp hy128 rfl)) (sk (sk (sk (sk wA)))) ?_
      refine zo rfl rfl (qX (off:=0) (i:=0) (q:=h.toks.length+0) (z:=(IntKind.wrap .i64 ((IntKind.wrap .i64 ((IntKind.wrap .i64 ((IntKind.wrap .i64 ((Int.fdiv (IntKind.wrap .u64 ((IntKind.wrap .i64 (a1+b3)))) (2 ^ (min (1:Int).toNat (IntKind.bits .u64))))))+m2)) - (1:Int))) - (IntKind.wrap .i64 ((Int.fdiv (IntKind.wrap .u64 ((IntKind.wrap .i64 (s1.1+s1.2)))) (2 ^ (min (1:Int).toNat (IntKind.bits .u64)))))))).toNat) (row:=GRow.row) (fun _=>rfl) rfl ty63.choose_spec.1 (by decide) (gk (gk (gk (gk yY)))) rfl rfl (idxR hy128).2.2 (zF (cs':=[.sl 1 (y128.path.map zR),.int .u8 y128.leaf.typ,.int .i64 y128.leaf.n,.int .u64 y128.leaf.time,.int .u8 y128.leaf.dot.actor.rep,.int .u32 y128.leaf.dot.actor.inc,.int .u64 y128.leaf.dot.seq,.str y128.leaf.text,.sl 5 (y128.leaf.items.map GItem.row),.sl 3 (y128.leaf.tombs.map GDot.row)]) ty63.choose_spec.2 rfl rfl) (zb rfl)) (sk (sk (sk (sk yK)))) ?_
      refine zo rfl rfl (ze rfl yd (zb rfl)) (sk (sk (sk (sk xI)))) ?_
      refine zo rfl rfl (ze rfl xH (zb rfl)) (sk (sk (sk (sk xT)))) ?_
      refine zK hF (fun y129 hy129 hF=>?_)
      refine zo rfl rfl (x6 rfl wo (gk (gk (gk (gk yX)))) (gk (gk (gk (gk y5)))) (vp hy129 rfl)) (sk (sk (sk (sk x9)))) ?_
      refine zo rfl rfl (qX (off:=0) (i:=0) (q:=h.toks.length+0) (z:=(IntKind.wrap .i64 ((Int.fdiv (IntKind.wrap .u64 ((IntKind.wrap .i64 (s1.1+s1.2)))) (2 ^ (min (1:Int).toNat (IntKind.bits .u64)))))).toNat) (row:=GRow.row) (fun _=>rfl) rfl ty63.choose_spec.1 (by decide) (gk (gk (gk (gk xE)))) rfl rfl (idxR hy129).2.2 (zF (cs':=[.sl 1 (y129.path.map zR),.int .u8 y129.leaf.typ,.int .i64 y129.leaf.n,.int .u64 y129.leaf.time,.int .u8 y129.leaf.dot.actor.rep,.int .u32 y129.leaf.dot.actor.inc,.int .u64 y129.leaf.dot.seq,.str y129.leaf.text,.sl 5 (y129.leaf.items.map GItem.row),.sl 3 (y129.leaf.tombs.map GDot.row)]) ty63.choose_spec.2 rfl rfl) (zb rfl)) (sk (sk (sk (sk xS)))) ?_
      refine zK hF (fun v130 hv130 hF=>?_)
      refine draw_call rfl rfl (s_callC rfl rfl (gk (gk (gk vJ))) (zg (gk (gk (gk (gk yG)))) (zg (gk (gk (gk (gk xu)))) zu)) (.cons (zb rfl) (.cons (zb rfl) .nil)) rfl) (hcmp4 _ _ _ _ _ hv130) (sk (sk (sk (sk wE)))) ?_
      refine zo rfl rfl (zr rfl (gk (gk (gk (gk x4)))) rfl rfl) (sk (sk (sk (sk yC)))) ?_
      refine zo rfl rfl (qm rfl (gk (gk (gk (gk yl)))) rfl) (sk (sk (sk (sk yz)))) ?_
      refine yc ?_
      refine zj ?_
      refine zG (gk (gk (gk (gk yh)))) hF (fun hc131 hF=>?_) (fun hc131 hF=>?_)
      ·refine zd ?_
       refine zc rfl (ze rfl xH (zb rfl)) (sk (sk (sk (sk yL)))) ?_
       refine zc rfl (zr rfl (gk (gk (gk (gk yJ)))) rfl rfl) (sk (sk (sk (sk yO)))) ?_
       refine zc rfl (zi rfl (gk (gk (gk (gk yE)))) (zb rfl)) xV ?_
       refine zf (zY (yi ?_))
       obtain rfl:=Option.some.inj hF
       exact ⟨((IntKind.wrap .i64 ((IntKind.wrap .i64 ((Int.fdiv (IntKind.wrap .u64 ((IntKind.wrap .i64 (s1.1+s1.2)))) (2 ^ (min (1:Int).toNat (IntKind.bits .u64))))))+(1:Int))),s1.2),hK1,wk.le (by exact (.eq (.eq (.eq (.eq (.eq (.d4 (.d4 (.d4 (.drop (.eq (.eq (.cons (leV.of_eq rfl) (.cons (leV.of_eq rfl) (.eq (.d16 (.d16 (.d16 (.d16 (.d16 (.d16 (.d16 (.d16 (.d16 (.d16 (.d16 (.d16 (.d4 (.drop leL.nil)))))))))))))))))))))))))))))⟩
      ·refine zd ?_
       refine zc rfl (ze rfl xH (zb rfl)) (sk (sk (sk (sk yS)))) ?_
       refine zc rfl (zi rfl (gk (gk (gk (gk yP)))) (zb rfl)) xU ?_
       refine zf (zY (yi ?_))
       obtain rfl:=Option.some.inj hF
       exact ⟨(s1.1,(IntKind.wrap .i64 ((Int.fdiv (IntKind.wrap .u64 ((IntKind.wrap .i64 (s1.1+s1.2)))) (2 ^ (min (1:Int).toNat (IntKind.bits .u64))))))),hK1,wk.le (by exact (.eq (.eq (.eq (.eq (.eq (.d4 (.d4 (.d4 (.drop (.eq (.eq (.cons (leV.of_eq rfl) (.cons (leV.of_eq rfl) (.eq (.d16 (.d16 (.d16 (.d16 (.d16 (.d16 (.d16 (.d16 (.d16 (.d16 (.d16 (.d16 (.d4 (.drop leL.nil)))))))))))))))))))))))))))))⟩
     ·refine yy ?_
      refine zT ?_
      refine zP ?_
      obtain rfl:=Option.some.inj hF
      replace hF:=hK1
      refine zQ ?_
      refine zj (zn (zd ?_))
      refine zc rfl (ze rfl xz (zb rfl)) (sk (sk (sk (sk yW)))) ?_
      refine zc rfl (ze rfl xi (zb rfl)) (sk (sk (sk (sk xa)))) ?_
      refine zc rfl (zr rfl (gk (gk (gk (gk yU)))) (gk (gk (gk (gk yR)))) rfl) (sk (sk (sk (sk xd)))) ?_
      refine zc rfl (zi rfl (gk (gk (gk (gk xb)))) (zb rfl)) wu ?_
      refine zf (zj (zn (zn (zd ?_))))
      refine zc rfl (ze rfl xi (zb rfl)) (sk (sk (sk (sk xq)))) ?_
      refine zc rfl (ze rfl yQ (zb rfl)) (sk (sk (sk (sk xr)))) ?_
      refine zc rfl (zr rfl (gk (gk (gk (gk yD)))) (gk (gk (gk (gk xz)))) rfl) (sk (sk (sk (sk xV)))) ?_
      refine zc rfl (ze rfl (gk (gk (gk (gk xi)))) (zb rfl)) (sk (sk (sk (sk xU)))) ?_
      refine zq rfl (fun hb=>ze rfl yQ (zb rfl)) (sk (sk (sk (sk wa)))) ?_
      refine zq rfl (fun hb=>ze rfl xg (zb rfl)) (sk (sk (sk (sk wh)))) ?_
      refine zq rfl (fun hb=>zr rfl (zp (gk (gk (gk (gk wb)))) hb) (zp (gk (gk (gk (gk xH)))) hb) rfl) (sk (sk (sk (sk wu)))) ?_
      refine zc rfl (zM rfl (gk (gk (gk (gk xY)))) (gk (gk (gk (gk xg)))) rfl (zS (fun ht=>gT ht))) (sk (sk (sk (sk wB)))) ?_
      refine zf (zj ?_)
      refine zG (gk (gk (gk (gk ww)))) hF (fun hc146 hF=>?_) (fun hc146 hF=>?_)
      ·refine zd ?_
       refine zc rfl (ze rfl yd (zb rfl)) (sk (sk (sk (sk va)))) ?_
       refine zc rfl (ze rfl xi (zb rfl)) (sk (sk (sk (sk wV)))) ?_
       refine zc rfl (ze rfl yQ (zb rfl)) (sk (sk (sk (sk vm)))) ?_
       refine zc rfl (ze rfl xg (zb rfl)) (sk (sk (sk (sk vu)))) ?_
       refine zc rfl (ze rfl yG (zb rfl)) (sk (sk (sk (sk vt)))) ?_
       refine zK hF (fun v147 hv147 hF=>?_)
       refine yT (B1:=[]) (T1:=[]) (B':=[.row (h.toks.length+0) 10 (v147.map GRow.row)]) rfl (zz rfl rfl rfl (zg (gk (gk (gk (gk vg)))) (zg (gk (gk (gk (gk wX)))) (zg (gk (gk (gk (gk vo)))) (zg (gk (gk (gk (gk vy)))) (zg (gk (gk (gk (gk vn)))) zu))))) (.cons (zb rfl) (.cons (zb rfl) (.cons (zb rfl) (.cons (zb rfl) (.cons (zb rfl) .nil)))))) (okR61 (by simp [AH.ext]) (by simp [AH.ext]) rfl (fun x0 x1 v L M hv=>by rw [yj];exact hcmp4 x0 x1 v _ _ hv) (fun n m h1 h2=>hlacmp4 n m (by simp [AH.ext] at h1;omega) (by simp [AH.ext] at h2;omega)) (fun n m h1 h2=>hlkcmp4 n m (by simp [AH.ext] at h1;omega) (by simp [AH.ext] at h2;omega)) hv147) rfl rfl (sk (sk (sk (sk vr)))) rfl (fun hlv147=>?_)
       refine zf (zj (zn (zn (zd ?_))))
       refine zc rfl (ze rfl yo (zb rfl)) (sk (sk (sk (sk wU)))) ?_
       refine zc rfl (ze rfl xi (zb rfl)) (sk (sk (sk (sk w9)))) ?_
       refine zc rfl (zr rfl (gk (gk (gk (gk wM)))) (gk (gk (gk (gk wW)))) rfl) (sk (sk (sk (sk wT)))) ?_
       refine zc rfl (ze rfl (gk (gk (gk (gk wL)))) (zb rfl)) (sk (sk (sk (sk wS)))) ?_
       refine zq rfl (fun hb=>ze rfl xi (zb rfl)) (sk (sk (sk (sk w8)))) ?_
       refine zq rfl (fun hb=>ze rfl yD (zb rfl)) (sk (sk (sk (sk wZ)))) ?_
       refine zq rfl (fun hb=>zr rfl (zp (gk (gk (gk (gk vf)))) hb) (zp (gk (gk (gk (gk ve)))) hb) rfl) (sk (sk (sk (sk vD)))) ?_
       refine zc rfl (zM rfl (gk (gk (gk (gk wP)))) (gk (gk (gk (gk vJ)))) rfl (zS (fun ht=>gT ht))) (sk (sk (sk (sk vC)))) ?_
       refine zf (zj ?_)
       refine zG (gk (gk (gk (gk vI)))) hF (fun hc148 hF=>?_) (fun hc148 hF=>?_)
       ·refine zd ?_
        refine zc rfl (ze rfl yd (zb rfl)) (sk (sk (sk (sk (sk st0))))) ?_
        refine zc rfl (ze rfl yo (zb rfl)) (sk (sk (sk (sk (sk st1))))) ?_
        refine zc rfl (ze rfl xi (zb rfl)) (sk (sk (sk (sk (sk xj))))) ?_
        refine zc rfl (ze rfl yD (zb rfl)) (sk (sk (sk (sk (sk wA))))) ?_
        refine zc rfl (ze rfl yG (zb rfl)) (sk (sk (sk (sk (sk yK))))) ?_
        refine zK hF (fun v149 hv149 hF=>?_)
        refine yT (B1:=[]) (T1:=[]) (B':=[.row (h.toks.length+0) 10 (v149.map GRow.row)]) rfl (zz rfl rfl rfl (zg (gk (gk (gk (gk (gk yd))))) (zg (gk (gk (gk (gk (gk yo))))) (zg (gk (gk (gk (gk (gk yQ))))) (zg (gk (gk (gk (gk (gk yY))))) (zg (gk (gk (gk (gk (gk yG))))) zu))))) (.cons (zb rfl) (.cons (zb rfl) (.cons (zb rfl) (.cons (zb rfl) (.cons (zb rfl) .nil)))))) (ih (by simp [AH.ext]) (by simp [AH.ext]) hlv147 (fun x0 x1 v L M hv=>by rw [yj];exact hcmp4 x0 x1 v _ _ hv) (fun n m h1 h2=>hlacmp4 n m (by simp [AH.ext] at h1;omega) (by simp [AH.ext] at h2;omega)) (fun n m h1 h2=>hlkcmp4 n m (by simp [AH.ext] at h1;omega) (by simp [AH.ext] at h2;omega)) hv149) rfl rfl (sk (sk (sk (sk (sk xI))))) rfl (fun hlv149=>?_)
        refine zf (zj (zn (zd ?_)))
        refine zc rfl (ze rfl yD (zb rfl)) (sk (sk (sk (sk (sk xT))))) ?_
        refine zc rfl (ze rfl xg (zb rfl)) (sk (sk (sk (sk (sk x9))))) ?_
        refine zc rfl (zr rfl (gk (gk (gk (gk (gk y5))))) (gk (gk (gk (gk (gk xE))))) rfl) (sk (sk (sk (sk (sk xS))))) ?_
        refine zc rfl (ze rfl (gk (gk (gk (gk (gk xu))))) (zb rfl)) (sk (sk (sk (sk (sk wE))))) ?_
        refine zq rfl (fun hb=>ze rfl xg (zb rfl)) (sk (sk (sk (sk (sk yC))))) ?_
        refine zq rfl (fun hb=>ze rfl yY (zb rfl)) (sk (sk (sk (sk (sk yz))))) ?_
        refine zq rfl (fun hb=>zr rfl (zp (gk (gk (gk (gk (gk yl))))) hb) (zp (gk (gk (gk (gk (gk yh))))) hb) rfl) (sk (sk (sk (sk (sk yL))))) ?_
        refine zc rfl (zM rfl (gk (gk (gk (gk (gk x4))))) (gk (gk (gk (gk (gk yJ))))) rfl (zS (fun ht=>gT ht))) (sk (sk (sk (sk (sk yO))))) ?_
        refine zf (zj ?_)
        refine zG (gk (gk (gk (gk (gk yE))))) hF (fun hc150 hF=>?_) (fun hc150 hF=>?_)
        ·refine zd ?_
         refine zc rfl (ze rfl yd (zb rfl)) (sk (sk (sk (sk (sk yS))))) ?_
         refine zc rfl (ze rfl yD (zb rfl)) (sk (sk (sk (sk (sk yW))))) ?_
         refine zc rfl (ze rfl xg (zb rfl)) (sk (sk (sk (sk (sk xa))))) ?_
         refine zc rfl (ze rfl yY (zb rfl)) (sk (sk (sk (sk (sk xd))))) ?_
         refine zc rfl (ze rfl yG (zb rfl)) (sk (sk (sk (sk (sk xq))))) ?_
         refine zK hF (fun v151 hv151 hF=>?_)
         refine yT (B1:=[]) (T1:=[]) (B':=[.row (h.toks.length+0) 10 (v151.map GRow.row)]) rfl (zz rfl rfl rfl (zg (gk (gk (gk (gk (gk yP))))) (zg (gk (gk (gk (gk (gk yU))))) (zg (gk (gk (gk (gk (gk yR))))) (zg (gk (gk (gk (gk (gk xb))))) (zg (gk (gk (gk (gk (gk yD))))) zu))))) (.cons (zb rfl) (.cons (zb rfl) (.cons (zb rfl) (.cons (zb rfl) (.cons (zb rfl) .nil)))))) (ih (by simp [AH.ext]) (by simp [AH.ext]) hlv149 (fun x0 x1 v L M hv=>by rw [yj];exact hcmp4 x0 x1 v _ _ hv) (fun n m h1 h2=>hlacmp4 n m (by simp [AH.ext] at h1;omega) (by simp [AH.ext] at h2;omega)) (fun n m h1 h2=>hlkcmp4 n m (by simp [AH.ext] at h1;omega) (by simp [AH.ext] at h2;omega)) hv151) rfl rfl (sk (sk (sk (sk (sk xr))))) rfl (fun hlv151=>?_)
         refine zf (vF ?_)
         obtain rfl:=Option.some.inj hF
         refine xf rfl zB (x5 ?_)
         exact ⟨rfl,hlv151,rfl⟩
        ·refine zH (vF ?_)
         obtain rfl:=Option.some.inj hF
         refine xf rfl zB (x5 ?_)
         exact ⟨rfl,hlv149,rfl⟩
       ·refine zH (zj (zn (zd ?_)))
        refine zc rfl (ze rfl yD (zb rfl)) (sk (sk (sk (sk (sk xT))))) ?_
        refine zc rfl (ze rfl xg (zb rfl)) (sk (sk (sk (sk (sk x9))))) ?_
        refine zc rfl (zr rfl (gk (gk (gk (gk (gk y5))))) (gk (gk (gk (gk (gk xE))))) rfl) (sk (sk (sk (sk (sk xS))))) ?_
        refine zc rfl (ze rfl (gk (gk (gk (gk (gk xu))))) (zb rfl)) (sk (sk (sk (sk (sk wE))))) ?_
        refine zq rfl (fun hb=>ze rfl xg (zb rfl)) (sk (sk (sk (sk (sk yC))))) ?_
        refine zq rfl (fun hb=>ze rfl yY (zb rfl)) (sk (sk (sk (sk (sk yz))))) ?_
        refine zq rfl (fun hb=>zr rfl (zp (gk (gk (gk (gk (gk yl))))) hb) (zp (gk (gk (gk (gk (gk yh))))) hb) rfl) (sk (sk (sk (sk (sk yL))))) ?_
        refine zc rfl (zM rfl (gk (gk (gk (gk (gk x4))))) (gk (gk (gk (gk (gk yJ))))) rfl (zS (fun ht=>gT ht))) (sk (sk (sk (sk (sk yO))))) ?_
        refine zf (zj ?_)
        refine zG (gk (gk (gk (gk (gk yE))))) hF (fun hc152 hF=>?_) (fun hc152 hF=>?_)
        ·refine zd ?_
         refine zc rfl (ze rfl yd (zb rfl)) (sk (sk (sk (sk (sk yS))))) ?_
         refine zc rfl (ze rfl yD (zb rfl)) (sk (sk (sk (sk (sk yW))))) ?_
         refine zc rfl (ze rfl xg (zb rfl)) (sk (sk (sk (sk (sk xa))))) ?_
         refine zc rfl (ze rfl yY (zb rfl)) (sk (sk (sk (sk (sk xd))))) ?_
         refine zc rfl (ze rfl yG (zb rfl)) (sk (sk (sk (sk (sk xq))))) ?_
         refine zK hF (fun v153 hv153 hF=>?_)
         refine yT (B1:=[]) (T1:=[]) (B':=[.row (h.toks.length+0) 10 (v153.map GRow.row)]) rfl (zz rfl rfl rfl (zg (gk (gk (gk (gk (gk yP))))) (zg (gk (gk (gk (gk (gk yU))))) (zg (gk (gk (gk (gk (gk yR))))) (zg (gk (gk (gk (gk (gk xb))))) (zg (gk (gk (gk (gk (gk yD))))) zu))))) (.cons (zb rfl) (.cons (zb rfl) (.cons (zb rfl) (.cons (zb rfl) (.cons (zb rfl) .nil)))))) (ih (by simp [AH.ext]) (by simp [AH.ext]) hlv147 (fun x0 x1 v L M hv=>by rw [yj];exact hcmp4 x0 x1 v _ _ hv) (fun n m h1 h2=>hlacmp4 n m (by simp [AH.ext] at h1;omega) (by simp [AH.ext] at h2;omega)) (fun n m h1 h2=>hlkcmp4 n m (by simp [AH.ext] at h1;omega) (by simp [AH.ext] at h2;omega)) hv153) rfl rfl (sk (sk (sk (sk (sk xr))))) rfl (fun hlv153=>?_)
         refine zf (vF ?_)
         obtain rfl:=Option.some.inj hF
         refine xf rfl zB (x5 ?_)
         exact ⟨rfl,hlv153,rfl⟩
        ·refine zH (vF ?_)
         obtain rfl:=Option.some.inj hF
         refine xf rfl zB (x5 ?_)
         exact ⟨rfl,hlv147,rfl⟩
      ·refine zH (zj (zn (zn (zd ?_))))
       refine zc rfl (ze rfl yo (zb rfl)) (sk (sk (sk (sk wU)))) ?_
       refine zc rfl (ze rfl xi (zb rfl)) (sk (sk (sk (sk w9)))) ?_
       refine zc rfl (zr rfl (gk (gk (gk (gk wM)))) (gk (gk (gk (gk wW)))) rfl) (sk (sk (sk (sk wT)))) ?_
       refine zc rfl (ze rfl (gk (gk (gk (gk wL)))) (zb rfl)) (sk (sk (sk (sk wS)))) ?_
       refine zq rfl (fun hb=>ze rfl xi (zb rfl)) (sk (sk (sk (sk w8)))) ?_
       refine zq rfl (fun hb=>ze rfl yD (zb rfl)) (sk (sk (sk (sk wZ)))) ?_
       refine zq rfl (fun hb=>zr rfl (zp (gk (gk (gk (gk vf)))) hb) (zp (gk (gk (gk (gk ve)))) hb) rfl) (sk (sk (sk (sk vD)))) ?_
       refine zc rfl (zM rfl (gk (gk (gk (gk wP)))) (gk (gk (gk (gk vJ)))) rfl (zS (fun ht=>gT ht))) (sk (sk (sk (sk vC)))) ?_
       refine zf (zj ?_)
       refine zG (gk (gk (gk (gk vI)))) hF (fun hc154 hF=>?_) (fun hc154 hF=>?_)
       ·refine zd ?_
        refine zc rfl (ze rfl yd (zb rfl)) (sk (sk (sk (sk (sk st0))))) ?_
        refine zc rfl (ze rfl yo (zb rfl)) (sk (sk (sk (sk (sk st1))))) ?_
        refine zc rfl (ze rfl xi (zb rfl)) (sk (sk (sk (sk (sk xj))))) ?_
        refine zc rfl (ze rfl yD (zb rfl)) (sk (sk (sk (sk (sk wA))))) ?_
        refine zc rfl (ze rfl yG (zb rfl)) (sk (sk (sk (sk (sk yK))))) ?_
        refine zK hF (fun v155 hv155 hF=>?_)
        refine yT (B1:=[]) (T1:=[]) (B':=[.row (h.toks.length+0) 10 (v155.map GRow.row)]) rfl (zz rfl rfl rfl (zg (gk (gk (gk (gk (gk yd))))) (zg (gk (gk (gk (gk (gk yo))))) (zg (gk (gk (gk (gk (gk yQ))))) (zg (gk (gk (gk (gk (gk yY))))) (zg (gk (gk (gk (gk (gk yG))))) zu))))) (.cons (zb rfl) (.cons (zb rfl) (.cons (zb rfl) (.cons (zb rfl) (.cons (zb rfl) .nil)))))) (ih (by simp [AH.ext]) (by simp [AH.ext]) rfl (fun x0 x1 v L M hv=>by rw [yj];exact hcmp4 x0 x1 v _ _ hv) (fun n m h1 h2=>hlacmp4 n m (by simp [AH.ext] at h1;omega) (by simp [AH.ext] at h2;omega)) (fun n m h1 h2=>hlkcmp4 n m (by simp [AH.ext] at h1;omega) (by simp [AH.ext] at h2;omega)) hv155) rfl rfl (sk (sk (sk (sk (sk xI))))) rfl (fun hlv155=>?_)
        refine zf (zj (zn (zd ?_)))
        refine zc rfl (ze rfl yD (zb rfl)) (sk (sk (sk (sk (sk xT))))) ?_
        refine zc rfl (ze rfl xg (zb rfl)) (sk (sk (sk (sk (sk x9))))) ?_
        refine zc rfl (zr rfl (gk (gk (gk (gk (gk y5))))) (gk (gk (gk (gk (gk xE))))) rfl) (sk (sk (sk (sk (sk xS))))) ?_
        refine zc rfl (ze rfl (gk (gk (gk (gk (gk xu))))) (zb rfl)) (sk (sk (sk (sk (sk wE))))) ?_
        refine zq rfl (fun hb=>ze rfl xg (zb rfl)) (sk (sk (sk (sk (sk yC))))) ?_
        refine zq rfl (fun hb=>ze rfl yY (zb rfl)) (sk (sk (sk (sk (sk yz))))) ?_
        refine zq rfl (fun hb=>zr rfl (zp (gk (gk (gk (gk (gk yl))))) hb) (zp (gk (gk (gk (gk (gk yh))))) hb) rfl) (sk (sk (sk (sk (sk yL))))) ?_
        refine zc rfl (zM rfl (gk (gk (gk (gk (gk x4))))) (gk (gk (gk (gk (gk yJ))))) rfl (zS (fun ht=>gT ht))) (sk (sk (sk (sk (sk yO))))) ?_
        refine zf (zj ?_)
        refine zG (gk (gk (gk (gk (gk yE))))) hF (fun hc156 hF=>?_) (fun hc156 hF=>?_)
        ·refine zd ?_
         refine zc rfl (ze rfl yd (zb rfl)) (sk (sk (sk (sk (sk yS))))) ?_
         refine zc rfl (ze rfl yD (zb rfl)) (sk (sk (sk (sk (sk yW))))) ?_
         refine zc rfl (ze rfl xg (zb rfl)) (sk (sk (sk (sk (sk xa))))) ?_
         refine zc rfl (ze rfl yY (zb rfl)) (sk (sk (sk (sk (sk xd))))) ?_
         refine zc rfl (ze rfl yG (zb rfl)) (sk (sk (sk (sk (sk xq))))) ?_
         refine zK hF (fun v157 hv157 hF=>?_)
         refine yT (B1:=[]) (T1:=[]) (B':=[.row (h.toks.length+0) 10 (v157.map GRow.row)]) rfl (zz rfl rfl rfl (zg (gk (gk (gk (gk (gk yP))))) (zg (gk (gk (gk (gk (gk yU))))) (zg (gk (gk (gk (gk (gk yR))))) (zg (gk (gk (gk (gk (gk xb))))) (zg (gk (gk (gk (gk (gk yD))))) zu))))) (.cons (zb rfl) (.cons (zb rfl) (.cons (zb rfl) (.cons (zb rfl) (.cons (zb rfl) .nil)))))) (ih (by simp [AH.ext]) (by simp [AH.ext]) hlv155 (fun x0 x1 v L M hv=>by rw [yj];exact hcmp4 x0 x1 v _ _ hv) (fun n m h1 h2=>hlacmp4 n m (by simp [AH.ext] at h1;omega) (by simp [AH.ext] at h2;omega)) (fun n m h1 h2=>hlkcmp4 n m (by simp [AH.ext] at h1;omega) (by simp [AH.ext] at h2;omega)) hv157) rfl rfl (sk (sk (sk (sk (sk xr))))) rfl (fun hlv157=>?_)
         refine zf (vF ?_)
         obtain rfl:=Option.some.inj hF
         refine xf rfl zB (x5 ?_)
         exact ⟨rfl,hlv157,rfl⟩
        ·refine zH (vF ?_)
         obtain rfl:=Option.some.inj hF
         refine xf rfl zB (x5 ?_)
         exact ⟨rfl,hlv155,rfl⟩
       ·refine zH (zj (zn (zd ?_)))
        refine zc rfl (ze rfl yD (zb rfl)) (sk (sk (sk (sk (sk xT))))) ?_
        refine zc rfl (ze rfl xg (zb rfl)) (sk (sk (sk (sk (sk x9))))) ?_
        refine zc rfl (zr rfl (gk (gk (gk (gk (gk y5))))) (gk (gk (gk (gk (gk xE))))) rfl) (sk (sk (sk (sk (sk xS))))) ?_
        refine zc rfl (ze rfl (gk (gk (gk (gk (gk xu))))) (zb rfl)) (sk (sk (sk (sk (sk wE))))) ?_
        refine zq rfl (fun hb=>ze rfl xg (zb rfl)) (sk (sk (sk (sk (sk yC))))) ?_
        refine zq rfl (fun hb=>ze rfl yY (zb rfl)) (sk (sk (sk (sk (sk yz))))) ?_
        refine zq rfl (fun hb=>zr rfl (zp (gk (gk (gk (gk (gk yl))))) hb) (zp (gk (gk (gk (gk (gk yh))))) hb) rfl) (sk (sk (sk (sk (sk yL))))) ?_
        refine zc rfl (zM rfl (gk (gk (gk (gk (gk x4))))) (gk (gk (gk (gk (gk yJ))))) rfl (zS (fun ht=>gT ht))) (sk (sk (sk (sk (sk yO))))) ?_
        refine zf (zj ?_)
        refine zG (gk (gk (gk (gk (gk yE))))) hF (fun hc158 hF=>?_) (fun hc158 hF=>?_)
        ·refine zd ?_
         refine zc rfl (ze rfl yd (zb rfl)) (sk (sk (sk (sk (sk yS))))) ?_
         refine zc rfl (ze rfl yD (zb rfl)) (sk (sk (sk (sk (sk yW))))) ?_
         refine zc rfl (ze rfl xg (zb rfl)) (sk (sk (sk (sk (sk xa))))) ?_
         refine zc rfl (ze rfl yY (zb rfl)) (sk (sk (sk (sk (sk xd))))) ?_
         refine zc rfl (ze rfl yG (zb rfl)) (sk (sk (sk (sk (sk xq))))) ?_
         refine zK hF (fun v159 hv159 hF=>?_)
         refine yT (B1:=[]) (T1:=[]) (B':=[.row (h.toks.length+0) 10 (v159.map GRow.row)]) rfl (zz rfl rfl rfl (zg (gk (gk (gk (gk (gk yP))))) (zg (gk (gk (gk (gk (gk yU))))) (zg (gk (gk (gk (gk (gk yR))))) (zg (gk (gk (gk (gk (gk xb))))) (zg (gk (gk (gk (gk (gk yD))))) zu))))) (.cons (zb rfl) (.cons (zb rfl) (.cons (zb rfl) (.cons (zb rfl) (.cons (zb rfl) .nil)))))) (ih (by simp [AH.ext]) (by simp [AH.ext]) rfl (fun x0 x1 v L M hv=>by rw [yj];exact hcmp4 x0 x1 v _ _ hv) (fun n m h1 h2=>hlacmp4 n m (by simp [AH.ext] at h1;omega) (by simp [AH.ext] at h2;omega)) (fun n m h1 h2=>hlkcmp4 n m (by simp [AH.ext] at h1;omega) (by simp [AH.ext] at h2;omega)) hv159) rfl rfl (sk (sk (sk (sk (sk xr))))) rfl (fun hlv159=>?_)
         refine zf (vF ?_)
         obtain rfl:=Option.some.inj hF
         refine xf rfl zB (x5 ?_)
         exact ⟨rfl,hlv159,rfl⟩
        ·refine zH (vF ?_)
         obtain rfl:=Option.some.inj hF
         refine xf rfl zB (x5 ?_)
         exact ⟨rfl,rfl,rfl⟩
theorem okR47 {bl tl n0:Nat} {data0:(List GRow)} {a1:Int} {m2:Int} {b3:Int} {cmp4:(GRow→GRow→Option Int)} {fcmp4:FuncId} {acmp4 kcmp4:List AV} {res:(List GRow)} {h:AH} (hbl:h.blks.length=bl) (htl:h.toks.length=tl) (hn0:data0.length=n0) (hcmp4:∀ x0 x1 v (L:List Blk) (M:List Nat),cmp4 x0 x1=some v→Spec Try.prog fcmp4 (acmp4++[.agg [.sl 1 (x0.path.map zR),.int .u8 x0.leaf.typ,.int .i64 x0.leaf.n,.int .u64 x0.leaf.time,.int .u8 x0.leaf.dot.actor.rep,.int .u32 x0.leaf.dot.actor.inc,.int .u64 x0.leaf.dot.seq,.str x0.leaf.text,.sl 5 (x0.leaf.items.map GItem.row),.sl 3 (x0.leaf.tombs.map GDot.row)],.agg [.sl 1 (x1.path.map zR),.int .u8 x1.leaf.typ,.int .i64 x1.leaf.n,.int .u64 x1.leaf.time,.int .u8 x1.leaf.dot.actor.rep,.int .u32 x1.leaf.dot.actor.inc,.int .u64 x1.leaf.dot.seq,.str x1.leaf.text,.sl 5 (x1.leaf.items.map GItem.row),.sl 3 (x1.leaf.tombs.map GDot.row)]]++kcmp4) (h.ext L M) (fun rr hh=>rr=.int .i64 v∧hh=h.ext L M)) (hlacmp4:∀ n m,h.blks.length≤n→h.toks.length≤m→z9 n m acmp4=true) (hlkcmp4:∀ n m,h.blks.length≤n→h.toks.length≤m→z9 n m kcmp4=true) (hF:xR data0 a1 m2 b3 cmp4=some res):Spec Try.prog 47 [.rsl bl tl 10 n0,.int .i64 a1,.int .i64 m2,.int .i64 b3,.fn (.func fcmp4) acmp4 kcmp4] (h.ext [.row tl 10 (data0.map GRow.row)] [n0]) (fun rr hh=>rr=.tup []∧res.length=n0∧hh=h.ext [.row tl 10 (res.map GRow.row)] [n0]):=by
 obtain ⟨n,hn⟩:=anyN_is hF
 exact okR47N n hbl htl hn0 hcmp4 hlacmp4 hlkcmp4 hn
theorem okR30 {bl tl n0:Nat} {data0:(List GRow)} {n1:Int} {cmp2:(GRow→GRow→Option Int)} {fcmp2:FuncId} {acmp2 kcmp2:List AV} {res:(List GRow)} {h:AH} (hbl:h.blks.length=bl) (htl:h.toks.length=tl) (hn0:data0.length=n0) (hcmp2:∀ x0 x1 v (L:List Blk) (M:List Nat),cmp2 x0 x1=some v→Spec Try.prog fcmp2 (acmp2++[.agg [.sl 1 (x0.path.map zR),.int .u8 x0.leaf.typ,.int .i64 x0.leaf.n,.int .u64 x0.leaf.time,.int .u8 x0.leaf.dot.actor.rep,.int .u32 x0.leaf.dot.actor.inc,.int .u64 x0.leaf.dot.seq,.str x0.leaf.text,.sl 5 (x0.leaf.items.map GItem.row),.sl 3 (x0.leaf.tombs.map GDot.row)],.agg [.sl 1 (x1.path.map zR),.int .u8 x1.leaf.typ,.int .i64 x1.leaf.n,.int .u64 x1.leaf.time,.int .u8 x1.leaf.dot.actor.rep,.int .u32 x1.leaf.dot.actor.inc,.int .u64 x1.leaf.dot.seq,.str x1.leaf.text,.sl 5 (x1.leaf.items.map GItem.row),.sl 3 (x1.leaf.tombs.map GDot.row)]]++kcmp2) (h.ext L M) (fun rr hh=>rr=.int .i64 v∧hh=h.ext L M)) (hlacmp2:∀ n m,h.blks.length≤n→h.toks.length≤m→z9 n m acmp2=true) (hlkcmp2:∀ n m,h.blks.length≤n→h.toks.length≤m→z9 n m kcmp2=true) (hF:xB data0 n1 cmp2=some res):Spec Try.prog 30 [.rsl bl tl 10 n0,.int .i64 n1,.fn (.func fcmp2) acmp2 kcmp2] (h.ext [.row tl 10 (data0.map GRow.row)] [n0]) (fun rr hh=>rr=.tup []∧res.length=n0∧hh=h.ext [.row tl 10 (res.map GRow.row)] [n0]):=by
 unfold xB at hF
 subst hbl htl hn0
 refine yA Try.func30 rfl (by kernel_rfl) (env:=[.rsl h.blks.length h.toks.length 10 data0.length,.int .i64 n1,.fn (.func fcmp2) acmp2 kcmp2,za,za,za,za,za,za,za,za,za,za,za,za,za,za,za,za,za,za,za,za,za,za,za,za,za,za,za,za,za,za,za,za,za,za,za,za,za,za,za,za,za,za,za,za,za,za,za,za,za,za,za,za,za,za,za,za,za,za,za,za]) (by rfl) ?_
 refine zn (zd ?_)
 refine zc rfl (zi rfl rfl (zb rfl)) xT ?_
 refine zf (zj (zn (zd ?_)))
 refine zc rfl (ze rfl y5 (zb rfl)) yC ?_
 refine zc rfl (zi rfl rfl (zb rfl)) x9 ?_
 refine zc rfl (zi rfl yl (zb rfl)) xS ?_
 refine zf (zj (zn (zI ?_)))
 refine wn (fun (s1:Int×Int×(List GRow))=>yv [3,4,5,9,10,11,12,13,14,15,16,17,18,19,20,21,22,23,24,25,26,27,28,29,30,31,32,33,34,35,36,37,38,39,40,41,42,43,44,45,46,47,48,49,50,51,52,53,54,55,56,57,58,59,60,61,62] [(7,.int .i64 s1.1),(8,.int .i64 s1.2.1)]) (fun s1=>h.ext [.row (h.toks.length+0) 10 (s1.2.2.map GRow.row)] [data0.length]) hF (fun _=>by simp only [yv,upd,List.set_cons_succ,List.set_cons_zero];try rfl) (wk.le (by exact (.eq (.eq (.eq (.drop (.drop (.drop (.eq (.cons (leV.of_eq rfl) (.cons (leV.of_eq rfl) (.d16 (.d16 (.d16 (.d4 (.drop (.drop leL.nil))))))))))))))))) ?_
 intro n1 s1 o1 hF hK1
 refine wc hF (fun hr1 hF=>?_)
 refine zn (zn (zd ?_))
 refine zc rfl (ze rfl xu (zb rfl)) yz ?_
 refine zc rfl (ze rfl yo (zb rfl)) yL ?_
 refine zc rfl (zr rfl yh yJ rfl) yO ?_
 refine zf (zj ?_)
 refine zG yE hF (fun hc6 hF=>?_) (fun hc6 hF=>?_)
 ·refine zH (zj (zI (zn (zd ?_))))
  refine zc rfl (ze rfl yd (zb rfl)) yS ?_
  refine zc rfl (ze rfl xE (zb rfl)) yW ?_
  refine zc rfl (ze rfl xu (zb rfl)) xa ?_
  refine zc rfl (ze rfl yQ (zb rfl)) xd ?_
  refine zK hF (fun v7 hv7 hF=>?_)
  refine yT (B1:=[]) (T1:=[]) (B':=[.row (h.toks.length+0) 10 (v7.map GRow.row)]) rfl (zz rfl rfl rfl (zg yP (zg yU (zg yR (zg xb zu)))) (.cons (zb rfl) (.cons (zb rfl) (.cons (zb rfl) (.cons (zb rfl) .nil))))) (okR46 (by simp [AH.ext]) (by simp [AH.ext]) hr1 (fun x0 x1 v L M hv=>by rw [yj];exact hcmp2 x0 x1 v _ _ hv) (fun n m h1 h2=>hlacmp2 n m (by simp [AH.ext] at h1;omega) (by simp [AH.ext] at h2;omega)) (fun n m h1 h2=>hlkcmp2 n m (by simp [AH.ext] at h1;omega) (by simp [AH.ext] at h2;omega)) hv7) rfl rfl xq rfl (fun hlv7=>?_)
  refine zf (zj (zn (zd ?_)))
  refine zc rfl (ze rfl xu (zb rfl)) xr ?_
  refine zc rfl (zi rfl xz (zb rfl)) x9 ?_
  refine zf (zj (zd ?_))
  refine zc rfl (ze rfl xu (zb rfl)) xV ?_
  refine zc rfl (ze rfl y5 (zb rfl)) xU ?_
  refine zc rfl (zr rfl xi xY rfl) wa ?_
  refine zc rfl (zi rfl wb (zb rfl)) xS ?_
  refine zf (zY (yi ?_))
  obtain rfl:=Option.some.inj hF
  exact ⟨(s1.2.1,(IntKind.wrap .i64 (s1.2.1+(20:Int))),v7),hK1,wk.le (by exact (.eq (.eq (.eq (.drop (.drop (.drop (.eq (.cons (leV.of_eq rfl) (.cons (leV.of_eq rfl) (.d16 (.d16 (.d16 (.d4 (.drop (.drop leL.nil))))))))))))))))⟩
 ·refine yy ?_
  refine zT ?_
  refine zP ?_
  obtain rfl:=Option.some.inj hF
  replace hF:=hK1
  refine zQ ?_
  refine zj (zn (zd ?_))
  refine zc rfl (ze rfl yd (zb rfl)) wh ?_
  refine zc rfl (ze rfl xE (zb rfl)) wu ?_
  refine zc rfl (ze rfl yo (zb rfl)) wB ?_
  refine zc rfl (ze rfl yQ (zb rfl)) va ?_
  refine zK hF (fun v36 hv36 hF=>?_)
  refine yT (B1:=[]) (T1:=[]) (B':=[.row (h.toks.length+0) 10 (v36.map GRow.row)]) rfl (zz rfl rfl rfl (zg xH (zg xg (zg ww (zg vg zu)))) (.cons (zb rfl) (.cons (zb rfl) (.cons (zb rfl) (.cons (zb rfl) .nil))))) (okR46 (by simp [AH.ext]) (by simp [AH.ext]) hr1 (fun x0 x1 v L M hv=>by rw [yj];exact hcmp2 x0 x1 v _ _ hv) (fun n m h1 h2=>hlacmp2 n m (by simp [AH.ext] at h1;omega) (by simp [AH.ext] at h2;omega)) (fun n m h1 h2=>hlkcmp2 n m (by simp [AH.ext] at h1;omega) (by simp [AH.ext] at h2;omega)) hv36) rfl rfl wV rfl (fun hlv36=>?_)
  refine zf (zj (zI ?_))
  refine wn (fun (s2:Int×(List GRow))=>yv [3,4,5,7,8,9,10,11,12,13,14,15,16,17,18,19,20,21,22,23,24,25,26,27,28,29,30,31,32,33,34,35,36,37,38,39,40,41,42,43,44,45,46,47,48,49,50,51,52,53,54,55,56,57,58,59,60,61,62] [(6,.int .i64 s2.1)]) (fun s2=>h.ext [.row (h.toks.length+0) 10 (s2.2.map GRow.row)] [data0.length]) hF (fun _=>by simp only [yv,upd,List.set_cons_succ,List.set_cons_zero];try rfl) (wk.le (by exact (.eq (.eq (.eq (.drop (.drop (.drop (.cons (leV.of_eq rfl) (.d16 (.d16 (.d16 (.d4 (.d4 leL.nil)))))))))))))) ?_
  intro n2 s2 o2 hF hK2
  refine wc hF (fun hr2 hF=>?_)
  refine zn (zn (zd ?_))
  refine zc rfl (ze rfl y5 (zb rfl)) vm ?_
  refine zc rfl (ze rfl yo (zb rfl)) vu ?_
  refine zc rfl (zr rfl vo vy rfl) vt ?_
  refine zf (zj ?_)
  refine zG vn hF (fun hc52 hF=>?_) (fun hc52 hF=>?_)
  ·refine zH (zj (zI (zn (zd ?_))))
   refine zc rfl (ze rfl y5 (zb rfl)) vr ?_
   refine zc rfl (zr rfl rfl vU rfl) wU ?_
   refine zc rfl (zi rfl rfl (zb rfl)) x9 ?_
   refine zc rfl (zi rfl wM (zb rfl)) xS ?_
   refine zf (zj (zn (zI ?_)))
   refine wn (fun (s3:Int×Int×(List GRow))=>yv [3,4,5,9,10,11,12,13,14,15,16,17,18,19,20,21,22,23,24,25,26,27,28,29,30,31,32,33,34,35,36,37,38,39,40,41,42,43,44,45,46,47,48,49,50,51,52,53,54,55,56,57,58,59,60,61,62] [(7,.int .i64 s3.1),(8,.int .i64 s3.2.1)]) (fun s3=>h.ext [.row (h.toks.length+0) 10 (s3.2.2.map GRow.row)] [data0.length]) hF (fun _=>by simp only [yv,upd,List.set_cons_succ,List.set_cons_zero];try rfl) (wk.le (by exact (.eq (.eq (.eq (.drop (.drop (.drop (.eq (.cons (leV.of_eq rfl) (.cons (leV.of_eq rfl) (.d16 (.d16 (.d16 (.d4 (.drop (.drop leL.nil))))))))))))))))) ?_
   intro n3 s3 o3 hF hK3
   refine wc hF (fun hr3 hF=>?_)
   refine zn (zn (zd ?_))
   refine zc rfl (ze rfl xu (zb rfl)) w9 ?_
   refine zc rfl (ze rfl yo (zb rfl)) wT ?_
   refine zc rfl (zr rfl wW wL rfl) wS ?_
   refine zf (zj ?_)
   refine zG wP hF (fun hc58 hF=>?_) (fun hc58 hF=>?_)
   ·refine zH (zj (zI (zn (zd ?_))))
    refine zc rfl (ze rfl yd (zb rfl)) w8 ?_
    refine zc rfl (ze rfl xE (zb rfl)) wZ ?_
    refine zc rfl (ze rfl xE (zb rfl)) vD ?_
    refine zc rfl (ze rfl y5 (zb rfl)) vC ?_
    refine zc rfl (zr rfl vJ vI rfl) (sk st0) ?_
    refine zc rfl (ze rfl xu (zb rfl)) (sk st1) ?_
    refine zc rfl (ze rfl yQ (zb rfl)) (sk xj) ?_
    refine zK hF (fun v59 hv59 hF=>?_)
    refine yT (B1:=[]) (T1:=[]) (B':=[.row (h.toks.length+0) 10 (v59.map GRow.row)]) rfl (zz rfl rfl rfl (zg vf (zg ve (zg (gk yd) (zg (gk yo) (zg (gk yQ) zu))))) (.cons (zb rfl) (.cons (zb rfl) (.cons (zb rfl) (.cons (zb rfl) (.cons (zb rfl) .nil)))))) (okR47 (by simp [AH.ext]) (by simp [AH.ext]) hr3 (fun x0 x1 v L M hv=>by rw [yj];exact hcmp2 x0 x1 v _ _ hv) (fun n m h1 h2=>hlacmp2 n m (by simp [AH.ext] at h1;omega) (by simp [AH.ext] at h2;omega)) (fun n m h1 h2=>hlkcmp2 n m (by simp [AH.ext] at h1;omega) (by simp [AH.ext] at h2;omega)) hv59) rfl rfl (sk wA) rfl (fun hlv59=>?_)
    refine zf (zj (zn (zd ?_)))
    refine zc rfl (ze rfl xu (zb rfl)) (sk yK) ?_
    refine zc rfl (zi rfl (gk yG) (zb rfl)) x9 ?_
    refine zf (zj (zd ?_))
    refine zc rfl (ze rfl xu (zb rfl)) (sk xI) ?_
    refine zc rfl (ze rfl y5 (zb rfl)) (sk xT) ?_
    refine zc rfl (zr rfl rfl (gk y5) rfl) (sk x9) ?_
    refine zc rfl (zr rfl (gk yX) (gk xE) rfl) (sk xS) ?_
    refine zc rfl (zi rfl (gk xu) (zb rfl)) xS ?_
    refine zf (zY (yi ?_))
    obtain rfl:=Option.some.inj hF
    exact ⟨(s3.2.1,(IntKind.wrap .i64 (s3.2.1+(IntKind.wrap .i64 ((2:Int) * s2.1)))),v59),hK3,wk.le (by exact (.eq (.eq (.eq (.drop (.drop (.drop (.eq (.cons (leV.of_eq rfl) (.cons (leV.of_eq rfl) (.d16 (.d16 (.d16 (.d4 (.drop (.drop leL.nil))))))))))))))))⟩
   ·refine yy ?_
    refine zT ?_
    refine zP ?_
    obtain rfl:=Option.some.inj hF
    replace hF:=hK3
    refine zQ ?_
    refine zj (zn (zn (zd ?_)))
    refine zc rfl (ze rfl xE (zb rfl)) (sk wE) ?_
    refine zc rfl (ze rfl y5 (zb rfl)) (sk yC) ?_
    refine zc rfl (zr rfl (gk x4) (gk yl) rfl) (sk yz) ?_
    refine zc rfl (zi rfl (gk yh) (zb rfl)) wE ?_
    refine zf (zj (zn (zd ?_)))
    refine zc rfl (ze rfl x4 (zb rfl)) (sk yL) ?_
    refine zc rfl (ze rfl yo (zb rfl)) (sk yO) ?_
    refine zc rfl (zr rfl (gk yJ) (gk yE) rfl) (sk yS) ?_
    refine zf (zj ?_)
    refine zG (gk yP) hF (fun hc62 hF=>?_) (fun hc62 hF=>?_)
    ·refine zd ?_
     refine zc rfl (ze rfl yd (zb rfl)) (sk yW) ?_
     refine zc rfl (ze rfl xE (zb rfl)) (sk xa) ?_
     refine zc rfl (ze rfl x4 (zb rfl)) (sk xd) ?_
     refine zc rfl (ze rfl yo (zb rfl)) (sk xq) ?_
     refine zc rfl (ze rfl yQ (zb rfl)) (sk xr) ?_
     refine zK hF (fun v63 hv63 hF=>?_)
     refine yT (B1:=[]) (T1:=[]) (B':=[.row (h.toks.length+0) 10 (v63.map GRow.row)]) rfl (zz rfl rfl rfl (zg (gk yU) (zg (gk yR) (zg (gk xb) (zg (gk yD) (zg (gk xz) zu))))) (.cons (zb rfl) (.cons (zb rfl) (.cons (zb rfl) (.cons (zb rfl) (.cons (zb rfl) .nil)))))) (okR47 (by simp [AH.ext]) (by simp [AH.ext]) hr3 (fun x0 x1 v L M hv=>by rw [yj];exact hcmp2 x0 x1 v _ _ hv) (fun n m h1 h2=>hlacmp2 n m (by simp [AH.ext] at h1;omega) (by simp [AH.ext] at h2;omega)) (fun n m h1 h2=>hlkcmp2 n m (by simp [AH.ext] at h1;omega) (by simp [AH.ext] at h2;omega)) hv63) rfl rfl (sk xV) rfl (fun hlv63=>?_)
     refine zf (zj (zd ?_))
     refine zc rfl (ze rfl y5 (zb rfl)) (sk xU) ?_
     refine zc rfl (zr rfl (gk xY) rfl rfl) (sk wa) ?_
     refine zc rfl (zi rfl (gk wb) (zb rfl)) xT ?_
     refine zf (zY (yi ?_))
     obtain rfl:=Option.some.inj hF
     exact ⟨((IntKind.wrap .i64 (s2.1 * (2:Int))),v63),hK2,wk.le (by exact (.eq (.eq (.eq (.drop (.drop (.drop (.cons (leV.of_eq rfl) (.d16 (.d16 (.d16 (.d4 (.d4 leL.nil)))))))))))))⟩
    ·refine zH (zj (zd ?_))
     refine zc rfl (ze rfl y5 (zb rfl)) (sk xU) ?_
     refine zc rfl (zr rfl (gk xY) rfl rfl) (sk wa) ?_
     refine zc rfl (zi rfl (gk wb) (zb rfl)) xT ?_
     refine zf (zY (yi ?_))
     obtain rfl:=Option.some.inj hF
     exact ⟨((IntKind.wrap .i64 (s2.1 * (2:Int))),s3.2.2),hK2,wk.le (by exact (.eq (.eq (.eq (.drop (.drop (.drop (.cons (leV.of_eq rfl) (.d16 (.d16 (.d16 (.d4 (.d4 leL.nil)))))))))))))⟩
  ·refine yy ?_
   refine zT ?_
   refine zP ?_
   obtain rfl:=Option.some.inj hF
   replace hF:=hK2
   refine zQ ?_
   refine vF ?_
   obtain rfl:=Option.some.inj hF
   refine xf rfl zB (x5 ?_)
   exact ⟨rfl,hr2,rfl⟩
theorem okR19 {bl tl n0:Nat} {x0:(List GRow)} {cmp1:(GRow→GRow→Option Int)} {fcmp1:FuncId} {acmp1 kcmp1:List AV} {res:(List GRow)} {h:AH} (hbl:h.blks.length=bl) (htl:h.toks.length=tl) (hn0:x0.length=n0) (hcmp1:∀ x0 x1 v (L:List Blk) (M:List Nat),cmp1 x0 x1=some v→Spec Try.prog fcmp1 (acmp1++[.agg [.sl 1 (x0.path.map zR),.int .u8 x0.leaf.typ,.int .i64 x0.leaf.n,.int .u64 x0.leaf.time,.int .u8 x0.leaf.dot.actor.rep,.int .u32 x0.leaf.dot.actor.inc,.int .u64 x0.leaf.dot.seq,.str x0.leaf.text,.sl 5 (x0.leaf.items.map GItem.row),.sl 3 (x0.leaf.tombs.map GDot.row)],.agg [.sl 1 (x1.path.map zR),.int .u8 x1.leaf.typ,.int .i64 x1.leaf.n,.int .u64 x1.leaf.time,.int .u8 x1.leaf.dot.actor.rep,.int .u32 x1.leaf.dot.actor.inc,.int .u64 x1.leaf.dot.seq,.str x1.leaf.text,.sl 5 (x1.leaf.items.map GItem.row),.sl 3 (x1.leaf.tombs.map GDot.row)]]++kcmp1) (h.ext L M) (fun rr hh=>rr=.int .i64 v∧hh=h.ext L M)) (hlacmp1:∀ n m,h.blks.length≤n→h.toks.length≤m→z9 n m acmp1=true) (hlkcmp1:∀ n m,h.blks.length≤n→h.toks.length≤m→z9 n m kcmp1=true) (hF:wd x0 cmp1=some res):Spec Try.prog 19 [.rsl bl tl 10 n0,.fn (.func fcmp1) acmp1 kcmp1] (h.ext [.row tl 10 (x0.map GRow.row)] [n0]) (fun rr hh=>rr=.tup []∧res.length=n0∧hh=h.ext [.row tl 10 (res.map GRow.row)] [n0]):=by
 unfold wd at hF
 subst hbl htl hn0
 refine yA Try.func19 rfl (by kernel_rfl) (env:=[.rsl h.blks.length h.toks.length 10 x0.length,.fn (.func fcmp1) acmp1 kcmp1,za,za,za,za,za,za,za]) (by rfl) ?_
 refine zd ?_
 refine zc rfl (ze rfl yd (zb rfl)) yK ?_
 refine zc rfl (ze rfl yd (zb rfl)) xI ?_
 refine z7 rfl (zX rfl rfl rfl rfl wo yX rfl) xT fun hn1=>?_
 replace hn1:=xG hn1
 refine zc rfl (ze rfl yo (zb rfl)) x9 ?_
 refine zK hF (fun v2 hv2 hF=>?_)
 refine yT (B1:=[]) (T1:=[]) (B':=[.row (h.toks.length+0) 10 (v2.map GRow.row)]) rfl (zz rfl rfl rfl (zg yG (zg y5 (zg xE zu))) (.cons (zb rfl) (.cons (zb rfl) (.cons (zb rfl) .nil)))) (okR30 (by simp [AH.ext]) (by simp [AH.ext]) rfl (fun x0 x1 v L M hv=>by rw [yj];exact hcmp1 x0 x1 v _ _ hv) (fun n m h1 h2=>hlacmp1 n m (by simp [AH.ext] at h1;omega) (by simp [AH.ext] at h2;omega)) (fun n m h1 h2=>hlkcmp1 n m (by simp [AH.ext] at h1;omega) (by simp [AH.ext] at h2;omega)) hv2) rfl rfl xS rfl (fun hlv2=>?_)
 refine zf (vF ?_)
 obtain rfl:=Option.some.inj hF
 refine xf rfl zB (x5 ?_)
 exact ⟨rfl,hlv2,rfl⟩
theorem ok31 {x0:Int} {res:Bool} {h:AH}  (hF:qR x0=some res):Spec Try.prog 31 [.int .i64 x0] h (fun rr hh=>rr=.bool res∧hh=h):=by
 unfold qR at hF
 refine zw Try.func31 rfl (by kernel_rfl) (env:=[.int .i64 x0,za,za,za,za,za]) (by rfl) ?_
 refine zn (zd ?_)
 refine zc rfl (zi rfl rfl (zb rfl)) xj ?_
 refine zf (zj (zn (zd ?_)))
 refine zc rfl (ze rfl yd (zb rfl)) wA ?_
 refine zc rfl (ze rfl yd (zb rfl)) yK ?_
 refine zc rfl (zr rfl yY yG rfl) xI ?_
 refine zc rfl (zi rfl yX (zb rfl)) xj ?_
 refine zf (zj (zO ?_))
 obtain rfl:=Option.some.inj hF
 refine zA rfl (zE yQ zB) (zD (leV.refl _) rfl ?_)
 exact ⟨rfl,rfl⟩
theorem ok21 {x0:Int} {y1:Int} {res:Int} {h:AH}  (hF:qv x0 y1=some res):Spec Try.prog 21 [.int .i64 x0,.int .i64 y1] h (fun rr hh=>rr=.int .i64 res∧hh=h):=by
 unfold qv at hF
 refine zw Try.func21 rfl (by kernel_rfl) (env:=[.int .i64 x0,.int .i64 y1,za,za,za,za,za,za,za,za,za,za,za,za,za,za,za,za,za,za]) (by rfl) ?_
 refine zn (zd ?_)
 refine zc rfl (zi rfl rfl (zb rfl)) yK ?_
 refine zf (zj (zn (zd ?_)))
 refine zc rfl (ze rfl yd (zb rfl)) x9 ?_
 refine zK hF (fun v1 hv1 hF=>?_)
 refine zU rfl (zz rfl rfl rfl (zg xE zu) (.cons (zb rfl) .nil)) (ok31 hv1) xS ?_
 refine zc rfl (zi rfl xu (zb rfl)) xI ?_
 refine zf (zj (zn (zd ?_)))
 refine zc rfl (ze rfl yo (zb rfl)) wE ?_
 refine zK hF (fun v2 hv2 hF=>?_)
 refine zU rfl (zz rfl rfl rfl (zg x4 zu) (.cons (zb rfl) .nil)) (ok31 hv2) yC ?_
 refine zc rfl (zi rfl yl (zb rfl)) xT ?_
 refine zf (zj (zn (zn (zd ?_))))
 refine zc rfl (ze rfl yX (zb rfl)) yz ?_
 refine zf (zj ?_)
 refine zG yh hF (fun hc3 hF=>?_) (fun hc3 hF=>?_)
 ·refine zn (zn (zd ?_))
  refine zc rfl (ze rfl y5 (zb rfl)) yL ?_
  refine zf (zj ?_)
  refine zG yJ hF (fun hc4 hF=>?_) (fun hc4 hF=>?_)
  ·refine zn (zd ?_)
   refine zc rfl (zi rfl rfl (zb rfl)) yK ?_
   refine zf (zj (zO (zC (zC ?_))))
   obtain rfl:=Option.some.inj hF
   refine zA rfl (zE yG zB) (zD (leV.refl _) rfl ?_)
   exact ⟨rfl,rfl⟩
  ·refine zH (zj (zn (zd ?_)))
   refine zc rfl (zi rfl rfl (zb rfl)) yK ?_
   refine zf (zj (zO (zC ?_)))
   obtain rfl:=Option.some.inj hF
   refine zA rfl (zE yG zB) (zD (leV.refl _) rfl ?_)
   exact ⟨rfl,rfl⟩
 ·refine zH (zj (zn (zn (zd ?_))))
  refine zc rfl (ze rfl y5 (zb rfl)) yO ?_
  refine zf (zj ?_)
  refine zG yE hF (fun hc5 hF=>?_) (fun hc5 hF=>?_)
  ·refine zn (zd ?_)
   refine zc rfl (zi rfl rfl (zb rfl)) yK ?_
   refine zf (zj (zO (zC ?_)))
   obtain rfl:=Option.some.inj hF
   refine zA rfl (zE yG zB) (zD (leV.refl _) rfl ?_)
   exact ⟨rfl,rfl⟩
  ·refine zH (zj (zn (zn (zd ?_))))
   refine zc rfl (ze rfl yd (zb rfl)) yS ?_
   refine zc rfl (ze rfl yo (zb rfl)) yW ?_
   refine zc rfl (zr rfl yP yU rfl) xa ?_
   refine zf (zj ?_)
   refine zG yR hF (fun hc6 hF=>?_) (fun hc6 hF=>?_)
   ·refine zn (zd ?_)
    refine zc rfl (zi rfl rfl (zb rfl)) yK ?_
    refine zf (zj (zO (zC ?_)))
    obtain rfl:=Option.some.inj hF
    refine zA rfl (zE yG zB) (zD (leV.refl _) rfl ?_)
    exact ⟨rfl,rfl⟩
   ·refine zH (zj (zn (zn (zd ?_))))
    refine zc rfl (ze rfl yd (zb rfl)) xd ?_
    refine zc rfl (ze rfl yo (zb rfl)) xq ?_
    refine zc rfl (zr rfl xb yD rfl) xr ?_
    refine zf (zj ?_)
    refine zG xz hF (fun hc7 hF=>?_) (fun hc7 hF=>?_)
    ·refine zn (zd ?_)
     refine zc rfl (zi rfl rfl (zb rfl)) yK ?_
     refine zf (zj (zO (zC ?_)))
     obtain rfl:=Option.some.inj hF
     refine zA rfl (zE yG zB) (zD (leV.refl _) rfl ?_)
     exact ⟨rfl,rfl⟩
    ·refine zH (zj (zn (zd ?_)))
     refine zc rfl (zi rfl rfl (zb rfl)) yK ?_
     refine zf (zj (zO ?_))
     obtain rfl:=Option.some.inj hF
     refine zA rfl (zE yG zB) (zD (leV.refl _) rfl ?_)
     exact ⟨rfl,rfl⟩
theorem ok20 {a0:GRow} {b1:GRow} {i0:Nat} {res:Int} {h:AH} (hb0:h.blk i0=some (.cells [.fn (.func 18) [] []])) (hF:vG a0 b1=some res):Spec Try.prog 20 [.agg [.sl 1 (a0.path.map zR),.int .u8 a0.leaf.typ,.int .i64 a0.leaf.n,.int .u64 a0.leaf.time,.int .u8 a0.leaf.dot.actor.rep,.int .u32 a0.leaf.dot.actor.inc,.int .u64 a0.leaf.dot.seq,.str a0.leaf.text,.sl 5 (a0.leaf.items.map GItem.row),.sl 3 (a0.leaf.tombs.map GDot.row)],.agg [.sl 1 (b1.path.map zR),.int .u8 b1.leaf.typ,.int .i64 b1.leaf.n,.int .u64 b1.leaf.time,.int .u8 b1.leaf.dot.actor.rep,.int .u32 b1.leaf.dot.actor.inc,.int .u64 b1.leaf.dot.seq,.str b1.leaf.text,.sl 5 (b1.leaf.items.map GItem.row),.sl 3 (b1.leaf.tombs.map GDot.row)],.ptr i0 0] h (fun rr hh=>rr=.int .i64 res∧hh=h):=by
 unfold vG at hF
 refine zw Try.func20 rfl (by kernel_rfl) (env:=[.agg [.sl 1 (a0.path.map zR),.int .u8 a0.leaf.typ,.int .i64 a0.leaf.n,.int .u64 a0.leaf.time,.int .u8 a0.leaf.dot.actor.rep,.int .u32 a0.leaf.dot.actor.inc,.int .u64 a0.leaf.dot.seq,.str a0.leaf.text,.sl 5 (a0.leaf.items.map GItem.row),.sl 3 (a0.leaf.tombs.map GDot.row)],.agg [.sl 1 (b1.path.map zR),.int .u8 b1.leaf.typ,.int .i64 b1.leaf.n,.int .u64 b1.leaf.time,.int .u8 b1.leaf.dot.actor.rep,.int .u32 b1.leaf.dot.actor.inc,.int .u64 b1.leaf.dot.seq,.str b1.leaf.text,.sl 5 (b1.leaf.items.map GItem.row),.sl 3 (b1.leaf.tombs.map GDot.row)],.ptr i0 0,za,za,za,za,za,za,za,za,za,za]) (by rfl) ?_
 refine zn (zd ?_)
 refine zc rfl (xP (n:=0) rfl yd (zb rfl) rfl rfl) wA ?_
 refine zc rfl (xP (n:=1) rfl yo (zb rfl) rfl rfl) yK ?_
 refine zc rfl (zi rfl rfl (zb rfl)) xI ?_
 refine zf (zj (zn ?_))
 refine yr [6] [] trivial xF (by kernel_rfl) ?_
 refine zo rfl rfl (b_load rfl ty64 yQ hb0 (zt rfl) (zb rfl)) xT ?_
 refine zo rfl rfl (zy rfl ty63.choose_spec.1 yG rfl (zF (cs':=[.sl 1 (b1.path.map zR),.int .u8 b1.leaf.typ,.int .i64 b1.leaf.n,.int .u64 b1.leaf.time,.int .u8 b1.leaf.dot.actor.rep,.int .u32 b1.leaf.dot.actor.inc,.int .u64 b1.leaf.dot.seq,.str b1.leaf.text,.sl 5 (b1.leaf.items.map GItem.row),.sl 3 (b1.leaf.tombs.map GDot.row)]) ty63.choose_spec.2 rfl rfl) (zb rfl)) x9 ?_
 refine zK hF (fun v1 hv1 hF=>?_)
 refine draw_call rfl rfl (zz rfl rfl y5 (zg xE zu) (.cons (zb rfl) .nil)) (ok18 hv1) xS ?_
 refine zo rfl rfl (b_load rfl ty64 yQ hb0 (zt rfl) (zb rfl)) wE ?_
 refine zo rfl rfl (zy rfl ty63.choose_spec.1 yY rfl (zF (cs':=[.sl 1 (a0.path.map zR),.int .u8 a0.leaf.typ,.int .i64 a0.leaf.n,.int .u64 a0.leaf.time,.int .u8 a0.leaf.dot.actor.rep,.int .u32 a0.leaf.dot.actor.inc,.int .u64 a0.leaf.dot.seq,.str a0.leaf.text,.sl 5 (a0.leaf.items.map GItem.row),.sl 3 (a0.leaf.tombs.map GDot.row)]) ty63.choose_spec.2 rfl rfl) (zb rfl)) yC ?_
 refine zK hF (fun v2 hv2 hF=>?_)
 refine draw_call rfl rfl (zz rfl rfl x4 (zg yl zu) (.cons (zb rfl) .nil)) (ok18 hv2) yz ?_
 refine zK hF (fun v3 hv3 hF=>?_)
 refine xc rfl rfl (fun _=>zz rfl rfl rfl (zg xu (zg yh zu)) (.cons (zb rfl) (.cons (zb rfl) .nil))) (by rintro _ ⟨B2,T2,rfl,hk2⟩;exact ok21 hv3) yL ?_
 refine zo rfl rfl (zi rfl yJ (zb rfl)) xI ?_
 refine yc ?_
 refine zj (zO ?_)
 obtain rfl:=Option.some.inj hF
 refine zA rfl (zE yX zB) (zD (leV.refl _) rfl ?_)
 exact ⟨rfl,rfl⟩
theorem ok9 {t0:(List GNode)} {most1:Int} {res:(List GRow)} {h:AH}  (hF:qs t0 most1=some res):Spec Try.prog 9 [.sl 3 (t0.map GNode.row),.int .i64 most1] h (fun rr hh=>rr=.sl 10 (res.map GRow.row)∧hh=h):=by
 unfold qs at hF
 refine zw Try.func9 rfl (by kernel_rfl) (env:=[.sl 3 (t0.map GNode.row),.int .i64 most1,za,za,za,za,za,za,za,za,za,za,za,za,za,za,za,za,za,za]) (by rfl) ?_
 refine zn (zd ?_)
 refine zc rfl (zi rfl rfl (xk wo)) yK ?_
 refine zf (zj (zn (zn (zd ?_))))
 refine zc rfl (ze rfl yo (zb rfl)) x9 ?_
 refine zc rfl (zr rfl xE rfl rfl) xS ?_
 refine zf (zj ?_)
 refine zG xu hF (fun hc1 hF=>?_) (fun hc1 hF=>?_)
 ·refine zn (zd ?_)
  refine zc rfl (zi rfl rfl (xk wo)) yK ?_
  refine zf (zj (zO (zC ?_)))
  obtain rfl:=Option.some.inj hF
  refine zA rfl (zE yG zB) (zD (leV.osl _ _ _) rfl ?_)
  exact ⟨rfl,rfl⟩
 ·refine zH (zj (zn (zd ?_)))
  refine zc rfl (ze rfl yd (zb rfl)) wE ?_
  refine zK hF (fun v2 hv2 hF=>?_)
  refine xD rfl (zz rfl rfl rfl (zg x4 zu) (.cons (zb rfl) .nil)) (row_newv (v':=.rsl (h.blks.length+0) (h.toks.length+0) 10 ((v2).length)) (B':=[.row (h.toks.length+0) 10 (v2.map GRow.row)]) (T':=[(v2).length]) (okM17 (by rw [ext_bl];rfl) (by rw [wj];rfl) hv2) rfl rfl rfl) yC ?_
  refine zc rfl (zi rfl yl (zb rfl)) xI ?_
  refine zf (zj (zn (zd ?_)))
  refine zc rfl (xn (n:=1) rfl ze64 rfl) xT ?_
  refine zc rfl (yk (cs':=[.fn (.func 18) [] []]) rfl ty64 y5 rfl (zb rfl) rfl rfl rfl rfl rfl) rfl ?_
  refine zf (zj (zn (zd ?_)))
  refine ops_swk (swk_move (j:=0) (i:=0) (n2:=(v2).length) (B':=[.dead,.cells [.fn (.func 18) [] []],.row (h.toks.length+1) 10 (v2.map GRow.row)]) (T':=[(v2).length+1,(v2).length]) yX rfl (by simp) rfl rfl rfl xI rfl rfl) ?_
  refine zc rfl (ze rfl yX (zb rfl)) yz ?_
  refine zc rfl (s_makeFunc rfl rfl rfl) yL ?_
  refine zK hF (fun v3 hv3 hF=>?_)
  refine yT (B1:=[.dead,.cells [.fn (.func 18) [] []]]) (T1:=[(v2).length+1]) (B':=[.dead,.cells [.fn (.func 18) [] []],.row (h.toks.length+1) 10 (v3.map GRow.row)]) rfl (zz rfl rfl rfl (zg yh (zg yJ zu)) (.cons (zb rfl) (.cons (zb rfl) .nil))) (okR19 (by simp [AH.ext]) (by simp [AH.ext]) rfl (fun _ _ v L M hv=>ok20 (blk_ext2 (j:=1) rfl) hv) (fun _ _ _ _=>rfl) (fun n m h1 h2=>by simp [AH.ext] at h1;simp [z9,AV.low];omega) hv3) rfl rfl yO rfl (fun hlv3=>?_)
  refine zf ?_
  refine q_seqw ((swk_freeze (j:=2) (m:=1) (B':=[.dead,.cells [.fn (.func 18) [] []],.dead]) (T':=[(v2).length+1,(v3.map GRow.row).length+1]) rfl (by exact (FzL.cons (FzA.same _) (FzL.cons (FzA.same _) (FzL.cons (FzA.same _) (FzL.cons (FzA.same _) (FzL.cons (FzA.same _) (FzL.cons (FzA.hit2 _ _ (by rw [List.length_map];exact Eq.symm (hlv3))) (FzL.cons (FzA.same _) (FzL.cons (FzA.same _) (FzL.cons (FzA.same _) (FzL.cons (FzA.same _) (FzL.cons (FzA.same _) (FzL.cons (FzA.hit2 _ _ (by rw [List.length_map];exact Eq.symm (hlv3))) (FzL.refl _)))))))))))))) rfl rfl).wk) ?_
  refine zn (zd ?_)
  refine zc rfl (ze rfl yX (zb rfl)) yS ?_
  refine zc rfl (ze rfl yo (zb rfl)) yW ?_
  refine zc rfl (ze rfl yX (zb rfl)) xa ?_
  refine z7 rfl (zX rfl rfl rfl rfl wo yR z8) xd fun hn4=>?_
  replace hn4:=xG hn4
  refine zc rfl (s_mm false rfl rfl (zg yU (zg xb zu)) rfl rfl) xq ?_
  refine zK hF (fun m5 hm5 hF=>?_)
  refine zc rfl (s_slcSl rfl wo yP (.inl rfl) .none (.some yD) hm5) xr ?_
  refine zc rfl (zi rfl xz (zb rfl)) yK ?_
  refine zf (zj (zO ?_))
  obtain rfl:=Option.some.inj hF
  refine zA rfl (zE yG zB) (zD (leV.refl _) rfl ?_)
  exact ⟨rfl,rfl⟩
theorem ok22N (n:Nat):∀ {t0:(List GNode)} {ahead1:(List yg)} {res:(List GVarveref07Row)} {h:AH} , vx n t0 ahead1=some res→Spec Try.prog 22 [.sl 3 (t0.map GNode.row),.sl 1 (ahead1.map zR)] h (fun rr hh=>rr=.sl 10 (res.map GVarveref07Row.row)∧hh=h):=by
 induction n with
 | zero=>intro t0 ahead1 res h  hF;simp [vx] at hF
 | succ n ih =>
  intro t0 ahead1 res h  hF
  unfold vx at hF
  refine zw Try.func22 rfl (by kernel_rfl) (env:=[.sl 3 (t0.map GNode.row),.sl 1 (ahead1.map zR),za,za,za,za,za,za,za,za,za,za,za,za,za,za,za,za,za,za,za,za,za,za,za,za,za,za,za,za,za,za,za,za,za,za,za,za,za,za,za,za,za,za,za,za,za,za,za,za,za,za,za,za,za,za,za,za]) (by rfl) ?_
  refine zn (zd ?_)
  refine zc rfl (zi rfl rfl (xk el68)) yK ?_
  refine zf (zj (zn (zd ?_)))
  refine zc rfl (zi rfl rfl (xk el68)) xI ?_
  refine zf (zj (zn (zn (zd ?_))))
  refine zc rfl (zi rfl rfl (zb rfl)) xT ?_
  refine zf (zj (zI ?_))
  refine yw (fun (n1:Nat) (s1:(List GVarveref07Row))=>yv [2,3,4,7,8,9,10,11,12,13,14,15,16,17,18,19,20,21,22,23,24,25,26,27,28,29,30,31,32,33,34,35,36,37,38,39,40,41,42,43,44,45,46,47,48,49,50,51,52,53,54,55,56,57] [(5,.osl (some (h.toks.length+0)) 10 (s1.map GVarveref07Row.row)),(6,.int .i64 (n1:Int))]) (fun s1=>h.ext [] [(s1).length]) hF (fun _ _=>by simp only [yv,upd,List.set_cons_succ,List.set_cons_zero];try rfl) (wk.trans (wk_tok yX rfl xI rfl) (wk.le (by exact (.eq (.eq (.drop (.drop (.drop (.cons (leV.of_eq rfl) (.cons (leV.of_eq rfl) (.d16 (.d16 (.d16 (.drop (.drop (.drop leL.nil)))))))))))))))) ?_
  intro n1 s1 hi1 hF
  refine zn (zn (zd ?_))
  refine zc rfl (ze rfl y5 (zb rfl)) wE ?_
  refine zc rfl (ze rfl yd (zb rfl)) yC ?_
  refine z7 rfl (zX rfl rfl rfl rfl qA yl z8) yz fun hn32=>?_
  replace hn32:=xG hn32
  refine zc rfl (zr rfl x4 yh rfl) yL ?_
  refine zf (zj ?_)
  refine y7 yJ hF (fun x1 o1 hl1 hx1 hF hK1=>?_) (fun hF=>?_)
  ·refine zH (zj (zn (zI (zn ?_))))
   refine yr [] [] trivial xF (by kernel_rfl) ?_
   refine zo rfl rfl (yn (es:=([]:List yg).map zR) rfl el25 ze9 rfl rfl yb .nil rfl rfl rfl) yW ?_
   refine zo rfl rfl (ze rfl yo (zb rfl)) xa ?_
   refine wc hF (fun hm33 hF=>?_)
   refine draw_okH rfl FOk.nil (by rfl) rfl (e_appN (m:=1) (T':=[(s1).length,((([]:List yg)++ahead1)).length]) rfl rfl rfl rfl el25 el25 yU yR (zb rfl) (zb rfl) news_sl hm33 rfl rfl) xd ?_
   refine zo rfl rfl (ze rfl yd (zb rfl)) xq ?_
   refine zo rfl rfl (ze rfl y5 (zb rfl)) xr ?_
   refine zo rfl rfl (we rfl qA yD xz qI (xl hx1) (GNode.row_eq _)) xV ?_
   refine zo rfl rfl (zk rfl fo41x0 xi rfl) xU ?_
   refine zo rfl rfl (yf rfl ty9 xY (zt rfl) (zb rfl)) wa ?_
   refine zo rfl rfl (yn (es:=([x1.name]:List yg).map zR) rfl el25 ze9 rfl rfl (zZ wb yb) (.cons (zb rfl) .nil) rfl rfl rfl) wh ?_
   refine wc hF (fun hm34 hF=>?_)
   refine draw_okH rfl FOk.nil (by rfl) rfl (e_appT (j:=1) (T':=[(s1).length,(((([]:List yg)++ahead1)++([x1.name]:List yg))).length]) rfl rfl rfl rfl el25 el25 xb xH (zb rfl) (zb rfl) news_osl hm34 rfl rfl) wu ?_
   refine zo rfl rfl (zi rfl xg (zb rfl)) x9 ?_
   refine yc ?_
   refine zj (zn (zn (zd ?_)))
   refine zc rfl (zi rfl rfl (zb rfl)) xS ?_
   refine zf (zj (zI ?_))
   refine yw (fun (n2:Nat) (s2:(List GVarveref07Row))=>yv [2,3,4,9,10,11,12,13,14,15,16,17,18,19,20,21,22,23,24,25,26,27,28,29,30,31,32,33,34,35,36,37,38,39,40,41,42,43,44,45,46,47,48,49,50,51,52,53,54,55,56,57] [(5,.osl (some (h.toks.length+0)) 10 (s2.map GVarveref07Row.row)),(8,.int .i64 (n2:Int))]) (fun s2=>h.ext [] [(s2).length,(((([]:List yg)++ahead1)++([x1.name]:List yg))).length]) hF (fun _ _=>by simp only [yv,upd,List.set_cons_succ,List.set_cons_zero];try rfl) (wk.le (by exact (.eq (.eq (.drop (.drop (.drop (.cons (leV.of_eq rfl) (.eq (.eq (.cons (leV.of_eq rfl) (.d16 (.d16 (.d16 (.drop leL.nil))))))))))))))) ?_
   intro n2 s2 hi2 hF
   refine zn (zn (zd ?_))
   refine zc rfl (ze rfl xu (zb rfl)) wB ?_
   refine zc rfl (ze rfl yd (zb rfl)) va ?_
   refine zc rfl (ze rfl y5 (zb rfl)) wV ?_
   refine zc rfl (we rfl qA vg wX qI (xl hx1) (GNode.row_eq _)) vm ?_
   refine zc rfl (zk rfl qz vo rfl) vu ?_
   refine zc rfl (yf rfl ty39 vy (zt rfl) (zb rfl)) vt ?_
   refine z7 rfl (zX rfl rfl rfl rfl el39 vn z8) vr fun hn42=>?_
   replace hn42:=xG hn42
   refine zc rfl (zr rfl ww vU rfl) wU ?_
   refine zf (zj ?_)
   refine y7 wM hF (fun x2 o2 hl2 hx2 hF hK2=>?_) (fun hF=>?_)
   ·refine zH (zj (zn (zI (zd ?_))))
    refine zc rfl (ze rfl yX (zb rfl)) wS ?_
    refine zc rfl (ze rfl xE (zb rfl)) w8 ?_
    refine zc rfl (ze rfl yd (zb rfl)) wZ ?_
    refine zc rfl (ze rfl y5 (zb rfl)) vD ?_
    refine zc rfl (we rfl qA ve vJ qI (xl hx1) (GNode.row_eq _)) vC ?_
    refine zc rfl (zk rfl qz vI rfl) (sk st0) ?_
    refine zc rfl (yf rfl ty39 (gk yd) (zt rfl) (zb rfl)) (sk st1) ?_
    refine zc rfl (ze rfl xu (zb rfl)) (sk xj) ?_
    refine zc rfl (yM rfl el39 (gk yo) (gk yQ) qI (xl hx2)) (sk wA) ?_
    refine zc rfl (yf rfl ty59.choose_spec.1 (gk yY) (zF (cs':=[.int .u8 x2.typ,.int .i64 x2.n,.int .u64 x2.time,.int .u8 x2.dot.actor.rep,.int .u32 x2.dot.actor.inc,.int .u64 x2.dot.seq,.str x2.text,.sl 5 (x2.items.map GItem.row),.sl 3 (x2.tombs.map GDot.row)]) ty59.choose_spec.2 rfl rfl) (zb rfl)) (sk yK) ?_
    refine zc rfl (vw (cs':=[.osl (some (h.toks.length+1)) 1 (((([]:List yg)++ahead1)++([x1.name]:List yg)).map zR),.int .u8 x2.typ,.int .i64 x2.n,.int .u64 x2.time,.int .u8 x2.dot.actor.rep,.int .u32 x2.dot.actor.inc,.int .u64 x2.dot.seq,.str x2.text,.sl 5 (x2.items.map GItem.row),.sl 3 (x2.tombs.map GDot.row)]) rfl su71 ze71 pl71 (zZ vf (zZ (gk yG) yb)) (.cons (zb rfl) (.cons (zb rfl) .nil)) rfl rfl) (sk xI) ?_
    refine zc rfl (yn (es:=([(GVarveref07Row.mk ((([]:List yg)++ahead1)++([x1.name]:List yg)) x2)]:List GVarveref07Row).map GVarveref07Row.row) rfl el68 ze71 rfl rfl (zZ (gk yX) yb) (.cons (zb rfl) .nil) rfl rfl rfl) (sk xT) ?_
    refine wc hF (fun hm43 hF=>?_)
    refine zc rfl (e_appT (j:=0) (T':=[((s2++([(GVarveref07Row.mk ((([]:List yg)++ahead1)++([x1.name]:List yg)) x2)]:List GVarveref07Row))).length,(((([]:List yg)++ahead1)++([x1.name]:List yg))).length]) rfl rfl rfl rfl el68 el68 wP (gk y5) (zb rfl) (zb rfl) news_osl hm43 rfl rfl) (sk x9) ?_
    refine zc rfl (zi rfl (gk xE) (zb rfl)) xI ?_
    refine zf (zY (zj (zd ?_)))
    refine zc rfl (ze rfl xu (zb rfl)) w9 ?_
    refine zc rfl (zr rfl wW rfl rfl) wT ?_
    refine zc rfl (zi rfl wL (zb rfl)) xS ?_
    refine zf (yi ?_)
    obtain rfl:=Option.some.inj hF
    exact ⟨(s2++([(GVarveref07Row.mk ((([]:List yg)++ahead1)++([x1.name]:List yg)) x2)]:List GVarveref07Row)),hl2,hK2,wk.le (by exact (.eq (.eq (.drop (.drop (.drop (.cons (leV.of_eq rfl) (.eq (.eq (.cons (leV.of_eq (qp (by omega) (by omega))) (.d16 (.d16 (.d16 (.drop leL.nil))))))))))))))⟩
   ·refine yy ?_
    refine zT ?_
    refine zP ?_
    refine zQ ?_
    refine zj (zd ?_)
    refine zc rfl (ze rfl yX (zb rfl)) (sk xS) ?_
    refine zc rfl (ze rfl yd (zb rfl)) (sk wE) ?_
    refine zc rfl (ze rfl y5 (zb rfl)) (sk yC) ?_
    refine zc rfl (we rfl qA (gk x4) (gk yl) qI (xl hx1) (GNode.row_eq _)) (sk yz) ?_
    refine zc rfl (zk rfl fo41x2 (gk yh) rfl) (sk yL) ?_
    refine zc rfl (yf rfl ty23 (gk yJ) (zt rfl) (zb rfl)) (sk yO) ?_
    refine zc rfl (ze rfl xE (zb rfl)) (sk yS) ?_
    refine zK hF (fun v44 hv44 hF=>?_)
    refine zU rfl (zz rfl rfl rfl (zg (gk yE) (zg (gk yP) zu)) (.cons (zb rfl) (.cons (zb rfl) .nil))) ((ih hv44).le (.eq (.cons (leV.osl _ _ _) leL.nil))) (sk yW) ?_
    refine wc hF (fun hm45 hF=>?_)
    refine zc rfl (e_appT (j:=0) (T':=[((s2++v44)).length,(((([]:List yg)++ahead1)++([x1.name]:List yg))).length]) rfl rfl rfl rfl el68 el68 (gk xu) (gk yU) (zb rfl) (zb rfl) news_sl hm45 rfl rfl) (sk xa) ?_
    refine zc rfl (zi rfl (gk yR) (zb rfl)) xI ?_
    refine zf (zY (zj (zd ?_)))
    refine zc rfl (ze rfl y5 (zb rfl)) yO ?_
    refine zc rfl (zr rfl yE rfl rfl) yS ?_
    refine zc rfl (zi rfl yP (zb rfl)) xT ?_
    refine zf (yi ?_)
    obtain rfl:=Option.some.inj hF
    exact ⟨(s2++v44),hl1,hK1,wk.trans (wk.le (by exact (.eq (.eq (.drop (.drop (.drop (.cons (leV.of_eq rfl) (.cons (leV.of_eq (qp (by omega) (by omega))) (.d16 (.d16 (.d16 (.drop (.drop (.drop leL.nil))))))))))))))) (wD (by simp [z9,AV.low]) rfl rfl (by simp [Blk.low,z9,AV.low]))⟩
  ·refine yy ?_
   refine zT ?_
   refine zP ?_
   refine zQ ?_
   refine zj (zn (zd ?_))
   refine zc rfl (ze rfl yX (zb rfl)) (sk xd) ?_
   refine zc rfl (zi rfl (gk xb) (zb rfl)) yK ?_
   refine zf (zj (zO ?_))
   obtain rfl:=Option.some.inj hF
   refine zA rfl (zE yG zB) (zD (leV.osl _ _ _) rfl ?_)
   exact ⟨rfl,rfl⟩
theorem ok22 {t0:(List GNode)} {ahead1:(List yg)} {res:(List GVarveref07Row)} {h:AH}  (hF:ref07Rows t0 ahead1=some res):Spec Try.prog 22 [.sl 3 (t0.map GNode.row),.sl 1 (ahead1.map zR)] h (fun rr hh=>rr=.sl 10 (res.map GVarveref07Row.row)∧hh=h):=by
 obtain ⟨n,hn⟩:=anyN_is hF
 exact ok22N n  hn
theorem ok10 {t0:(List GNode)} {res:Int} {h:AH}  (hF:ref07Items t0=some res):Spec Try.prog 10 [.sl 3 (t0.map GNode.row)] h (fun rr hh=>rr=.int .i64 res∧hh=h):=by
 unfold ref07Items at hF
 refine zw Try.func10 rfl (by kernel_rfl) (env:=[.sl 3 (t0.map GNode.row),za,za,za,za,za,za,za,za,za,za,za,za,za,za,za,za,za,za,za,za,za,za,za,za,za]) (by rfl) ?_
 refine zn (zd ?_)
 refine zc rfl (zi rfl rfl (zb rfl)) xj ?_
 refine zf (zj (zn (zd ?_)))
 refine zc rfl (ze rfl yd (zb rfl)) xT ?_
 refine zK hF (fun v1 hv1 hF=>?_)
 refine zU rfl (zz rfl rfl rfl (zg y5 (zg rfl zu)) (.cons (zb rfl) (.cons (xk el25) .nil))) ((ok22 hv1).le (.eq (.cons (leV.osl _ _ _) leL.nil))) x9 ?_
 refine zc rfl (zi rfl xE (zb rfl)) wA ?_
 refine zf (zj (zn (zd ?_)))
 refine zc rfl (ze rfl yY (zb rfl)) xS ?_
 refine z7 rfl (zX rfl rfl rfl rfl el68 xu z8) wE fun hn2=>?_
 replace hn2:=xG hn2
 refine zc rfl (zi rfl x4 (zb rfl)) yK ?_
 refine zf (zj (zn (zn (zd ?_))))
 refine zc rfl (zi rfl rfl (zb rfl)) xI ?_
 refine zf (zj (zI ?_))
 refine yw (fun (n1:Nat) (s1:Int)=>yv [0,1,2,6,7,8,9,10,11,12,13,14,15,16,17,18,19,20,21,22,23,24,25] [(4,.int .i64 s1),(5,.int .i64 (n1:Int))]) (fun s1=>h.ext [] []) hF (fun _ _=>by simp only [yv,upd,List.set_cons_succ,List.set_cons_zero];try rfl) (wk.le (by exact (.drop (.drop (.drop (.eq (.cons (leV.of_eq rfl) (.cons (leV.of_eq rfl) (.d16 (.d4 leL.nil)))))))))) ?_
 intro n1 s1 hi1 hF
 refine zn (zn (zd ?_))
 refine zc rfl (ze rfl yX (zb rfl)) yC ?_
 refine zc rfl (ze rfl yY (zb rfl)) yz ?_
 refine z7 rfl (zX rfl rfl rfl rfl el68 yh z8) yL fun hn10=>?_
 replace hn10:=xG hn10
 refine zc rfl (zr rfl yl yJ rfl) yO ?_
 refine zf (zj ?_)
 refine y7 yE hF (fun x1 o1 hl1 hx1 hF hK1=>?_) (fun hF=>?_)
 ·refine zH (zj (zn (zI (zd ?_))))
  refine zc rfl (ze rfl yG (zb rfl)) xa ?_
  refine zc rfl (ze rfl yY (zb rfl)) xd ?_
  refine zc rfl (ze rfl yX (zb rfl)) xq ?_
  refine zc rfl (yM rfl el68 xb yD qI (xl hx1)) xr ?_
  refine zc rfl (zk rfl fo71x1 xz rfl) xV ?_
  refine zc rfl (zk rfl wq xi rfl) xU ?_
  refine zc rfl (yf rfl ty57 xY (zt rfl) (zb rfl)) wa ?_
  refine z7 rfl (zX rfl rfl rfl rfl vV wb z8) wh fun hn11=>?_
  replace hn11:=xG hn11
  refine zc rfl (zr rfl yR xH rfl) wu ?_
  refine zc rfl (zi rfl xg (zb rfl)) yK ?_
  refine zf (zY (zj (zd ?_)))
  refine zc rfl (ze rfl yX (zb rfl)) yS ?_
  refine zc rfl (zr rfl yP rfl rfl) yW ?_
  refine zc rfl (zi rfl yU (zb rfl)) xI ?_
  refine zf (yi ?_)
  obtain rfl:=Option.some.inj hF
  exact ⟨(IntKind.wrap .i64 (s1+((x1.l.items).length:Int))),hl1,hK1,wk.le (by exact (.drop (.drop (.drop (.eq (.cons (leV.of_eq rfl) (.cons (leV.of_eq (qp (by omega) (by omega))) (.d16 (.d4 leL.nil)))))))))⟩
 ·refine yy ?_
  refine zT ?_
  refine zP ?_
  refine zQ ?_
  refine zj (zn (zd ?_))
  refine zc rfl (ze rfl yG (zb rfl)) wB ?_
  refine zc rfl (zi rfl ww (zb rfl)) xj ?_
  refine zf (zj (zO ?_))
  obtain rfl:=Option.some.inj hF
  refine zA rfl (zE yQ zB) (zD (leV.refl _) rfl ?_)
  exact ⟨rfl,rfl⟩
theorem ok11 {t0:(List GNode)} {res:Int} {h:AH}  (hF:ref07Tombs t0=some res):Spec Try.prog 11 [.sl 3 (t0.map GNode.row)] h (fun rr hh=>rr=.int .i64 res∧hh=h):=by
 unfold ref07Tombs at hF
 refine zw Try.func11 rfl (by kernel_rfl) (env:=[.sl 3 (t0.map GNode.row),za,za,za,za,za,za,za,za,za,za,za,za,za,za,za,za,za,za,za,za,za,za,za]) (by rfl) ?_
 refine zn (zd ?_)
 refine zc rfl (zi rfl rfl (zb rfl)) xj ?_
 refine zf (zj (zn (zd ?_)))
 refine zc rfl (ze rfl yd (zb rfl)) xT ?_
 refine zK hF (fun v1 hv1 hF=>?_)
 refine zU rfl (zz rfl rfl rfl (zg y5 (zg rfl zu)) (.cons (zb rfl) (.cons (xk el25) .nil))) ((ok22 hv1).le (.eq (.cons (leV.osl _ _ _) leL.nil))) x9 ?_
 refine zc rfl (zi rfl xE (zb rfl)) wA ?_
 refine zf (zj (zn (zd ?_)))
 refine zc rfl (zi rfl rfl (zb rfl)) yK ?_
 refine zf (zj (zn (zn (zd ?_))))
 refine zc rfl (zi rfl rfl (zb rfl)) xI ?_
 refine zf (zj (zI ?_))
 refine yw (fun (n1:Nat) (s1:Int)=>yv [0,1,2,6,7,8,9,10,11,12,13,14,15,16,17,18,19,20,21,22,23] [(4,.int .i64 s1),(5,.int .i64 (n1:Int))]) (fun s1=>h.ext [] []) hF (fun _ _=>by simp only [yv,upd,List.set_cons_succ,List.set_cons_zero];try rfl) (wk.le (by exact (.drop (.drop (.drop (.eq (.cons (leV.of_eq rfl) (.cons (leV.of_eq rfl) (.d16 (.drop (.drop leL.nil))))))))))) ?_
 intro n1 s1 hi1 hF
 refine zn (zn (zd ?_))
 refine zc rfl (ze rfl yX (zb rfl)) xS ?_
 refine zc rfl (ze rfl yY (zb rfl)) wE ?_
 refine z7 rfl (zX rfl rfl rfl rfl el68 x4 z8) yC fun hn9=>?_
 replace hn9:=xG hn9
 refine zc rfl (zr rfl xu yl rfl) yz ?_
 refine zf (zj ?_)
 refine y7 yh hF (fun x1 o1 hl1 hx1 hF hK1=>?_) (fun hF=>?_)
 ·refine zH (zj (zn (zI (zd ?_))))
  refine zc rfl (ze rfl yG (zb rfl)) yS ?_
  refine zc rfl (ze rfl yY (zb rfl)) yW ?_
  refine zc rfl (ze rfl yX (zb rfl)) xa ?_
  refine zc rfl (yM rfl el68 yU yR qI (xl hx1)) xd ?_
  refine zc rfl (zk rfl fo71x1 xb rfl) xq ?_
  refine zc rfl (zk rfl vh yD rfl) xr ?_
  refine zc rfl (yf rfl ty26 xz (zt rfl) (zb rfl)) xV ?_
  refine z7 rfl (zX rfl rfl rfl rfl qK xi z8) xU fun hn10=>?_
  replace hn10:=xG hn10
  refine zc rfl (zr rfl yP xY rfl) wa ?_
  refine zc rfl (zi rfl wb (zb rfl)) yK ?_
  refine zf (zY (zj (zd ?_)))
  refine zc rfl (ze rfl yX (zb rfl)) yL ?_
  refine zc rfl (zr rfl yJ rfl rfl) yO ?_
  refine zc rfl (zi rfl yE (zb rfl)) xI ?_
  refine zf (yi ?_)
  obtain rfl:=Option.some.inj hF
  exact ⟨(IntKind.wrap .i64 (s1+((x1.l.tombs).length:Int))),hl1,hK1,wk.le (by exact (.drop (.drop (.drop (.eq (.cons (leV.of_eq rfl) (.cons (leV.of_eq (qp (by omega) (by omega))) (.d16 (.drop (.drop leL.nil))))))))))⟩
 ·refine yy ?_
  refine zT ?_
  refine zP ?_
  refine zQ ?_
  refine zj (zn (zd ?_))
  refine zc rfl (ze rfl yG (zb rfl)) wh ?_
  refine zc rfl (zi rfl xH (zb rfl)) xj ?_
  refine zf (zj (zO ?_))
  obtain rfl:=Option.some.inj hF
  refine zA rfl (zE yQ zB) (zD (leV.refl _) rfl ?_)
  exact ⟨rfl,rfl⟩
end Go.Vv
