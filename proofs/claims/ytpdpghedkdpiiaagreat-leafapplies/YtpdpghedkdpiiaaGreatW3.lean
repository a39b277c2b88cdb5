/- Each function that the law reaches computes what its reading says; printed by a program. -/
import Derived.Test.YtpdpghedkdpiiaaGreatW2
namespace Go.Vv
open Go Go.Proofs
set_option maxRecDepth 100000
set_option maxHeartbeats 1000000
set_option linter.unusedSimpArgs false
set_option linter.unusedVariables false
/-! varve/leaf.Apply -/
theorem ok15 {l0:GLeaf} {e1:GEvent} {res:(GLeaf×Int)} {h:AH}  (hF:vk l0 e1=some res):Spec Tryz.prog 15 [.agg [.int .u8 l0.typ,.int .i64 l0.n,.int .u64 l0.time,.int .u8 l0.dot.actor.rep,.int .u32 l0.dot.actor.inc,.int .u64 l0.dot.seq,.str l0.text,.sl 5 (l0.items.map GItem.row),.sl 3 (l0.tombs.map GDot.row)],.agg [.int .u8 e1.dot.actor.rep,.int .u32 e1.dot.actor.inc,.int .u64 e1.dot.seq,.int .u64 e1.time,.int .u8 e1.op.kind,.sl 1 (e1.op.path.map zG),.int .i64 e1.op.n,.str e1.op.text,.sl 3 (e1.op.dots.map GDot.row)]] h (fun rr hh=>rr=.tup [.agg [.int .u8 res.1.typ,.int .i64 res.1.n,.int .u64 res.1.time,.int .u8 res.1.dot.actor.rep,.int .u32 res.1.dot.actor.inc,.int .u64 res.1.dot.seq,.str res.1.text,.sl 5 (res.1.items.map GItem.row),.sl 3 (res.1.tombs.map GDot.row)],.int .i64 res.2]∧hh=h):=by
 unfold vk at hF
 refine zx Tryz.func15 rfl (by kernel_rfl) (env:=[.agg [.int .u8 l0.typ,.int .i64 l0.n,.int .u64 l0.time,.int .u8 l0.dot.actor.rep,.int .u32 l0.dot.actor.inc,.int .u64 l0.dot.seq,.str l0.text,.sl 5 (l0.items.map GItem.row),.sl 3 (l0.tombs.map GDot.row)],.agg [.int .u8 e1.dot.actor.rep,.int .u32 e1.dot.actor.inc,.int .u64 e1.dot.seq,.int .u64 e1.time,.int .u8 e1.op.kind,.sl 1 (e1.op.path.map zG),.int .i64 e1.op.n,.str e1.op.text,.sl 3 (e1.op.dots.map GDot.row)],za,za,za,za,za,za,za,za,za,za,za,za,za,za,za,za,za,za,za,za,za,za,za,za,za,za,za,za,za,za,za,za,za,za,za,za,za,za,za,za,za,za,za,za,za,za,za,za,za,za,za,za,za,za,za,za,za]) (by rfl) ?_
 refine zn (ze ?_)
 refine zc rfl (yF (n:=0) rfl yh (zb rfl) rfl rfl) xf ?_
 refine zc rfl (yF (n:=1) rfl yB (zb rfl) rfl rfl) x5 ?_
 refine zc rfl (xG (n:=2) rfl ze31 rfl) yV ?_
 refine zc rfl (zj rfl rfl (zb rfl)) xp ?_
 refine zf (zk (zn (zW (zn (ze ?_)))))
 refine zc rfl (zq rfl ty31.choose_spec.1 yv rfl (zu (cs':=[.int .u8 l0.typ,.int .i64 l0.n,.int .u64 l0.time,.int .u8 l0.dot.actor.rep,.int .u32 l0.dot.actor.inc,.int .u64 l0.dot.seq,.str l0.text,.sl 5 (l0.items.map GItem.row),.sl 3 (l0.tombs.map GDot.row)]) ty31.choose_spec.2 rfl rfl) (zb rfl)) yx ?_
 refine zQ hF (fun v1 hv1 hF=>?_)
 refine zU rfl (zC rfl rfl rfl (zo yr zw) (.cons (zb rfl) .nil)) (ok7 hv1) yE ?_
 refine zc rfl (vB rfl yD rfl) yK ?_
 refine zc rfl (zg rfl yI (zb rfl)) yT ?_
 refine zr rfl (fun hb=>zq rfl ty36.choose_spec.1 yf rfl (zu (cs':=[.int .u8 e1.dot.actor.rep,.int .u32 e1.dot.actor.inc,.int .u64 e1.dot.seq,.int .u64 e1.time,.int .u8 e1.op.kind,.sl 1 (e1.op.path.map zG),.int .i64 e1.op.n,.str e1.op.text,.sl 3 (e1.op.dots.map GDot.row)]) ty36.choose_spec.2 rfl rfl) (zb rfl)) yS ?_
 refine yP hF (fun v2 hv2 hF=>?_)
 refine yJ rfl (fun hb=>zC rfl rfl rfl (zo (zp yO hb) zw) (.cons (zb rfl) .nil)) (fun hb=>ok29 (hv2 hb)) yZ ?_
 refine zr rfl (fun hb=>vB rfl (zp y4 hb) rfl) y8 ?_
 refine zc rfl (zM rfl yY rfl xd (zZ (fun ht=>gF ht))) xk ?_
 refine zc rfl (zj rfl xl (zb rfl)) yy ?_
 refine zf (zk ?_)
 refine zI yw hF (fun hc3 hF=>?_) (fun hc3 hF=>?_)
 ·refine zn (ze ?_)
  refine zc rfl (xc (cs':=[.int .u8 (0:Int),.int .i64 (0:Int),.int .u64 (0:Int),.int .u8 (0:Int),.int .u32 (0:Int),.int .u64 (0:Int),.str ([]:yn),.osl none 5 (([]:List GItem).map GItem.row),.osl none 3 (([]:List GDot).map GDot.row)]) rfl su31 ze31 pl31 zT .nil rfl rfl) xJ ?_
  refine zc rfl (zP (cs':=[.int .u8 (0:Int),.int .i64 (0:Int),.int .u64 (0:Int),.int .u8 (0:Int),.int .u32 (0:Int),.int .u64 (0:Int),.str ([]:yn),.osl none 5 (([]:List GItem).map GItem.row),.osl none 3 (([]:List GDot).map GDot.row)]) rfl ty31.choose_spec.1 yp xL (zb rfl) rfl rfl rfl rfl rfl) rfl ?_
  refine zc rfl (zj rfl rfl (zb rfl)) xp ?_
  refine zf (zk (zJ ?_))
  refine zL ?_
  refine zD ?_
  obtain rfl:=Option.some.inj hF
  refine xU rfl (xg ty31.choose_spec.1 yp rfl (zu (cs':=[.int .u8 (0:Int),.int .i64 (0:Int),.int .u64 (0:Int),.int .u8 (0:Int),.int .u32 (0:Int),.int .u64 (0:Int),.str ([]:yn),.osl none 5 (([]:List GItem).map GItem.row),.osl none 3 (([]:List GDot).map GDot.row)]) ty31.choose_spec.2 rfl rfl) (zb rfl) (zH yR zA)) (zB (leV.tup (.cons (leV.agg (.eq (.eq (.eq (.eq (.eq (.eq (.eq (.cons (leV.osl _ _ _) (.cons (leV.osl _ _ _) leL.nil))))))))) rfl) (.eq leL.nil))) rfl ?_)
  exact ⟨rfl,rfl⟩
 ·refine zn ?_
  refine yb [3] [] trivial mixed (by kernel_rfl) ?_
  refine zi rfl rfl (zd rfl wd yf rfl) wb ?_
  refine zi rfl rfl (zd rfl fo34x0 wa rfl) wl ?_
  refine zi rfl rfl (zq rfl ty5 wq rfl (zt rfl) (zb rfl)) wp ?_
  refine zQ hF (fun v4 hv4 hF=>?_)
  refine yQ rfl rfl (fun _=>zC rfl rfl rfl (zo wg zw) (.cons (zb rfl) .nil)) (by rintro _ ⟨B2,T2,rfl,hk2⟩;exact ok30 hv4) wu ?_
  refine zi rfl rfl (zd rfl vu yv rfl) wz ?_
  refine zi rfl rfl (zq rfl ty5 wv rfl (zt rfl) (zb rfl)) wV ?_
  refine zi rfl rfl (zz rfl ww wD rfl) wU ?_
  refine zi rfl rfl (zj rfl w4 (zb rfl)) xQ ?_
  refine zX ?_
  refine zk ?_
  refine zI xX hF (fun hc5 hF=>?_) (fun hc5 hF=>?_)
  ·refine zn (ze ?_)
   refine zc rfl (xc (cs':=[.int .u8 (0:Int),.int .i64 (0:Int),.int .u64 (0:Int),.int .u8 (0:Int),.int .u32 (0:Int),.int .u64 (0:Int),.str ([]:yn),.osl none 5 (([]:List GItem).map GItem.row),.osl none 3 (([]:List GDot).map GDot.row)]) rfl su31 ze31 pl31 zT .nil rfl rfl) wG ?_
   refine zc rfl (zP (cs':=[.int .u8 (0:Int),.int .i64 (0:Int),.int .u64 (0:Int),.int .u8 (0:Int),.int .u32 (0:Int),.int .u64 (0:Int),.str ([]:yn),.osl none 5 (([]:List GItem).map GItem.row),.osl none 3 (([]:List GDot).map GDot.row)]) rfl ty31.choose_spec.1 yp wH (zb rfl) rfl rfl rfl rfl rfl) rfl ?_
   refine zc rfl (zj rfl rfl (zb rfl)) xp ?_
   refine zf (zk (zJ ?_))
   refine zL ?_
   refine zD ?_
   obtain rfl:=Option.some.inj hF
   refine xU rfl (xg ty31.choose_spec.1 yp rfl (zu (cs':=[.int .u8 (0:Int),.int .i64 (0:Int),.int .u64 (0:Int),.int .u8 (0:Int),.int .u32 (0:Int),.int .u64 (0:Int),.str ([]:yn),.osl none 5 (([]:List GItem).map GItem.row),.osl none 3 (([]:List GDot).map GDot.row)]) ty31.choose_spec.2 rfl rfl) (zb rfl) (zH yR zA)) (zB (leV.tup (.cons (leV.agg (.eq (.eq (.eq (.eq (.eq (.eq (.eq (.cons (leV.osl _ _ _) (.cons (leV.osl _ _ _) leL.nil))))))))) rfl) (.eq leL.nil))) rfl ?_)
   exact ⟨rfl,rfl⟩
  ·refine zN (ye (zk (zn (ze ?_))))
   refine zc rfl (e_makeMap (n:=3) rfl rfl) w9 ?_
   refine ops_b rfl (e_insF (j:=3) rfl Tryz.underlying64 (ql Tryz.underlying5) we rfl rfl rfl wN rfl) rfl ?_
   refine ops_b rfl (e_insF (j:=3) rfl Tryz.underlying64 (ql Tryz.underlying5) we rfl rfl rfl (zY Tryz.underlying5 (by decide) wN) rfl) rfl ?_
   refine ops_b rfl (e_insF (j:=3) rfl Tryz.underlying64 (ql Tryz.underlying5) we rfl rfl rfl (zY Tryz.underlying5 (by decide) (zY Tryz.underlying5 (by decide) wN)) rfl) rfl ?_
   refine ops_b rfl (e_insF (j:=3) rfl Tryz.underlying64 (ql Tryz.underlying5) we rfl rfl rfl (zY Tryz.underlying5 (by decide) (zY Tryz.underlying5 (by decide) (zY Tryz.underlying5 (by decide) wN))) rfl) rfl ?_
   refine ops_b rfl (e_insF (j:=3) rfl Tryz.underlying64 (ql Tryz.underlying5) we rfl rfl rfl (zY Tryz.underlying5 (by decide) (zY Tryz.underlying5 (by decide) (zY Tryz.underlying5 (by decide) (zY Tryz.underlying5 (by decide) wN)))) rfl) rfl ?_
   refine zc rfl (zg rfl we (zb rfl)) w8 ?_
   refine zc rfl (zj rfl va (zb rfl)) xI ?_
   refine zf (zk (zn ?_))
   refine yb [4] [(4,[(0,.cells [.int .u8 l0.typ,.int .i64 l0.n,.int .u64 l0.time,.int .u8 l0.dot.actor.rep,.int .u32 l0.dot.actor.inc,.int .u64 l0.dot.seq,.str l0.text,.sl 5 (l0.items.map GItem.row),.sl 3 (l0.tombs.map GDot.row)])])] ⟨⟨rfl,trivial⟩,trivial⟩ mixed (by kernel_rfl) ?_
   refine zi rfl rfl (zd rfl ym yv rfl) w7 ?_
   refine zi rfl rfl (zq rfl xW wZ rfl (zt rfl) (zb rfl)) wT ?_
   refine zQ hF (fun v6 hv6 hF=>?_)
   refine vV (by kernel_rfl) rfl (FOk.cons (.inr (xY ⟨rfl,trivial⟩)) FOk.nil) rfl (zC rfl rfl rfl (zo wQ zw) (.cons (zb rfl) .nil)) (row_new (B':=[.cells [.int .u8 l0.typ,.int .i64 l0.n,.int .u64 l0.time,.int .u8 l0.dot.actor.rep,.int .u32 l0.dot.actor.inc,.int .u64 l0.dot.seq,.str l0.text,.sl 5 (l0.items.map GItem.row),.sl 3 (l0.tombs.map GDot.row)],.cells [.int .u8 e1.dot.actor.rep,.int .u32 e1.dot.actor.inc,.int .u64 e1.dot.seq,.int .u64 e1.time,.int .u8 e1.op.kind,.sl 1 (e1.op.path.map zG),.int .i64 e1.op.n,.str e1.op.text,.sl 3 (e1.op.dots.map GDot.row)],.cells [.int .u8 (0:Int),.int .i64 (0:Int),.int .u64 (0:Int),.int .u8 (0:Int),.int .u32 (0:Int),.int .u64 (0:Int),.str ([]:yn),.osl none 5 (([]:List GItem).map GItem.row),.osl none 3 (([]:List GDot).map GDot.row)],.mapo [(.int .u8 1,.fn (.func 31) [] []),(.int .u8 2,.fn (.func 32) [] []),(.int .u8 3,.fn (.func 33) [] []),(.int .u8 4,.fn (.func 34) [] []),(.int .u8 5,.fn (.func 35) [] [])] 0,.row (h.toks.length+0) 5 (v6.map GItem.row)]) (T':=[(v6).length]) (okR36 hv6) rfl rfl rfl rfl) wS ?_
   refine zi rfl rfl (zd rfl y5 yv rfl) wR ?_
   refine vD rfl rfl (by rintro _ ⟨B2,T2,rfl,hk2⟩;exact zq rfl xP wX (keeps1 hk2) (zt rfl) (zb rfl)) vg ?_
   refine zQ hF (fun v7 hv7 hF=>?_)
   refine vV (by kernel_rfl) rfl (FOk.cons (.inr (xY ⟨rfl,trivial⟩)) FOk.nil) rfl (zC rfl rfl rfl (zo vn zw) (.cons (zb rfl) .nil)) (row_new (B':=[.cells [.int .u8 l0.typ,.int .i64 l0.n,.int .u64 l0.time,.int .u8 l0.dot.actor.rep,.int .u32 l0.dot.actor.inc,.int .u64 l0.dot.seq,.str l0.text,.sl 5 (l0.items.map GItem.row),.sl 3 (l0.tombs.map GDot.row)],.cells [.int .u8 e1.dot.actor.rep,.int .u32 e1.dot.actor.inc,.int .u64 e1.dot.seq,.int .u64 e1.time,.int .u8 e1.op.kind,.sl 1 (e1.op.path.map zG),.int .i64 e1.op.n,.str e1.op.text,.sl 3 (e1.op.dots.map GDot.row)],.cells [.int .u8 (0:Int),.int .i64 (0:Int),.int .u64 (0:Int),.int .u8 (0:Int),.int .u32 (0:Int),.int .u64 (0:Int),.str ([]:yn),.osl none 5 (([]:List GItem).map GItem.row),.osl none 3 (([]:List GDot).map GDot.row)],.mapo [(.int .u8 1,.fn (.func 31) [] []),(.int .u8 2,.fn (.func 32) [] []),(.int .u8 3,.fn (.func 33) [] []),(.int .u8 4,.fn (.func 34) [] []),(.int .u8 5,.fn (.func 35) [] [])] 0,.row (h.toks.length+0) 5 (v6.map GItem.row),.row (h.toks.length+1) 3 (v7.map GDot.row)]) (T':=[(v6).length,(v7).length]) (okR37 hv7) rfl rfl rfl rfl) vf ?_
   refine zi rfl rfl (zd rfl ym yv rfl) vI ?_
   refine yG rfl (FOk.cons (.inl (by kernel_rfl)) FOk.nil) (by kernel_rfl) rfl (zP (cs':=[.int .u8 l0.typ,.int .i64 l0.n,.int .u64 l0.time,.int .u8 l0.dot.actor.rep,.int .u32 l0.dot.actor.inc,.int .u64 l0.dot.seq,.str l0.text,.rsl (h.blks.length+4) (h.toks.length+0) 5 ((v6).length),.sl 3 (l0.tombs.map GDot.row)]) rfl xW vC wY (zb rfl) rfl rfl rfl rfl rfl) rfl ?_
   refine zi rfl rfl (zd rfl y5 yv rfl) vN ?_
   refine yG rfl (FOk.cons (.inl (by kernel_rfl)) FOk.nil) (by kernel_rfl) rfl (zP (cs':=[.int .u8 l0.typ,.int .i64 l0.n,.int .u64 l0.time,.int .u8 l0.dot.actor.rep,.int .u32 l0.dot.actor.inc,.int .u64 l0.dot.seq,.str l0.text,.rsl (h.blks.length+4) (h.toks.length+0) 5 ((v6).length),.rsl (h.blks.length+5) (h.toks.length+1) 3 ((v7).length)]) rfl xP vO vm (zb rfl) rfl rfl rfl rfl rfl) rfl ?_
   refine zX ?_
   refine zk (zn (ze ?_))
   refine zc rfl (zq rfl ty31.choose_spec.1 yv rfl (zu (cs':=[.int .u8 l0.typ,.int .i64 l0.n,.int .u64 l0.time,.int .u8 l0.dot.actor.rep,.int .u32 l0.dot.actor.inc,.int .u64 l0.dot.seq,.str l0.text,.rsl (h.blks.length+4) (h.toks.length+0) 5 ((v6).length),.rsl (h.blks.length+5) (h.toks.length+1) 3 ((v7).length)]) ty31.choose_spec.2 rfl rfl) (zb rfl)) vZ ?_
   refine zc rfl (xc (cs':=[.int .u8 l0.typ,.int .i64 l0.n,.int .u64 l0.time,.int .u8 l0.dot.actor.rep,.int .u32 l0.dot.actor.inc,.int .u64 l0.dot.seq,.str l0.text,.rsl (h.blks.length+4) (h.toks.length+0) 5 ((v6).length),.rsl (h.blks.length+5) (h.toks.length+1) 3 ((v7).length)]) rfl su68 ze68 pl68 (zK qe zT) (.cons (zb rfl) .nil) rfl rfl) (sk st0) ?_
   refine zc rfl (yF (n:=6) rfl (gk yh) (zb rfl) rfl rfl) (sk st1) ?_
   refine zc rfl (zj rfl (gk yB) (zb rfl)) xN ?_
   refine zf (zk (zn (zn (ze ?_))))
   refine zc rfl (zg rfl xh (zb rfl)) (sk x5) ?_
   refine zc rfl (zd rfl wd yf rfl) (sk yV) ?_
   refine zc rfl (zd rfl fo34x0 (gk yp) rfl) (sk xp) ?_
   refine zc rfl (zq rfl ty5 (gk yR) rfl (zt rfl) (zb rfl)) (sk xI) ?_
   refine iteF hF (fun hk8 hF=>?_) (fun hk8 hF=>?_)
   ·refine zc rfl (e_lookF (j:=3) (n:=1) rfl Tryz.underlying64 Tryz.underlying5 (gk yf) rfl (gk xh) hk8 (qm Tryz.underlying5)) (sk xN) ?_
    refine zc rfl (zg rfl (gk xu) (zb rfl)) (sk xf) ?_
    refine zc rfl (zV rfl (gk yv) rfl (zb rfl)) (sk xC) ?_
    refine zc rfl (zV rfl (gk yv) rfl (zb rfl)) (sk xR) ?_
    refine zc rfl (zj rfl (gk xr) (zb rfl)) xC ?_
    refine zc rfl (zj rfl (gk xK) (zb rfl)) xR ?_
    refine zf (zk (zn (ze ?_)))
    refine zc rfl (zg rfl xK (zb rfl)) (sk yy) ?_
    refine zf (zk ?_)
    refine vQ (gk yw) (fun _=>?_) (fun hh=>by cases hh)
    refine ze ?_
    refine zc rfl (zg rfl xr (zb rfl)) (sk yx) ?_
    refine zc rfl (zg rfl xu (zb rfl)) (sk yE) ?_
    refine zc rfl (zq rfl ty36.choose_spec.1 yf rfl (zu (cs':=[.int .u8 e1.dot.actor.rep,.int .u32 e1.dot.actor.inc,.int .u64 e1.dot.seq,.int .u64 e1.time,.int .u8 e1.op.kind,.sl 1 (e1.op.path.map zG),.int .i64 e1.op.n,.str e1.op.text,.sl 3 (e1.op.dots.map GDot.row)]) ty36.choose_spec.2 rfl rfl) (zb rfl)) (sk yK) ?_
    refine zQ hF (fun v9 hv9 hF=>?_)
    refine vL (X:=Unit) (v:=.tup []) (H':=fun _=>h.ext [.cells [.int .u8 l0.typ,.int .i64 l0.n,.int .u64 l0.time,.int .u8 l0.dot.actor.rep,.int .u32 l0.dot.actor.inc,.int .u64 l0.dot.seq,.str l0.text,.rsl (h.blks.length+4) (h.toks.length+0) 5 ((v6).length),.rsl (h.blks.length+5) (h.toks.length+1) 3 ((v7).length)],.cells [.int .u8 e1.dot.actor.rep,.int .u32 e1.dot.actor.inc,.int .u64 e1.dot.seq,.int .u64 e1.time,.int .u8 e1.op.kind,.sl 1 (e1.op.path.map zG),.int .i64 e1.op.n,.str e1.op.text,.sl 3 (e1.op.dots.map GDot.row)],.cells [.int .u8 (0:Int),.int .i64 (0:Int),.int .u64 (0:Int),.int .u8 (0:Int),.int .u32 (0:Int),.int .u64 (0:Int),.str ([]:yn),.osl none 5 (([]:List GItem).map GItem.row),.osl none 3 (([]:List GDot).map GDot.row)],.mapo [(.int .u8 1,.fn (.func 31) [] []),(.int .u8 2,.fn (.func 32) [] []),(.int .u8 3,.fn (.func 33) [] []),(.int .u8 4,.fn (.func 34) [] []),(.int .u8 5,.fn (.func 35) [] [])] 0,.row (h.toks.length+0) 5 (v6.map GItem.row),.row (h.toks.length+1) 3 (v7.map GDot.row),.cells [.int .u8 l0.typ,.int .i64 v9,.int .u64 l0.time,.int .u8 l0.dot.actor.rep,.int .u32 l0.dot.actor.inc,.int .u64 l0.dot.seq,.str l0.text,.rsl (h.blks.length+4) (h.toks.length+0) 5 ((v6).length),.rsl (h.blks.length+5) (h.toks.length+1) 3 ((v7).length)]] [(v6).length,(v7).length]) rfl (zC rfl rfl (gk yr) (zo (gk yD) (zo (gk yI) zw)) (.cons (zb rfl) (.cons (zb rfl) .nil))) ?_ (sk yT) (fun _=>?_)
    ·replace hF:=hv9
     refine yz Tryz.func31 rfl (by kernel_rfl) (env:=[.ptr (h.blks.length+6) 0,.agg [.int .u8 e1.dot.actor.rep,.int .u32 e1.dot.actor.inc,.int .u64 e1.dot.seq,.int .u64 e1.time,.int .u8 e1.op.kind,.sl 1 (e1.op.path.map zG),.int .i64 e1.op.n,.str e1.op.text,.sl 3 (e1.op.dots.map GDot.row)],za,za,za,za,za,za,za,za,za,za,za,za,za,za]) (by rfl) ?_
     refine zn (ze ?_)
     refine zc rfl (yF (n:=7) rfl yB (zb rfl) rfl rfl) x5 ?_
     refine zf (zk ?_)
     refine yb [] [] trivial mixed (by kernel_rfl) ?_
     refine zi rfl rfl (zg rfl yh (zb rfl)) yV ?_
     refine zi rfl rfl (zO rfl yp rfl) xp ?_
     refine zi rfl rfl (zd rfl yk yR rfl) xI ?_
     refine zi rfl rfl (zd rfl qZ xh rfl) xN ?_
     refine zi rfl rfl (zq rfl ty2 xu rfl (zt rfl) (zb rfl)) xC ?_
     refine zi rfl rfl (zd rfl wd yf rfl) xR ?_
     refine zi rfl rfl (zd rfl fo34x2 xK rfl) yy ?_
     refine zi rfl rfl (zq rfl ty2 yw rfl (zt rfl) (zb rfl)) yx ?_
     refine zi rfl rfl (zz rfl xr yr rfl) yE ?_
     refine zi rfl rfl (zO rfl yp rfl) yK ?_
     refine zi rfl rfl (zd rfl yk yI rfl) yT ?_
     refine zi rfl rfl (zd rfl qZ yY rfl) yS ?_
     refine yG rfl FOk.nil (by kernel_rfl) rfl (zP (cs':=[.int .u8 l0.typ,.int .i64 (IntKind.wrap .i64 (l0.n+e1.op.n)),.int .u64 l0.time,.int .u8 l0.dot.actor.rep,.int .u32 l0.dot.actor.inc,.int .u64 l0.dot.seq,.str l0.text,.rsl (h.blks.length+4) (h.toks.length+0) 5 ((v6).length),.rsl (h.blks.length+5) (h.toks.length+1) 3 ((v7).length)]) rfl ty2 yO yD (zb rfl) rfl rfl rfl rfl rfl) rfl ?_
     refine zX ?_
     refine qR ?_
     obtain rfl:=Option.some.inj hF
     refine x7 rfl zA (xZ (vX (by simp [y3,AV.low]) rfl rfl (by simp [Blk.low,y3,AV.low])) ?_)
     exact ⟨rfl,(),rfl⟩
    ·refine zf (zk (zn (ze ?_)))
     refine zc rfl (zg rfl xu (zb rfl)) (sk yS) ?_
     refine zc rfl (zO rfl (gk yO) rfl) (sk yZ) ?_
     refine zc rfl (zd rfl yk (gk y4) rfl) (sk y8) ?_
     refine zc rfl (zq rfl ty31.choose_spec.1 (gk xd) rfl (zu (cs':=[.int .u8 l0.typ,.int .i64 v9,.int .u64 l0.time,.int .u8 l0.dot.actor.rep,.int .u32 l0.dot.actor.inc,.int .u64 l0.dot.seq,.str l0.text,.rsl (h.blks.length+4) (h.toks.length+0) 5 ((v6).length),.rsl (h.blks.length+5) (h.toks.length+1) 3 ((v7).length)]) ty31.choose_spec.2 rfl rfl) (zb rfl)) (sk xk) ?_
     refine zc rfl (zP (cs':=[.int .u8 l0.typ,.int .i64 v9,.int .u64 l0.time,.int .u8 l0.dot.actor.rep,.int .u32 l0.dot.actor.inc,.int .u64 l0.dot.seq,.str l0.text,.rsl (h.blks.length+4) (h.toks.length+0) 5 ((v6).length),.rsl (h.blks.length+5) (h.toks.length+1) 3 ((v7).length)]) rfl ty31.choose_spec.1 yp (gk xl) (zb rfl) rfl rfl rfl rfl rfl) rfl ?_
     refine zc rfl (zj rfl rfl (zb rfl)) xp ?_
     refine zf (zk (zJ ?_))
     obtain rfl:=Option.some.inj hF
     refine xU rfl (xg ty31.choose_spec.1 yp rfl (zu (cs':=[.int .u8 l0.typ,.int .i64 v9,.int .u64 l0.time,.int .u8 l0.dot.actor.rep,.int .u32 l0.dot.actor.inc,.int .u64 l0.dot.seq,.str l0.text,.rsl (h.blks.length+4) (h.toks.length+0) 5 ((v6).length),.rsl (h.blks.length+5) (h.toks.length+1) 3 ((v7).length)]) ty31.choose_spec.2 rfl rfl) (zb rfl) (zH yR zA)) (fin_trans (wk.trans ((wj (j:=4) (m:=0) (B':=[.cells [.int .u8 l0.typ,.int .i64 l0.n,.int .u64 l0.time,.int .u8 l0.dot.actor.rep,.int .u32 l0.dot.actor.inc,.int .u64 l0.dot.seq,.str l0.text,.rsl (h.blks.length+4) (h.toks.length+0) 5 ((v6).length),.rsl (h.blks.length+5) (h.toks.length+1) 3 ((v7).length)],.cells [.int .u8 e1.dot.actor.rep,.int .u32 e1.dot.actor.inc,.int .u64 e1.dot.seq,.int .u64 e1.time,.int .u8 e1.op.kind,.sl 1 (e1.op.path.map zG),.int .i64 e1.op.n,.str e1.op.text,.sl 3 (e1.op.dots.map GDot.row)],.cells [.int .u8 l0.typ,.int .i64 v9,.int .u64 l0.time,.int .u8 l0.dot.actor.rep,.int .u32 l0.dot.actor.inc,.int .u64 l0.dot.seq,.str l0.text,.rsl (h.blks.length+4) (h.toks.length+0) 5 ((v6).length),.rsl (h.blks.length+5) (h.toks.length+1) 3 ((v7).length)],.mapo [(.int .u8 1,.fn (.func 31) [] []),(.int .u8 2,.fn (.func 32) [] []),(.int .u8 3,.fn (.func 33) [] []),(.int .u8 4,.fn (.func 34) [] []),(.int .u8 5,.fn (.func 35) [] [])] 0,.dead,.row (h.toks.length+1) 3 (v7.map GDot.row),.cells [.int .u8 l0.typ,.int .i64 v9,.int .u64 l0.time,.int .u8 l0.dot.actor.rep,.int .u32 l0.dot.actor.inc,.int .u64 l0.dot.seq,.str l0.text,.rsl (h.blks.length+4) (h.toks.length+0) 5 ((v6).length),.rsl (h.blks.length+5) (h.toks.length+1) 3 ((v7).length)]]) (T':=[(v6.map GItem.row).length+1,(v7).length]) rfl (by exact (.cons (.tup (.cons (.agg (.cons (.same _) (.cons (.same _) (.cons (.same _) (.cons (.same _) (.cons (.same _) (.cons (.same _) (.cons (.same _) (.cons (.hit2 _ _ (by simp)) (.refl _))))))))) rfl) (.refl _))) (.refl _))) rfl rfl).wk) ((wj (j:=5) (m:=1) (B':=[.cells [.int .u8 l0.typ,.int .i64 l0.n,.int .u64 l0.time,.int .u8 l0.dot.actor.rep,.int .u32 l0.dot.actor.inc,.int .u64 l0.dot.seq,.str l0.text,.rsl (h.blks.length+4) (h.toks.length+0) 5 ((v6).length),.rsl (h.blks.length+5) (h.toks.length+1) 3 ((v7).length)],.cells [.int .u8 e1.dot.actor.rep,.int .u32 e1.dot.actor.inc,.int .u64 e1.dot.seq,.int .u64 e1.time,.int .u8 e1.op.kind,.sl 1 (e1.op.path.map zG),.int .i64 e1.op.n,.str e1.op.text,.sl 3 (e1.op.dots.map GDot.row)],.cells [.int .u8 l0.typ,.int .i64 v9,.int .u64 l0.time,.int .u8 l0.dot.actor.rep,.int .u32 l0.dot.actor.inc,.int .u64 l0.dot.seq,.str l0.text,.rsl (h.blks.length+4) (h.toks.length+0) 5 ((v6).length),.rsl (h.blks.length+5) (h.toks.length+1) 3 ((v7).length)],.mapo [(.int .u8 1,.fn (.func 31) [] []),(.int .u8 2,.fn (.func 32) [] []),(.int .u8 3,.fn (.func 33) [] []),(.int .u8 4,.fn (.func 34) [] []),(.int .u8 5,.fn (.func 35) [] [])] 0,.dead,.dead,.cells [.int .u8 l0.typ,.int .i64 v9,.int .u64 l0.time,.int .u8 l0.dot.actor.rep,.int .u32 l0.dot.actor.inc,.int .u64 l0.dot.seq,.str l0.text,.rsl (h.blks.length+4) (h.toks.length+0) 5 ((v6).length),.rsl (h.blks.length+5) (h.toks.length+1) 3 ((v7).length)]]) (T':=[(v6.map GItem.row).length+1,(v7.map GDot.row).length+1]) rfl (by exact (.cons (.tup (.cons (.agg (.cons (.same _) (.cons (.same _) (.cons (.same _) (.cons (.same _) (.cons (.same _) (.cons (.same _) (.cons (.same _) (.cons (.same _) (.cons (.hit2 _ _ (by simp)) (.refl _)))))))))) rfl) (.refl _))) (.refl _))) rfl rfl).wk)) ?_)
     refine zB (leV.refl _) rfl ?_
     exact ⟨rfl,rfl⟩
   ·refine iteF hF (fun hk10 hF=>?_) (fun hk10 hF=>?_)
    ·refine zc rfl (e_lookF (j:=3) (n:=2) rfl Tryz.underlying64 Tryz.underlying5 (gk yf) rfl (gk xh) hk10 (zY Tryz.underlying5 (by decide) (qm Tryz.underlying5))) (sk xN) ?_
     refine zc rfl (zg rfl (gk xu) (zb rfl)) (sk xf) ?_
     refine zc rfl (zV rfl (gk yv) rfl (zb rfl)) (sk xC) ?_
     refine zc rfl (zV rfl (gk yv) rfl (zb rfl)) (sk xR) ?_
     refine zc rfl (zj rfl (gk xr) (zb rfl)) xC ?_
     refine zc rfl (zj rfl (gk xK) (zb rfl)) xR ?_
     refine zf (zk (zn (ze ?_)))
     refine zc rfl (zg rfl xK (zb rfl)) (sk yy) ?_
     refine zf (zk ?_)
     refine vQ (gk yw) (fun _=>?_) (fun hh=>by cases hh)
     refine ze ?_
     refine zc rfl (zg rfl xr (zb rfl)) (sk yx) ?_
     refine zc rfl (zg rfl xu (zb rfl)) (sk yE) ?_
     refine zc rfl (zq rfl ty36.choose_spec.1 yf rfl (zu (cs':=[.int .u8 e1.dot.actor.rep,.int .u32 e1.dot.actor.inc,.int .u64 e1.dot.seq,.int .u64 e1.time,.int .u8 e1.op.kind,.sl 1 (e1.op.path.map zG),.int .i64 e1.op.n,.str e1.op.text,.sl 3 (e1.op.dots.map GDot.row)]) ty36.choose_spec.2 rfl rfl) (zb rfl)) (sk yK) ?_
     refine zQ hF (fun v11 hv11 hF=>?_)
     refine vL (X:=Unit) (v:=.tup []) (H':=fun _=>h.ext [.cells [.int .u8 l0.typ,.int .i64 l0.n,.int .u64 l0.time,.int .u8 l0.dot.actor.rep,.int .u32 l0.dot.actor.inc,.int .u64 l0.dot.seq,.str l0.text,.rsl (h.blks.length+4) (h.toks.length+0) 5 ((v6).length),.rsl (h.blks.length+5) (h.toks.length+1) 3 ((v7).length)],.cells [.int .u8 e1.dot.actor.rep,.int .u32 e1.dot.actor.inc,.int .u64 e1.dot.seq,.int .u64 e1.time,.int .u8 e1.op.kind,.sl 1 (e1.op.path.map zG),.int .i64 e1.op.n,.str e1.op.text,.sl 3 (e1.op.dots.map GDot.row)],.cells [.int .u8 (0:Int),.int .i64 (0:Int),.int .u64 (0:Int),.int .u8 (0:Int),.int .u32 (0:Int),.int .u64 (0:Int),.str ([]:yn),.osl none 5 (([]:List GItem).map GItem.row),.osl none 3 (([]:List GDot).map GDot.row)],.mapo [(.int .u8 1,.fn (.func 31) [] []),(.int .u8 2,.fn (.func 32) [] []),(.int .u8 3,.fn (.func 33) [] []),(.int .u8 4,.fn (.func 34) [] []),(.int .u8 5,.fn (.func 35) [] [])] 0,.row (h.toks.length+0) 5 (v6.map GItem.row),.row (h.toks.length+1) 3 (v7.map GDot.row),.cells [.int .u8 l0.typ,.int .i64 l0.n,.int .u64 v11.1,.int .u8 v11.2.1,.int .u32 v11.2.2.1,.int .u64 v11.2.2.2.1,.str v11.2.2.2.2,.rsl (h.blks.length+4) (h.toks.length+0) 5 ((v6).length),.rsl (h.blks.length+5) (h.toks.length+1) 3 ((v7).length)]] [(v6).length,(v7).length]) rfl (zC rfl rfl (gk yr) (zo (gk yD) (zo (gk yI) zw)) (.cons (zb rfl) (.cons (zb rfl) .nil))) ?_ (sk yT) (fun _=>?_)
     ·replace hF:=hv11
      refine yz Tryz.func32 rfl (by kernel_rfl) (env:=[.ptr (h.blks.length+6) 0,.agg [.int .u8 e1.dot.actor.rep,.int .u32 e1.dot.actor.inc,.int .u64 e1.dot.seq,.int .u64 e1.time,.int .u8 e1.op.kind,.sl 1 (e1.op.path.map zG),.int .i64 e1.op.n,.str e1.op.text,.sl 3 (e1.op.dots.map GDot.row)],za,za,za,za,za,za,za,za,za,za,za,za,za,za,za,za,za,za,za,za,za,za,za,za,za,za,za,za,za,za,za,za,za,za,za,za,za,za,za,za,za,za,za,za]) (by rfl) ?_
      refine zn (ze ?_)
      refine zc rfl (yF (n:=7) rfl yB (zb rfl) rfl rfl) x5 ?_
      refine zf (zk (zn ?_))
      refine yb [] [] trivial mixed (by kernel_rfl) ?_
      refine zi rfl rfl (zg rfl yh (zb rfl)) yV ?_
      refine zi rfl rfl (zO rfl yp rfl) xp ?_
      refine zi rfl rfl (zd rfl yk yR rfl) xI ?_
      refine zi rfl rfl (zd rfl wm xh rfl) xN ?_
      refine zi rfl rfl (zq rfl xM xu rfl (zt rfl) (zb rfl)) xC ?_
      refine zi rfl rfl (zz rfl xr rfl rfl) xR ?_
      refine zi rfl rfl (zg rfl xK (zb rfl)) yy ?_
      refine zy rfl rfl (fun hb=>zg rfl yh (zb rfl)) yx ?_
      refine zy rfl rfl (fun hb=>zO rfl (zp yr hb) rfl) yE ?_
      refine zy rfl rfl (fun hb=>zd rfl yk (zp yD hb) rfl) yK ?_
      refine zy rfl rfl (fun hb=>zd rfl wm (zp yI hb) rfl) yT ?_
      refine zy rfl rfl (fun hb=>zq rfl xM (zp yY hb) rfl (zt rfl) (zb rfl)) yS ?_
      refine zy rfl rfl (fun hb=>zg rfl yh (zb rfl)) yZ ?_
      refine zy rfl rfl (fun hb=>zO rfl (zp y4 hb) rfl) y8 ?_
      refine zy rfl rfl (fun hb=>zd rfl yk (zp xd hb) rfl) xk ?_
      refine zy rfl rfl (fun hb=>zd rfl vp (zp xl hb) rfl) xJ ?_
      refine zy rfl rfl (fun hb=>zq rfl ty27.choose_spec.1 (zp xL hb) rfl (zu (cs':=[.int .u8 l0.dot.actor.rep,.int .u32 l0.dot.actor.inc,.int .u64 l0.dot.seq]) ty27.choose_spec.2 rfl rfl) (zb rfl)) xQ ?_
      refine zy rfl rfl (fun hb=>zd rfl qY yf rfl) wb ?_
      refine zy rfl rfl (fun hb=>zq rfl xM (zp wa hb) rfl (zt rfl) (zb rfl)) wl ?_
      refine zy rfl rfl (fun hb=>zd rfl vU yf rfl) wp ?_
      refine zy rfl rfl (fun hb=>zq rfl ty27.choose_spec.1 (zp wg hb) rfl (zu (cs':=[.int .u8 e1.dot.actor.rep,.int .u32 e1.dot.actor.inc,.int .u64 e1.dot.seq]) ty27.choose_spec.2 rfl rfl) (zb rfl)) wu ?_
      refine yP hF (fun v14 hv14 hF=>?_)
      refine xn rfl rfl (fun hb=>zC rfl rfl rfl (zo (zp yO hb) (zo (zp xX hb) (zo (zp wq hb) (zo (zp ww hb) zw)))) (.cons (zb rfl) (.cons (zb rfl) (.cons (zb rfl) (.cons (zb rfl) .nil))))) (fun hb=>ok13 (hv14 hb)) wz ?_
      refine zi rfl rfl (zM rfl yw rfl wv (zZ (fun ht=>gF ht))) wV ?_
      refine zX ?_
      refine zk ?_
      refine zI wD hF (fun hc15 hF=>?_) (fun hc15 hF=>?_)
      ·refine yb [6,9] [(6,[(7,.cells [.int .u8 e1.dot.actor.rep,.int .u32 e1.dot.actor.inc,.int .u64 e1.dot.seq,.int .u64 e1.time,.int .u8 e1.op.kind,.sl 1 (e1.op.path.map zG),.int .i64 e1.op.n,.str e1.op.text,.sl 3 (e1.op.dots.map GDot.row)])]),(9,[(7,.cells [.int .u8 e1.dot.actor.rep,.int .u32 e1.dot.actor.inc,.int .u64 e1.dot.seq,.int .u64 e1.time,.int .u8 e1.op.kind,.sl 1 (e1.op.path.map zG),.int .i64 e1.op.n,.str e1.op.text,.sl 3 (e1.op.dots.map GDot.row)])])] ⟨⟨rfl,trivial⟩,⟨rfl,trivial⟩,trivial⟩ mixed (by kernel_rfl) ?_
       refine zi rfl rfl (zg rfl yh (zb rfl)) wU ?_
       refine zi rfl rfl (zg rfl yh (zb rfl)) wG ?_
       refine zi rfl rfl (zg rfl yh (zb rfl)) w9 ?_
       refine zi rfl rfl (zd rfl qY yf rfl) w8 ?_
       refine zi rfl rfl (zq rfl xM va rfl (zt rfl) (zb rfl)) w7 ?_
       refine zi rfl rfl (zd rfl vU yf rfl) wT ?_
       refine vD rfl rfl (by rintro _ ⟨B2,T2,rfl,hk2⟩;exact zq rfl ty27.choose_spec.1 wQ (keeps1 hk2) (zu (cs':=[.int .u8 e1.dot.actor.rep,.int .u32 e1.dot.actor.inc,.int .u64 e1.dot.seq]) ty27.choose_spec.2 rfl rfl) (zb rfl)) wS ?_
       refine zi rfl rfl (zd rfl wd yf rfl) wR ?_
       refine zi rfl rfl (zd rfl qt wX rfl) vg ?_
       refine vD rfl rfl (by rintro _ ⟨B2,T2,rfl,hk2⟩;exact zq rfl ty9 vn (keeps1 hk2) (zt rfl) (zb rfl)) vf ?_
       refine zi rfl rfl (zO rfl w4 rfl) vI ?_
       refine zi rfl rfl (zd rfl yk vC rfl) vN ?_
       refine zi rfl rfl (zd rfl wm vO rfl) vZ ?_
       refine yG rfl (FOk.cons (.inr (xY ⟨rfl,trivial⟩)) (FOk.cons (.inr (xY ⟨rfl,trivial⟩)) FOk.nil)) (by kernel_rfl) rfl (zP (cs':=[.int .u8 l0.typ,.int .i64 l0.n,.int .u64 e1.time,.int .u8 l0.dot.actor.rep,.int .u32 l0.dot.actor.inc,.int .u64 l0.dot.seq,.str l0.text,.rsl (h.blks.length+4) (h.toks.length+0) 5 ((v6).length),.rsl (h.blks.length+5) (h.toks.length+1) 3 ((v7).length)]) rfl xM qe wZ (zb rfl) rfl rfl rfl rfl rfl) rfl ?_
       refine zi rfl rfl (zO rfl wH rfl) (sk st0) ?_
       refine zi rfl rfl (zd rfl yk (gk yh) rfl) (sk st1) ?_
       refine zi rfl rfl (zd rfl vp (gk yB) rfl) (sk xf) ?_
       refine yG rfl (FOk.cons (.inr (xY ⟨rfl,trivial⟩)) (FOk.cons (.inr (xY ⟨rfl,trivial⟩)) FOk.nil)) (by kernel_rfl) rfl (zP (cs':=[.int .u8 l0.typ,.int .i64 l0.n,.int .u64 e1.time,.int .u8 e1.dot.actor.rep,.int .u32 e1.dot.actor.inc,.int .u64 e1.dot.seq,.str l0.text,.rsl (h.blks.length+4) (h.toks.length+0) 5 ((v6).length),.rsl (h.blks.length+5) (h.toks.length+1) 3 ((v7).length)]) rfl ty27.choose_spec.1 (gk yv) wY (zb rfl) rfl rfl rfl rfl rfl) rfl ?_
       refine zi rfl rfl (zO rfl we rfl) (sk x5) ?_
       refine zi rfl rfl (zd rfl yk (gk yf) rfl) (sk yV) ?_
       refine zi rfl rfl (zd rfl qN (gk yp) rfl) (sk xp) ?_
       refine yG rfl (FOk.cons (.inr (xY ⟨rfl,trivial⟩)) (FOk.cons (.inr (xY ⟨rfl,trivial⟩)) FOk.nil)) (by kernel_rfl) rfl (zP (cs':=[.int .u8 l0.typ,.int .i64 l0.n,.int .u64 e1.time,.int .u8 e1.dot.actor.rep,.int .u32 e1.dot.actor.inc,.int .u64 e1.dot.seq,.str e1.op.text,.rsl (h.blks.length+4) (h.toks.length+0) 5 ((v6).length),.rsl (h.blks.length+5) (h.toks.length+1) 3 ((v7).length)]) rfl ty9 (gk yR) vm (zb rfl) rfl rfl rfl rfl rfl) rfl ?_
       refine zX ?_
       refine qR ?_
       obtain rfl:=Option.some.inj hF
       refine x7 rfl zA (xZ (vX (by simp [y3,AV.low]) rfl rfl (by simp [Blk.low,y3,AV.low])) ?_)
       exact ⟨rfl,(),rfl⟩
      ·refine zN (qR ?_)
       obtain rfl:=Option.some.inj hF
       refine x7 rfl zA (xZ (vX (by simp [y3,AV.low]) rfl rfl (by simp [Blk.low,y3,AV.low])) ?_)
       exact ⟨rfl,(),rfl⟩
     ·refine zf (zk (zn (ze ?_)))
      refine zc rfl (zg rfl xu (zb rfl)) (sk yS) ?_
      refine zc rfl (zO rfl (gk yO) rfl) (sk yZ) ?_
      refine zc rfl (zd rfl yk (gk y4) rfl) (sk y8) ?_
      refine zc rfl (zq rfl ty31.choose_spec.1 (gk xd) rfl (zu (cs':=[.int .u8 l0.typ,.int .i64 l0.n,.int .u64 v11.1,.int .u8 v11.2.1,.int .u32 v11.2.2.1,.int .u64 v11.2.2.2.1,.str v11.2.2.2.2,.rsl (h.blks.length+4) (h.toks.length+0) 5 ((v6).length),.rsl (h.blks.length+5) (h.toks.length+1) 3 ((v7).length)]) ty31.choose_spec.2 rfl rfl) (zb rfl)) (sk xk) ?_
      refine zc rfl (zP (cs':=[.int .u8 l0.typ,.int .i64 l0.n,.int .u64 v11.1,.int .u8 v11.2.1,.int .u32 v11.2.2.1,.int .u64 v11.2.2.2.1,.str v11.2.2.2.2,.rsl (h.blks.length+4) (h.toks.length+0) 5 ((v6).length),.rsl (h.blks.length+5) (h.toks.length+1) 3 ((v7).length)]) rfl ty31.choose_spec.1 yp (gk xl) (zb rfl) rfl rfl rfl rfl rfl) rfl ?_
      refine zc rfl (zj rfl rfl (zb rfl)) xp ?_
      refine zf (zk (zJ ?_))
      obtain rfl:=Option.some.inj hF
      refine xU rfl (xg ty31.choose_spec.1 yp rfl (zu (cs':=[.int .u8 l0.typ,.int .i64 l0.n,.int .u64 v11.1,.int .u8 v11.2.1,.int .u32 v11.2.2.1,.int .u64 v11.2.2.2.1,.str v11.2.2.2.2,.rsl (h.blks.length+4) (h.toks.length+0) 5 ((v6).length),.rsl (h.blks.length+5) (h.toks.length+1) 3 ((v7).length)]) ty31.choose_spec.2 rfl rfl) (zb rfl) (zH yR zA)) (fin_trans (wk.trans ((wj (j:=4) (m:=0) (B':=[.cells [.int .u8 l0.typ,.int .i64 l0.n,.int .u64 l0.time,.int .u8 l0.dot.actor.rep,.int .u32 l0.dot.actor.inc,.int .u64 l0.dot.seq,.str l0.text,.rsl (h.blks.length+4) (h.toks.length+0) 5 ((v6).length),.rsl (h.blks.length+5) (h.toks.length+1) 3 ((v7).length)],.cells [.int .u8 e1.dot.actor.rep,.int .u32 e1.dot.actor.inc,.int .u64 e1.dot.seq,.int .u64 e1.time,.int .u8 e1.op.kind,.sl 1 (e1.op.path.map zG),.int .i64 e1.op.n,.str e1.op.text,.sl 3 (e1.op.dots.map GDot.row)],.cells [.int .u8 l0.typ,.int .i64 l0.n,.int .u64 v11.1,.int .u8 v11.2.1,.int .u32 v11.2.2.1,.int .u64 v11.2.2.2.1,.str v11.2.2.2.2,.rsl (h.blks.length+4) (h.toks.length+0) 5 ((v6).length),.rsl (h.blks.length+5) (h.toks.length+1) 3 ((v7).length)],.mapo [(.int .u8 1,.fn (.func 31) [] []),(.int .u8 2,.fn (.func 32) [] []),(.int .u8 3,.fn (.func 33) [] []),(.int .u8 4,.fn (.func 34) [] []),(.int .u8 5,.fn (.func 35) [] [])] 0,.dead,.row (h.toks.length+1) 3 (v7.map GDot.row),.cells [.int .u8 l0.typ,.int .i64 l0.n,.int .u64 v11.1,.int .u8 v11.2.1,.int .u32 v11.2.2.1,.int .u64 v11.2.2.2.1,.str v11.2.2.2.2,.rsl (h.blks.length+4) (h.toks.length+0) 5 ((v6).length),.rsl (h.blks.length+5) (h.toks.length+1) 3 ((v7).length)]]) (T':=[(v6.map GItem.row).length+1,(v7).length]) rfl (by exact (.cons (.tup (.cons (.agg (.cons (.same _) (.cons (.same _) (.cons (.same _) (.cons (.same _) (.cons (.same _) (.cons (.same _) (.cons (.same _) (.cons (.hit2 _ _ (by simp)) (.refl _))))))))) rfl) (.refl _))) (.refl _))) rfl rfl).wk) ((wj (j:=5) (m:=1) (B':=[.cells [.int .u8 l0.typ,.int .i64 l0.n,.int .u64 l0.time,.int .u8 l0.dot.actor.rep,.int .u32 l0.dot.actor.inc,.int .u64 l0.dot.seq,.str l0.text,.rsl (h.blks.length+4) (h.toks.length+0) 5 ((v6).length),.rsl (h.blks.length+5) (h.toks.length+1) 3 ((v7).length)],.cells [.int .u8 e1.dot.actor.rep,.int .u32 e1.dot.actor.inc,.int .u64 e1.dot.seq,.int .u64 e1.time,.int .u8 e1.op.kind,.sl 1 (e1.op.path.map zG),.int .i64 e1.op.n,.str e1.op.text,.sl 3 (e1.op.dots.map GDot.row)],.cells [.int .u8 l0.typ,.int .i64 l0.n,.int .u64 v11.1,.int .u8 v11.2.1,.int .u32 v11.2.2.1,.int .u64 v11.2.2.2.1,.str v11.2.2.2.2,.rsl (h.blks.length+4) (h.toks.length+0) 5 ((v6).length),.rsl (h.blks.length+5) (h.toks.length+1) 3 ((v7).length)],.mapo [(.int .u8 1,.fn (.func 31) [] []),(.int .u8 2,.fn (.func 32) [] []),(.int .u8 3,.fn (.func 33) [] []),(.int .u8 4,.fn (.func 34) [] []),(.int .u8 5,.fn (.func 35) [] [])] 0,.dead,.dead,.cells [.int .u8 l0.typ,.int .i64 l0.n,.int .u64 v11.1,.int .u8 v11.2.1,.int .u32 v11.2.2.1,.int .u64 v11.2.2.2.1,.str v11.2.2.2.2,.rsl (h.blks.length+4) (h.toks.length+0) 5 ((v6).length),.rsl (h.blks.length+5) (h.toks.length+1) 3 ((v7).length)]]) (T':=[(v6.map GItem.row).length+1,(v7.map GDot.row).length+1]) rfl (by exact (.cons (.tup (.cons (.agg (.cons (.same _) (.cons (.same _) (.cons (.same _) (.cons (.same _) (.cons (.same _) (.cons (.same _) (.cons (.same _) (.cons (.same _) (.cons (.hit2 _ _ (by simp)) (.refl _)))))))))) rfl) (.refl _))) (.refl _))) rfl rfl).wk)) ?_)
      refine zB (leV.refl _) rfl ?_
      exact ⟨rfl,rfl⟩
    ·refine iteF hF (fun hk16 hF=>?_) (fun hk16 hF=>?_)
     ·refine zc rfl (e_lookF (j:=3) (n:=3) rfl Tryz.underlying64 Tryz.underlying5 (gk yf) rfl (gk xh) hk16 (zY Tryz.underlying5 (by decide) (zY Tryz.underlying5 (by decide) (qm Tryz.underlying5)))) (sk xN) ?_
      refine zc rfl (zg rfl (gk xu) (zb rfl)) (sk xf) ?_
      refine zc rfl (zV rfl (gk yv) rfl (zb rfl)) (sk xC) ?_
      refine zc rfl (zV rfl (gk yv) rfl (zb rfl)) (sk xR) ?_
      refine zc rfl (zj rfl (gk xr) (zb rfl)) xC ?_
      refine zc rfl (zj rfl (gk xK) (zb rfl)) xR ?_
      refine zf (zk (zn (ze ?_)))
      refine zc rfl (zg rfl xK (zb rfl)) (sk yy) ?_
      refine zf (zk ?_)
      refine vQ (gk yw) (fun _=>?_) (fun hh=>by cases hh)
      refine ze ?_
      refine zc rfl (zg rfl xr (zb rfl)) (sk yx) ?_
      refine zc rfl (zg rfl xu (zb rfl)) (sk yE) ?_
      refine zc rfl (zq rfl ty36.choose_spec.1 yf rfl (zu (cs':=[.int .u8 e1.dot.actor.rep,.int .u32 e1.dot.actor.inc,.int .u64 e1.dot.seq,.int .u64 e1.time,.int .u8 e1.op.kind,.sl 1 (e1.op.path.map zG),.int .i64 e1.op.n,.str e1.op.text,.sl 3 (e1.op.dots.map GDot.row)]) ty36.choose_spec.2 rfl rfl) (zb rfl)) (sk yK) ?_
      refine zQ hF (fun v17 hv17 hF=>?_)
      refine vL (X:=Nat×Nat×Nat) (v:=.tup []) (H':=fun n_v17=>h.ext [.cells [.int .u8 l0.typ,.int .i64 l0.n,.int .u64 l0.time,.int .u8 l0.dot.actor.rep,.int .u32 l0.dot.actor.inc,.int .u64 l0.dot.seq,.str l0.text,.rsl (h.blks.length+4) (h.toks.length+0) 5 ((v6).length),.rsl (h.blks.length+5) (h.toks.length+1) 3 ((v7).length)],.cells [.int .u8 e1.dot.actor.rep,.int .u32 e1.dot.actor.inc,.int .u64 e1.dot.seq,.int .u64 e1.time,.int .u8 e1.op.kind,.sl 1 (e1.op.path.map zG),.int .i64 e1.op.n,.str e1.op.text,.sl 3 (e1.op.dots.map GDot.row)],.cells [.int .u8 (0:Int),.int .i64 (0:Int),.int .u64 (0:Int),.int .u8 (0:Int),.int .u32 (0:Int),.int .u64 (0:Int),.str ([]:yn),.osl none 5 (([]:List GItem).map GItem.row),.osl none 3 (([]:List GDot).map GDot.row)],.mapo [(.int .u8 1,.fn (.func 31) [] []),(.int .u8 2,.fn (.func 32) [] []),(.int .u8 3,.fn (.func 33) [] []),(.int .u8 4,.fn (.func 34) [] []),(.int .u8 5,.fn (.func 35) [] [])] 0,.dead,.row (h.toks.length+1) 3 (v7.map GDot.row),.cells [.int .u8 l0.typ,.int .i64 l0.n,.int .u64 l0.time,.int .u8 l0.dot.actor.rep,.int .u32 l0.dot.actor.inc,.int .u64 l0.dot.seq,.str l0.text,.rsl (h.blks.length+11) (h.toks.length+4) 5 ((v17).length),.rsl (h.blks.length+5) (h.toks.length+1) 3 ((v7).length)],.dead,.dead,.dead,.dead,.row (h.toks.length+4) 5 (v17.map GItem.row)] [n_v17.1,(v7).length,n_v17.2.1,n_v17.2.2,(v17).length]) rfl (zC rfl rfl (gk yr) (zo (gk yD) (zo (gk yI) zw)) (.cons (zb rfl) (.cons (zb rfl) .nil))) ?_ (sk yT) (fun n_v17=>?_)
      ·replace hF:=hv17
       refine yz Tryz.func33 rfl (by kernel_rfl) (env:=[.ptr (h.blks.length+6) 0,.agg [.int .u8 e1.dot.actor.rep,.int .u32 e1.dot.actor.inc,.int .u64 e1.dot.seq,.int .u64 e1.time,.int .u8 e1.op.kind,.sl 1 (e1.op.path.map zG),.int .i64 e1.op.n,.str e1.op.text,.sl 3 (e1.op.dots.map GDot.row)],za,za,za,za,za,za,za,za,za,za,za,za,za,za,za,za,za,za,za]) (by rfl) ?_
       refine zn (ze ?_)
       refine zc rfl (yF (n:=7) rfl yB (zb rfl) rfl rfl) x5 ?_
       refine zf (zk (zn ?_))
       refine yb [] [] trivial mixed (by kernel_rfl) ?_
       refine zi rfl rfl (zg rfl yh (zb rfl)) yV ?_
       refine zi rfl rfl (zO rfl yp rfl) xp ?_
       refine zi rfl rfl (zd rfl yk yR rfl) xI ?_
       refine zi rfl rfl (zd rfl y5 xh rfl) xN ?_
       refine zi rfl rfl (zq rfl xP xu rfl (zt rfl) (zb rfl)) xC ?_
       refine zi rfl rfl (zd rfl vU yf rfl) xR ?_
       refine zi rfl rfl (zq rfl ty27.choose_spec.1 xK rfl (zu (cs':=[.int .u8 e1.dot.actor.rep,.int .u32 e1.dot.actor.inc,.int .u64 e1.dot.seq]) ty27.choose_spec.2 rfl rfl) (zb rfl)) yy ?_
       refine zQ hF (fun v29 hv29 hF=>?_)
       refine wM rfl rfl (zC rfl rfl rfl (zo xr (zo yw zw)) (.cons (zb rfl) (.cons (zb rfl) .nil))) (vh (by exact (.cons (.row _ _ _ _ _ (by rw [yL];rfl) (by simp)) (.cons (.low _ rfl) .nil))) rfl (ok52 hv29) (fun _ _ h=>h.1)) yx ?_
       refine zi rfl rfl (vB rfl yr rfl) yE ?_
       refine zX ?_
       refine zk ?_
       refine zI yD hF (fun hc30 hF=>?_) (fun hc30 hF=>?_)
       ·refine ze ?_
        refine zc rfl (zg rfl yh (zb rfl)) yK ?_
        refine zc rfl (zd rfl vU yf rfl) yT ?_
        refine zc rfl (zq rfl ty27.choose_spec.1 yY rfl (zu (cs':=[.int .u8 e1.dot.actor.rep,.int .u32 e1.dot.actor.inc,.int .u64 e1.dot.seq]) ty27.choose_spec.2 rfl rfl) (zb rfl)) yS ?_
        refine zc rfl (zd rfl wd yf rfl) yZ ?_
        refine zc rfl (zd rfl qt y4 rfl) y8 ?_
        refine zc rfl (zq rfl ty9 xd rfl (zt rfl) (zb rfl)) xk ?_
        refine zc rfl (xc (cs':=[.int .u64 (0:Int),.int .u8 e1.dot.actor.rep,.int .u32 e1.dot.actor.inc,.int .u64 e1.dot.seq,.str e1.op.text]) rfl su47 ze47 pl47 (zK yO (zK xl zT)) (.cons (zb rfl) (.cons (zb rfl) .nil)) rfl rfl) xJ ?_
        refine zQ hF (fun v31 hv31 hF=>?_)
        refine vL (X:=Nat×Nat) (v:=.tup []) (H':=fun n_v31=>h.ext [.cells [.int .u8 l0.typ,.int .i64 l0.n,.int .u64 l0.time,.int .u8 l0.dot.actor.rep,.int .u32 l0.dot.actor.inc,.int .u64 l0.dot.seq,.str l0.text,.rsl (h.blks.length+4) (h.toks.length+0) 5 ((v6).length),.rsl (h.blks.length+5) (h.toks.length+1) 3 ((v7).length)],.cells [.int .u8 e1.dot.actor.rep,.int .u32 e1.dot.actor.inc,.int .u64 e1.dot.seq,.int .u64 e1.time,.int .u8 e1.op.kind,.sl 1 (e1.op.path.map zG),.int .i64 e1.op.n,.str e1.op.text,.sl 3 (e1.op.dots.map GDot.row)],.cells [.int .u8 (0:Int),.int .i64 (0:Int),.int .u64 (0:Int),.int .u8 (0:Int),.int .u32 (0:Int),.int .u64 (0:Int),.str ([]:yn),.osl none 5 (([]:List GItem).map GItem.row),.osl none 3 (([]:List GDot).map GDot.row)],.mapo [(.int .u8 1,.fn (.func 31) [] []),(.int .u8 2,.fn (.func 32) [] []),(.int .u8 3,.fn (.func 33) [] []),(.int .u8 4,.fn (.func 34) [] []),(.int .u8 5,.fn (.func 35) [] [])] 0,.dead,.row (h.toks.length+1) 3 (v7.map GDot.row),.cells [.int .u8 l0.typ,.int .i64 l0.n,.int .u64 l0.time,.int .u8 l0.dot.actor.rep,.int .u32 l0.dot.actor.inc,.int .u64 l0.dot.seq,.str l0.text,.rsl (h.blks.length+10) (h.toks.length+3) 5 ((v31).length),.rsl (h.blks.length+5) (h.toks.length+1) 3 ((v7).length)],.cells [.int .u8 e1.dot.actor.rep,.int .u32 e1.dot.actor.inc,.int .u64 e1.dot.seq,.int .u64 e1.time,.int .u8 e1.op.kind,.sl 1 (e1.op.path.map zG),.int .i64 e1.op.n,.str e1.op.text,.sl 3 (e1.op.dots.map GDot.row)],.dead,.dead,.row (h.toks.length+3) 5 (v31.map GItem.row)] [n_v31.1,(v7).length,n_v31.2,(v31).length]) rfl (zC rfl rfl rfl (zo yI (zo xL zw)) (.cons (zb rfl) (.cons (zb rfl) .nil))) ?_ xQ (fun n_v31=>?_)
        ·replace hF:=hv31
         refine yz Tryz.func53 rfl (by kernel_rfl) (env:=[.ptr (h.blks.length+6) 0,.agg [.int .u64 (0:Int),.int .u8 e1.dot.actor.rep,.int .u32 e1.dot.actor.inc,.int .u64 e1.dot.seq,.str e1.op.text],za,za,za,za,za,za,za,za,za,za,za,za,za,za,za,za,za,za,za,za,za,za,za,za,za,za,za,za,za,za,za,za,za,za,za]) (by rfl) ?_
         refine zn (ze ?_)
         refine zc rfl (yF (n:=8) rfl yB (zb rfl) rfl rfl) x5 ?_
         refine zf (zk (zn (zn ?_)))
         refine yb [] [] trivial mixed (by kernel_rfl) ?_
         refine zi rfl rfl (zg rfl yh (zb rfl)) xI ?_
         refine zi rfl rfl (zO rfl xh rfl) xN ?_
         refine zi rfl rfl (zd rfl yk xu rfl) xC ?_
         refine zi rfl rfl (zd rfl ym xr rfl) xR ?_
         refine zi rfl rfl (zq rfl xW xK rfl (zt rfl) (zb rfl)) yy ?_
         refine zi rfl rfl (zd rfl wI yf rfl) yx ?_
         refine zi rfl rfl (zq rfl ty27.choose_spec.1 yr rfl (zu (cs':=[.int .u8 e1.dot.actor.rep,.int .u32 e1.dot.actor.inc,.int .u64 e1.dot.seq]) ty27.choose_spec.2 rfl rfl) (zb rfl)) yE ?_
         refine zQ hF (fun v36 hv36 hF=>?_)
         refine wM rfl rfl (zC rfl rfl rfl (zo yw (zo yD zw)) (.cons (zb rfl) (.cons (zb rfl) .nil))) (vh (by exact (.cons (.row _ _ _ _ _ (by rw [yL];rfl) (by simp)) (.cons (.low _ rfl) .nil))) rfl (ok46 hv36) (fun _ _ h=>h.1)) yK ?_
         refine zX ?_
         refine zk ?_
         refine zI yI hF (fun hc37 hF=>?_) (fun hc37 hF=>?_)
         ·refine zJ (zD ?_)
          obtain rfl:=Option.some.inj hF
          refine x7 rfl zA (xZ (wk.trans ((wn (by exact (.keep (.keep (.keep (.keep (.keep (.keep (.keep (.keep (.dead .nil))))))))))).wk) (wk.trans ((qg rfl).wk) (wk.trans ((swk_padT (n:=0) rfl).wk) ((wK (jb:=6) (o:=7) (j:=4) (i:=0) (n2:=(v6).length) (B':=[.cells [.int .u8 l0.typ,.int .i64 l0.n,.int .u64 l0.time,.int .u8 l0.dot.actor.rep,.int .u32 l0.dot.actor.inc,.int .u64 l0.dot.seq,.str l0.text,.rsl (h.blks.length+4) (h.toks.length+0) 5 ((v6).length),.rsl (h.blks.length+5) (h.toks.length+1) 3 ((v7).length)],.cells [.int .u8 e1.dot.actor.rep,.int .u32 e1.dot.actor.inc,.int .u64 e1.dot.seq,.int .u64 e1.time,.int .u8 e1.op.kind,.sl 1 (e1.op.path.map zG),.int .i64 e1.op.n,.str e1.op.text,.sl 3 (e1.op.dots.map GDot.row)],.cells [.int .u8 (0:Int),.int .i64 (0:Int),.int .u64 (0:Int),.int .u8 (0:Int),.int .u32 (0:Int),.int .u64 (0:Int),.str ([]:yn),.osl none 5 (([]:List GItem).map GItem.row),.osl none 3 (([]:List GDot).map GDot.row)],.mapo [(.int .u8 1,.fn (.func 31) [] []),(.int .u8 2,.fn (.func 32) [] []),(.int .u8 3,.fn (.func 33) [] []),(.int .u8 4,.fn (.func 34) [] []),(.int .u8 5,.fn (.func 35) [] [])] 0,.dead,.row (h.toks.length+1) 3 (v7.map GDot.row),.cells [.int .u8 l0.typ,.int .i64 l0.n,.int .u64 l0.time,.int .u8 l0.dot.actor.rep,.int .u32 l0.dot.actor.inc,.int .u64 l0.dot.seq,.str l0.text,.rsl (h.blks.length+10) (h.toks.length+3) 5 ((v6).length),.rsl (h.blks.length+5) (h.toks.length+1) 3 ((v7).length)],.cells [.int .u8 e1.dot.actor.rep,.int .u32 e1.dot.actor.inc,.int .u64 e1.dot.seq,.int .u64 e1.time,.int .u8 e1.op.kind,.sl 1 (e1.op.path.map zG),.int .i64 e1.op.n,.str e1.op.text,.sl 3 (e1.op.dots.map GDot.row)],.dead,.dead,.row (h.toks.length+3) 5 (v6.map GItem.row)]) (T':=[(v6).length+1,(v7).length,0,(v6).length]) rfl rfl rfl (by simp) rfl rfl rfl rfl rfl rfl).wk)))) ?_)
          exact ⟨rfl,((v6).length+1,0),rfl⟩
         ·refine zN (zk (zn ?_))
          refine yb [] [] trivial mixed (by kernel_rfl) ?_
          refine zi rfl rfl (zg rfl yh (zb rfl)) yS ?_
          refine zi rfl rfl (zO rfl yO rfl) yZ ?_
          refine zi rfl rfl (zd rfl yk y4 rfl) y8 ?_
          refine zi rfl rfl (zd rfl ym xd rfl) xk ?_
          refine zi rfl rfl (zq rfl xW xl rfl (zt rfl) (zb rfl)) xJ ?_
          refine zi rfl rfl (zq rfl ty47.choose_spec.1 yf rfl (zu (cs':=[.int .u64 (0:Int),.int .u8 e1.dot.actor.rep,.int .u32 e1.dot.actor.inc,.int .u64 e1.dot.seq,.str e1.op.text]) ty47.choose_spec.2 rfl rfl) (zb rfl)) xQ ?_
          refine zQ hF (fun v38 hv38 hF=>?_)
          refine wM rfl rfl (zC rfl rfl rfl (zo xL (zo xX (zo rfl zw))) (.cons (zb rfl) (.cons (zb rfl) (.cons (zb rfl) .nil)))) (vh (by exact (.cons (.row _ _ _ _ _ (by rw [yL];rfl) (by simp)) (.cons (.low _ rfl) (.cons (.low _ rfl) .nil)))) rfl (ok68 (fun _ _ v L M hv=>ok69  hv) hv38) (fun _ _ h=>h.1)) wb ?_
          refine zi rfl rfl (zg rfl wa (zb rfl)) yT ?_
          refine zi rfl rfl (zV rfl yY rfl (zb rfl)) wl ?_
          refine zi rfl rfl (zV rfl yY rfl (zb rfl)) wp ?_
          refine zi rfl rfl (zj rfl wq (zb rfl)) yV ?_
          refine zi rfl rfl (zj rfl wg (zb rfl)) xp ?_
          refine zX ?_
          refine zk ?_
          refine yb [] [] trivial mixed (by kernel_rfl) ?_
          refine zi rfl rfl (zg rfl yh (zb rfl)) wu ?_
          refine zi rfl rfl (zg rfl yh (zb rfl)) wz ?_
          refine zi rfl rfl (zO rfl wv rfl) wV ?_
          refine zi rfl rfl (zd rfl yk wD rfl) wU ?_
          refine zi rfl rfl (zd rfl ym w4 rfl) wG ?_
          refine zi rfl rfl (zq rfl xW wH rfl (zt rfl) (zb rfl)) w9 ?_
          refine zi rfl rfl (zg rfl yp (zb rfl)) w8 ?_
          refine zi rfl rfl (zq rfl ty47.choose_spec.1 yf rfl (zu (cs':=[.int .u64 (0:Int),.int .u8 e1.dot.actor.rep,.int .u32 e1.dot.actor.inc,.int .u64 e1.dot.seq,.str e1.op.text]) ty47.choose_spec.2 rfl rfl) (zb rfl)) w7 ?_
          refine zi rfl rfl (yq (es:=([(GItem.mk (0:Int) e1.dot e1.op.text)]:List GItem).map GItem.row) rfl yX ze47 rfl rfl (zK wZ zT) (.cons (zb rfl) .nil) rfl rfl rfl) wT ?_
          refine zQ hF (fun v39 hv39 hF=>?_)
          refine vV (by kernel_rfl) rfl FOk.nil rfl (zC rfl rfl rfl (zo we (zo va (zo wQ zw))) (.cons (zb rfl) (.cons (zb rfl) (.cons (zb rfl) .nil)))) (spec_insO ins70TryzLays (row:=GItem.row) (fun _=>rfl) hv39 (.inr rfl) (i:=4) (q:=0) (B':=[.cells [.int .u8 l0.typ,.int .i64 l0.n,.int .u64 l0.time,.int .u8 l0.dot.actor.rep,.int .u32 l0.dot.actor.inc,.int .u64 l0.dot.seq,.str l0.text,.rsl (h.blks.length+4) (h.toks.length+0) 5 ((v6).length),.rsl (h.blks.length+5) (h.toks.length+1) 3 ((v7).length)],.cells [.int .u8 e1.dot.actor.rep,.int .u32 e1.dot.actor.inc,.int .u64 e1.dot.seq,.int .u64 e1.time,.int .u8 e1.op.kind,.sl 1 (e1.op.path.map zG),.int .i64 e1.op.n,.str e1.op.text,.sl 3 (e1.op.dots.map GDot.row)],.cells [.int .u8 (0:Int),.int .i64 (0:Int),.int .u64 (0:Int),.int .u8 (0:Int),.int .u32 (0:Int),.int .u64 (0:Int),.str ([]:yn),.osl none 5 (([]:List GItem).map GItem.row),.osl none 3 (([]:List GDot).map GDot.row)],.mapo [(.int .u8 1,.fn (.func 31) [] []),(.int .u8 2,.fn (.func 32) [] []),(.int .u8 3,.fn (.func 33) [] []),(.int .u8 4,.fn (.func 34) [] []),(.int .u8 5,.fn (.func 35) [] [])] 0,.dead,.row (h.toks.length+1) 3 (v7.map GDot.row),.cells [.int .u8 l0.typ,.int .i64 l0.n,.int .u64 l0.time,.int .u8 l0.dot.actor.rep,.int .u32 l0.dot.actor.inc,.int .u64 l0.dot.seq,.str l0.text,.rsl (h.blks.length+4) (h.toks.length+0) 5 ((v6).length),.rsl (h.blks.length+5) (h.toks.length+1) 3 ((v7).length)],.cells [.int .u8 e1.dot.actor.rep,.int .u32 e1.dot.actor.inc,.int .u64 e1.dot.seq,.int .u64 e1.time,.int .u8 e1.op.kind,.sl 1 (e1.op.path.map zG),.int .i64 e1.op.n,.str e1.op.text,.sl 3 (e1.op.dots.map GDot.row)],.cells [.int .u64 (0:Int),.int .u8 e1.dot.actor.rep,.int .u32 e1.dot.actor.inc,.int .u64 e1.dot.seq,.str e1.op.text],.row (h.toks.length+2) 5 (v39.map GItem.row)]) (T':=[(v6).length+1,(v7).length,(v39).length]) rfl rfl rfl rfl rfl) wS ?_
          refine zi rfl rfl (zO rfl ww rfl) wR ?_
          refine zi rfl rfl (zd rfl yk wX rfl) vg ?_
          refine zi rfl rfl (zd rfl ym vn rfl) vf ?_
          refine yG rfl FOk.nil (by kernel_rfl) rfl (zP (cs':=[.int .u8 l0.typ,.int .i64 l0.n,.int .u64 l0.time,.int .u8 l0.dot.actor.rep,.int .u32 l0.dot.actor.inc,.int .u64 l0.dot.seq,.str l0.text,.rsl (h.blks.length+9) (h.toks.length+2) 5 ((v39).length),.rsl (h.blks.length+5) (h.toks.length+1) 3 ((v7).length)]) rfl xW vm wY (zb rfl) rfl rfl rfl rfl rfl) rfl ?_
          refine zX ?_
          refine qR ?_
          obtain rfl:=Option.some.inj hF
          refine x7 rfl zA (xZ (wk.trans ((wn (by exact (.keep (.keep (.keep (.keep (.keep (.keep (.keep (.keep (.dead (.keep .nil)))))))))))).wk) ((wK (jb:=6) (o:=7) (j:=9) (i:=2) (n2:=(v39).length) (B':=[.cells [.int .u8 l0.typ,.int .i64 l0.n,.int .u64 l0.time,.int .u8 l0.dot.actor.rep,.int .u32 l0.dot.actor.inc,.int .u64 l0.dot.seq,.str l0.text,.rsl (h.blks.length+4) (h.toks.length+0) 5 ((v6).length),.rsl (h.blks.length+5) (h.toks.length+1) 3 ((v7).length)],.cells [.int .u8 e1.dot.actor.rep,.int .u32 e1.dot.actor.inc,.int .u64 e1.dot.seq,.int .u64 e1.time,.int .u8 e1.op.kind,.sl 1 (e1.op.path.map zG),.int .i64 e1.op.n,.str e1.op.text,.sl 3 (e1.op.dots.map GDot.row)],.cells [.int .u8 (0:Int),.int .i64 (0:Int),.int .u64 (0:Int),.int .u8 (0:Int),.int .u32 (0:Int),.int .u64 (0:Int),.str ([]:yn),.osl none 5 (([]:List GItem).map GItem.row),.osl none 3 (([]:List GDot).map GDot.row)],.mapo [(.int .u8 1,.fn (.func 31) [] []),(.int .u8 2,.fn (.func 32) [] []),(.int .u8 3,.fn (.func 33) [] []),(.int .u8 4,.fn (.func 34) [] []),(.int .u8 5,.fn (.func 35) [] [])] 0,.dead,.row (h.toks.length+1) 3 (v7.map GDot.row),.cells [.int .u8 l0.typ,.int .i64 l0.n,.int .u64 l0.time,.int .u8 l0.dot.actor.rep,.int .u32 l0.dot.actor.inc,.int .u64 l0.dot.seq,.str l0.text,.rsl (h.blks.length+10) (h.toks.length+3) 5 ((v39).length),.rsl (h.blks.length+5) (h.toks.length+1) 3 ((v7).length)],.cells [.int .u8 e1.dot.actor.rep,.int .u32 e1.dot.actor.inc,.int .u64 e1.dot.seq,.int .u64 e1.time,.int .u8 e1.op.kind,.sl 1 (e1.op.path.map zG),.int .i64 e1.op.n,.str e1.op.text,.sl 3 (e1.op.dots.map GDot.row)],.dead,.dead,.row (h.toks.length+3) 5 (v39.map GItem.row)]) (T':=[(v6).length+1,(v7).length,(v39).length+1,(v39).length]) rfl rfl rfl (by simp) rfl rfl rfl rfl rfl rfl).wk)) ?_)
          exact ⟨rfl,((v6).length+1,(v39).length+1),rfl⟩
        ·refine zf (qR ?_)
         obtain rfl:=Option.some.inj hF
         refine x7 rfl zA (xZ (wk.trans ((wn (by exact (.keep (.keep (.keep (.keep (.keep (.keep (.keep (.dead (.keep (.keep (.keep .nil))))))))))))).wk) ((wK (jb:=6) (o:=7) (j:=10) (i:=3) (n2:=(v31).length) (B':=[.cells [.int .u8 l0.typ,.int .i64 l0.n,.int .u64 l0.time,.int .u8 l0.dot.actor.rep,.int .u32 l0.dot.actor.inc,.int .u64 l0.dot.seq,.str l0.text,.rsl (h.blks.length+4) (h.toks.length+0) 5 ((v6).length),.rsl (h.blks.length+5) (h.toks.length+1) 3 ((v7).length)],.cells [.int .u8 e1.dot.actor.rep,.int .u32 e1.dot.actor.inc,.int .u64 e1.dot.seq,.int .u64 e1.time,.int .u8 e1.op.kind,.sl 1 (e1.op.path.map zG),.int .i64 e1.op.n,.str e1.op.text,.sl 3 (e1.op.dots.map GDot.row)],.cells [.int .u8 (0:Int),.int .i64 (0:Int),.int .u64 (0:Int),.int .u8 (0:Int),.int .u32 (0:Int),.int .u64 (0:Int),.str ([]:yn),.osl none 5 (([]:List GItem).map GItem.row),.osl none 3 (([]:List GDot).map GDot.row)],.mapo [(.int .u8 1,.fn (.func 31) [] []),(.int .u8 2,.fn (.func 32) [] []),(.int .u8 3,.fn (.func 33) [] []),(.int .u8 4,.fn (.func 34) [] []),(.int .u8 5,.fn (.func 35) [] [])] 0,.dead,.row (h.toks.length+1) 3 (v7.map GDot.row),.cells [.int .u8 l0.typ,.int .i64 l0.n,.int .u64 l0.time,.int .u8 l0.dot.actor.rep,.int .u32 l0.dot.actor.inc,.int .u64 l0.dot.seq,.str l0.text,.rsl (h.blks.length+11) (h.toks.length+4) 5 ((v31).length),.rsl (h.blks.length+5) (h.toks.length+1) 3 ((v7).length)],.dead,.dead,.dead,.dead,.row (h.toks.length+4) 5 (v31.map GItem.row)]) (T':=[n_v31.1,(v7).length,n_v31.2,(v31).length+1,(v31).length]) rfl rfl rfl (by simp) rfl rfl rfl rfl rfl rfl).wk)) ?_)
         exact ⟨rfl,(n_v31.1,n_v31.2,(v31).length+1),rfl⟩
       ·refine zN (qR ?_)
        obtain rfl:=Option.some.inj hF
        refine x7 rfl zA (xZ (wk.trans ((wn (by exact (.keep (.keep (.keep (.keep (.keep (.keep (.keep (.dead .nil)))))))))).wk) (wk.trans ((qg rfl).wk) (wk.trans ((qg rfl).wk) (wk.trans ((qg rfl).wk) (wk.trans ((swk_padT (n:=0) rfl).wk) (wk.trans ((swk_padT (n:=0) rfl).wk) ((wK (jb:=6) (o:=7) (j:=4) (i:=0) (n2:=(v6).length) (B':=[.cells [.int .u8 l0.typ,.int .i64 l0.n,.int .u64 l0.time,.int .u8 l0.dot.actor.rep,.int .u32 l0.dot.actor.inc,.int .u64 l0.dot.seq,.str l0.text,.rsl (h.blks.length+4) (h.toks.length+0) 5 ((v6).length),.rsl (h.blks.length+5) (h.toks.length+1) 3 ((v7).length)],.cells [.int .u8 e1.dot.actor.rep,.int .u32 e1.dot.actor.inc,.int .u64 e1.dot.seq,.int .u64 e1.time,.int .u8 e1.op.kind,.sl 1 (e1.op.path.map zG),.int .i64 e1.op.n,.str e1.op.text,.sl 3 (e1.op.dots.map GDot.row)],.cells [.int .u8 (0:Int),.int .i64 (0:Int),.int .u64 (0:Int),.int .u8 (0:Int),.int .u32 (0:Int),.int .u64 (0:Int),.str ([]:yn),.osl none 5 (([]:List GItem).map GItem.row),.osl none 3 (([]:List GDot).map GDot.row)],.mapo [(.int .u8 1,.fn (.func 31) [] []),(.int .u8 2,.fn (.func 32) [] []),(.int .u8 3,.fn (.func 33) [] []),(.int .u8 4,.fn (.func 34) [] []),(.int .u8 5,.fn (.func 35) [] [])] 0,.dead,.row (h.toks.length+1) 3 (v7.map GDot.row),.cells [.int .u8 l0.typ,.int .i64 l0.n,.int .u64 l0.time,.int .u8 l0.dot.actor.rep,.int .u32 l0.dot.actor.inc,.int .u64 l0.dot.seq,.str l0.text,.rsl (h.blks.length+11) (h.toks.length+4) 5 ((v6).length),.rsl (h.blks.length+5) (h.toks.length+1) 3 ((v7).length)],.dead,.dead,.dead,.dead,.row (h.toks.length+4) 5 (v6.map GItem.row)]) (T':=[(v6).length+1,(v7).length,0,0,(v6).length]) rfl rfl rfl (by simp) rfl rfl rfl rfl rfl rfl).wk))))))) ?_)
        exact ⟨rfl,((v6).length+1,0,0),rfl⟩
      ·refine zf (zk (zn (ze ?_)))
       refine zc rfl (zg rfl xu (zb rfl)) (sk yS) ?_
       refine zc rfl (zO rfl (gk yO) rfl) (sk yZ) ?_
       refine zc rfl (zd rfl yk (gk y4) rfl) (sk y8) ?_
       refine zc rfl (zq rfl ty31.choose_spec.1 (gk xd) rfl (zu (cs':=[.int .u8 l0.typ,.int .i64 l0.n,.int .u64 l0.time,.int .u8 l0.dot.actor.rep,.int .u32 l0.dot.actor.inc,.int .u64 l0.dot.seq,.str l0.text,.rsl (h.blks.length+11) (h.toks.length+4) 5 ((v17).length),.rsl (h.blks.length+5) (h.toks.length+1) 3 ((v7).length)]) ty31.choose_spec.2 rfl rfl) (zb rfl)) (sk xk) ?_
       refine zc rfl (zP (cs':=[.int .u8 l0.typ,.int .i64 l0.n,.int .u64 l0.time,.int .u8 l0.dot.actor.rep,.int .u32 l0.dot.actor.inc,.int .u64 l0.dot.seq,.str l0.text,.rsl (h.blks.length+11) (h.toks.length+4) 5 ((v17).length),.rsl (h.blks.length+5) (h.toks.length+1) 3 ((v7).length)]) rfl ty31.choose_spec.1 yp (gk xl) (zb rfl) rfl rfl rfl rfl rfl) rfl ?_
       refine zc rfl (zj rfl rfl (zb rfl)) xp ?_
       refine zf (zk (zJ ?_))
       obtain rfl:=Option.some.inj hF
       refine xU rfl (xg ty31.choose_spec.1 yp rfl (zu (cs':=[.int .u8 l0.typ,.int .i64 l0.n,.int .u64 l0.time,.int .u8 l0.dot.actor.rep,.int .u32 l0.dot.actor.inc,.int .u64 l0.dot.seq,.str l0.text,.rsl (h.blks.length+11) (h.toks.length+4) 5 ((v17).length),.rsl (h.blks.length+5) (h.toks.length+1) 3 ((v7).length)]) ty31.choose_spec.2 rfl rfl) (zb rfl) (zH yR zA)) (fin_trans (wk.trans ((wj (j:=11) (m:=4) (B':=[.cells [.int .u8 l0.typ,.int .i64 l0.n,.int .u64 l0.time,.int .u8 l0.dot.actor.rep,.int .u32 l0.dot.actor.inc,.int .u64 l0.dot.seq,.str l0.text,.rsl (h.blks.length+4) (h.toks.length+0) 5 ((v6).length),.rsl (h.blks.length+5) (h.toks.length+1) 3 ((v7).length)],.cells [.int .u8 e1.dot.actor.rep,.int .u32 e1.dot.actor.inc,.int .u64 e1.dot.seq,.int .u64 e1.time,.int .u8 e1.op.kind,.sl 1 (e1.op.path.map zG),.int .i64 e1.op.n,.str e1.op.text,.sl 3 (e1.op.dots.map GDot.row)],.cells [.int .u8 l0.typ,.int .i64 l0.n,.int .u64 l0.time,.int .u8 l0.dot.actor.rep,.int .u32 l0.dot.actor.inc,.int .u64 l0.dot.seq,.str l0.text,.rsl (h.blks.length+11) (h.toks.length+4) 5 ((v17).length),.rsl (h.blks.length+5) (h.toks.length+1) 3 ((v7).length)],.mapo [(.int .u8 1,.fn (.func 31) [] []),(.int .u8 2,.fn (.func 32) [] []),(.int .u8 3,.fn (.func 33) [] []),(.int .u8 4,.fn (.func 34) [] []),(.int .u8 5,.fn (.func 35) [] [])] 0,.dead,.row (h.toks.length+1) 3 (v7.map GDot.row),.cells [.int .u8 l0.typ,.int .i64 l0.n,.int .u64 l0.time,.int .u8 l0.dot.actor.rep,.int .u32 l0.dot.actor.inc,.int .u64 l0.dot.seq,.str l0.text,.rsl (h.blks.length+11) (h.toks.length+4) 5 ((v17).length),.rsl (h.blks.length+5) (h.toks.length+1) 3 ((v7).length)],.dead,.dead,.dead,.dead,.dead]) (T':=[n_v17.1,(v7).length,n_v17.2.1,n_v17.2.2,(v17.map GItem.row).length+1]) rfl (by exact (.cons (.tup (.cons (.agg (.cons (.same _) (.cons (.same _) (.cons (.same _) (.cons (.same _) (.cons (.same _) (.cons (.same _) (.cons (.same _) (.cons (.hit2 _ _ (by simp)) (.refl _))))))))) rfl) (.refl _))) (.refl _))) rfl rfl).wk) ((wj (j:=5) (m:=1) (B':=[.cells [.int .u8 l0.typ,.int .i64 l0.n,.int .u64 l0.time,.int .u8 l0.dot.actor.rep,.int .u32 l0.dot.actor.inc,.int .u64 l0.dot.seq,.str l0.text,.rsl (h.blks.length+4) (h.toks.length+0) 5 ((v6).length),.rsl (h.blks.length+5) (h.toks.length+1) 3 ((v7).length)],.cells [.int .u8 e1.dot.actor.rep,.int .u32 e1.dot.actor.inc,.int .u64 e1.dot.seq,.int .u64 e1.time,.int .u8 e1.op.kind,.sl 1 (e1.op.path.map zG),.int .i64 e1.op.n,.str e1.op.text,.sl 3 (e1.op.dots.map GDot.row)],.cells [.int .u8 l0.typ,.int .i64 l0.n,.int .u64 l0.time,.int .u8 l0.dot.actor.rep,.int .u32 l0.dot.actor.inc,.int .u64 l0.dot.seq,.str l0.text,.rsl (h.blks.length+11) (h.toks.length+4) 5 ((v17).length),.rsl (h.blks.length+5) (h.toks.length+1) 3 ((v7).length)],.mapo [(.int .u8 1,.fn (.func 31) [] []),(.int .u8 2,.fn (.func 32) [] []),(.int .u8 3,.fn (.func 33) [] []),(.int .u8 4,.fn (.func 34) [] []),(.int .u8 5,.fn (.func 35) [] [])] 0,.dead,.dead,.cells [.int .u8 l0.typ,.int .i64 l0.n,.int .u64 l0.time,.int .u8 l0.dot.actor.rep,.int .u32 l0.dot.actor.inc,.int .u64 l0.dot.seq,.str l0.text,.rsl (h.blks.length+11) (h.toks.length+4) 5 ((v17).length),.rsl (h.blks.length+5) (h.toks.length+1) 3 ((v7).length)],.dead,.dead,.dead,.dead,.dead]) (T':=[n_v17.1,(v7.map GDot.row).length+1,n_v17.2.1,n_v17.2.2,(v17.map GItem.row).length+1]) rfl (by exact (.cons (.tup (.cons (.agg (.cons (.same _) (.cons (.same _) (.cons (.same _) (.cons (.same _) (.cons (.same _) (.cons (.same _) (.cons (.same _) (.cons (.same _) (.cons (.hit2 _ _ (by simp)) (.refl _)))))))))) rfl) (.refl _))) (.refl _))) rfl rfl).wk)) ?_)
       refine zB (leV.refl _) rfl ?_
       exact ⟨rfl,rfl⟩
     ·refine iteF hF (fun hk40 hF=>?_) (fun hk40 hF=>?_)
      ·refine zc rfl (e_lookF (j:=3) (n:=4) rfl Tryz.underlying64 Tryz.underlying5 (gk yf) rfl (gk xh) hk40 (zY Tryz.underlying5 (by decide) (zY Tryz.underlying5 (by decide) (zY Tryz.underlying5 (by decide) (qm Tryz.underlying5))))) (sk xN) ?_
       refine zc rfl (zg rfl (gk xu) (zb rfl)) (sk xf) ?_
       refine zc rfl (zV rfl (gk yv) rfl (zb rfl)) (sk xC) ?_
       refine zc rfl (zV rfl (gk yv) rfl (zb rfl)) (sk xR) ?_
       refine zc rfl (zj rfl (gk xr) (zb rfl)) xC ?_
       refine zc rfl (zj rfl (gk xK) (zb rfl)) xR ?_
       refine zf (zk (zn (ze ?_)))
       refine zc rfl (zg rfl xK (zb rfl)) (sk yy) ?_
       refine zf (zk ?_)
       refine vQ (gk yw) (fun _=>?_) (fun hh=>by cases hh)
       refine ze ?_
       refine zc rfl (zg rfl xr (zb rfl)) (sk yx) ?_
       refine zc rfl (zg rfl xu (zb rfl)) (sk yE) ?_
       refine zc rfl (zq rfl ty36.choose_spec.1 yf rfl (zu (cs':=[.int .u8 e1.dot.actor.rep,.int .u32 e1.dot.actor.inc,.int .u64 e1.dot.seq,.int .u64 e1.time,.int .u8 e1.op.kind,.sl 1 (e1.op.path.map zG),.int .i64 e1.op.n,.str e1.op.text,.sl 3 (e1.op.dots.map GDot.row)]) ty36.choose_spec.2 rfl rfl) (zb rfl)) (sk yK) ?_
       refine zQ hF (fun v41 hv41 hF=>?_)
       refine vL (X:=Nat×Nat×Nat×Nat) (v:=.tup []) (H':=fun n_v41=>h.ext [.cells [.int .u8 l0.typ,.int .i64 l0.n,.int .u64 l0.time,.int .u8 l0.dot.actor.rep,.int .u32 l0.dot.actor.inc,.int .u64 l0.dot.seq,.str l0.text,.rsl (h.blks.length+4) (h.toks.length+0) 5 ((v6).length),.rsl (h.blks.length+5) (h.toks.length+1) 3 ((v7).length)],.cells [.int .u8 e1.dot.actor.rep,.int .u32 e1.dot.actor.inc,.int .u64 e1.dot.seq,.int .u64 e1.time,.int .u8 e1.op.kind,.sl 1 (e1.op.path.map zG),.int .i64 e1.op.n,.str e1.op.text,.sl 3 (e1.op.dots.map GDot.row)],.cells [.int .u8 (0:Int),.int .i64 (0:Int),.int .u64 (0:Int),.int .u8 (0:Int),.int .u32 (0:Int),.int .u64 (0:Int),.str ([]:yn),.osl none 5 (([]:List GItem).map GItem.row),.osl none 3 (([]:List GDot).map GDot.row)],.mapo [(.int .u8 1,.fn (.func 31) [] []),(.int .u8 2,.fn (.func 32) [] []),(.int .u8 3,.fn (.func 33) [] []),(.int .u8 4,.fn (.func 34) [] []),(.int .u8 5,.fn (.func 35) [] [])] 0,.dead,.dead,.cells [.int .u8 l0.typ,.int .i64 l0.n,.int .u64 l0.time,.int .u8 l0.dot.actor.rep,.int .u32 l0.dot.actor.inc,.int .u64 l0.dot.seq,.str l0.text,.rsl (h.blks.length+11) (h.toks.length+5) 5 ((v41.2).length),.rsl (h.blks.length+9) (h.toks.length+3) 3 ((v41.1).length)],.dead,.dead,.row (h.toks.length+3) 3 (v41.1.map GDot.row),.dead,.row (h.toks.length+5) 5 (v41.2.map GItem.row)] [n_v41.1,n_v41.2.1,n_v41.2.2.1,(v41.1).length,n_v41.2.2.2,(v41.2).length]) rfl (zC rfl rfl (gk yr) (zo (gk yD) (zo (gk yI) zw)) (.cons (zb rfl) (.cons (zb rfl) .nil))) ?_ (sk yT) (fun n_v41=>?_)
       ·replace hF:=hv41
        refine yz Tryz.func34 rfl (by kernel_rfl) (env:=[.ptr (h.blks.length+6) 0,.agg [.int .u8 e1.dot.actor.rep,.int .u32 e1.dot.actor.inc,.int .u64 e1.dot.seq,.int .u64 e1.time,.int .u8 e1.op.kind,.sl 1 (e1.op.path.map zG),.int .i64 e1.op.n,.str e1.op.text,.sl 3 (e1.op.dots.map GDot.row)],za,za,za,za,za,za,za,za,za,za,za,za,za,za,za,za,za,za,za,za,za,za,za,za,za,za,za,za,za,za,za,za,za,za,za,za,za,za,za,za,za,za]) (by rfl) ?_
        refine zn (ze ?_)
        refine zc rfl (yF (n:=7) rfl yB (zb rfl) rfl rfl) x5 ?_
        refine zf (zk (zn ?_))
        refine yb [] [] trivial mixed (by kernel_rfl) ?_
        refine zi rfl rfl (zg rfl yh (zb rfl)) yV ?_
        refine zi rfl rfl (zg rfl yh (zb rfl)) xp ?_
        refine zi rfl rfl (zO rfl yR rfl) xI ?_
        refine zi rfl rfl (zd rfl yk xh rfl) xN ?_
        refine zi rfl rfl (zd rfl y5 xu rfl) xC ?_
        refine zi rfl rfl (zq rfl xP xr rfl (zt rfl) (zb rfl)) xR ?_
        refine zi rfl rfl (zd rfl wd yf rfl) yy ?_
        refine zi rfl rfl (zd rfl vJ yw rfl) yx ?_
        refine zi rfl rfl (zq rfl xP yr rfl (zt rfl) (zb rfl)) yE ?_
        refine vz hF (fun hm46 hF=>?_)
        refine yG rfl FOk.nil (by kernel_rfl) rfl (e_appR (i:=5) (j:=1) (B':=[.cells [.int .u8 l0.typ,.int .i64 l0.n,.int .u64 l0.time,.int .u8 l0.dot.actor.rep,.int .u32 l0.dot.actor.inc,.int .u64 l0.dot.seq,.str l0.text,.rsl (h.blks.length+4) (h.toks.length+0) 5 ((v6).length),.rsl (h.blks.length+5) (h.toks.length+1) 3 ((v7).length)],.cells [.int .u8 e1.dot.actor.rep,.int .u32 e1.dot.actor.inc,.int .u64 e1.dot.seq,.int .u64 e1.time,.int .u8 e1.op.kind,.sl 1 (e1.op.path.map zG),.int .i64 e1.op.n,.str e1.op.text,.sl 3 (e1.op.dots.map GDot.row)],.cells [.int .u8 (0:Int),.int .i64 (0:Int),.int .u64 (0:Int),.int .u8 (0:Int),.int .u32 (0:Int),.int .u64 (0:Int),.str ([]:yn),.osl none 5 (([]:List GItem).map GItem.row),.osl none 3 (([]:List GDot).map GDot.row)],.mapo [(.int .u8 1,.fn (.func 31) [] []),(.int .u8 2,.fn (.func 32) [] []),(.int .u8 3,.fn (.func 33) [] []),(.int .u8 4,.fn (.func 34) [] []),(.int .u8 5,.fn (.func 35) [] [])] 0,.row (h.toks.length+0) 5 (v6.map GItem.row),.row (h.toks.length+1) 3 ((v7++e1.op.dots).map GDot.row),.cells [.int .u8 l0.typ,.int .i64 l0.n,.int .u64 l0.time,.int .u8 l0.dot.actor.rep,.int .u32 l0.dot.actor.inc,.int .u64 l0.dot.seq,.str l0.text,.rsl (h.blks.length+4) (h.toks.length+0) 5 ((v6).length),.rsl (h.blks.length+5) (h.toks.length+1) 3 ((v7).length)],.cells [.int .u8 e1.dot.actor.rep,.int .u32 e1.dot.actor.inc,.int .u64 e1.dot.seq,.int .u64 e1.time,.int .u8 e1.op.kind,.sl 1 (e1.op.path.map zG),.int .i64 e1.op.n,.str e1.op.text,.sl 3 (e1.op.dots.map GDot.row)]]) (T':=[(v6).length,((v7++e1.op.dots)).length]) rfl rfl rfl rfl yU yU xK yD rfl (zb rfl) qI hm46 rfl rfl rfl rfl rfl) yK ?_
        refine zi rfl rfl (zO rfl yp rfl) yT ?_
        refine zi rfl rfl (zd rfl yk yY rfl) yS ?_
        refine zi rfl rfl (zd rfl y5 yO rfl) yZ ?_
        refine yG rfl FOk.nil (by kernel_rfl) rfl (zP (cs':=[.int .u8 l0.typ,.int .i64 l0.n,.int .u64 l0.time,.int .u8 l0.dot.actor.rep,.int .u32 l0.dot.actor.inc,.int .u64 l0.dot.seq,.str l0.text,.rsl (h.blks.length+4) (h.toks.length+0) 5 ((v6).length),.rsl (h.blks.length+5) (h.toks.length+1) 3 (((v7++e1.op.dots)).length)]) rfl xP y4 yI (zb rfl) rfl rfl rfl rfl rfl) rfl ?_
        refine zX ?_
        refine zk (zn (ze ?_))
        refine zc rfl (zg rfl yh (zb rfl)) y8 ?_
        refine zc rfl (zO rfl xd rfl) xk ?_
        refine zc rfl (zd rfl yk xl rfl) xJ ?_
        refine zc rfl (zd rfl y5 xL rfl) xQ ?_
        refine zc rfl (zq rfl xP xX rfl (zt rfl) (zb rfl)) wb ?_
        refine zQ hF (fun v47 hv47 hF=>?_)
        refine ops_callH rfl (zC rfl rfl rfl (zo wa (zo rfl zw)) (.cons (zb rfl) (.cons (zb rfl) .nil))) (spec_sortO sort54TryzLays Tryz.isAgg27 Tryz.sizeOf27 (fun _=>rfl) (fun _=>rfl) (enters_fn Tryz.func45 rfl (by kernel_rfl)) (fun _ _ _ h=>ok45 h) hv47 (i:=5) (B':=[.cells [.int .u8 l0.typ,.int .i64 l0.n,.int .u64 l0.time,.int .u8 l0.dot.actor.rep,.int .u32 l0.dot.actor.inc,.int .u64 l0.dot.seq,.str l0.text,.rsl (h.blks.length+4) (h.toks.length+0) 5 ((v6).length),.rsl (h.blks.length+5) (h.toks.length+1) 3 ((v7).length)],.cells [.int .u8 e1.dot.actor.rep,.int .u32 e1.dot.actor.inc,.int .u64 e1.dot.seq,.int .u64 e1.time,.int .u8 e1.op.kind,.sl 1 (e1.op.path.map zG),.int .i64 e1.op.n,.str e1.op.text,.sl 3 (e1.op.dots.map GDot.row)],.cells [.int .u8 (0:Int),.int .i64 (0:Int),.int .u64 (0:Int),.int .u8 (0:Int),.int .u32 (0:Int),.int .u64 (0:Int),.str ([]:yn),.osl none 5 (([]:List GItem).map GItem.row),.osl none 3 (([]:List GDot).map GDot.row)],.mapo [(.int .u8 1,.fn (.func 31) [] []),(.int .u8 2,.fn (.func 32) [] []),(.int .u8 3,.fn (.func 33) [] []),(.int .u8 4,.fn (.func 34) [] []),(.int .u8 5,.fn (.func 35) [] [])] 0,.row (h.toks.length+0) 5 (v6.map GItem.row),.row (h.toks.length+1) 3 (v47.map GDot.row),.cells [.int .u8 l0.typ,.int .i64 l0.n,.int .u64 l0.time,.int .u8 l0.dot.actor.rep,.int .u32 l0.dot.actor.inc,.int .u64 l0.dot.seq,.str l0.text,.rsl (h.blks.length+4) (h.toks.length+0) 5 ((v6).length),.rsl (h.blks.length+5) (h.toks.length+1) 3 (((v7++e1.op.dots)).length)],.cells [.int .u8 e1.dot.actor.rep,.int .u32 e1.dot.actor.inc,.int .u64 e1.dot.seq,.int .u64 e1.time,.int .u8 e1.op.kind,.sl 1 (e1.op.path.map zG),.int .i64 e1.op.n,.str e1.op.text,.sl 3 (e1.op.dots.map GDot.row)]]) rfl rfl) wl ?_
        refine zf (zk (zn (ze ?_)))
        refine zc rfl (zg rfl yh (zb rfl)) wp ?_
        refine zc rfl (zg rfl yh (zb rfl)) wu ?_
        refine zc rfl (zO rfl ww rfl) wz ?_
        refine zc rfl (zd rfl yk wv rfl) wV ?_
        refine zc rfl (zd rfl y5 wD rfl) wU ?_
        refine zc rfl (zq rfl xP w4 rfl (zt rfl) (zb rfl)) wG ?_
        refine ops_swk (swk_move (j:=5) (i:=1) (n2:=(v47).length) (B':=[.cells [.int .u8 l0.typ,.int .i64 l0.n,.int .u64 l0.time,.int .u8 l0.dot.actor.rep,.int .u32 l0.dot.actor.inc,.int .u64 l0.dot.seq,.str l0.text,.rsl (h.blks.length+4) (h.toks.length+0) 5 ((v6).length),.rsl (h.blks.length+5) (h.toks.length+1) 3 ((v7).length)],.cells [.int .u8 e1.dot.actor.rep,.int .u32 e1.dot.actor.inc,.int .u64 e1.dot.seq,.int .u64 e1.time,.int .u8 e1.op.kind,.sl 1 (e1.op.path.map zG),.int .i64 e1.op.n,.str e1.op.text,.sl 3 (e1.op.dots.map GDot.row)],.cells [.int .u8 (0:Int),.int .i64 (0:Int),.int .u64 (0:Int),.int .u8 (0:Int),.int .u32 (0:Int),.int .u64 (0:Int),.str ([]:yn),.osl none 5 (([]:List GItem).map GItem.row),.osl none 3 (([]:List GDot).map GDot.row)],.mapo [(.int .u8 1,.fn (.func 31) [] []),(.int .u8 2,.fn (.func 32) [] []),(.int .u8 3,.fn (.func 33) [] []),(.int .u8 4,.fn (.func 34) [] []),(.int .u8 5,.fn (.func 35) [] [])] 0,.row (h.toks.length+0) 5 (v6.map GItem.row),.dead,.cells [.int .u8 l0.typ,.int .i64 l0.n,.int .u64 l0.time,.int .u8 l0.dot.actor.rep,.int .u32 l0.dot.actor.inc,.int .u64 l0.dot.seq,.str l0.text,.rsl (h.blks.length+4) (h.toks.length+0) 5 ((v6).length),.rsl (h.blks.length+5) (h.toks.length+1) 3 (((v7++e1.op.dots)).length)],.cells [.int .u8 e1.dot.actor.rep,.int .u32 e1.dot.actor.inc,.int .u64 e1.dot.seq,.int .u64 e1.time,.int .u8 e1.op.kind,.sl 1 (e1.op.path.map zG),.int .i64 e1.op.n,.str e1.op.text,.sl 3 (e1.op.dots.map GDot.row)],.row (h.toks.length+2) 3 (v47.map GDot.row)]) (T':=[(v6).length,(v47).length+1,(v47).length]) wH rfl (by rw [List.length_map];exact sortO_len hv47) (sortO_len hv47).symm rfl rfl wG rfl rfl) ?_
        refine zQ hF (fun v48 hv48 hF=>?_)
        refine ops_turn (B1:=[.cells [.int .u8 l0.typ,.int .i64 l0.n,.int .u64 l0.time,.int .u8 l0.dot.actor.rep,.int .u32 l0.dot.actor.inc,.int .u64 l0.dot.seq,.str l0.text,.rsl (h.blks.length+4) (h.toks.length+0) 5 ((v6).length),.rsl (h.blks.length+5) (h.toks.length+1) 3 ((v7).length)],.cells [.int .u8 e1.dot.actor.rep,.int .u32 e1.dot.actor.inc,.int .u64 e1.dot.seq,.int .u64 e1.time,.int .u8 e1.op.kind,.sl 1 (e1.op.path.map zG),.int .i64 e1.op.n,.str e1.op.text,.sl 3 (e1.op.dots.map GDot.row)],.cells [.int .u8 (0:Int),.int .i64 (0:Int),.int .u64 (0:Int),.int .u8 (0:Int),.int .u32 (0:Int),.int .u64 (0:Int),.str ([]:yn),.osl none 5 (([]:List GItem).map GItem.row),.osl none 3 (([]:List GDot).map GDot.row)],.mapo [(.int .u8 1,.fn (.func 31) [] []),(.int .u8 2,.fn (.func 32) [] []),(.int .u8 3,.fn (.func 33) [] []),(.int .u8 4,.fn (.func 34) [] []),(.int .u8 5,.fn (.func 35) [] [])] 0,.row (h.toks.length+0) 5 (v6.map GItem.row),.dead,.cells [.int .u8 l0.typ,.int .i64 l0.n,.int .u64 l0.time,.int .u8 l0.dot.actor.rep,.int .u32 l0.dot.actor.inc,.int .u64 l0.dot.seq,.str l0.text,.rsl (h.blks.length+4) (h.toks.length+0) 5 ((v6).length),.rsl (h.blks.length+5) (h.toks.length+1) 3 (((v7++e1.op.dots)).length)],.cells [.int .u8 e1.dot.actor.rep,.int .u32 e1.dot.actor.inc,.int .u64 e1.dot.seq,.int .u64 e1.time,.int .u8 e1.op.kind,.sl 1 (e1.op.path.map zG),.int .i64 e1.op.n,.str e1.op.text,.sl 3 (e1.op.dots.map GDot.row)]]) (T1:=[(v6).length,(v47).length+1]) (j:=8) (i:=2) (B':=[.cells [.int .u8 l0.typ,.int .i64 l0.n,.int .u64 l0.time,.int .u8 l0.dot.actor.rep,.int .u32 l0.dot.actor.inc,.int .u64 l0.dot.seq,.str l0.text,.rsl (h.blks.length+4) (h.toks.length+0) 5 ((v6).length),.rsl (h.blks.length+5) (h.toks.length+1) 3 ((v7).length)],.cells [.int .u8 e1.dot.actor.rep,.int .u32 e1.dot.actor.inc,.int .u64 e1.dot.seq,.int .u64 e1.time,.int .u8 e1.op.kind,.sl 1 (e1.op.path.map zG),.int .i64 e1.op.n,.str e1.op.text,.sl 3 (e1.op.dots.map GDot.row)],.cells [.int .u8 (0:Int),.int .i64 (0:Int),.int .u64 (0:Int),.int .u8 (0:Int),.int .u32 (0:Int),.int .u64 (0:Int),.str ([]:yn),.osl none 5 (([]:List GItem).map GItem.row),.osl none 3 (([]:List GDot).map GDot.row)],.mapo [(.int .u8 1,.fn (.func 31) [] []),(.int .u8 2,.fn (.func 32) [] []),(.int .u8 3,.fn (.func 33) [] []),(.int .u8 4,.fn (.func 34) [] []),(.int .u8 5,.fn (.func 35) [] [])] 0,.row (h.toks.length+0) 5 (v6.map GItem.row),.dead,.cells [.int .u8 l0.typ,.int .i64 l0.n,.int .u64 l0.time,.int .u8 l0.dot.actor.rep,.int .u32 l0.dot.actor.inc,.int .u64 l0.dot.seq,.str l0.text,.rsl (h.blks.length+4) (h.toks.length+0) 5 ((v6).length),.rsl (h.blks.length+5) (h.toks.length+1) 3 (((v7++e1.op.dots)).length)],.cells [.int .u8 e1.dot.actor.rep,.int .u32 e1.dot.actor.inc,.int .u64 e1.dot.seq,.int .u64 e1.time,.int .u8 e1.op.kind,.sl 1 (e1.op.path.map zG),.int .i64 e1.op.n,.str e1.op.text,.sl 3 (e1.op.dots.map GDot.row)],.dead,.row (h.toks.length+3) 3 (v48.map GDot.row)]) rfl (zC rfl rfl rfl (zo wH zw) (.cons (zb rfl) .nil)) (okR55 (by simp [AH.ext]) (by simp [AH.ext]) hv48) rfl rfl w9 rfl (fun n_v48=>?_)
        refine zc rfl (zO rfl wg rfl) w8 ?_
        refine zc rfl (zd rfl yk va rfl) w7 ?_
        refine zc rfl (zd rfl y5 wZ rfl) wT ?_
        refine zc rfl (zP (cs':=[.int .u8 l0.typ,.int .i64 l0.n,.int .u64 l0.time,.int .u8 l0.dot.actor.rep,.int .u32 l0.dot.actor.inc,.int .u64 l0.dot.seq,.str l0.text,.rsl (h.blks.length+4) (h.toks.length+0) 5 ((v6).length),.rsl (h.blks.length+9) (h.toks.length+3) 3 ((v48).length)]) rfl xP wQ we (zb rfl) rfl rfl rfl rfl rfl) rfl ?_
        refine zf (zk (ze ?_))
        refine zc rfl (zg rfl yh (zb rfl)) wS ?_
        refine zc rfl (zg rfl yh (zb rfl)) wR ?_
        refine zc rfl (zO rfl wX rfl) vg ?_
        refine zc rfl (zd rfl yk vn rfl) vf ?_
        refine zc rfl (zd rfl ym vm rfl) vI ?_
        refine zc rfl (zq rfl xW vC rfl (zt rfl) (zb rfl)) vN ?_
        refine zc rfl (s_makeFunc rfl rfl rfl) vZ ?_
        refine ops_swk (swk_move (j:=4) (i:=0) (n2:=(v6).length) (B':=[.cells [.int .u8 l0.typ,.int .i64 l0.n,.int .u64 l0.time,.int .u8 l0.dot.actor.rep,.int .u32 l0.dot.actor.inc,.int .u64 l0.dot.seq,.str l0.text,.rsl (h.blks.length+4) (h.toks.length+0) 5 ((v6).length),.rsl (h.blks.length+5) (h.toks.length+1) 3 ((v7).length)],.cells [.int .u8 e1.dot.actor.rep,.int .u32 e1.dot.actor.inc,.int .u64 e1.dot.seq,.int .u64 e1.time,.int .u8 e1.op.kind,.sl 1 (e1.op.path.map zG),.int .i64 e1.op.n,.str e1.op.text,.sl 3 (e1.op.dots.map GDot.row)],.cells [.int .u8 (0:Int),.int .i64 (0:Int),.int .u64 (0:Int),.int .u8 (0:Int),.int .u32 (0:Int),.int .u64 (0:Int),.str ([]:yn),.osl none 5 (([]:List GItem).map GItem.row),.osl none 3 (([]:List GDot).map GDot.row)],.mapo [(.int .u8 1,.fn (.func 31) [] []),(.int .u8 2,.fn (.func 32) [] []),(.int .u8 3,.fn (.func 33) [] []),(.int .u8 4,.fn (.func 34) [] []),(.int .u8 5,.fn (.func 35) [] [])] 0,.dead,.dead,.cells [.int .u8 l0.typ,.int .i64 l0.n,.int .u64 l0.time,.int .u8 l0.dot.actor.rep,.int .u32 l0.dot.actor.inc,.int .u64 l0.dot.seq,.str l0.text,.rsl (h.blks.length+4) (h.toks.length+0) 5 ((v6).length),.rsl (h.blks.length+9) (h.toks.length+3) 3 ((v48).length)],.cells [.int .u8 e1.dot.actor.rep,.int .u32 e1.dot.actor.inc,.int .u64 e1.dot.seq,.int .u64 e1.time,.int .u8 e1.op.kind,.sl 1 (e1.op.path.map zG),.int .i64 e1.op.n,.str e1.op.text,.sl 3 (e1.op.dots.map GDot.row)],.dead,.row (h.toks.length+3) 3 (v48.map GDot.row),.row (h.toks.length+4) 5 (v6.map GItem.row)]) (T':=[(v6).length+1,(v47).length+1,n_v48,(v48).length,(v6).length]) vO rfl (by simp) rfl rfl rfl vN rfl rfl) ?_
        refine zQ hF (fun v49 hv49 hF=>?_)
        refine ops_turn (B1:=[.cells [.int .u8 l0.typ,.int .i64 l0.n,.int .u64 l0.time,.int .u8 l0.dot.actor.rep,.int .u32 l0.dot.actor.inc,.int .u64 l0.dot.seq,.str l0.text,.rsl (h.blks.length+4) (h.toks.length+0) 5 ((v6).length),.rsl (h.blks.length+5) (h.toks.length+1) 3 ((v7).length)],.cells [.int .u8 e1.dot.actor.rep,.int .u32 e1.dot.actor.inc,.int .u64 e1.dot.seq,.int .u64 e1.time,.int .u8 e1.op.kind,.sl 1 (e1.op.path.map zG),.int .i64 e1.op.n,.str e1.op.text,.sl 3 (e1.op.dots.map GDot.row)],.cells [.int .u8 (0:Int),.int .i64 (0:Int),.int .u64 (0:Int),.int .u8 (0:Int),.int .u32 (0:Int),.int .u64 (0:Int),.str ([]:yn),.osl none 5 (([]:List GItem).map GItem.row),.osl none 3 (([]:List GDot).map GDot.row)],.mapo [(.int .u8 1,.fn (.func 31) [] []),(.int .u8 2,.fn (.func 32) [] []),(.int .u8 3,.fn (.func 33) [] []),(.int .u8 4,.fn (.func 34) [] []),(.int .u8 5,.fn (.func 35) [] [])] 0,.dead,.dead,.cells [.int .u8 l0.typ,.int .i64 l0.n,.int .u64 l0.time,.int .u8 l0.dot.actor.rep,.int .u32 l0.dot.actor.inc,.int .u64 l0.dot.seq,.str l0.text,.rsl (h.blks.length+4) (h.toks.length+0) 5 ((v6).length),.rsl (h.blks.length+9) (h.toks.length+3) 3 ((v48).length)],.cells [.int .u8 e1.dot.actor.rep,.int .u32 e1.dot.actor.inc,.int .u64 e1.dot.seq,.int .u64 e1.time,.int .u8 e1.op.kind,.sl 1 (e1.op.path.map zG),.int .i64 e1.op.n,.str e1.op.text,.sl 3 (e1.op.dots.map GDot.row)],.dead,.row (h.toks.length+3) 3 (v48.map GDot.row)]) (T1:=[(v6).length+1,(v47).length+1,n_v48,(v48).length]) (j:=10) (i:=4) (B':=[.cells [.int .u8 l0.typ,.int .i64 l0.n,.int .u64 l0.time,.int .u8 l0.dot.actor.rep,.int .u32 l0.dot.actor.inc,.int .u64 l0.dot.seq,.str l0.text,.rsl (h.blks.length+4) (h.toks.length+0) 5 ((v6).length),.rsl (h.blks.length+5) (h.toks.length+1) 3 ((v7).length)],.cells [.int .u8 e1.dot.actor.rep,.int .u32 e1.dot.actor.inc,.int .u64 e1.dot.seq,.int .u64 e1.time,.int .u8 e1.op.kind,.sl 1 (e1.op.path.map zG),.int .i64 e1.op.n,.str e1.op.text,.sl 3 (e1.op.dots.map GDot.row)],.cells [.int .u8 (0:Int),.int .i64 (0:Int),.int .u64 (0:Int),.int .u8 (0:Int),.int .u32 (0:Int),.int .u64 (0:Int),.str ([]:yn),.osl none 5 (([]:List GItem).map GItem.row),.osl none 3 (([]:List GDot).map GDot.row)],.mapo [(.int .u8 1,.fn (.func 31) [] []),(.int .u8 2,.fn (.func 32) [] []),(.int .u8 3,.fn (.func 33) [] []),(.int .u8 4,.fn (.func 34) [] []),(.int .u8 5,.fn (.func 35) [] [])] 0,.dead,.dead,.cells [.int .u8 l0.typ,.int .i64 l0.n,.int .u64 l0.time,.int .u8 l0.dot.actor.rep,.int .u32 l0.dot.actor.inc,.int .u64 l0.dot.seq,.str l0.text,.rsl (h.blks.length+4) (h.toks.length+0) 5 ((v6).length),.rsl (h.blks.length+9) (h.toks.length+3) 3 ((v48).length)],.cells [.int .u8 e1.dot.actor.rep,.int .u32 e1.dot.actor.inc,.int .u64 e1.dot.seq,.int .u64 e1.time,.int .u8 e1.op.kind,.sl 1 (e1.op.path.map zG),.int .i64 e1.op.n,.str e1.op.text,.sl 3 (e1.op.dots.map GDot.row)],.dead,.row (h.toks.length+3) 3 (v48.map GDot.row),.dead,.row (h.toks.length+5) 5 (v49.map GItem.row)]) rfl (zC rfl rfl rfl (zo vO (zo qe zw)) (.cons (zb rfl) (.cons (zb rfl) .nil))) (okR56 (by simp [AH.ext]) (by simp [AH.ext]) (fun _ v L M hv=>ok57 (blk_ext2 (j:=7) rfl) hv) (fun _ _ _ _=>rfl) (fun n m h1 h2=>by simp [AH.ext] at h1;simp [y3,AV.low];omega) hv49) rfl rfl (sk st0) rfl (fun n_v49=>?_)
        refine zc rfl (zO rfl wY rfl) (sk st1) ?_
        refine zc rfl (zd rfl yk (gk yB) rfl) (sk xf) ?_
        refine zc rfl (zd rfl ym (gk yv) rfl) (sk x5) ?_
        refine zc rfl (zP (cs':=[.int .u8 l0.typ,.int .i64 l0.n,.int .u64 l0.time,.int .u8 l0.dot.actor.rep,.int .u32 l0.dot.actor.inc,.int .u64 l0.dot.seq,.str l0.text,.rsl (h.blks.length+11) (h.toks.length+5) 5 ((v49).length),.rsl (h.blks.length+9) (h.toks.length+3) 3 ((v48).length)]) rfl xW (gk yf) (gk yh) (zb rfl) rfl rfl rfl rfl rfl) rfl ?_
        refine zf (qR ?_)
        obtain rfl:=Option.some.inj hF
        refine x7 rfl zA (xZ ((wn (by exact (.keep (.keep (.keep (.keep (.keep (.keep (.keep (.dead (.keep (.keep (.keep (.keep .nil)))))))))))))).wk) ?_)
        exact ⟨rfl,((v6).length+1,(v47).length+1,n_v48,n_v49),rfl⟩
       ·refine zf (zk (zn (ze ?_)))
        refine zc rfl (zg rfl xu (zb rfl)) (sk yS) ?_
        refine zc rfl (zO rfl (gk yO) rfl) (sk yZ) ?_
        refine zc rfl (zd rfl yk (gk y4) rfl) (sk y8) ?_
        refine zc rfl (zq rfl ty31.choose_spec.1 (gk xd) rfl (zu (cs':=[.int .u8 l0.typ,.int .i64 l0.n,.int .u64 l0.time,.int .u8 l0.dot.actor.rep,.int .u32 l0.dot.actor.inc,.int .u64 l0.dot.seq,.str l0.text,.rsl (h.blks.length+11) (h.toks.length+5) 5 ((v41.2).length),.rsl (h.blks.length+9) (h.toks.length+3) 3 ((v41.1).length)]) ty31.choose_spec.2 rfl rfl) (zb rfl)) (sk xk) ?_
        refine zc rfl (zP (cs':=[.int .u8 l0.typ,.int .i64 l0.n,.int .u64 l0.time,.int .u8 l0.dot.actor.rep,.int .u32 l0.dot.actor.inc,.int .u64 l0.dot.seq,.str l0.text,.rsl (h.blks.length+11) (h.toks.length+5) 5 ((v41.2).length),.rsl (h.blks.length+9) (h.toks.length+3) 3 ((v41.1).length)]) rfl ty31.choose_spec.1 yp (gk xl) (zb rfl) rfl rfl rfl rfl rfl) rfl ?_
        refine zc rfl (zj rfl rfl (zb rfl)) xp ?_
        refine zf (zk (zJ ?_))
        obtain rfl:=Option.some.inj hF
        refine xU rfl (xg ty31.choose_spec.1 yp rfl (zu (cs':=[.int .u8 l0.typ,.int .i64 l0.n,.int .u64 l0.time,.int .u8 l0.dot.actor.rep,.int .u32 l0.dot.actor.inc,.int .u64 l0.dot.seq,.str l0.text,.rsl (h.blks.length+11) (h.toks.length+5) 5 ((v41.2).length),.rsl (h.blks.length+9) (h.toks.length+3) 3 ((v41.1).length)]) ty31.choose_spec.2 rfl rfl) (zb rfl) (zH yR zA)) (fin_trans (wk.trans ((wj (j:=11) (m:=5) (B':=[.cells [.int .u8 l0.typ,.int .i64 l0.n,.int .u64 l0.time,.int .u8 l0.dot.actor.rep,.int .u32 l0.dot.actor.inc,.int .u64 l0.dot.seq,.str l0.text,.rsl (h.blks.length+4) (h.toks.length+0) 5 ((v6).length),.rsl (h.blks.length+5) (h.toks.length+1) 3 ((v7).length)],.cells [.int .u8 e1.dot.actor.rep,.int .u32 e1.dot.actor.inc,.int .u64 e1.dot.seq,.int .u64 e1.time,.int .u8 e1.op.kind,.sl 1 (e1.op.path.map zG),.int .i64 e1.op.n,.str e1.op.text,.sl 3 (e1.op.dots.map GDot.row)],.cells [.int .u8 l0.typ,.int .i64 l0.n,.int .u64 l0.time,.int .u8 l0.dot.actor.rep,.int .u32 l0.dot.actor.inc,.int .u64 l0.dot.seq,.str l0.text,.rsl (h.blks.length+11) (h.toks.length+5) 5 ((v41.2).length),.rsl (h.blks.length+9) (h.toks.length+3) 3 ((v41.1).length)],.mapo [(.int .u8 1,.fn (.func 31) [] []),(.int .u8 2,.fn (.func 32) [] []),(.int .u8 3,.fn (.func 33) [] []),(.int .u8 4,.fn (.func 34) [] []),(.int .u8 5,.fn (.func 35) [] [])] 0,.dead,.dead,.cells [.int .u8 l0.typ,.int .i64 l0.n,.int .u64 l0.time,.int .u8 l0.dot.actor.rep,.int .u32 l0.dot.actor.inc,.int .u64 l0.dot.seq,.str l0.text,.rsl (h.blks.length+11) (h.toks.length+5) 5 ((v41.2).length),.rsl (h.blks.length+9) (h.toks.length+3) 3 ((v41.1).length)],.dead,.dead,.row (h.toks.length+3) 3 (v41.1.map GDot.row),.dead,.dead]) (T':=[n_v41.1,n_v41.2.1,n_v41.2.2.1,(v41.1).length,n_v41.2.2.2,(v41.2.map GItem.row).length+1]) rfl (by exact (.cons (.tup (.cons (.agg (.cons (.same _) (.cons (.same _) (.cons (.same _) (.cons (.same _) (.cons (.same _) (.cons (.same _) (.cons (.same _) (.cons (.hit2 _ _ (by simp)) (.refl _))))))))) rfl) (.refl _))) (.refl _))) rfl rfl).wk) ((wj (j:=9) (m:=3) (B':=[.cells [.int .u8 l0.typ,.int .i64 l0.n,.int .u64 l0.time,.int .u8 l0.dot.actor.rep,.int .u32 l0.dot.actor.inc,.int .u64 l0.dot.seq,.str l0.text,.rsl (h.blks.length+4) (h.toks.length+0) 5 ((v6).length),.rsl (h.blks.length+5) (h.toks.length+1) 3 ((v7).length)],.cells [.int .u8 e1.dot.actor.rep,.int .u32 e1.dot.actor.inc,.int .u64 e1.dot.seq,.int .u64 e1.time,.int .u8 e1.op.kind,.sl 1 (e1.op.path.map zG),.int .i64 e1.op.n,.str e1.op.text,.sl 3 (e1.op.dots.map GDot.row)],.cells [.int .u8 l0.typ,.int .i64 l0.n,.int .u64 l0.time,.int .u8 l0.dot.actor.rep,.int .u32 l0.dot.actor.inc,.int .u64 l0.dot.seq,.str l0.text,.rsl (h.blks.length+11) (h.toks.length+5) 5 ((v41.2).length),.rsl (h.blks.length+9) (h.toks.length+3) 3 ((v41.1).length)],.mapo [(.int .u8 1,.fn (.func 31) [] []),(.int .u8 2,.fn (.func 32) [] []),(.int .u8 3,.fn (.func 33) [] []),(.int .u8 4,.fn (.func 34) [] []),(.int .u8 5,.fn (.func 35) [] [])] 0,.dead,.dead,.cells [.int .u8 l0.typ,.int .i64 l0.n,.int .u64 l0.time,.int .u8 l0.dot.actor.rep,.int .u32 l0.dot.actor.inc,.int .u64 l0.dot.seq,.str l0.text,.rsl (h.blks.length+11) (h.toks.length+5) 5 ((v41.2).length),.rsl (h.blks.length+9) (h.toks.length+3) 3 ((v41.1).length)],.dead,.dead,.dead,.dead,.dead]) (T':=[n_v41.1,n_v41.2.1,n_v41.2.2.1,(v41.1.map GDot.row).length+1,n_v41.2.2.2,(v41.2.map GItem.row).length+1]) rfl (by exact (.cons (.tup (.cons (.agg (.cons (.same _) (.cons (.same _) (.cons (.same _) (.cons (.same _) (.cons (.same _) (.cons (.same _) (.cons (.same _) (.cons (.same _) (.cons (.hit2 _ _ (by simp)) (.refl _)))))))))) rfl) (.refl _))) (.refl _))) rfl rfl).wk)) ?_)
        refine zB (leV.refl _) rfl ?_
        exact ⟨rfl,rfl⟩
      ·refine iteF hF (fun hk50 hF=>?_) (fun hk50 hF=>?_)
       ·refine zc rfl (e_lookF (j:=3) (n:=5) rfl Tryz.underlying64 Tryz.underlying5 (gk yf) rfl (gk xh) hk50 (zY Tryz.underlying5 (by decide) (zY Tryz.underlying5 (by decide) (zY Tryz.underlying5 (by decide) (zY Tryz.underlying5 (by decide) (qm Tryz.underlying5)))))) (sk xN) ?_
        refine zc rfl (zg rfl (gk xu) (zb rfl)) (sk xf) ?_
        refine zc rfl (zV rfl (gk yv) rfl (zb rfl)) (sk xC) ?_
        refine zc rfl (zV rfl (gk yv) rfl (zb rfl)) (sk xR) ?_
        refine zc rfl (zj rfl (gk xr) (zb rfl)) xC ?_
        refine zc rfl (zj rfl (gk xK) (zb rfl)) xR ?_
        refine zf (zk (zn (ze ?_)))
        refine zc rfl (zg rfl xK (zb rfl)) (sk yy) ?_
        refine zf (zk ?_)
        refine vQ (gk yw) (fun _=>?_) (fun hh=>by cases hh)
        refine ze ?_
        refine zc rfl (zg rfl xr (zb rfl)) (sk yx) ?_
        refine zc rfl (zg rfl xu (zb rfl)) (sk yE) ?_
        refine zc rfl (zq rfl ty36.choose_spec.1 yf rfl (zu (cs':=[.int .u8 e1.dot.actor.rep,.int .u32 e1.dot.actor.inc,.int .u64 e1.dot.seq,.int .u64 e1.time,.int .u8 e1.op.kind,.sl 1 (e1.op.path.map zG),.int .i64 e1.op.n,.str e1.op.text,.sl 3 (e1.op.dots.map GDot.row)]) ty36.choose_spec.2 rfl rfl) (zb rfl)) (sk yK) ?_
        refine zQ hF (fun v51 hv51 hF=>?_)
        refine vL (X:=Nat×Nat) (v:=.tup []) (H':=fun n_v51=>h.ext [.cells [.int .u8 l0.typ,.int .i64 l0.n,.int .u64 l0.time,.int .u8 l0.dot.actor.rep,.int .u32 l0.dot.actor.inc,.int .u64 l0.dot.seq,.str l0.text,.rsl (h.blks.length+4) (h.toks.length+0) 5 ((v6).length),.rsl (h.blks.length+5) (h.toks.length+1) 3 ((v7).length)],.cells [.int .u8 e1.dot.actor.rep,.int .u32 e1.dot.actor.inc,.int .u64 e1.dot.seq,.int .u64 e1.time,.int .u8 e1.op.kind,.sl 1 (e1.op.path.map zG),.int .i64 e1.op.n,.str e1.op.text,.sl 3 (e1.op.dots.map GDot.row)],.cells [.int .u8 (0:Int),.int .i64 (0:Int),.int .u64 (0:Int),.int .u8 (0:Int),.int .u32 (0:Int),.int .u64 (0:Int),.str ([]:yn),.osl none 5 (([]:List GItem).map GItem.row),.osl none 3 (([]:List GDot).map GDot.row)],.mapo [(.int .u8 1,.fn (.func 31) [] []),(.int .u8 2,.fn (.func 32) [] []),(.int .u8 3,.fn (.func 33) [] []),(.int .u8 4,.fn (.func 34) [] []),(.int .u8 5,.fn (.func 35) [] [])] 0,.dead,.row (h.toks.length+1) 3 (v7.map GDot.row),.cells [.int .u8 l0.typ,.int .i64 l0.n,.int .u64 l0.time,.int .u8 l0.dot.actor.rep,.int .u32 l0.dot.actor.inc,.int .u64 l0.dot.seq,.str l0.text,.rsl (h.blks.length+10) (h.toks.length+3) 5 ((v51).length),.rsl (h.blks.length+5) (h.toks.length+1) 3 ((v7).length)],.dead,.dead,.dead,.row (h.toks.length+3) 5 (v51.map GItem.row)] [n_v51.1,(v7).length,n_v51.2,(v51).length]) rfl (zC rfl rfl (gk yr) (zo (gk yD) (zo (gk yI) zw)) (.cons (zb rfl) (.cons (zb rfl) .nil))) ?_ (sk yT) (fun n_v51=>?_)
        ·replace hF:=hv51
         refine yz Tryz.func35 rfl (by kernel_rfl) (env:=[.ptr (h.blks.length+6) 0,.agg [.int .u8 e1.dot.actor.rep,.int .u32 e1.dot.actor.inc,.int .u64 e1.dot.seq,.int .u64 e1.time,.int .u8 e1.op.kind,.sl 1 (e1.op.path.map zG),.int .i64 e1.op.n,.str e1.op.text,.sl 3 (e1.op.dots.map GDot.row)],za,za,za,za,za,za,za,za,za,za,za,za]) (by rfl) ?_
         refine zn (ze ?_)
         refine zc rfl (yF (n:=7) rfl yB (zb rfl) rfl rfl) x5 ?_
         refine zf (zk (ze ?_))
         refine zc rfl (zg rfl yh (zb rfl)) yV ?_
         refine zc rfl (zd rfl qY yf rfl) xp ?_
         refine zc rfl (zq rfl xM yR rfl (zt rfl) (zb rfl)) xI ?_
         refine zc rfl (zd rfl vU yf rfl) xN ?_
         refine zc rfl (zq rfl ty27.choose_spec.1 xu rfl (zu (cs':=[.int .u8 e1.dot.actor.rep,.int .u32 e1.dot.actor.inc,.int .u64 e1.dot.seq]) ty27.choose_spec.2 rfl rfl) (zb rfl)) xC ?_
         refine zc rfl (zd rfl wd yf rfl) xR ?_
         refine zc rfl (zd rfl qt xK rfl) yy ?_
         refine zc rfl (zq rfl ty9 yw rfl (zt rfl) (zb rfl)) yx ?_
         refine zc rfl (xc (cs':=[.int .u64 e1.time,.int .u8 e1.dot.actor.rep,.int .u32 e1.dot.actor.inc,.int .u64 e1.dot.seq,.str e1.op.text]) rfl su47 ze47 pl47 (zK xh (zK xr (zK yr zT))) (.cons (zb rfl) (.cons (zb rfl) (.cons (zb rfl) .nil))) rfl rfl) yE ?_
         refine zQ hF (fun v61 hv61 hF=>?_)
         refine vL (X:=Nat×Nat) (v:=.tup []) (H':=fun n_v61=>h.ext [.cells [.int .u8 l0.typ,.int .i64 l0.n,.int .u64 l0.time,.int .u8 l0.dot.actor.rep,.int .u32 l0.dot.actor.inc,.int .u64 l0.dot.seq,.str l0.text,.rsl (h.blks.length+4) (h.toks.length+0) 5 ((v6).length),.rsl (h.blks.length+5) (h.toks.length+1) 3 ((v7).length)],.cells [.int .u8 e1.dot.actor.rep,.int .u32 e1.dot.actor.inc,.int .u64 e1.dot.seq,.int .u64 e1.time,.int .u8 e1.op.kind,.sl 1 (e1.op.path.map zG),.int .i64 e1.op.n,.str e1.op.text,.sl 3 (e1.op.dots.map GDot.row)],.cells [.int .u8 (0:Int),.int .i64 (0:Int),.int .u64 (0:Int),.int .u8 (0:Int),.int .u32 (0:Int),.int .u64 (0:Int),.str ([]:yn),.osl none 5 (([]:List GItem).map GItem.row),.osl none 3 (([]:List GDot).map GDot.row)],.mapo [(.int .u8 1,.fn (.func 31) [] []),(.int .u8 2,.fn (.func 32) [] []),(.int .u8 3,.fn (.func 33) [] []),(.int .u8 4,.fn (.func 34) [] []),(.int .u8 5,.fn (.func 35) [] [])] 0,.dead,.row (h.toks.length+1) 3 (v7.map GDot.row),.cells [.int .u8 l0.typ,.int .i64 l0.n,.int .u64 l0.time,.int .u8 l0.dot.actor.rep,.int .u32 l0.dot.actor.inc,.int .u64 l0.dot.seq,.str l0.text,.rsl (h.blks.length+10) (h.toks.length+3) 5 ((v61).length),.rsl (h.blks.length+5) (h.toks.length+1) 3 ((v7).length)],.cells [.int .u8 e1.dot.actor.rep,.int .u32 e1.dot.actor.inc,.int .u64 e1.dot.seq,.int .u64 e1.time,.int .u8 e1.op.kind,.sl 1 (e1.op.path.map zG),.int .i64 e1.op.n,.str e1.op.text,.sl 3 (e1.op.dots.map GDot.row)],.dead,.dead,.row (h.toks.length+3) 5 (v61.map GItem.row)] [n_v61.1,(v7).length,n_v61.2,(v61).length]) rfl (zC rfl rfl rfl (zo yp (zo yD zw)) (.cons (zb rfl) (.cons (zb rfl) .nil))) ?_ yK (fun n_v61=>?_)
         ·replace hF:=hv61
          refine yz Tryz.func53 rfl (by kernel_rfl) (env:=[.ptr (h.blks.length+6) 0,.agg [.int .u64 e1.time,.int .u8 e1.dot.actor.rep,.int .u32 e1.dot.actor.inc,.int .u64 e1.dot.seq,.str e1.op.text],za,za,za,za,za,za,za,za,za,za,za,za,za,za,za,za,za,za,za,za,za,za,za,za,za,za,za,za,za,za,za,za,za,za,za]) (by rfl) ?_
          refine zn (ze ?_)
          refine zc rfl (yF (n:=8) rfl yB (zb rfl) rfl rfl) x5 ?_
          refine zf (zk (zn (zn ?_)))
          refine yb [] [] trivial mixed (by kernel_rfl) ?_
          refine zi rfl rfl (zg rfl yh (zb rfl)) xI ?_
          refine zi rfl rfl (zO rfl xh rfl) xN ?_
          refine zi rfl rfl (zd rfl yk xu rfl) xC ?_
          refine zi rfl rfl (zd rfl ym xr rfl) xR ?_
          refine zi rfl rfl (zq rfl xW xK rfl (zt rfl) (zb rfl)) yy ?_
          refine zi rfl rfl (zd rfl wI yf rfl) yx ?_
          refine zi rfl rfl (zq rfl ty27.choose_spec.1 yr rfl (zu (cs':=[.int .u8 e1.dot.actor.rep,.int .u32 e1.dot.actor.inc,.int .u64 e1.dot.seq]) ty27.choose_spec.2 rfl rfl) (zb rfl)) yE ?_
          refine zQ hF (fun v66 hv66 hF=>?_)
          refine wM rfl rfl (zC rfl rfl rfl (zo yw (zo yD zw)) (.cons (zb rfl) (.cons (zb rfl) .nil))) (vh (by exact (.cons (.row _ _ _ _ _ (by rw [yL];rfl) (by simp)) (.cons (.low _ rfl) .nil))) rfl (ok46 hv66) (fun _ _ h=>h.1)) yK ?_
          refine zX ?_
          refine zk ?_
          refine zI yI hF (fun hc67 hF=>?_) (fun hc67 hF=>?_)
          ·refine zJ (zD ?_)
           obtain rfl:=Option.some.inj hF
           refine x7 rfl zA (xZ (wk.trans ((wn (by exact (.keep (.keep (.keep (.keep (.keep (.keep (.keep (.keep (.dead .nil))))))))))).wk) (wk.trans ((qg rfl).wk) (wk.trans ((swk_padT (n:=0) rfl).wk) ((wK (jb:=6) (o:=7) (j:=4) (i:=0) (n2:=(v6).length) (B':=[.cells [.int .u8 l0.typ,.int .i64 l0.n,.int .u64 l0.time,.int .u8 l0.dot.actor.rep,.int .u32 l0.dot.actor.inc,.int .u64 l0.dot.seq,.str l0.text,.rsl (h.blks.length+4) (h.toks.length+0) 5 ((v6).length),.rsl (h.blks.length+5) (h.toks.length+1) 3 ((v7).length)],.cells [.int .u8 e1.dot.actor.rep,.int .u32 e1.dot.actor.inc,.int .u64 e1.dot.seq,.int .u64 e1.time,.int .u8 e1.op.kind,.sl 1 (e1.op.path.map zG),.int .i64 e1.op.n,.str e1.op.text,.sl 3 (e1.op.dots.map GDot.row)],.cells [.int .u8 (0:Int),.int .i64 (0:Int),.int .u64 (0:Int),.int .u8 (0:Int),.int .u32 (0:Int),.int .u64 (0:Int),.str ([]:yn),.osl none 5 (([]:List GItem).map GItem.row),.osl none 3 (([]:List GDot).map GDot.row)],.mapo [(.int .u8 1,.fn (.func 31) [] []),(.int .u8 2,.fn (.func 32) [] []),(.int .u8 3,.fn (.func 33) [] []),(.int .u8 4,.fn (.func 34) [] []),(.int .u8 5,.fn (.func 35) [] [])] 0,.dead,.row (h.toks.length+1) 3 (v7.map GDot.row),.cells [.int .u8 l0.typ,.int .i64 l0.n,.int .u64 l0.time,.int .u8 l0.dot.actor.rep,.int .u32 l0.dot.actor.inc,.int .u64 l0.dot.seq,.str l0.text,.rsl (h.blks.length+10) (h.toks.length+3) 5 ((v6).length),.rsl (h.blks.length+5) (h.toks.length+1) 3 ((v7).length)],.cells [.int .u8 e1.dot.actor.rep,.int .u32 e1.dot.actor.inc,.int .u64 e1.dot.seq,.int .u64 e1.time,.int .u8 e1.op.kind,.sl 1 (e1.op.path.map zG),.int .i64 e1.op.n,.str e1.op.text,.sl 3 (e1.op.dots.map GDot.row)],.dead,.dead,.row (h.toks.length+3) 5 (v6.map GItem.row)]) (T':=[(v6).length+1,(v7).length,0,(v6).length]) rfl rfl rfl (by simp) rfl rfl rfl rfl rfl rfl).wk)))) ?_)
           exact ⟨rfl,((v6).length+1,0),rfl⟩
          ·refine zN (zk (zn ?_))
           refine yb [] [] trivial mixed (by kernel_rfl) ?_
           refine zi rfl rfl (zg rfl yh (zb rfl)) yS ?_
           refine zi rfl rfl (zO rfl yO rfl) yZ ?_
           refine zi rfl rfl (zd rfl yk y4 rfl) y8 ?_
           refine zi rfl rfl (zd rfl ym xd rfl) xk ?_
           refine zi rfl rfl (zq rfl xW xl rfl (zt rfl) (zb rfl)) xJ ?_
           refine zi rfl rfl (zq rfl ty47.choose_spec.1 yf rfl (zu (cs':=[.int .u64 e1.time,.int .u8 e1.dot.actor.rep,.int .u32 e1.dot.actor.inc,.int .u64 e1.dot.seq,.str e1.op.text]) ty47.choose_spec.2 rfl rfl) (zb rfl)) xQ ?_
           refine zQ hF (fun v68 hv68 hF=>?_)
           refine wM rfl rfl (zC rfl rfl rfl (zo xL (zo xX (zo rfl zw))) (.cons (zb rfl) (.cons (zb rfl) (.cons (zb rfl) .nil)))) (vh (by exact (.cons (.row _ _ _ _ _ (by rw [yL];rfl) (by simp)) (.cons (.low _ rfl) (.cons (.low _ rfl) .nil)))) rfl (ok68 (fun _ _ v L M hv=>ok69  hv) hv68) (fun _ _ h=>h.1)) wb ?_
           refine zi rfl rfl (zg rfl wa (zb rfl)) yT ?_
           refine zi rfl rfl (zV rfl yY rfl (zb rfl)) wl ?_
           refine zi rfl rfl (zV rfl yY rfl (zb rfl)) wp ?_
           refine zi rfl rfl (zj rfl wq (zb rfl)) yV ?_
           refine zi rfl rfl (zj rfl wg (zb rfl)) xp ?_
           refine zX ?_
           refine zk ?_
           refine yb [] [] trivial mixed (by kernel_rfl) ?_
           refine zi rfl rfl (zg rfl yh (zb rfl)) wu ?_
           refine zi rfl rfl (zg rfl yh (zb rfl)) wz ?_
           refine zi rfl rfl (zO rfl wv rfl) wV ?_
           refine zi rfl rfl (zd rfl yk wD rfl) wU ?_
           refine zi rfl rfl (zd rfl ym w4 rfl) wG ?_
           refine zi rfl rfl (zq rfl xW wH rfl (zt rfl) (zb rfl)) w9 ?_
           refine zi rfl rfl (zg rfl yp (zb rfl)) w8 ?_
           refine zi rfl rfl (zq rfl ty47.choose_spec.1 yf rfl (zu (cs':=[.int .u64 e1.time,.int .u8 e1.dot.actor.rep,.int .u32 e1.dot.actor.inc,.int .u64 e1.dot.seq,.str e1.op.text]) ty47.choose_spec.2 rfl rfl) (zb rfl)) w7 ?_
           refine zi rfl rfl (yq (es:=([(GItem.mk e1.time e1.dot e1.op.text)]:List GItem).map GItem.row) rfl yX ze47 rfl rfl (zK wZ zT) (.cons (zb rfl) .nil) rfl rfl rfl) wT ?_
           refine zQ hF (fun v69 hv69 hF=>?_)
           refine vV (by kernel_rfl) rfl FOk.nil rfl (zC rfl rfl rfl (zo we (zo va (zo wQ zw))) (.cons (zb rfl) (.cons (zb rfl) (.cons (zb rfl) .nil)))) (spec_insO ins70TryzLays (row:=GItem.row) (fun _=>rfl) hv69 (.inr rfl) (i:=4) (q:=0) (B':=[.cells [.int .u8 l0.typ,.int .i64 l0.n,.int .u64 l0.time,.int .u8 l0.dot.actor.rep,.int .u32 l0.dot.actor.inc,.int .u64 l0.dot.seq,.str l0.text,.rsl (h.blks.length+4) (h.toks.length+0) 5 ((v6).length),.rsl (h.blks.length+5) (h.toks.length+1) 3 ((v7).length)],.cells [.int .u8 e1.dot.actor.rep,.int .u32 e1.dot.actor.inc,.int .u64 e1.dot.seq,.int .u64 e1.time,.int .u8 e1.op.kind,.sl 1 (e1.op.path.map zG),.int .i64 e1.op.n,.str e1.op.text,.sl 3 (e1.op.dots.map GDot.row)],.cells [.int .u8 (0:Int),.int .i64 (0:Int),.int .u64 (0:Int),.int .u8 (0:Int),.int .u32 (0:Int),.int .u64 (0:Int),.str ([]:yn),.osl none 5 (([]:List GItem).map GItem.row),.osl none 3 (([]:List GDot).map GDot.row)],.mapo [(.int .u8 1,.fn (.func 31) [] []),(.int .u8 2,.fn (.func 32) [] []),(.int .u8 3,.fn (.func 33) [] []),(.int .u8 4,.fn (.func 34) [] []),(.int .u8 5,.fn (.func 35) [] [])] 0,.dead,.row (h.toks.length+1) 3 (v7.map GDot.row),.cells [.int .u8 l0.typ,.int .i64 l0.n,.int .u64 l0.time,.int .u8 l0.dot.actor.rep,.int .u32 l0.dot.actor.inc,.int .u64 l0.dot.seq,.str l0.text,.rsl (h.blks.length+4) (h.toks.length+0) 5 ((v6).length),.rsl (h.blks.length+5) (h.toks.length+1) 3 ((v7).length)],.cells [.int .u8 e1.dot.actor.rep,.int .u32 e1.dot.actor.inc,.int .u64 e1.dot.seq,.int .u64 e1.time,.int .u8 e1.op.kind,.sl 1 (e1.op.path.map zG),.int .i64 e1.op.n,.str e1.op.text,.sl 3 (e1.op.dots.map GDot.row)],.cells [.int .u64 e1.time,.int .u8 e1.dot.actor.rep,.int .u32 e1.dot.actor.inc,.int .u64 e1.dot.seq,.str e1.op.text],.row (h.toks.length+2) 5 (v69.map GItem.row)]) (T':=[(v6).length+1,(v7).length,(v69).length]) rfl rfl rfl rfl rfl) wS ?_
           refine zi rfl rfl (zO rfl ww rfl) wR ?_
           refine zi rfl rfl (zd rfl yk wX rfl) vg ?_
           refine zi rfl rfl (zd rfl ym vn rfl) vf ?_
           refine yG rfl FOk.nil (by kernel_rfl) rfl (zP (cs':=[.int .u8 l0.typ,.int .i64 l0.n,.int .u64 l0.time,.int .u8 l0.dot.actor.rep,.int .u32 l0.dot.actor.inc,.int .u64 l0.dot.seq,.str l0.text,.rsl (h.blks.length+9) (h.toks.length+2) 5 ((v69).length),.rsl (h.blks.length+5) (h.toks.length+1) 3 ((v7).length)]) rfl xW vm wY (zb rfl) rfl rfl rfl rfl rfl) rfl ?_
           refine zX ?_
           refine qR ?_
           obtain rfl:=Option.some.inj hF
           refine x7 rfl zA (xZ (wk.trans ((wn (by exact (.keep (.keep (.keep (.keep (.keep (.keep (.keep (.keep (.dead (.keep .nil)))))))))))).wk) ((wK (jb:=6) (o:=7) (j:=9) (i:=2) (n2:=(v69).length) (B':=[.cells [.int .u8 l0.typ,.int .i64 l0.n,.int .u64 l0.time,.int .u8 l0.dot.actor.rep,.int .u32 l0.dot.actor.inc,.int .u64 l0.dot.seq,.str l0.text,.rsl (h.blks.length+4) (h.toks.length+0) 5 ((v6).length),.rsl (h.blks.length+5) (h.toks.length+1) 3 ((v7).length)],.cells [.int .u8 e1.dot.actor.rep,.int .u32 e1.dot.actor.inc,.int .u64 e1.dot.seq,.int .u64 e1.time,.int .u8 e1.op.kind,.sl 1 (e1.op.path.map zG),.int .i64 e1.op.n,.str e1.op.text,.sl 3 (e1.op.dots.map GDot.row)],.cells [.int .u8 (0:Int),.int .i64 (0:Int),.int .u64 (0:Int),.int .u8 (0:Int),.int .u32 (0:Int),.int .u64 (0:Int),.str ([]:yn),.osl none 5 (([]:List GItem).map GItem.row),.osl none 3 (([]:List GDot).map GDot.row)],.mapo [(.int .u8 1,.fn (.func 31) [] []),(.int .u8 2,.fn (.func 32) [] []),(.int .u8 3,.fn (.func 33) [] []),(.int .u8 4,.fn (.func 34) [] []),(.int .u8 5,.fn (.func 35) [] [])] 0,.dead,.row (h.toks.length+1) 3 (v7.map GDot.row),.cells [.int .u8 l0.typ,.int .i64 l0.n,.int .u64 l0.time,.int .u8 l0.dot.actor.rep,.int .u32 l0.dot.actor.inc,.int .u64 l0.dot.seq,.str l0.text,.rsl (h.blks.length+10) (h.toks.length+3) 5 ((v69).length),.rsl (h.blks.length+5) (h.toks.length+1) 3 ((v7).length)],.cells [.int .u8 e1.dot.actor.rep,.int .u32 e1.dot.actor.inc,.int .u64 e1.dot.seq,.int .u64 e1.time,.int .u8 e1.op.kind,.sl 1 (e1.op.path.map zG),.int .i64 e1.op.n,.str e1.op.text,.sl 3 (e1.op.dots.map GDot.row)],.dead,.dead,.row (h.toks.length+3) 5 (v69.map GItem.row)]) (T':=[(v6).length+1,(v7).length,(v69).length+1,(v69).length]) rfl rfl rfl (by simp) rfl rfl rfl rfl rfl rfl).wk)) ?_)
           exact ⟨rfl,((v6).length+1,(v69).length+1),rfl⟩
         ·refine zf (qR ?_)
          obtain rfl:=Option.some.inj hF
          refine x7 rfl zA (xZ ((wn (by exact (.keep (.keep (.keep (.keep (.keep (.keep (.keep (.dead (.keep (.keep (.keep .nil))))))))))))).wk) ?_)
          exact ⟨rfl,(n_v61.1,n_v61.2),rfl⟩
        ·refine zf (zk (zn (ze ?_)))
         refine zc rfl (zg rfl xu (zb rfl)) (sk yS) ?_
         refine zc rfl (zO rfl (gk yO) rfl) (sk yZ) ?_
         refine zc rfl (zd rfl yk (gk y4) rfl) (sk y8) ?_
         refine zc rfl (zq rfl ty31.choose_spec.1 (gk xd) rfl (zu (cs':=[.int .u8 l0.typ,.int .i64 l0.n,.int .u64 l0.time,.int .u8 l0.dot.actor.rep,.int .u32 l0.dot.actor.inc,.int .u64 l0.dot.seq,.str l0.text,.rsl (h.blks.length+10) (h.toks.length+3) 5 ((v51).length),.rsl (h.blks.length+5) (h.toks.length+1) 3 ((v7).length)]) ty31.choose_spec.2 rfl rfl) (zb rfl)) (sk xk) ?_
         refine zc rfl (zP (cs':=[.int .u8 l0.typ,.int .i64 l0.n,.int .u64 l0.time,.int .u8 l0.dot.actor.rep,.int .u32 l0.dot.actor.inc,.int .u64 l0.dot.seq,.str l0.text,.rsl (h.blks.length+10) (h.toks.length+3) 5 ((v51).length),.rsl (h.blks.length+5) (h.toks.length+1) 3 ((v7).length)]) rfl ty31.choose_spec.1 yp (gk xl) (zb rfl) rfl rfl rfl rfl rfl) rfl ?_
         refine zc rfl (zj rfl rfl (zb rfl)) xp ?_
         refine zf (zk (zJ ?_))
         obtain rfl:=Option.some.inj hF
         refine xU rfl (xg ty31.choose_spec.1 yp rfl (zu (cs':=[.int .u8 l0.typ,.int .i64 l0.n,.int .u64 l0.time,.int .u8 l0.dot.actor.rep,.int .u32 l0.dot.actor.inc,.int .u64 l0.dot.seq,.str l0.text,.rsl (h.blks.length+10) (h.toks.length+3) 5 ((v51).length),.rsl (h.blks.length+5) (h.toks.length+1) 3 ((v7).length)]) ty31.choose_spec.2 rfl rfl) (zb rfl) (zH yR zA)) (fin_trans (wk.trans ((wj (j:=10) (m:=3) (B':=[.cells [.int .u8 l0.typ,.int .i64 l0.n,.int .u64 l0.time,.int .u8 l0.dot.actor.rep,.int .u32 l0.dot.actor.inc,.int .u64 l0.dot.seq,.str l0.text,.rsl (h.blks.length+4) (h.toks.length+0) 5 ((v6).length),.rsl (h.blks.length+5) (h.toks.length+1) 3 ((v7).length)],.cells [.int .u8 e1.dot.actor.rep,.int .u32 e1.dot.actor.inc,.int .u64 e1.dot.seq,.int .u64 e1.time,.int .u8 e1.op.kind,.sl 1 (e1.op.path.map zG),.int .i64 e1.op.n,.str e1.op.text,.sl 3 (e1.op.dots.map GDot.row)],.cells [.int .u8 l0.typ,.int .i64 l0.n,.int .u64 l0.time,.int .u8 l0.dot.actor.rep,.int .u32 l0.dot.actor.inc,.int .u64 l0.dot.seq,.str l0.text,.rsl (h.blks.length+10) (h.toks.length+3) 5 ((v51).length),.rsl (h.blks.length+5) (h.toks.length+1) 3 ((v7).length)],.mapo [(.int .u8 1,.fn (.func 31) [] []),(.int .u8 2,.fn (.func 32) [] []),(.int .u8 3,.fn (.func 33) [] []),(.int .u8 4,.fn (.func 34) [] []),(.int .u8 5,.fn (.func 35) [] [])] 0,.dead,.row (h.toks.length+1) 3 (v7.map GDot.row),.cells [.int .u8 l0.typ,.int .i64 l0.n,.int .u64 l0.time,.int .u8 l0.dot.actor.rep,.int .u32 l0.dot.actor.inc,.int .u64 l0.dot.seq,.str l0.text,.rsl (h.blks.length+10) (h.toks.length+3) 5 ((v51).length),.rsl (h.blks.length+5) (h.toks.length+1) 3 ((v7).length)],.dead,.dead,.dead,.dead]) (T':=[n_v51.1,(v7).length,n_v51.2,(v51.map GItem.row).length+1]) rfl (by exact (.cons (.tup (.cons (.agg (.cons (.same _) (.cons (.same _) (.cons (.same _) (.cons (.same _) (.cons (.same _) (.cons (.same _) (.cons (.same _) (.cons (.hit2 _ _ (by simp)) (.refl _))))))))) rfl) (.refl _))) (.refl _))) rfl rfl).wk) ((wj (j:=5) (m:=1) (B':=[.cells [.int .u8 l0.typ,.int .i64 l0.n,.int .u64 l0.time,.int .u8 l0.dot.actor.rep,.int .u32 l0.dot.actor.inc,.int .u64 l0.dot.seq,.str l0.text,.rsl (h.blks.length+4) (h.toks.length+0) 5 ((v6).length),.rsl (h.blks.length+5) (h.toks.length+1) 3 ((v7).length)],.cells [.int .u8 e1.dot.actor.rep,.int .u32 e1.dot.actor.inc,.int .u64 e1.dot.seq,.int .u64 e1.time,.int .u8 e1.op.kind,.sl 1 (e1.op.path.map zG),.int .i64 e1.op.n,.str e1.op.text,.sl 3 (e1.op.dots.map GDot.row)],.cells [.int .u8 l0.typ,.int .i64 l0.n,.int .u64 l0.time,.int .u8 l0.dot.actor.rep,.int .u32 l0.dot.actor.inc,.int .u64 l0.dot.seq,.str l0.text,.rsl (h.blks.length+10) (h.toks.length+3) 5 ((v51).length),.rsl (h.blks.length+5) (h.toks.length+1) 3 ((v7).length)],.mapo [(.int .u8 1,.fn (.func 31) [] []),(.int .u8 2,.fn (.func 32) [] []),(.int .u8 3,.fn (.func 33) [] []),(.int .u8 4,.fn (.func 34) [] []),(.int .u8 5,.fn (.func 35) [] [])] 0,.dead,.dead,.cells [.int .u8 l0.typ,.int .i64 l0.n,.int .u64 l0.time,.int .u8 l0.dot.actor.rep,.int .u32 l0.dot.actor.inc,.int .u64 l0.dot.seq,.str l0.text,.rsl (h.blks.length+10) (h.toks.length+3) 5 ((v51).length),.rsl (h.blks.length+5) (h.toks.length+1) 3 ((v7).length)],.dead,.dead,.dead,.dead]) (T':=[n_v51.1,(v7.map GDot.row).length+1,n_v51.2,(v51.map GItem.row).length+1]) rfl (by exact (.cons (.tup (.cons (.agg (.cons (.same _) (.cons (.same _) (.cons (.same _) (.cons (.same _) (.cons (.same _) (.cons (.same _) (.cons (.same _) (.cons (.same _) (.cons (.hit2 _ _ (by simp)) (.refl _)))))))))) rfl) (.refl _))) (.refl _))) rfl rfl).wk)) ?_)
         refine zB (leV.refl _) rfl ?_
         exact ⟨rfl,rfl⟩
       ·refine zc rfl (e_lookN (j:=3) rfl Tryz.underlying64 Tryz.underlying5 (gk yf) rfl (gk xh) azf61 (zY Tryz.underlying5 hk8 (zY Tryz.underlying5 hk10 (zY Tryz.underlying5 hk16 (zY Tryz.underlying5 hk40 (zY Tryz.underlying5 hk50 wN)))))) (sk xN) ?_
        refine zc rfl (zg rfl (gk xu) (zb rfl)) (sk xf) ?_
        refine zc rfl (zV rfl (gk yv) rfl (zb rfl)) (sk xC) ?_
        refine zc rfl (zV rfl (gk yv) rfl (zb rfl)) (sk xR) ?_
        refine zc rfl (zj rfl (gk xr) (zb rfl)) xC ?_
        refine zc rfl (zj rfl (gk xK) (zb rfl)) xR ?_
        refine zf (zk (zn (ze ?_)))
        refine zc rfl (zg rfl xK (zb rfl)) (sk yy) ?_
        refine zf (zk ?_)
        refine vQ (gk yw) (fun hh=>by cases hh) (fun _=>?_)
        refine zN (zk (zn (ze ?_)))
        refine zc rfl (zg rfl xu (zb rfl)) (sk yS) ?_
        refine zc rfl (zO rfl (gk yO) rfl) (sk yZ) ?_
        refine zc rfl (zd rfl yk (gk y4) rfl) (sk y8) ?_
        refine zc rfl (zq rfl ty31.choose_spec.1 (gk xd) rfl (zu (cs':=[.int .u8 l0.typ,.int .i64 l0.n,.int .u64 l0.time,.int .u8 l0.dot.actor.rep,.int .u32 l0.dot.actor.inc,.int .u64 l0.dot.seq,.str l0.text,.rsl (h.blks.length+4) (h.toks.length+0) 5 ((v6).length),.rsl (h.blks.length+5) (h.toks.length+1) 3 ((v7).length)]) ty31.choose_spec.2 rfl rfl) (zb rfl)) (sk xk) ?_
        refine zc rfl (zP (cs':=[.int .u8 l0.typ,.int .i64 l0.n,.int .u64 l0.time,.int .u8 l0.dot.actor.rep,.int .u32 l0.dot.actor.inc,.int .u64 l0.dot.seq,.str l0.text,.rsl (h.blks.length+4) (h.toks.length+0) 5 ((v6).length),.rsl (h.blks.length+5) (h.toks.length+1) 3 ((v7).length)]) rfl ty31.choose_spec.1 yp (gk xl) (zb rfl) rfl rfl rfl rfl rfl) rfl ?_
        refine zc rfl (zj rfl rfl (zb rfl)) xp ?_
        refine zf (zk (zJ ?_))
        obtain rfl:=Option.some.inj hF
        refine xU rfl (xg ty31.choose_spec.1 yp rfl (zu (cs':=[.int .u8 l0.typ,.int .i64 l0.n,.int .u64 l0.time,.int .u8 l0.dot.actor.rep,.int .u32 l0.dot.actor.inc,.int .u64 l0.dot.seq,.str l0.text,.rsl (h.blks.length+4) (h.toks.length+0) 5 ((v6).length),.rsl (h.blks.length+5) (h.toks.length+1) 3 ((v7).length)]) ty31.choose_spec.2 rfl rfl) (zb rfl) (zH yR zA)) (fin_trans (wk.trans ((wj (j:=4) (m:=0) (B':=[.cells [.int .u8 l0.typ,.int .i64 l0.n,.int .u64 l0.time,.int .u8 l0.dot.actor.rep,.int .u32 l0.dot.actor.inc,.int .u64 l0.dot.seq,.str l0.text,.rsl (h.blks.length+4) (h.toks.length+0) 5 ((v6).length),.rsl (h.blks.length+5) (h.toks.length+1) 3 ((v7).length)],.cells [.int .u8 e1.dot.actor.rep,.int .u32 e1.dot.actor.inc,.int .u64 e1.dot.seq,.int .u64 e1.time,.int .u8 e1.op.kind,.sl 1 (e1.op.path.map zG),.int .i64 e1.op.n,.str e1.op.text,.sl 3 (e1.op.dots.map GDot.row)],.cells [.int .u8 l0.typ,.int .i64 l0.n,.int .u64 l0.time,.int .u8 l0.dot.actor.rep,.int .u32 l0.dot.actor.inc,.int .u64 l0.dot.seq,.str l0.text,.rsl (h.blks.length+4) (h.toks.length+0) 5 ((v6).length),.rsl (h.blks.length+5) (h.toks.length+1) 3 ((v7).length)],.mapo [(.int .u8 1,.fn (.func 31) [] []),(.int .u8 2,.fn (.func 32) [] []),(.int .u8 3,.fn (.func 33) [] []),(.int .u8 4,.fn (.func 34) [] []),(.int .u8 5,.fn (.func 35) [] [])] 0,.dead,.row (h.toks.length+1) 3 (v7.map GDot.row),.cells [.int .u8 l0.typ,.int .i64 l0.n,.int .u64 l0.time,.int .u8 l0.dot.actor.rep,.int .u32 l0.dot.actor.inc,.int .u64 l0.dot.seq,.str l0.text,.rsl (h.blks.length+4) (h.toks.length+0) 5 ((v6).length),.rsl (h.blks.length+5) (h.toks.length+1) 3 ((v7).length)]]) (T':=[(v6.map GItem.row).length+1,(v7).length]) rfl (by exact (.cons (.tup (.cons (.agg (.cons (.same _) (.cons (.same _) (.cons (.same _) (.cons (.same _) (.cons (.same _) (.cons (.same _) (.cons (.same _) (.cons (.hit2 _ _ (by simp)) (.refl _))))))))) rfl) (.refl _))) (.refl _))) rfl rfl).wk) ((wj (j:=5) (m:=1) (B':=[.cells [.int .u8 l0.typ,.int .i64 l0.n,.int .u64 l0.time,.int .u8 l0.dot.actor.rep,.int .u32 l0.dot.actor.inc,.int .u64 l0.dot.seq,.str l0.text,.rsl (h.blks.length+4) (h.toks.length+0) 5 ((v6).length),.rsl (h.blks.length+5) (h.toks.length+1) 3 ((v7).length)],.cells [.int .u8 e1.dot.actor.rep,.int .u32 e1.dot.actor.inc,.int .u64 e1.dot.seq,.int .u64 e1.time,.int .u8 e1.op.kind,.sl 1 (e1.op.path.map zG),.int .i64 e1.op.n,.str e1.op.text,.sl 3 (e1.op.dots.map GDot.row)],.cells [.int .u8 l0.typ,.int .i64 l0.n,.int .u64 l0.time,.int .u8 l0.dot.actor.rep,.int .u32 l0.dot.actor.inc,.int .u64 l0.dot.seq,.str l0.text,.rsl (h.blks.length+4) (h.toks.length+0) 5 ((v6).length),.rsl (h.blks.length+5) (h.toks.length+1) 3 ((v7).length)],.mapo [(.int .u8 1,.fn (.func 31) [] []),(.int .u8 2,.fn (.func 32) [] []),(.int .u8 3,.fn (.func 33) [] []),(.int .u8 4,.fn (.func 34) [] []),(.int .u8 5,.fn (.func 35) [] [])] 0,.dead,.dead,.cells [.int .u8 l0.typ,.int .i64 l0.n,.int .u64 l0.time,.int .u8 l0.dot.actor.rep,.int .u32 l0.dot.actor.inc,.int .u64 l0.dot.seq,.str l0.text,.rsl (h.blks.length+4) (h.toks.length+0) 5 ((v6).length),.rsl (h.blks.length+5) (h.toks.length+1) 3 ((v7).length)]]) (T':=[(v6.map GItem.row).length+1,(v7.map GDot.row).length+1]) rfl (by exact (.cons (.tup (.cons (.agg (.cons (.same _) (.cons (.same _) (.cons (.same _) (.cons (.same _) (.cons (.same _) (.cons (.same _) (.cons (.same _) (.cons (.same _) (.cons (.hit2 _ _ (by simp)) (.refl _)))))))))) rfl) (.refl _))) (.refl _))) rfl rfl).wk)) ?_)
        refine zB (leV.refl _) rfl ?_
        exact ⟨rfl,rfl⟩
theorem okR15 {l0:GLeaf} {e1:GEvent} {bl tl:Nat} {res:(GLeaf×Int)} {h:AH} (hbl:h.blks.length=bl) (htl:h.toks.length=tl) (hF:vk l0 e1=some res):Spec Tryz.prog 15 [.agg [.int .u8 l0.typ,.int .i64 l0.n,.int .u64 l0.time,.int .u8 l0.dot.actor.rep,.int .u32 l0.dot.actor.inc,.int .u64 l0.dot.seq,.str l0.text,.sl 5 (l0.items.map GItem.row),.sl 3 (l0.tombs.map GDot.row)],.agg [.int .u8 e1.dot.actor.rep,.int .u32 e1.dot.actor.inc,.int .u64 e1.dot.seq,.int .u64 e1.time,.int .u8 e1.op.kind,.sl 1 (e1.op.path.map zG),.int .i64 e1.op.n,.str e1.op.text,.sl 3 (e1.op.dots.map GDot.row)]] h (fun rr hh=>rr=.tup [.agg [.int .u8 res.1.typ,.int .i64 res.1.n,.int .u64 res.1.time,.int .u8 res.1.dot.actor.rep,.int .u32 res.1.dot.actor.inc,.int .u64 res.1.dot.seq,.str res.1.text,.rsl bl tl 5 (res.1.items).length,.rsl (bl+1) (tl+1) 3 (res.1.tombs).length],.int .i64 res.2]∧hh=h.ext [.row tl 5 (res.1.items.map GItem.row),.row (tl+1) 3 (res.1.tombs.map GDot.row)] [(res.1.items).length,(res.1.tombs).length]):=by
 unfold vk at hF
 subst hbl htl
 refine zx Tryz.func15 rfl (by kernel_rfl) (env:=[.agg [.int .u8 l0.typ,.int .i64 l0.n,.int .u64 l0.time,.int .u8 l0.dot.actor.rep,.int .u32 l0.dot.actor.inc,.int .u64 l0.dot.seq,.str l0.text,.sl 5 (l0.items.map GItem.row),.sl 3 (l0.tombs.map GDot.row)],.agg [.int .u8 e1.dot.actor.rep,.int .u32 e1.dot.actor.inc,.int .u64 e1.dot.seq,.int .u64 e1.time,.int .u8 e1.op.kind,.sl 1 (e1.op.path.map zG),.int .i64 e1.op.n,.str e1.op.text,.sl 3 (e1.op.dots.map GDot.row)],za,za,za,za,za,za,za,za,za,za,za,za,za,za,za,za,za,za,za,za,za,za,za,za,za,za,za,za,za,za,za,za,za,za,za,za,za,za,za,za,za,za,za,za,za,za,za,za,za,za,za,za,za,za,za,za,za]) (by rfl) ?_
 refine zn (ze ?_)
 refine zc rfl (yF (n:=0) rfl yh (zb rfl) rfl rfl) xf ?_
 refine zc rfl (yF (n:=1) rfl yB (zb rfl) rfl rfl) x5 ?_
 refine zc rfl (xG (n:=2) rfl ze31 rfl) yV ?_
 refine zc rfl (zj rfl rfl (zb rfl)) xp ?_
 refine zf (zk (zn (zW (zn (ze ?_)))))
 refine zc rfl (zq rfl ty31.choose_spec.1 yv rfl (zu (cs':=[.int .u8 l0.typ,.int .i64 l0.n,.int .u64 l0.time,.int .u8 l0.dot.actor.rep,.int .u32 l0.dot.actor.inc,.int .u64 l0.dot.seq,.str l0.text,.sl 5 (l0.items.map GItem.row),.sl 3 (l0.tombs.map GDot.row)]) ty31.choose_spec.2 rfl rfl) (zb rfl)) yx ?_
 refine zQ hF (fun v1 hv1 hF=>?_)
 refine zU rfl (zC rfl rfl rfl (zo yr zw) (.cons (zb rfl) .nil)) (ok7 hv1) yE ?_
 refine zc rfl (vB rfl yD rfl) yK ?_
 refine zc rfl (zg rfl yI (zb rfl)) yT ?_
 refine zr rfl (fun hb=>zq rfl ty36.choose_spec.1 yf rfl (zu (cs':=[.int .u8 e1.dot.actor.rep,.int .u32 e1.dot.actor.inc,.int .u64 e1.dot.seq,.int .u64 e1.time,.int .u8 e1.op.kind,.sl 1 (e1.op.path.map zG),.int .i64 e1.op.n,.str e1.op.text,.sl 3 (e1.op.dots.map GDot.row)]) ty36.choose_spec.2 rfl rfl) (zb rfl)) yS ?_
 refine yP hF (fun v2 hv2 hF=>?_)
 refine yJ rfl (fun hb=>zC rfl rfl rfl (zo (zp yO hb) zw) (.cons (zb rfl) .nil)) (fun hb=>ok29 (hv2 hb)) yZ ?_
 refine zr rfl (fun hb=>vB rfl (zp y4 hb) rfl) y8 ?_
 refine zc rfl (zM rfl yY rfl xd (zZ (fun ht=>gF ht))) xk ?_
 refine zc rfl (zj rfl xl (zb rfl)) yy ?_
 refine zf (zk ?_)
 refine zI yw hF (fun hc3 hF=>?_) (fun hc3 hF=>?_)
 ·refine zn (ze ?_)
  refine zc rfl (xc (cs':=[.int .u8 (0:Int),.int .i64 (0:Int),.int .u64 (0:Int),.int .u8 (0:Int),.int .u32 (0:Int),.int .u64 (0:Int),.str ([]:yn),.osl none 5 (([]:List GItem).map GItem.row),.osl none 3 (([]:List GDot).map GDot.row)]) rfl su31 ze31 pl31 zT .nil rfl rfl) xJ ?_
  refine zc rfl (zP (cs':=[.int .u8 (0:Int),.int .i64 (0:Int),.int .u64 (0:Int),.int .u8 (0:Int),.int .u32 (0:Int),.int .u64 (0:Int),.str ([]:yn),.osl none 5 (([]:List GItem).map GItem.row),.osl none 3 (([]:List GDot).map GDot.row)]) rfl ty31.choose_spec.1 yp xL (zb rfl) rfl rfl rfl rfl rfl) rfl ?_
  refine zc rfl (zj rfl rfl (zb rfl)) xp ?_
  refine zf (zk (zJ ?_))
  refine zL ?_
  refine zD ?_
  obtain rfl:=Option.some.inj hF
  refine xU rfl (xg ty31.choose_spec.1 yp rfl (zu (cs':=[.int .u8 (0:Int),.int .i64 (0:Int),.int .u64 (0:Int),.int .u8 (0:Int),.int .u32 (0:Int),.int .u64 (0:Int),.str ([]:yn),.osl none 5 (([]:List GItem).map GItem.row),.osl none 3 (([]:List GDot).map GDot.row)]) ty31.choose_spec.2 rfl rfl) (zb rfl) (zH yR zA)) (qB (ps:=[.int .u8 (0:Int),.int .i64 (0:Int),.int .u64 (0:Int),.int .u8 (0:Int),.int .u32 (0:Int),.int .u64 (0:Int),.str ([]:yn)]) hds_nil hds_nil (by decide) rfl rfl rfl ?_)
  exact ⟨by simp only [List.length_map];try rfl,by simp only [List.length_map];try rfl⟩
 ·refine zn ?_
  refine yb [3] [] trivial mixed (by kernel_rfl) ?_
  refine zi rfl rfl (zd rfl wd yf rfl) wb ?_
  refine zi rfl rfl (zd rfl fo34x0 wa rfl) wl ?_
  refine zi rfl rfl (zq rfl ty5 wq rfl (zt rfl) (zb rfl)) wp ?_
  refine zQ hF (fun v4 hv4 hF=>?_)
  refine yQ rfl rfl (fun _=>zC rfl rfl rfl (zo wg zw) (.cons (zb rfl) .nil)) (by rintro _ ⟨B2,T2,rfl,hk2⟩;exact ok30 hv4) wu ?_
  refine zi rfl rfl (zd rfl vu yv rfl) wz ?_
  refine zi rfl rfl (zq rfl ty5 wv rfl (zt rfl) (zb rfl)) wV ?_
  refine zi rfl rfl (zz rfl ww wD rfl) wU ?_
  refine zi rfl rfl (zj rfl w4 (zb rfl)) xQ ?_
  refine zX ?_
  refine zk ?_
  refine zI xX hF (fun hc5 hF=>?_) (fun hc5 hF=>?_)
  ·refine zn (ze ?_)
   refine zc rfl (xc (cs':=[.int .u8 (0:Int),.int .i64 (0:Int),.int .u64 (0:Int),.int .u8 (0:Int),.int .u32 (0:Int),.int .u64 (0:Int),.str ([]:yn),.osl none 5 (([]:List GItem).map GItem.row),.osl none 3 (([]:List GDot).map GDot.row)]) rfl su31 ze31 pl31 zT .nil rfl rfl) wG ?_
   refine zc rfl (zP (cs':=[.int .u8 (0:Int),.int .i64 (0:Int),.int .u64 (0:Int),.int .u8 (0:Int),.int .u32 (0:Int),.int .u64 (0:Int),.str ([]:yn),.osl none 5 (([]:List GItem).map GItem.row),.osl none 3 (([]:List GDot).map GDot.row)]) rfl ty31.choose_spec.1 yp wH (zb rfl) rfl rfl rfl rfl rfl) rfl ?_
   refine zc rfl (zj rfl rfl (zb rfl)) xp ?_
   refine zf (zk (zJ ?_))
   refine zL ?_
   refine zD ?_
   obtain rfl:=Option.some.inj hF
   refine xU rfl (xg ty31.choose_spec.1 yp rfl (zu (cs':=[.int .u8 (0:Int),.int .i64 (0:Int),.int .u64 (0:Int),.int .u8 (0:Int),.int .u32 (0:Int),.int .u64 (0:Int),.str ([]:yn),.osl none 5 (([]:List GItem).map GItem.row),.osl none 3 (([]:List GDot).map GDot.row)]) ty31.choose_spec.2 rfl rfl) (zb rfl) (zH yR zA)) (qB (ps:=[.int .u8 (0:Int),.int .i64 (0:Int),.int .u64 (0:Int),.int .u8 (0:Int),.int .u32 (0:Int),.int .u64 (0:Int),.str ([]:yn)]) hds_nil hds_nil (by decide) rfl rfl rfl ?_)
   exact ⟨by simp only [List.length_map];try rfl,by simp only [List.length_map];try rfl⟩
  ·refine zN (ye (zk (zn (ze ?_))))
   refine zc rfl (e_makeMap (n:=3) rfl rfl) w9 ?_
   refine ops_b rfl (e_insF (j:=3) rfl Tryz.underlying64 (ql Tryz.underlying5) we rfl rfl rfl wN rfl) rfl ?_
   refine ops_b rfl (e_insF (j:=3) rfl Tryz.underlying64 (ql Tryz.underlying5) we rfl rfl rfl (zY Tryz.underlying5 (by decide) wN) rfl) rfl ?_
   refine ops_b rfl (e_insF (j:=3) rfl Tryz.underlying64 (ql Tryz.underlying5) we rfl rfl rfl (zY Tryz.underlying5 (by decide) (zY Tryz.underlying5 (by decide) wN)) rfl) rfl ?_
   refine ops_b rfl (e_insF (j:=3) rfl Tryz.underlying64 (ql Tryz.underlying5) we rfl rfl rfl (zY Tryz.underlying5 (by decide) (zY Tryz.underlying5 (by decide) (zY Tryz.underlying5 (by decide) wN))) rfl) rfl ?_
   refine ops_b rfl (e_insF (j:=3) rfl Tryz.underlying64 (ql Tryz.underlying5) we rfl rfl rfl (zY Tryz.underlying5 (by decide) (zY Tryz.underlying5 (by decide) (zY Tryz.underlying5 (by decide) (zY Tryz.underlying5 (by decide) wN)))) rfl) rfl ?_
   refine zc rfl (zg rfl we (zb rfl)) w8 ?_
   refine zc rfl (zj rfl va (zb rfl)) xI ?_
   refine zf (zk (zn ?_))
   refine yb [4] [(4,[(0,.cells [.int .u8 l0.typ,.int .i64 l0.n,.int .u64 l0.time,.int .u8 l0.dot.actor.rep,.int .u32 l0.dot.actor.inc,.int .u64 l0.dot.seq,.str l0.text,.sl 5 (l0.items.map GItem.row),.sl 3 (l0.tombs.map GDot.row)])])] ⟨⟨rfl,trivial⟩,trivial⟩ mixed (by kernel_rfl) ?_
   refine zi rfl rfl (zd rfl ym yv rfl) w7 ?_
   refine zi rfl rfl (zq rfl xW wZ rfl (zt rfl) (zb rfl)) wT ?_
   refine zQ hF (fun v6 hv6 hF=>?_)
   refine vV (by kernel_rfl) rfl (FOk.cons (.inr (xY ⟨rfl,trivial⟩)) FOk.nil) rfl (zC rfl rfl rfl (zo wQ zw) (.cons (zb rfl) .nil)) (row_new (B':=[.cells [.int .u8 l0.typ,.int .i64 l0.n,.int .u64 l0.time,.int .u8 l0.dot.actor.rep,.int .u32 l0.dot.actor.inc,.int .u64 l0.dot.seq,.str l0.text,.sl 5 (l0.items.map GItem.row),.sl 3 (l0.tombs.map GDot.row)],.cells [.int .u8 e1.dot.actor.rep,.int .u32 e1.dot.actor.inc,.int .u64 e1.dot.seq,.int .u64 e1.time,.int .u8 e1.op.kind,.sl 1 (e1.op.path.map zG),.int .i64 e1.op.n,.str e1.op.text,.sl 3 (e1.op.dots.map GDot.row)],.cells [.int .u8 (0:Int),.int .i64 (0:Int),.int .u64 (0:Int),.int .u8 (0:Int),.int .u32 (0:Int),.int .u64 (0:Int),.str ([]:yn),.osl none 5 (([]:List GItem).map GItem.row),.osl none 3 (([]:List GDot).map GDot.row)],.mapo [(.int .u8 1,.fn (.func 31) [] []),(.int .u8 2,.fn (.func 32) [] []),(.int .u8 3,.fn (.func 33) [] []),(.int .u8 4,.fn (.func 34) [] []),(.int .u8 5,.fn (.func 35) [] [])] 0,.row (h.toks.length+0) 5 (v6.map GItem.row)]) (T':=[(v6).length]) (okR36 hv6) rfl rfl rfl rfl) wS ?_
   refine zi rfl rfl (zd rfl y5 yv rfl) wR ?_
   refine vD rfl rfl (by rintro _ ⟨B2,T2,rfl,hk2⟩;exact zq rfl xP wX (keeps1 hk2) (zt rfl) (zb rfl)) vg ?_
   refine zQ hF (fun v7 hv7 hF=>?_)
   refine vV (by kernel_rfl) rfl (FOk.cons (.inr (xY ⟨rfl,trivial⟩)) FOk.nil) rfl (zC rfl rfl rfl (zo vn zw) (.cons (zb rfl) .nil)) (row_new (B':=[.cells [.int .u8 l0.typ,.int .i64 l0.n,.int .u64 l0.time,.int .u8 l0.dot.actor.rep,.int .u32 l0.dot.actor.inc,.int .u64 l0.dot.seq,.str l0.text,.sl 5 (l0.items.map GItem.row),.sl 3 (l0.tombs.map GDot.row)],.cells [.int .u8 e1.dot.actor.rep,.int .u32 e1.dot.actor.inc,.int .u64 e1.dot.seq,.int .u64 e1.time,.int .u8 e1.op.kind,.sl 1 (e1.op.path.map zG),.int .i64 e1.op.n,.str e1.op.text,.sl 3 (e1.op.dots.map GDot.row)],.cells [.int .u8 (0:Int),.int .i64 (0:Int),.int .u64 (0:Int),.int .u8 (0:Int),.int .u32 (0:Int),.int .u64 (0:Int),.str ([]:yn),.osl none 5 (([]:List GItem).map GItem.row),.osl none 3 (([]:List GDot).map GDot.row)],.mapo [(.int .u8 1,.fn (.func 31) [] []),(.int .u8 2,.fn (.func 32) [] []),(.int .u8 3,.fn (.func 33) [] []),(.int .u8 4,.fn (.func 34) [] []),(.int .u8 5,.fn (.func 35) [] [])] 0,.row (h.toks.length+0) 5 (v6.map GItem.row),.row (h.toks.length+1) 3 (v7.map GDot.row)]) (T':=[(v6).length,(v7).length]) (okR37 hv7) rfl rfl rfl rfl) vf ?_
   refine zi rfl rfl (zd rfl ym yv rfl) vI ?_
   refine yG rfl (FOk.cons (.inl (by kernel_rfl)) FOk.nil) (by kernel_rfl) rfl (zP (cs':=[.int .u8 l0.typ,.int .i64 l0.n,.int .u64 l0.time,.int .u8 l0.dot.actor.rep,.int .u32 l0.dot.actor.inc,.int .u64 l0.dot.seq,.str l0.text,.rsl (h.blks.length+4) (h.toks.length+0) 5 ((v6).length),.sl 3 (l0.tombs.map GDot.row)]) rfl xW vC wY (zb rfl) rfl rfl rfl rfl rfl) rfl ?_
   refine zi rfl rfl (zd rfl y5 yv rfl) vN ?_
   refine yG rfl (FOk.cons (.inl (by kernel_rfl)) FOk.nil) (by kernel_rfl) rfl (zP (cs':=[.int .u8 l0.typ,.int .i64 l0.n,.int .u64 l0.time,.int .u8 l0.dot.actor.rep,.int .u32 l0.dot.actor.inc,.int .u64 l0.dot.seq,.str l0.text,.rsl (h.blks.length+4) (h.toks.length+0) 5 ((v6).length),.rsl (h.blks.length+5) (h.toks.length+1) 3 ((v7).length)]) rfl xP vO vm (zb rfl) rfl rfl rfl rfl rfl) rfl ?_
   refine zX ?_
   refine zk (zn (ze ?_))
   refine zc rfl (zq rfl ty31.choose_spec.1 yv rfl (zu (cs':=[.int .u8 l0.typ,.int .i64 l0.n,.int .u64 l0.time,.int .u8 l0.dot.actor.rep,.int .u32 l0.dot.actor.inc,.int .u64 l0.dot.seq,.str l0.text,.rsl (h.blks.length+4) (h.toks.length+0) 5 ((v6).length),.rsl (h.blks.length+5) (h.toks.length+1) 3 ((v7).length)]) ty31.choose_spec.2 rfl rfl) (zb rfl)) vZ ?_
   refine zc rfl (xc (cs':=[.int .u8 l0.typ,.int .i64 l0.n,.int .u64 l0.time,.int .u8 l0.dot.actor.rep,.int .u32 l0.dot.actor.inc,.int .u64 l0.dot.seq,.str l0.text,.rsl (h.blks.length+4) (h.toks.length+0) 5 ((v6).length),.rsl (h.blks.length+5) (h.toks.length+1) 3 ((v7).length)]) rfl su68 ze68 pl68 (zK qe zT) (.cons (zb rfl) .nil) rfl rfl) (sk st0) ?_
   refine zc rfl (yF (n:=6) rfl (gk yh) (zb rfl) rfl rfl) (sk st1) ?_
   refine zc rfl (zj rfl (gk yB) (zb rfl)) xN ?_
   refine zf (zk (zn (zn (ze ?_))))
   refine zc rfl (zg rfl xh (zb rfl)) (sk x5) ?_
   refine zc rfl (zd rfl wd yf rfl) (sk yV) ?_
   refine zc rfl (zd rfl fo34x0 (gk yp) rfl) (sk xp) ?_
   refine zc rfl (zq rfl ty5 (gk yR) rfl (zt rfl) (zb rfl)) (sk xI) ?_
   refine iteF hF (fun hk8 hF=>?_) (fun hk8 hF=>?_)
   ·refine zc rfl (e_lookF (j:=3) (n:=1) rfl Tryz.underlying64 Tryz.underlying5 (gk yf) rfl (gk xh) hk8 (qm Tryz.underlying5)) (sk xN) ?_
    refine zc rfl (zg rfl (gk xu) (zb rfl)) (sk xf) ?_
    refine zc rfl (zV rfl (gk yv) rfl (zb rfl)) (sk xC) ?_
    refine zc rfl (zV rfl (gk yv) rfl (zb rfl)) (sk xR) ?_
    refine zc rfl (zj rfl (gk xr) (zb rfl)) xC ?_
    refine zc rfl (zj rfl (gk xK) (zb rfl)) xR ?_
    refine zf (zk (zn (ze ?_)))
    refine zc rfl (zg rfl xK (zb rfl)) (sk yy) ?_
    refine zf (zk ?_)
    refine vQ (gk yw) (fun _=>?_) (fun hh=>by cases hh)
    refine ze ?_
    refine zc rfl (zg rfl xr (zb rfl)) (sk yx) ?_
    refine zc rfl (zg rfl xu (zb rfl)) (sk yE) ?_
    refine zc rfl (zq rfl ty36.choose_spec.1 yf rfl (zu (cs':=[.int .u8 e1.dot.actor.rep,.int .u32 e1.dot.actor.inc,.int .u64 e1.dot.seq,.int .u64 e1.time,.int .u8 e1.op.kind,.sl 1 (e1.op.path.map zG),.int .i64 e1.op.n,.str e1.op.text,.sl 3 (e1.op.dots.map GDot.row)]) ty36.choose_spec.2 rfl rfl) (zb rfl)) (sk yK) ?_
    refine zQ hF (fun v9 hv9 hF=>?_)
    refine vL (X:=Unit) (v:=.tup []) (H':=fun _=>h.ext [.cells [.int .u8 l0.typ,.int .i64 l0.n,.int .u64 l0.time,.int .u8 l0.dot.actor.rep,.int .u32 l0.dot.actor.inc,.int .u64 l0.dot.seq,.str l0.text,.rsl (h.blks.length+4) (h.toks.length+0) 5 ((v6).length),.rsl (h.blks.length+5) (h.toks.length+1) 3 ((v7).length)],.cells [.int .u8 e1.dot.actor.rep,.int .u32 e1.dot.actor.inc,.int .u64 e1.dot.seq,.int .u64 e1.time,.int .u8 e1.op.kind,.sl 1 (e1.op.path.map zG),.int .i64 e1.op.n,.str e1.op.text,.sl 3 (e1.op.dots.map GDot.row)],.cells [.int .u8 (0:Int),.int .i64 (0:Int),.int .u64 (0:Int),.int .u8 (0:Int),.int .u32 (0:Int),.int .u64 (0:Int),.str ([]:yn),.osl none 5 (([]:List GItem).map GItem.row),.osl none 3 (([]:List GDot).map GDot.row)],.mapo [(.int .u8 1,.fn (.func 31) [] []),(.int .u8 2,.fn (.func 32) [] []),(.int .u8 3,.fn (.func 33) [] []),(.int .u8 4,.fn (.func 34) [] []),(.int .u8 5,.fn (.func 35) [] [])] 0,.row (h.toks.length+0) 5 (v6.map GItem.row),.row (h.toks.length+1) 3 (v7.map GDot.row),.cells [.int .u8 l0.typ,.int .i64 v9,.int .u64 l0.time,.int .u8 l0.dot.actor.rep,.int .u32 l0.dot.actor.inc,.int .u64 l0.dot.seq,.str l0.text,.rsl (h.blks.length+4) (h.toks.length+0) 5 ((v6).length),.rsl (h.blks.length+5) (h.toks.length+1) 3 ((v7).length)]] [(v6).length,(v7).length]) rfl (zC rfl rfl (gk yr) (zo (gk yD) (zo (gk yI) zw)) (.cons (zb rfl) (.cons (zb rfl) .nil))) ?_ (sk yT) (fun _=>?_)
    ·replace hF:=hv9
     refine yz Tryz.func31 rfl (by kernel_rfl) (env:=[.ptr (h.blks.length+6) 0,.agg [.int .u8 e1.dot.actor.rep,.int .u32 e1.dot.actor.inc,.int .u64 e1.dot.seq,.int .u64 e1.time,.int .u8 e1.op.kind,.sl 1 (e1.op.path.map zG),.int .i64 e1.op.n,.str e1.op.text,.sl 3 (e1.op.dots.map GDot.row)],za,za,za,za,za,za,za,za,za,za,za,za,za,za]) (by rfl) ?_
     refine zn (ze ?_)
     refine zc rfl (yF (n:=7) rfl yB (zb rfl) rfl rfl) x5 ?_
     refine zf (zk ?_)
     refine yb [] [] trivial mixed (by kernel_rfl) ?_
     refine zi rfl rfl (zg rfl yh (zb rfl)) yV ?_
     refine zi rfl rfl (zO rfl yp rfl) xp ?_
     refine zi rfl rfl (zd rfl yk yR rfl) xI ?_
     refine zi rfl rfl (zd rfl qZ xh rfl) xN ?_
     refine zi rfl rfl (zq rfl ty2 xu rfl (zt rfl) (zb rfl)) xC ?_
     refine zi rfl rfl (zd rfl wd yf rfl) xR ?_
     refine zi rfl rfl (zd rfl fo34x2 xK rfl) yy ?_
     refine zi rfl rfl (zq rfl ty2 yw rfl (zt rfl) (zb rfl)) yx ?_
     refine zi rfl rfl (zz rfl xr yr rfl) yE ?_
     refine zi rfl rfl (zO rfl yp rfl) yK ?_
     refine zi rfl rfl (zd rfl yk yI rfl) yT ?_
     refine zi rfl rfl (zd rfl qZ yY rfl) yS ?_
     refine yG rfl FOk.nil (by kernel_rfl) rfl (zP (cs':=[.int .u8 l0.typ,.int .i64 (IntKind.wrap .i64 (l0.n+e1.op.n)),.int .u64 l0.time,.int .u8 l0.dot.actor.rep,.int .u32 l0.dot.actor.inc,.int .u64 l0.dot.seq,.str l0.text,.rsl (h.blks.length+4) (h.toks.length+0) 5 ((v6).length),.rsl (h.blks.length+5) (h.toks.length+1) 3 ((v7).length)]) rfl ty2 yO yD (zb rfl) rfl rfl rfl rfl rfl) rfl ?_
     refine zX ?_
     refine qR ?_
     obtain rfl:=Option.some.inj hF
     refine x7 rfl zA (xZ (vX (by simp [y3,AV.low]) rfl rfl (by simp [Blk.low,y3,AV.low])) ?_)
     exact ⟨rfl,(),rfl⟩
    ·refine zf (zk (zn (ze ?_)))
     refine zc rfl (zg rfl xu (zb rfl)) (sk yS) ?_
     refine zc rfl (zO rfl (gk yO) rfl) (sk yZ) ?_
     refine zc rfl (zd rfl yk (gk y4) rfl) (sk y8) ?_
     refine zc rfl (zq rfl ty31.choose_spec.1 (gk xd) rfl (zu (cs':=[.int .u8 l0.typ,.int .i64 v9,.int .u64 l0.time,.int .u8 l0.dot.actor.rep,.int .u32 l0.dot.actor.inc,.int .u64 l0.dot.seq,.str l0.text,.rsl (h.blks.length+4) (h.toks.length+0) 5 ((v6).length),.rsl (h.blks.length+5) (h.toks.length+1) 3 ((v7).length)]) ty31.choose_spec.2 rfl rfl) (zb rfl)) (sk xk) ?_
     refine zc rfl (zP (cs':=[.int .u8 l0.typ,.int .i64 v9,.int .u64 l0.time,.int .u8 l0.dot.actor.rep,.int .u32 l0.dot.actor.inc,.int .u64 l0.dot.seq,.str l0.text,.rsl (h.blks.length+4) (h.toks.length+0) 5 ((v6).length),.rsl (h.blks.length+5) (h.toks.length+1) 3 ((v7).length)]) rfl ty31.choose_spec.1 yp (gk xl) (zb rfl) rfl rfl rfl rfl rfl) rfl ?_
     refine zc rfl (zj rfl rfl (zb rfl)) xp ?_
     refine zf (zk (zJ ?_))
     obtain rfl:=Option.some.inj hF
     refine xU rfl (xg ty31.choose_spec.1 yp rfl (zu (cs':=[.int .u8 l0.typ,.int .i64 v9,.int .u64 l0.time,.int .u8 l0.dot.actor.rep,.int .u32 l0.dot.actor.inc,.int .u64 l0.dot.seq,.str l0.text,.rsl (h.blks.length+4) (h.toks.length+0) 5 ((v6).length),.rsl (h.blks.length+5) (h.toks.length+1) 3 ((v7).length)]) ty31.choose_spec.2 rfl rfl) (zb rfl) (zH yR zA)) (qB (ps:=[.int .u8 l0.typ,.int .i64 v9,.int .u64 l0.time,.int .u8 l0.dot.actor.rep,.int .u32 l0.dot.actor.inc,.int .u64 l0.dot.seq,.str l0.text]) (qq (j:=4) (i:=0) rfl (by simp)) (qq (j:=5) (i:=1) rfl (by simp)) (by decide) rfl rfl rfl ?_)
     exact ⟨by simp only [List.length_map];try rfl,by simp only [List.length_map];try rfl⟩
   ·refine iteF hF (fun hk10 hF=>?_) (fun hk10 hF=>?_)
    ·refine zc rfl (e_lookF (j:=3) (n:=2) rfl Tryz.underlying64 Tryz.underlying5 (gk yf) rfl (gk xh) hk10 (zY Tryz.underlying5 (by decide) (qm Tryz.underlying5))) (sk xN) ?_
     refine zc rfl (zg rfl (gk xu) (zb rfl)) (sk xf) ?_
     refine zc rfl (zV rfl (gk yv) rfl (zb rfl)) (sk xC) ?_
     refine zc rfl (zV rfl (gk yv) rfl (zb rfl)) (sk xR) ?_
     refine zc rfl (zj rfl (gk xr) (zb rfl)) xC ?_
     refine zc rfl (zj rfl (gk xK) (zb rfl)) xR ?_
     refine zf (zk (zn (ze ?_)))
     refine zc rfl (zg rfl xK (zb rfl)) (sk yy) ?_
     refine zf (zk ?_)
     refine vQ (gk yw) (fun _=>?_) (fun hh=>by cases hh)
     refine ze ?_
     refine zc rfl (zg rfl xr (zb rfl)) (sk yx) ?_
     refine zc rfl (zg rfl xu (zb rfl)) (sk yE) ?_
     refine zc rfl (zq rfl ty36.choose_spec.1 yf rfl (zu (cs':=[.int .u8 e1.dot.actor.rep,.int .u32 e1.dot.actor.inc,.int .u64 e1.dot.seq,.int .u64 e1.time,.int .u8 e1.op.kind,.sl 1 (e1.op.path.map zG),.int .i64 e1.op.n,.str e1.op.text,.sl 3 (e1.op.dots.map GDot.row)]) ty36.choose_spec.2 rfl rfl) (zb rfl)) (sk yK) ?_
     refine zQ hF (fun v11 hv11 hF=>?_)
     refine vL (X:=Unit) (v:=.tup []) (H':=fun _=>h.ext [.cells [.int .u8 l0.typ,.int .i64 l0.n,.int .u64 l0.time,.int .u8 l0.dot.actor.rep,.int .u32 l0.dot.actor.inc,.int .u64 l0.dot.seq,.str l0.text,.rsl (h.blks.length+4) (h.toks.length+0) 5 ((v6).length),.rsl (h.blks.length+5) (h.toks.length+1) 3 ((v7).length)],.cells [.int .u8 e1.dot.actor.rep,.int .u32 e1.dot.actor.inc,.int .u64 e1.dot.seq,.int .u64 e1.time,.int .u8 e1.op.kind,.sl 1 (e1.op.path.map zG),.int .i64 e1.op.n,.str e1.op.text,.sl 3 (e1.op.dots.map GDot.row)],.cells [.int .u8 (0:Int),.int .i64 (0:Int),.int .u64 (0:Int),.int .u8 (0:Int),.int .u32 (0:Int),.int .u64 (0:Int),.str ([]:yn),.osl none 5 (([]:List GItem).map GItem.row),.osl none 3 (([]:List GDot).map GDot.row)],.mapo [(.int .u8 1,.fn (.func 31) [] []),(.int .u8 2,.fn (.func 32) [] []),(.int .u8 3,.fn (.func 33) [] []),(.int .u8 4,.fn (.func 34) [] []),(.int .u8 5,.fn (.func 35) [] [])] 0,.row (h.toks.length+0) 5 (v6.map GItem.row),.row (h.toks.length+1) 3 (v7.map GDot.row),.cells [.int .u8 l0.typ,.int .i64 l0.n,.int .u64 v11.1,.int .u8 v11.2.1,.int .u32 v11.2.2.1,.int .u64 v11.2.2.2.1,.str v11.2.2.2.2,.rsl (h.blks.length+4) (h.toks.length+0) 5 ((v6).length),.rsl (h.blks.length+5) (h.toks.length+1) 3 ((v7).length)]] [(v6).length,(v7).length]) rfl (zC rfl rfl (gk yr) (zo (gk yD) (zo (gk yI) zw)) (.cons (zb rfl) (.cons (zb rfl) .nil))) ?_ (sk yT) (fun _=>?_)
     ·replace hF:=hv11
      refine yz Tryz.func32 rfl (by kernel_rfl) (env:=[.ptr (h.blks.length+6) 0,.agg [.int .u8 e1.dot.actor.rep,.int .u32 e1.dot.actor.inc,.int .u64 e1.dot.seq,.int .u64 e1.time,.int .u8 e1.op.kind,.sl 1 (e1.op.path.map zG),.int .i64 e1.op.n,.str e1.op.text,.sl 3 (e1.op.dots.map GDot.row)],za,za,za,za,za,za,za,za,za,za,za,za,za,za,za,za,za,za,za,za,za,za,za,za,za,za,za,za,za,za,za,za,za,za,za,za,za,za,za,za,za,za,za,za]) (by rfl) ?_
      refine zn (ze ?_)
      refine zc rfl (yF (n:=7) rfl yB (zb rfl) rfl rfl) x5 ?_
      refine zf (zk (zn ?_))
      refine yb [] [] trivial mixed (by kernel_rfl) ?_
      refine zi rfl rfl (zg rfl yh (zb rfl)) yV ?_
      refine zi rfl rfl (zO rfl yp rfl) xp ?_
      refine zi rfl rfl (zd rfl yk yR rfl) xI ?_
      refine zi rfl rfl (zd rfl wm xh rfl) xN ?_
      refine zi rfl rfl (zq rfl xM xu rfl (zt rfl) (zb rfl)) xC ?_
      refine zi rfl rfl (zz rfl xr rfl rfl) xR ?_
      refine zi rfl rfl (zg rfl xK (zb rfl)) yy ?_
      refine zy rfl rfl (fun hb=>zg rfl yh (zb rfl)) yx ?_
      refine zy rfl rfl (fun hb=>zO rfl (zp yr hb) rfl) yE ?_
      refine zy rfl rfl (fun hb=>zd rfl yk (zp yD hb) rfl) yK ?_
      refine zy rfl rfl (fun hb=>zd rfl wm (zp yI hb) rfl) yT ?_
      refine zy rfl rfl (fun hb=>zq rfl xM (zp yY hb) rfl (zt rfl) (zb rfl)) yS ?_
      refine zy rfl rfl (fun hb=>zg rfl yh (zb rfl)) yZ ?_
      refine zy rfl rfl (fun hb=>zO rfl (zp y4 hb) rfl) y8 ?_
      refine zy rfl rfl (fun hb=>zd rfl yk (zp xd hb) rfl) xk ?_
      refine zy rfl rfl (fun hb=>zd rfl vp (zp xl hb) rfl) xJ ?_
      refine zy rfl rfl (fun hb=>zq rfl ty27.choose_spec.1 (zp xL hb) rfl (zu (cs':=[.int .u8 l0.dot.actor.rep,.int .u32 l0.dot.actor.inc,.int .u64 l0.dot.seq]) ty27.choose_spec.2 rfl rfl) (zb rfl)) xQ ?_
      refine zy rfl rfl (fun hb=>zd rfl qY yf rfl) wb ?_
      refine zy rfl rfl (fun hb=>zq rfl xM (zp wa hb) rfl (zt rfl) (zb rfl)) wl ?_
      refine zy rfl rfl (fun hb=>zd rfl vU yf rfl) wp ?_
      refine zy rfl rfl (fun hb=>zq rfl ty27.choose_spec.1 (zp wg hb) rfl (zu (cs':=[.int .u8 e1.dot.actor.rep,.int .u32 e1.dot.actor.inc,.int .u64 e1.dot.seq]) ty27.choose_spec.2 rfl rfl) (zb rfl)) wu ?_
      refine yP hF (fun v14 hv14 hF=>?_)
      refine xn rfl rfl (fun hb=>zC rfl rfl rfl (zo (zp yO hb) (zo (zp xX hb) (zo (zp wq hb) (zo (zp ww hb) zw)))) (.cons (zb rfl) (.cons (zb rfl) (.cons (zb rfl) (.cons (zb rfl) .nil))))) (fun hb=>ok13 (hv14 hb)) wz ?_
      refine zi rfl rfl (zM rfl yw rfl wv (zZ (fun ht=>gF ht))) wV ?_
      refine zX ?_
      refine zk ?_
      refine zI wD hF (fun hc15 hF=>?_) (fun hc15 hF=>?_)
      ·refine yb [6,9] [(6,[(7,.cells [.int .u8 e1.dot.actor.rep,.int .u32 e1.dot.actor.inc,.int .u64 e1.dot.seq,.int .u64 e1.time,.int .u8 e1.op.kind,.sl 1 (e1.op.path.map zG),.int .i64 e1.op.n,.str e1.op.text,.sl 3 (e1.op.dots.map GDot.row)])]),(9,[(7,.cells [.int .u8 e1.dot.actor.rep,.int .u32 e1.dot.actor.inc,.int .u64 e1.dot.seq,.int .u64 e1.time,.int .u8 e1.op.kind,.sl 1 (e1.op.path.map zG),.int .i64 e1.op.n,.str e1.op.text,.sl 3 (e1.op.dots.map GDot.row)])])] ⟨⟨rfl,trivial⟩,⟨rfl,trivial⟩,trivial⟩ mixed (by kernel_rfl) ?_
       refine zi rfl rfl (zg rfl yh (zb rfl)) wU ?_
       refine zi rfl rfl (zg rfl yh (zb rfl)) wG ?_
       refine zi rfl rfl (zg rfl yh (zb rfl)) w9 ?_
       refine zi rfl rfl (zd rfl qY yf rfl) w8 ?_
       refine zi rfl rfl (zq rfl xM va rfl (zt rfl) (zb rfl)) w7 ?_
       refine zi rfl rfl (zd rfl vU yf rfl) wT ?_
       refine vD rfl rfl (by rintro _ ⟨B2,T2,rfl,hk2⟩;exact zq rfl ty27.choose_spec.1 wQ (keeps1 hk2) (zu (cs':=[.int .u8 e1.dot.actor.rep,.int .u32 e1.dot.actor.inc,.int .u64 e1.dot.seq]) ty27.choose_spec.2 rfl rfl) (zb rfl)) wS ?_
       refine zi rfl rfl (zd rfl wd yf rfl) wR ?_
       refine zi rfl rfl (zd rfl qt wX rfl) vg ?_
       refine vD rfl rfl (by rintro _ ⟨B2,T2,rfl,hk2⟩;exact zq rfl ty9 vn (keeps1 hk2) (zt rfl) (zb rfl)) vf ?_
       refine zi rfl rfl (zO rfl w4 rfl) vI ?_
       refine zi rfl rfl (zd rfl yk vC rfl) vN ?_
       refine zi rfl rfl (zd rfl wm vO rfl) vZ ?_
       refine yG rfl (FOk.cons (.inr (xY ⟨rfl,trivial⟩)) (FOk.cons (.inr (xY ⟨rfl,trivial⟩)) FOk.nil)) (by kernel_rfl) rfl (zP (cs':=[.int .u8 l0.typ,.int .i64 l0.n,.int .u64 e1.time,.int .u8 l0.dot.actor.rep,.int .u32 l0.dot.actor.inc,.int .u64 l0.dot.seq,.str l0.text,.rsl (h.blks.length+4) (h.toks.length+0) 5 ((v6).length),.rsl (h.blks.length+5) (h.toks.length+1) 3 ((v7).length)]) rfl xM qe wZ (zb rfl) rfl rfl rfl rfl rfl) rfl ?_
       refine zi rfl rfl (zO rfl wH rfl) (sk st0) ?_
       refine zi rfl rfl (zd rfl yk (gk yh) rfl) (sk st1) ?_
       refine zi rfl rfl (zd rfl vp (gk yB) rfl) (sk xf) ?_
       refine yG rfl (FOk.cons (.inr (xY ⟨rfl,trivial⟩)) (FOk.cons (.inr (xY ⟨rfl,trivial⟩)) FOk.nil)) (by kernel_rfl) rfl (zP (cs':=[.int .u8 l0.typ,.int .i64 l0.n,.int .u64 e1.time,.int .u8 e1.dot.actor.rep,.int .u32 e1.dot.actor.inc,.int .u64 e1.dot.seq,.str l0.text,.rsl (h.blks.length+4) (h.toks.length+0) 5 ((v6).length),.rsl (h.blks.length+5) (h.toks.length+1) 3 ((v7).length)]) rfl ty27.choose_spec.1 (gk yv) wY (zb rfl) rfl rfl rfl rfl rfl) rfl ?_
       refine zi rfl rfl (zO rfl we rfl) (sk x5) ?_
       refine zi rfl rfl (zd rfl yk (gk yf) rfl) (sk yV) ?_
       refine zi rfl rfl (zd rfl qN (gk yp) rfl) (sk xp) ?_
       refine yG rfl (FOk.cons (.inr (xY ⟨rfl,trivial⟩)) (FOk.cons (.inr (xY ⟨rfl,trivial⟩)) FOk.nil)) (by kernel_rfl) rfl (zP (cs':=[.int .u8 l0.typ,.int .i64 l0.n,.int .u64 e1.time,.int .u8 e1.dot.actor.rep,.int .u32 e1.dot.actor.inc,.int .u64 e1.dot.seq,.str e1.op.text,.rsl (h.blks.length+4) (h.toks.length+0) 5 ((v6).length),.rsl (h.blks.length+5) (h.toks.length+1) 3 ((v7).length)]) rfl ty9 (gk yR) vm (zb rfl) rfl rfl rfl rfl rfl) rfl ?_
       refine zX ?_
       refine qR ?_
       obtain rfl:=Option.some.inj hF
       refine x7 rfl zA (xZ (vX (by simp [y3,AV.low]) rfl rfl (by simp [Blk.low,y3,AV.low])) ?_)
       exact ⟨rfl,(),rfl⟩
      ·refine zN (qR ?_)
       obtain rfl:=Option.some.inj hF
       refine x7 rfl zA (xZ (vX (by simp [y3,AV.low]) rfl rfl (by simp [Blk.low,y3,AV.low])) ?_)
       exact ⟨rfl,(),rfl⟩
     ·refine zf (zk (zn (ze ?_)))
      refine zc rfl (zg rfl xu (zb rfl)) (sk yS) ?_
      refine zc rfl (zO rfl (gk yO) rfl) (sk yZ) ?_
      refine zc rfl (zd rfl yk (gk y4) rfl) (sk y8) ?_
      refine zc rfl (zq rfl ty31.choose_spec.1 (gk xd) rfl (zu (cs':=[.int .u8 l0.typ,.int .i64 l0.n,.int .u64 v11.1,.int .u8 v11.2.1,.int .u32 v11.2.2.1,.int .u64 v11.2.2.2.1,.str v11.2.2.2.2,.rsl (h.blks.length+4) (h.toks.length+0) 5 ((v6).length),.rsl (h.blks.length+5) (h.toks.length+1) 3 ((v7).length)]) ty31.choose_spec.2 rfl rfl) (zb rfl)) (sk xk) ?_
      refine zc rfl (zP (cs':=[.int .u8 l0.typ,.int .i64 l0.n,.int .u64 v11.1,.int .u8 v11.2.1,.int .u32 v11.2.2.1,.int .u64 v11.2.2.2.1,.str v11.2.2.2.2,.rsl (h.blks.length+4) (h.toks.length+0) 5 ((v6).length),.rsl (h.blks.length+5) (h.toks.length+1) 3 ((v7).length)]) rfl ty31.choose_spec.1 yp (gk xl) (zb rfl) rfl rfl rfl rfl rfl) rfl ?_
      refine zc rfl (zj rfl rfl (zb rfl)) xp ?_
      refine zf (zk (zJ ?_))
      obtain rfl:=Option.some.inj hF
      refine xU rfl (xg ty31.choose_spec.1 yp rfl (zu (cs':=[.int .u8 l0.typ,.int .i64 l0.n,.int .u64 v11.1,.int .u8 v11.2.1,.int .u32 v11.2.2.1,.int .u64 v11.2.2.2.1,.str v11.2.2.2.2,.rsl (h.blks.length+4) (h.toks.length+0) 5 ((v6).length),.rsl (h.blks.length+5) (h.toks.length+1) 3 ((v7).length)]) ty31.choose_spec.2 rfl rfl) (zb rfl) (zH yR zA)) (qB (ps:=[.int .u8 l0.typ,.int .i64 l0.n,.int .u64 v11.1,.int .u8 v11.2.1,.int .u32 v11.2.2.1,.int .u64 v11.2.2.2.1,.str v11.2.2.2.2]) (qq (j:=4) (i:=0) rfl (by simp)) (qq (j:=5) (i:=1) rfl (by simp)) (by decide) rfl rfl rfl ?_)
      exact ⟨by simp only [List.length_map];try rfl,by simp only [List.length_map];try rfl⟩
    ·refine iteF hF (fun hk16 hF=>?_) (fun hk16 hF=>?_)
     ·refine zc rfl (e_lookF (j:=3) (n:=3) rfl Tryz.underlying64 Tryz.underlying5 (gk yf) rfl (gk xh) hk16 (zY Tryz.underlying5 (by decide) (zY Tryz.underlying5 (by decide) (qm Tryz.underlying5)))) (sk xN) ?_
      refine zc rfl (zg rfl (gk xu) (zb rfl)) (sk xf) ?_
      refine zc rfl (zV rfl (gk yv) rfl (zb rfl)) (sk xC) ?_
      refine zc rfl (zV rfl (gk yv) rfl (zb rfl)) (sk xR) ?_
      refine zc rfl (zj rfl (gk xr) (zb rfl)) xC ?_
      refine zc rfl (zj rfl (gk xK) (zb rfl)) xR ?_
      refine zf (zk (zn (ze ?_)))
      refine zc rfl (zg rfl xK (zb rfl)) (sk yy) ?_
      refine zf (zk ?_)
      refine vQ (gk yw) (fun _=>?_) (fun hh=>by cases hh)
      refine ze ?_
      refine zc rfl (zg rfl xr (zb rfl)) (sk yx) ?_
      refine zc rfl (zg rfl xu (zb rfl)) (sk yE) ?_
      refine zc rfl (zq rfl ty36.choose_spec.1 yf rfl (zu (cs':=[.int .u8 e1.dot.actor.rep,.int .u32 e1.dot.actor.inc,.int .u64 e1.dot.seq,.int .u64 e1.time,.int .u8 e1.op.kind,.sl 1 (e1.op.path.map zG),.int .i64 e1.op.n,.str e1.op.text,.sl 3 (e1.op.dots.map GDot.row)]) ty36.choose_spec.2 rfl rfl) (zb rfl)) (sk yK) ?_
      refine zQ hF (fun v17 hv17 hF=>?_)
      refine vL (X:=Nat×Nat×Nat) (v:=.tup []) (H':=fun n_v17=>h.ext [.cells [.int .u8 l0.typ,.int .i64 l0.n,.int .u64 l0.time,.int .u8 l0.dot.actor.rep,.int .u32 l0.dot.actor.inc,.int .u64 l0.dot.seq,.str l0.text,.rsl (h.blks.length+4) (h.toks.length+0) 5 ((v6).length),.rsl (h.blks.length+5) (h.toks.length+1) 3 ((v7).length)],.cells [.int .u8 e1.dot.actor.rep,.int .u32 e1.dot.actor.inc,.int .u64 e1.dot.seq,.int .u64 e1.time,.int .u8 e1.op.kind,.sl 1 (e1.op.path.map zG),.int .i64 e1.op.n,.str e1.op.text,.sl 3 (e1.op.dots.map GDot.row)],.cells [.int .u8 (0:Int),.int .i64 (0:Int),.int .u64 (0:Int),.int .u8 (0:Int),.int .u32 (0:Int),.int .u64 (0:Int),.str ([]:yn),.osl none 5 (([]:List GItem).map GItem.row),.osl none 3 (([]:List GDot).map GDot.row)],.mapo [(.int .u8 1,.fn (.func 31) [] []),(.int .u8 2,.fn (.func 32) [] []),(.int .u8 3,.fn (.func 33) [] []),(.int .u8 4,.fn (.func 34) [] []),(.int .u8 5,.fn (.func 35) [] [])] 0,.dead,.row (h.toks.length+1) 3 (v7.map GDot.row),.cells [.int .u8 l0.typ,.int .i64 l0.n,.int .u64 l0.time,.int .u8 l0.dot.actor.rep,.int .u32 l0.dot.actor.inc,.int .u64 l0.dot.seq,.str l0.text,.rsl (h.blks.length+11) (h.toks.length+4) 5 ((v17).length),.rsl (h.blks.length+5) (h.toks.length+1) 3 ((v7).length)],.dead,.dead,.dead,.dead,.row (h.toks.length+4) 5 (v17.map GItem.row)] [n_v17.1,(v7).length,n_v17.2.1,n_v17.2.2,(v17).length]) rfl (zC rfl rfl (gk yr) (zo (gk yD) (zo (gk yI) zw)) (.cons (zb rfl) (.cons (zb rfl) .nil))) ?_ (sk yT) (fun n_v17=>?_)
      ·replace hF:=hv17
       refine yz Tryz.func33 rfl (by kernel_rfl) (env:=[.ptr (h.blks.length+6) 0,.agg [.int .u8 e1.dot.actor.rep,.int .u32 e1.dot.actor.inc,.int .u64 e1.dot.seq,.int .u64 e1.time,.int .u8 e1.op.kind,.sl 1 (e1.op.path.map zG),.int .i64 e1.op.n,.str e1.op.text,.sl 3 (e1.op.dots.map GDot.row)],za,za,za,za,za,za,za,za,za,za,za,za,za,za,za,za,za,za,za]) (by rfl) ?_
       refine zn (ze ?_)
       refine zc rfl (yF (n:=7) rfl yB (zb rfl) rfl rfl) x5 ?_
       refine zf (zk (zn ?_))
       refine yb [] [] trivial mixed (by kernel_rfl) ?_
       refine zi rfl rfl (zg rfl yh (zb rfl)) yV ?_
       refine zi rfl rfl (zO rfl yp rfl) xp ?_
       refine zi rfl rfl (zd rfl yk yR rfl) xI ?_
       refine zi rfl rfl (zd rfl y5 xh rfl) xN ?_
       refine zi rfl rfl (zq rfl xP xu rfl (zt rfl) (zb rfl)) xC ?_
       refine zi rfl rfl (zd rfl vU yf rfl) xR ?_
       refine zi rfl rfl (zq rfl ty27.choose_spec.1 xK rfl (zu (cs':=[.int .u8 e1.dot.actor.rep,.int .u32 e1.dot.actor.inc,.int .u64 e1.dot.seq]) ty27.choose_spec.2 rfl rfl) (zb rfl)) yy ?_
       refine zQ hF (fun v29 hv29 hF=>?_)
       refine wM rfl rfl (zC rfl rfl rfl (zo xr (zo yw zw)) (.cons (zb rfl) (.cons (zb rfl) .nil))) (vh (by exact (.cons (.row _ _ _ _ _ (by rw [yL];rfl) (by simp)) (.cons (.low _ rfl) .nil))) rfl (ok52 hv29) (fun _ _ h=>h.1)) yx ?_
       refine zi rfl rfl (vB rfl yr rfl) yE ?_
       refine zX ?_
       refine zk ?_
       refine zI yD hF (fun hc30 hF=>?_) (fun hc30 hF=>?_)
       ·refine ze ?_
        refine zc rfl (zg rfl yh (zb rfl)) yK ?_
        refine zc rfl (zd rfl vU yf rfl) yT ?_
        refine zc rfl (zq rfl ty27.choose_spec.1 yY rfl (zu (cs':=[.int .u8 e1.dot.actor.rep,.int .u32 e1.dot.actor.inc,.int .u64 e1.dot.seq]) ty27.choose_spec.2 rfl rfl) (zb rfl)) yS ?_
        refine zc rfl (zd rfl wd yf rfl) yZ ?_
        refine zc rfl (zd rfl qt y4 rfl) y8 ?_
        refine zc rfl (zq rfl ty9 xd rfl (zt rfl) (zb rfl)) xk ?_
        refine zc rfl (xc (cs':=[.int .u64 (0:Int),.int .u8 e1.dot.actor.rep,.int .u32 e1.dot.actor.inc,.int .u64 e1.dot.seq,.str e1.op.text]) rfl su47 ze47 pl47 (zK yO (zK xl zT)) (.cons (zb rfl) (.cons (zb rfl) .nil)) rfl rfl) xJ ?_
        refine zQ hF (fun v31 hv31 hF=>?_)
        refine vL (X:=Nat×Nat) (v:=.tup []) (H':=fun n_v31=>h.ext [.cells [.int .u8 l0.typ,.int .i64 l0.n,.int .u64 l0.time,.int .u8 l0.dot.actor.rep,.int .u32 l0.dot.actor.inc,.int .u64 l0.dot.seq,.str l0.text,.rsl (h.blks.length+4) (h.toks.length+0) 5 ((v6).length),.rsl (h.blks.length+5) (h.toks.length+1) 3 ((v7).length)],.cells [.int .u8 e1.dot.actor.rep,.int .u32 e1.dot.actor.inc,.int .u64 e1.dot.seq,.int .u64 e1.time,.int .u8 e1.op.kind,.sl 1 (e1.op.path.map zG),.int .i64 e1.op.n,.str e1.op.text,.sl 3 (e1.op.dots.map GDot.row)],.cells [.int .u8 (0:Int),.int .i64 (0:Int),.int .u64 (0:Int),.int .u8 (0:Int),.int .u32 (0:Int),.int .u64 (0:Int),.str ([]:yn),.osl none 5 (([]:List GItem).map GItem.row),.osl none 3 (([]:List GDot).map GDot.row)],.mapo [(.int .u8 1,.fn (.func 31) [] []),(.int .u8 2,.fn (.func 32) [] []),(.int .u8 3,.fn (.func 33) [] []),(.int .u8 4,.fn (.func 34) [] []),(.int .u8 5,.fn (.func 35) [] [])] 0,.dead,.row (h.toks.length+1) 3 (v7.map GDot.row),.cells [.int .u8 l0.typ,.int .i64 l0.n,.int .u64 l0.time,.int .u8 l0.dot.actor.rep,.int .u32 l0.dot.actor.inc,.int .u64 l0.dot.seq,.str l0.text,.rsl (h.blks.length+10) (h.toks.length+3) 5 ((v31).length),.rsl (h.blks.length+5) (h.toks.length+1) 3 ((v7).length)],.cells [.int .u8 e1.dot.actor.rep,.int .u32 e1.dot.actor.inc,.int .u64 e1.dot.seq,.int .u64 e1.time,.int .u8 e1.op.kind,.sl 1 (e1.op.path.map zG),.int .i64 e1.op.n,.str e1.op.text,.sl 3 (e1.op.dots.map GDot.row)],.dead,.dead,.row (h.toks.length+3) 5 (v31.map GItem.row)] [n_v31.1,(v7).length,n_v31.2,(v31).length]) rfl (zC rfl rfl rfl (zo yI (zo xL zw)) (.cons (zb rfl) (.cons (zb rfl) .nil))) ?_ xQ (fun n_v31=>?_)
        ·replace hF:=hv31
         refine yz Tryz.func53 rfl (by kernel_rfl) (env:=[.ptr (h.blks.length+6) 0,.agg [.int .u64 (0:Int),.int .u8 e1.dot.actor.rep,.int .u32 e1.dot.actor.inc,.int .u64 e1.dot.seq,.str e1.op.text],za,za,za,za,za,za,za,za,za,za,za,za,za,za,za,za,za,za,za,za,za,za,za,za,za,za,za,za,za,za,za,za,za,za,za]) (by rfl) ?_
         refine zn (ze ?_)
         refine zc rfl (yF (n:=8) rfl yB (zb rfl) rfl rfl) x5 ?_
         refine zf (zk (zn (zn ?_)))
         refine yb [] [] trivial mixed (by kernel_rfl) ?_
         refine zi rfl rfl (zg rfl yh (zb rfl)) xI ?_
         refine zi rfl rfl (zO rfl xh rfl) xN ?_
         refine zi rfl rfl (zd rfl yk xu rfl) xC ?_
         refine zi rfl rfl (zd rfl ym xr rfl) xR ?_
         refine zi rfl rfl (zq rfl xW xK rfl (zt rfl) (zb rfl)) yy ?_
         refine zi rfl rfl (zd rfl wI yf rfl) yx ?_
         refine zi rfl rfl (zq rfl ty27.choose_spec.1 yr rfl (zu (cs':=[.int .u8 e1.dot.actor.rep,.int .u32 e1.dot.actor.inc,.int .u64 e1.dot.seq]) ty27.choose_spec.2 rfl rfl) (zb rfl)) yE ?_
         refine zQ hF (fun v36 hv36 hF=>?_)
         refine wM rfl rfl (zC rfl rfl rfl (zo yw (zo yD zw)) (.cons (zb rfl) (.cons (zb rfl) .nil))) (vh (by exact (.cons (.row _ _ _ _ _ (by rw [yL];rfl) (by simp)) (.cons (.low _ rfl) .nil))) rfl (ok46 hv36) (fun _ _ h=>h.1)) yK ?_
         refine zX ?_
         refine zk ?_
         refine zI yI hF (fun hc37 hF=>?_) (fun hc37 hF=>?_)
         ·refine zJ (zD ?_)
          obtain rfl:=Option.some.inj hF
          refine x7 rfl zA (xZ (wk.trans ((wn (by exact (.keep (.keep (.keep (.keep (.keep (.keep (.keep (.keep (.dead .nil))))))))))).wk) (wk.trans ((qg rfl).wk) (wk.trans ((swk_padT (n:=0) rfl).wk) ((wK (jb:=6) (o:=7) (j:=4) (i:=0) (n2:=(v6).length) (B':=[.cells [.int .u8 l0.typ,.int .i64 l0.n,.int .u64 l0.time,.int .u8 l0.dot.actor.rep,.int .u32 l0.dot.actor.inc,.int .u64 l0.dot.seq,.str l0.text,.rsl (h.blks.length+4) (h.toks.length+0) 5 ((v6).length),.rsl (h.blks.length+5) (h.toks.length+1) 3 ((v7).length)],.cells [.int .u8 e1.dot.actor.rep,.int .u32 e1.dot.actor.inc,.int .u64 e1.dot.seq,.int .u64 e1.time,.int .u8 e1.op.kind,.sl 1 (e1.op.path.map zG),.int .i64 e1.op.n,.str e1.op.text,.sl 3 (e1.op.dots.map GDot.row)],.cells [.int .u8 (0:Int),.int .i64 (0:Int),.int .u64 (0:Int),.int .u8 (0:Int),.int .u32 (0:Int),.int .u64 (0:Int),.str ([]:yn),.osl none 5 (([]:List GItem).map GItem.row),.osl none 3 (([]:List GDot).map GDot.row)],.mapo [(.int .u8 1,.fn (.func 31) [] []),(.int .u8 2,.fn (.func 32) [] []),(.int .u8 3,.fn (.func 33) [] []),(.int .u8 4,.fn (.func 34) [] []),(.int .u8 5,.fn (.func 35) [] [])] 0,.dead,.row (h.toks.length+1) 3 (v7.map GDot.row),.cells [.int .u8 l0.typ,.int .i64 l0.n,.int .u64 l0.time,.int .u8 l0.dot.actor.rep,.int .u32 l0.dot.actor.inc,.int .u64 l0.dot.seq,.str l0.text,.rsl (h.blks.length+10) (h.toks.length+3) 5 ((v6).length),.rsl (h.blks.length+5) (h.toks.length+1) 3 ((v7).length)],.cells [.int .u8 e1.dot.actor.rep,.int .u32 e1.dot.actor.inc,.int .u64 e1.dot.seq,.int .u64 e1.time,.int .u8 e1.op.kind,.sl 1 (e1.op.path.map zG),.int .i64 e1.op.n,.str e1.op.text,.sl 3 (e1.op.dots.map GDot.row)],.dead,.dead,.row (h.toks.length+3) 5 (v6.map GItem.row)]) (T':=[(v6).length+1,(v7).length,0,(v6).length]) rfl rfl rfl (by simp) rfl rfl rfl rfl rfl rfl).wk)))) ?_)
          exact ⟨rfl,((v6).length+1,0),rfl⟩
         ·refine zN (zk (zn ?_))
          refine yb [] [] trivial mixed (by kernel_rfl) ?_
          refine zi rfl rfl (zg rfl yh (zb rfl)) yS ?_
          refine zi rfl rfl (zO rfl yO rfl) yZ ?_
          refine zi rfl rfl (zd rfl yk y4 rfl) y8 ?_
          refine zi rfl rfl (zd rfl ym xd rfl) xk ?_
          refine zi rfl rfl (zq rfl xW xl rfl (zt rfl) (zb rfl)) xJ ?_
          refine zi rfl rfl (zq rfl ty47.choose_spec.1 yf rfl (zu (cs':=[.int .u64 (0:Int),.int .u8 e1.dot.actor.rep,.int .u32 e1.dot.actor.inc,.int .u64 e1.dot.seq,.str e1.op.text]) ty47.choose_spec.2 rfl rfl) (zb rfl)) xQ ?_
          refine zQ hF (fun v38 hv38 hF=>?_)
          refine wM rfl rfl (zC rfl rfl rfl (zo xL (zo xX (zo rfl zw))) (.cons (zb rfl) (.cons (zb rfl) (.cons (zb rfl) .nil)))) (vh (by exact (.cons (.row _ _ _ _ _ (by rw [yL];rfl) (by simp)) (.cons (.low _ rfl) (.cons (.low _ rfl) .nil)))) rfl (ok68 (fun _ _ v L M hv=>ok69  hv) hv38) (fun _ _ h=>h.1)) wb ?_
          refine zi rfl rfl (zg rfl wa (zb rfl)) yT ?_
          refine zi rfl rfl (zV rfl yY rfl (zb rfl)) wl ?_
          refine zi rfl rfl (zV rfl yY rfl (zb rfl)) wp ?_
          refine zi rfl rfl (zj rfl wq (zb rfl)) yV ?_
          refine zi rfl rfl (zj rfl wg (zb rfl)) xp ?_
          refine zX ?_
          refine zk ?_
          refine yb [] [] trivial mixed (by kernel_rfl) ?_
          refine zi rfl rfl (zg rfl yh (zb rfl)) wu ?_
          refine zi rfl rfl (zg rfl yh (zb rfl)) wz ?_
          refine zi rfl rfl (zO rfl wv rfl) wV ?_
          refine zi rfl rfl (zd rfl yk wD rfl) wU ?_
          refine zi rfl rfl (zd rfl ym w4 rfl) wG ?_
          refine zi rfl rfl (zq rfl xW wH rfl (zt rfl) (zb rfl)) w9 ?_
          refine zi rfl rfl (zg rfl yp (zb rfl)) w8 ?_
          refine zi rfl rfl (zq rfl ty47.choose_spec.1 yf rfl (zu (cs':=[.int .u64 (0:Int),.int .u8 e1.dot.actor.rep,.int .u32 e1.dot.actor.inc,.int .u64 e1.dot.seq,.str e1.op.text]) ty47.choose_spec.2 rfl rfl) (zb rfl)) w7 ?_
          refine zi rfl rfl (yq (es:=([(GItem.mk (0:Int) e1.dot e1.op.text)]:List GItem).map GItem.row) rfl yX ze47 rfl rfl (zK wZ zT) (.cons (zb rfl) .nil) rfl rfl rfl) wT ?_
          refine zQ hF (fun v39 hv39 hF=>?_)
          refine vV (by kernel_rfl) rfl FOk.nil rfl (zC rfl rfl rfl (zo we (zo va (zo wQ zw))) (.cons (zb rfl) (.cons (zb rfl) (.cons (zb rfl) .nil)))) (spec_insO ins70TryzLays (row:=GItem.row) (fun _=>rfl) hv39 (.inr rfl) (i:=4) (q:=0) (B':=[.cells [.int .u8 l0.typ,.int .i64 l0.n,.int .u64 l0.time,.int .u8 l0.dot.actor.rep,.int .u32 l0.dot.actor.inc,.int .u64 l0.dot.seq,.str l0.text,.rsl (h.blks.length+4) (h.toks.length+0) 5 ((v6).length),.rsl (h.blks.length+5) (h.toks.length+1) 3 ((v7).length)],.cells [.int .u8 e1.dot.actor.rep,.int .u32 e1.dot.actor.inc,.int .u64 e1.dot.seq,.int .u64 e1.time,.int .u8 e1.op.kind,.sl 1 (e1.op.path.map zG),.int .i64 e1.op.n,.str e1.op.text,.sl 3 (e1.op.dots.map GDot.row)],.cells [.int .u8 (0:Int),.int .i64 (0:Int),.int .u64 (0:Int),.int .u8 (0:Int),.int .u32 (0:Int),.int .u64 (0:Int),.str ([]:yn),.osl none 5 (([]:List GItem).map GItem.row),.osl none 3 (([]:List GDot).map GDot.row)],.mapo [(.int .u8 1,.fn (.func 31) [] []),(.int .u8 2,.fn (.func 32) [] []),(.int .u8 3,.fn (.func 33) [] []),(.int .u8 4,.fn (.func 34) [] []),(.int .u8 5,.fn (.func 35) [] [])] 0,.dead,.row (h.toks.length+1) 3 (v7.map GDot.row),.cells [.int .u8 l0.typ,.int .i64 l0.n,.int .u64 l0.time,.int .u8 l0.dot.actor.rep,.int .u32 l0.dot.actor.inc,.int .u64 l0.dot.seq,.str l0.text,.rsl (h.blks.length+4) (h.toks.length+0) 5 ((v6).length),.rsl (h.blks.length+5) (h.toks.length+1) 3 ((v7).length)],.cells [.int .u8 e1.dot.actor.rep,.int .u32 e1.dot.actor.inc,.int .u64 e1.dot.seq,.int .u64 e1.time,.int .u8 e1.op.kind,.sl 1 (e1.op.path.map zG),.int .i64 e1.op.n,.str e1.op.text,.sl 3 (e1.op.dots.map GDot.row)],.cells [.int .u64 (0:Int),.int .u8 e1.dot.actor.rep,.int .u32 e1.dot.actor.inc,.int .u64 e1.dot.seq,.str e1.op.text],.row (h.toks.length+2) 5 (v39.map GItem.row)]) (T':=[(v6).length+1,(v7).length,(v39).length]) rfl rfl rfl rfl rfl) wS ?_
          refine zi rfl rfl (zO rfl ww rfl) wR ?_
          refine zi rfl rfl (zd rfl yk wX rfl) vg ?_
          refine zi rfl rfl (zd rfl ym vn rfl) vf ?_
          refine yG rfl FOk.nil (by kernel_rfl) rfl (zP (cs':=[.int .u8 l0.typ,.int .i64 l0.n,.int .u64 l0.time,.int .u8 l0.dot.actor.rep,.int .u32 l0.dot.actor.inc,.int .u64 l0.dot.seq,.str l0.text,.rsl (h.blks.length+9) (h.toks.length+2) 5 ((v39).length),.rsl (h.blks.length+5) (h.toks.length+1) 3 ((v7).length)]) rfl xW vm wY (zb rfl) rfl rfl rfl rfl rfl) rfl ?_
          refine zX ?_
          refine qR ?_
          obtain rfl:=Option.some.inj hF
          refine x7 rfl zA (xZ (wk.trans ((wn (by exact (.keep (.keep (.keep (.keep (.keep (.keep (.keep (.keep (.dead (.keep .nil)))))))))))).wk) ((wK (jb:=6) (o:=7) (j:=9) (i:=2) (n2:=(v39).length) (B':=[.cells [.int .u8 l0.typ,.int .i64 l0.n,.int .u64 l0.time,.int .u8 l0.dot.actor.rep,.int .u32 l0.dot.actor.inc,.int .u64 l0.dot.seq,.str l0.text,.rsl (h.blks.length+4) (h.toks.length+0) 5 ((v6).length),.rsl (h.blks.length+5) (h.toks.length+1) 3 ((v7).length)],.cells [.int .u8 e1.dot.actor.rep,.int .u32 e1.dot.actor.inc,.int .u64 e1.dot.seq,.int .u64 e1.time,.int .u8 e1.op.kind,.sl 1 (e1.op.path.map zG),.int .i64 e1.op.n,.str e1.op.text,.sl 3 (e1.op.dots.map GDot.row)],.cells [.int .u8 (0:Int),.int .i64 (0:Int),.int .u64 (0:Int),.int .u8 (0:Int),.int .u32 (0:Int),.int .u64 (0:Int),.str ([]:yn),.osl none 5 (([]:List GItem).map GItem.row),.osl none 3 (([]:List GDot).map GDot.row)],.mapo [(.int .u8 1,.fn (.func 31) [] []),(.int .u8 2,.fn (.func 32) [] []),(.int .u8 3,.fn (.func 33) [] []),(.int .u8 4,.fn (.func 34) [] []),(.int .u8 5,.fn (.func 35) [] [])] 0,.dead,.row (h.toks.length+1) 3 (v7.map GDot.row),.cells [.int .u8 l0.typ,.int .i64 l0.n,.int .u64 l0.time,.int .u8 l0.dot.actor.rep,.int .u32 l0.dot.actor.inc,.int .u64 l0.dot.seq,.str l0.text,.rsl (h.blks.length+10) (h.toks.length+3) 5 ((v39).length),.rsl (h.blks.length+5) (h.toks.length+1) 3 ((v7).length)],.cells [.int .u8 e1.dot.actor.rep,.int .u32 e1.dot.actor.inc,.int .u64 e1.dot.seq,.int .u64 e1.time,.int .u8 e1.op.kind,.sl 1 (e1.op.path.map zG),.int .i64 e1.op.n,.str e1.op.text,.sl 3 (e1.op.dots.map GDot.row)],.dead,.dead,.row (h.toks.length+3) 5 (v39.map GItem.row)]) (T':=[(v6).length+1,(v7).length,(v39).length+1,(v39).length]) rfl rfl rfl (by simp) rfl rfl rfl rfl rfl rfl).wk)) ?_)
          exact ⟨rfl,((v6).length+1,(v39).length+1),rfl⟩
        ·refine zf (qR ?_)
         obtain rfl:=Option.some.inj hF
         refine x7 rfl zA (xZ (wk.trans ((wn (by exact (.keep (.keep (.keep (.keep (.keep (.keep (.keep (.dead (.keep (.keep (.keep .nil))))))))))))).wk) ((wK (jb:=6) (o:=7) (j:=10) (i:=3) (n2:=(v31).length) (B':=[.cells [.int .u8 l0.typ,.int .i64 l0.n,.int .u64 l0.time,.int .u8 l0.dot.actor.rep,.int .u32 l0.dot.actor.inc,.int .u64 l0.dot.seq,.str l0.text,.rsl (h.blks.length+4) (h.toks.length+0) 5 ((v6).length),.rsl (h.blks.length+5) (h.toks.length+1) 3 ((v7).length)],.cells [.int .u8 e1.dot.actor.rep,.int .u32 e1.dot.actor.inc,.int .u64 e1.dot.seq,.int .u64 e1.time,.int .u8 e1.op.kind,.sl 1 (e1.op.path.map zG),.int .i64 e1.op.n,.str e1.op.text,.sl 3 (e1.op.dots.map GDot.row)],.cells [.int .u8 (0:Int),.int .i64 (0:Int),.int .u64 (0:Int),.int .u8 (0:Int),.int .u32 (0:Int),.int .u64 (0:Int),.str ([]:yn),.osl none 5 (([]:List GItem).map GItem.row),.osl none 3 (([]:List GDot).map GDot.row)],.mapo [(.int .u8 1,.fn (.func 31) [] []),(.int .u8 2,.fn (.func 32) [] []),(.int .u8 3,.fn (.func 33) [] []),(.int .u8 4,.fn (.func 34) [] []),(.int .u8 5,.fn (.func 35) [] [])] 0,.dead,.row (h.toks.length+1) 3 (v7.map GDot.row),.cells [.int .u8 l0.typ,.int .i64 l0.n,.int .u64 l0.time,.int .u8 l0.dot.actor.rep,.int .u32 l0.dot.actor.inc,.int .u64 l0.dot.seq,.str l0.text,.rsl (h.blks.length+11) (h.toks.length+4) 5 ((v31).length),.rsl (h.blks.length+5) (h.toks.length+1) 3 ((v7).length)],.dead,.dead,.dead,.dead,.row (h.toks.length+4) 5 (v31.map GItem.row)]) (T':=[n_v31.1,(v7).length,n_v31.2,(v31).length+1,(v31).length]) rfl rfl rfl (by simp) rfl rfl rfl rfl rfl rfl).wk)) ?_)
         exact ⟨rfl,(n_v31.1,n_v31.2,(v31).length+1),rfl⟩
       ·refine zN (qR ?_)
        obtain rfl:=Option.some.inj hF
        refine x7 rfl zA (xZ (wk.trans ((wn (by exact (.keep (.keep (.keep (.keep (.keep (.keep (.keep (.dead .nil)))))))))).wk) (wk.trans ((qg rfl).wk) (wk.trans ((qg rfl).wk) (wk.trans ((qg rfl).wk) (wk.trans ((swk_padT (n:=0) rfl).wk) (wk.trans ((swk_padT (n:=0) rfl).wk) ((wK (jb:=6) (o:=7) (j:=4) (i:=0) (n2:=(v6).length) (B':=[.cells [.int .u8 l0.typ,.int .i64 l0.n,.int .u64 l0.time,.int .u8 l0.dot.actor.rep,.int .u32 l0.dot.actor.inc,.int .u64 l0.dot.seq,.str l0.text,.rsl (h.blks.length+4) (h.toks.length+0) 5 ((v6).length),.rsl (h.blks.length+5) (h.toks.length+1) 3 ((v7).length)],.cells [.int .u8 e1.dot.actor.rep,.int .u32 e1.dot.actor.inc,.int .u64 e1.dot.seq,.int .u64 e1.time,.int .u8 e1.op.kind,.sl 1 (e1.op.path.map zG),.int .i64 e1.op.n,.str e1.op.text,.sl 3 (e1.op.dots.map GDot.row)],.cells [.int .u8 (0:Int),.int .i64 (0:Int),.int .u64 (0:Int),.int .u8 (0:Int),.int .u32 (0:Int),.int .u64 (0:Int),.str ([]:yn),.osl none 5 (([]:List GItem).map GItem.row),.osl none 3 (([]:List GDot).map GDot.row)],.mapo [(.int .u8 1,.fn (.func 31) [] []),(.int .u8 2,.fn (.func 32) [] []),(.int .u8 3,.fn (.func 33) [] []),(.int .u8 4,.fn (.func 34) [] []),(.int .u8 5,.fn (.func 35) [] [])] 0,.dead,.row (h.toks.length+1) 3 (v7.map GDot.row),.cells [.int .u8 l0.typ,.int .i64 l0.n,.int .u64 l0.time,.int .u8 l0.dot.actor.rep,.int .u32 l0.dot.actor.inc,.int .u64 l0.dot.seq,.str l0.text,.rsl (h.blks.length+11) (h.toks.length+4) 5 ((v6).length),.rsl (h.blks.length+5) (h.toks.length+1) 3 ((v7).length)],.dead,.dead,.dead,.dead,.row (h.toks.length+4) 5 (v6.map GItem.row)]) (T':=[(v6).length+1,(v7).length,0,0,(v6).length]) rfl rfl rfl (by simp) rfl rfl rfl rfl rfl rfl).wk))))))) ?_)
        exact ⟨rfl,((v6).length+1,0,0),rfl⟩
      ·refine zf (zk (zn (ze ?_)))
       refine zc rfl (zg rfl xu (zb rfl)) (sk yS) ?_
       refine zc rfl (zO rfl (gk yO) rfl) (sk yZ) ?_
       refine zc rfl (zd rfl yk (gk y4) rfl) (sk y8) ?_
       refine zc rfl (zq rfl ty31.choose_spec.1 (gk xd) rfl (zu (cs':=[.int .u8 l0.typ,.int .i64 l0.n,.int .u64 l0.time,.int .u8 l0.dot.actor.rep,.int .u32 l0.dot.actor.inc,.int .u64 l0.dot.seq,.str l0.text,.rsl (h.blks.length+11) (h.toks.length+4) 5 ((v17).length),.rsl (h.blks.length+5) (h.toks.length+1) 3 ((v7).length)]) ty31.choose_spec.2 rfl rfl) (zb rfl)) (sk xk) ?_
       refine zc rfl (zP (cs':=[.int .u8 l0.typ,.int .i64 l0.n,.int .u64 l0.time,.int .u8 l0.dot.actor.rep,.int .u32 l0.dot.actor.inc,.int .u64 l0.dot.seq,.str l0.text,.rsl (h.blks.length+11) (h.toks.length+4) 5 ((v17).length),.rsl (h.blks.length+5) (h.toks.length+1) 3 ((v7).length)]) rfl ty31.choose_spec.1 yp (gk xl) (zb rfl) rfl rfl rfl rfl rfl) rfl ?_
       refine zc rfl (zj rfl rfl (zb rfl)) xp ?_
       refine zf (zk (zJ ?_))
       obtain rfl:=Option.some.inj hF
       refine xU rfl (xg ty31.choose_spec.1 yp rfl (zu (cs':=[.int .u8 l0.typ,.int .i64 l0.n,.int .u64 l0.time,.int .u8 l0.dot.actor.rep,.int .u32 l0.dot.actor.inc,.int .u64 l0.dot.seq,.str l0.text,.rsl (h.blks.length+11) (h.toks.length+4) 5 ((v17).length),.rsl (h.blks.length+5) (h.toks.length+1) 3 ((v7).length)]) ty31.choose_spec.2 rfl rfl) (zb rfl) (zH yR zA)) (qB (ps:=[.int .u8 l0.typ,.int .i64 l0.n,.int .u64 l0.time,.int .u8 l0.dot.actor.rep,.int .u32 l0.dot.actor.inc,.int .u64 l0.dot.seq,.str l0.text]) (qq (j:=11) (i:=4) rfl (by simp)) (qq (j:=5) (i:=1) rfl (by simp)) (by decide) rfl rfl rfl ?_)
       exact ⟨by simp only [List.length_map];try rfl,by simp only [List.length_map];try rfl⟩
     ·refine iteF hF (fun hk40 hF=>?_) (fun hk40 hF=>?_)
      ·refine zc rfl (e_lookF (j:=3) (n:=4) rfl Tryz.underlying64 Tryz.underlying5 (gk yf) rfl (gk xh) hk40 (zY Tryz.underlying5 (by decide) (zY Tryz.underlying5 (by decide) (zY Tryz.underlying5 (by decide) (qm Tryz.underlying5))))) (sk xN) ?_
       refine zc rfl (zg rfl (gk xu) (zb rfl)) (sk xf) ?_
       refine zc rfl (zV rfl (gk yv) rfl (zb rfl)) (sk xC) ?_
       refine zc rfl (zV rfl (gk yv) rfl (zb rfl)) (sk xR) ?_
       refine zc rfl (zj rfl (gk xr) (zb rfl)) xC ?_
       refine zc rfl (zj rfl (gk xK) (zb rfl)) xR ?_
       refine zf (zk (zn (ze ?_)))
       refine zc rfl (zg rfl xK (zb rfl)) (sk yy) ?_
       refine zf (zk ?_)
       refine vQ (gk yw) (fun _=>?_) (fun hh=>by cases hh)
       refine ze ?_
       refine zc rfl (zg rfl xr (zb rfl)) (sk yx) ?_
       refine zc rfl (zg rfl xu (zb rfl)) (sk yE) ?_
       refine zc rfl (zq rfl ty36.choose_spec.1 yf rfl (zu (cs':=[.int .u8 e1.dot.actor.rep,.int .u32 e1.dot.actor.inc,.int .u64 e1.dot.seq,.int .u64 e1.time,.int .u8 e1.op.kind,.sl 1 (e1.op.path.map zG),.int .i64 e1.op.n,.str e1.op.text,.sl 3 (e1.op.dots.map GDot.row)]) ty36.choose_spec.2 rfl rfl) (zb rfl)) (sk yK) ?_
       refine zQ hF (fun v41 hv41 hF=>?_)
       refine vL (X:=Nat×Nat×Nat×Nat) (v:=.tup []) (H':=fun n_v41=>h.ext [.cells [.int .u8 l0.typ,.int .i64 l0.n,.int .u64 l0.time,.int .u8 l0.dot.actor.rep,.int .u32 l0.dot.actor.inc,.int .u64 l0.dot.seq,.str l0.text,.rsl (h.blks.length+4) (h.toks.length+0) 5 ((v6).length),.rsl (h.blks.length+5) (h.toks.length+1) 3 ((v7).length)],.cells [.int .u8 e1.dot.actor.rep,.int .u32 e1.dot.actor.inc,.int .u64 e1.dot.seq,.int .u64 e1.time,.int .u8 e1.op.kind,.sl 1 (e1.op.path.map zG),.int .i64 e1.op.n,.str e1.op.text,.sl 3 (e1.op.dots.map GDot.row)],.cells [.int .u8 (0:Int),.int .i64 (0:Int),.int .u64 (0:Int),.int .u8 (0:Int),.int .u32 (0:Int),.int .u64 (0:Int),.str ([]:yn),.osl none 5 (([]:List GItem).map GItem.row),.osl none 3 (([]:List GDot).map GDot.row)],.mapo [(.int .u8 1,.fn (.func 31) [] []),(.int .u8 2,.fn (.func 32) [] []),(.int .u8 3,.fn (.func 33) [] []),(.int .u8 4,.fn (.func 34) [] []),(.int .u8 5,.fn (.func 35) [] [])] 0,.dead,.dead,.cells [.int .u8 l0.typ,.int .i64 l0.n,.int .u64 l0.time,.int .u8 l0.dot.actor.rep,.int .u32 l0.dot.actor.inc,.int .u64 l0.dot.seq,.str l0.text,.rsl (h.blks.length+11) (h.toks.length+5) 5 ((v41.2).length),.rsl (h.blks.length+9) (h.toks.length+3) 3 ((v41.1).length)],.dead,.dead,.row (h.toks.length+3) 3 (v41.1.map GDot.row),.dead,.row (h.toks.length+5) 5 (v41.2.map GItem.row)] [n_v41.1,n_v41.2.1,n_v41.2.2.1,(v41.1).length,n_v41.2.2.2,(v41.2).length]) rfl (zC rfl rfl (gk yr) (zo (gk yD) (zo (gk yI) zw)) (.cons (zb rfl) (.cons (zb rfl) .nil))) ?_ (sk yT) (fun n_v41=>?_)
       ·replace hF:=hv41
        refine yz Tryz.func34 rfl (by kernel_rfl) (env:=[.ptr (h.blks.length+6) 0,.agg [.int .u8 e1.dot.actor.rep,.int .u32 e1.dot.actor.inc,.int .u64 e1.dot.seq,.int .u64 e1.time,.int .u8 e1.op.kind,.sl 1 (e1.op.path.map zG),.int .i64 e1.op.n,.str e1.op.text,.sl 3 (e1.op.dots.map GDot.row)],za,za,za,za,za,za,za,za,za,za,za,za,za,za,za,za,za,za,za,za,za,za,za,za,za,za,za,za,za,za,za,za,za,za,za,za,za,za,za,za,za,za]) (by rfl) ?_
        refine zn (ze ?_)
        refine zc rfl (yF (n:=7) rfl yB (zb rfl) rfl rfl) x5 ?_
        refine zf (zk (zn ?_))
        refine yb [] [] trivial mixed (by kernel_rfl) ?_
        refine zi rfl rfl (zg rfl yh (zb rfl)) yV ?_
        refine zi rfl rfl (zg rfl yh (zb rfl)) xp ?_
        refine zi rfl rfl (zO rfl yR rfl) xI ?_
        refine zi rfl rfl (zd rfl yk xh rfl) xN ?_
        refine zi rfl rfl (zd rfl y5 xu rfl) xC ?_
        refine zi rfl rfl (zq rfl xP xr rfl (zt rfl) (zb rfl)) xR ?_
        refine zi rfl rfl (zd rfl wd yf rfl) yy ?_
        refine zi rfl rfl (zd rfl vJ yw rfl) yx ?_
        refine zi rfl rfl (zq rfl xP yr rfl (zt rfl) (zb rfl)) yE ?_
        refine vz hF (fun hm46 hF=>?_)
        refine yG rfl FOk.nil (by kernel_rfl) rfl (e_appR (i:=5) (j:=1) (B':=[.cells [.int .u8 l0.typ,.int .i64 l0.n,.int .u64 l0.time,.int .u8 l0.dot.actor.rep,.int .u32 l0.dot.actor.inc,.int .u64 l0.dot.seq,.str l0.text,.rsl (h.blks.length+4) (h.toks.length+0) 5 ((v6).length),.rsl (h.blks.length+5) (h.toks.length+1) 3 ((v7).length)],.cells [.int .u8 e1.dot.actor.rep,.int .u32 e1.dot.actor.inc,.int .u64 e1.dot.seq,.int .u64 e1.time,.int .u8 e1.op.kind,.sl 1 (e1.op.path.map zG),.int .i64 e1.op.n,.str e1.op.text,.sl 3 (e1.op.dots.map GDot.row)],.cells [.int .u8 (0:Int),.int .i64 (0:Int),.int .u64 (0:Int),.int .u8 (0:Int),.int .u32 (0:Int),.int .u64 (0:Int),.str ([]:yn),.osl none 5 (([]:List GItem).map GItem.row),.osl none 3 (([]:List GDot).map GDot.row)],.mapo [(.int .u8 1,.fn (.func 31) [] []),(.int .u8 2,.fn (.func 32) [] []),(.int .u8 3,.fn (.func 33) [] []),(.int .u8 4,.fn (.func 34) [] []),(.int .u8 5,.fn (.func 35) [] [])] 0,.row (h.toks.length+0) 5 (v6.map GItem.row),.row (h.toks.length+1) 3 ((v7++e1.op.dots).map GDot.row),.cells [.int .u8 l0.typ,.int .i64 l0.n,.int .u64 l0.time,.int .u8 l0.dot.actor.rep,.int .u32 l0.dot.actor.inc,.int .u64 l0.dot.seq,.str l0.text,.rsl (h.blks.length+4) (h.toks.length+0) 5 ((v6).length),.rsl (h.blks.length+5) (h.toks.length+1) 3 ((v7).length)],.cells [.int .u8 e1.dot.actor.rep,.int .u32 e1.dot.actor.inc,.int .u64 e1.dot.seq,.int .u64 e1.time,.int .u8 e1.op.kind,.sl 1 (e1.op.path.map zG),.int .i64 e1.op.n,.str e1.op.text,.sl 3 (e1.op.dots.map GDot.row)]]) (T':=[(v6).length,((v7++e1.op.dots)).length]) rfl rfl rfl rfl yU yU xK yD rfl (zb rfl) qI hm46 rfl rfl rfl rfl rfl) yK ?_
        refine zi rfl rfl (zO rfl yp rfl) yT ?_
        refine zi rfl rfl (zd rfl yk yY rfl) yS ?_
        refine zi rfl rfl (zd rfl y5 yO rfl) yZ ?_
        refine yG rfl FOk.nil (by kernel_rfl) rfl (zP (cs':=[.int .u8 l0.typ,.int .i64 l0.n,.int .u64 l0.time,.int .u8 l0.dot.actor.rep,.int .u32 l0.dot.actor.inc,.int .u64 l0.dot.seq,.str l0.text,.rsl (h.blks.length+4) (h.toks.length+0) 5 ((v6).length),.rsl (h.blks.length+5) (h.toks.length+1) 3 (((v7++e1.op.dots)).length)]) rfl xP y4 yI (zb rfl) rfl rfl rfl rfl rfl) rfl ?_
        refine zX ?_
        refine zk (zn (ze ?_))
        refine zc rfl (zg rfl yh (zb rfl)) y8 ?_
        refine zc rfl (zO rfl xd rfl) xk ?_
        refine zc rfl (zd rfl yk xl rfl) xJ ?_
        refine zc rfl (zd rfl y5 xL rfl) xQ ?_
        refine zc rfl (zq rfl xP xX rfl (zt rfl) (zb rfl)) wb ?_
        refine zQ hF (fun v47 hv47 hF=>?_)
        refine ops_callH rfl (zC rfl rfl rfl (zo wa (zo rfl zw)) (.cons (zb rfl) (.cons (zb rfl) .nil))) (spec_sortO sort54TryzLays Tryz.isAgg27 Tryz.sizeOf27 (fun _=>rfl) (fun _=>rfl) (enters_fn Tryz.func45 rfl (by kernel_rfl)) (fun _ _ _ h=>ok45 h) hv47 (i:=5) (B':=[.cells [.int .u8 l0.typ,.int .i64 l0.n,.int .u64 l0.time,.int .u8 l0.dot.actor.rep,.int .u32 l0.dot.actor.inc,.int .u64 l0.dot.seq,.str l0.text,.rsl (h.blks.length+4) (h.toks.length+0) 5 ((v6).length),.rsl (h.blks.length+5) (h.toks.length+1) 3 ((v7).length)],.cells [.int .u8 e1.dot.actor.rep,.int .u32 e1.dot.actor.inc,.int .u64 e1.dot.seq,.int .u64 e1.time,.int .u8 e1.op.kind,.sl 1 (e1.op.path.map zG),.int .i64 e1.op.n,.str e1.op.text,.sl 3 (e1.op.dots.map GDot.row)],.cells [.int .u8 (0:Int),.int .i64 (0:Int),.int .u64 (0:Int),.int .u8 (0:Int),.int .u32 (0:Int),.int .u64 (0:Int),.str ([]:yn),.osl none 5 (([]:List GItem).map GItem.row),.osl none 3 (([]:List GDot).map GDot.row)],.mapo [(.int .u8 1,.fn (.func 31) [] []),(.int .u8 2,.fn (.func 32) [] []),(.int .u8 3,.fn (.func 33) [] []),(.int .u8 4,.fn (.func 34) [] []),(.int .u8 5,.fn (.func 35) [] [])] 0,.row (h.toks.length+0) 5 (v6.map GItem.row),.row (h.toks.length+1) 3 (v47.map GDot.row),.cells [.int .u8 l0.typ,.int .i64 l0.n,.int .u64 l0.time,.int .u8 l0.dot.actor.rep,.int .u32 l0.dot.actor.inc,.int .u64 l0.dot.seq,.str l0.text,.rsl (h.blks.length+4) (h.toks.length+0) 5 ((v6).length),.rsl (h.blks.length+5) (h.toks.length+1) 3 (((v7++e1.op.dots)).length)],.cells [.int .u8 e1.dot.actor.rep,.int .u32 e1.dot.actor.inc,.int .u64 e1.dot.seq,.int .u64 e1.time,.int .u8 e1.op.kind,.sl 1 (e1.op.path.map zG),.int .i64 e1.op.n,.str e1.op.text,.sl 3 (e1.op.dots.map GDot.row)]]) rfl rfl) wl ?_
        refine zf (zk (zn (ze ?_)))
        refine zc rfl (zg rfl yh (zb rfl)) wp ?_
        refine zc rfl (zg rfl yh (zb rfl)) wu ?_
        refine zc rfl (zO rfl ww rfl) wz ?_
        refine zc rfl (zd rfl yk wv rfl) wV ?_
        refine zc rfl (zd rfl y5 wD rfl) wU ?_
        refine zc rfl (zq rfl xP w4 rfl (zt rfl) (zb rfl)) wG ?_
        refine ops_swk (swk_move (j:=5) (i:=1) (n2:=(v47).length) (B':=[.cells [.int .u8 l0.typ,.int .i64 l0.n,.int .u64 l0.time,.int .u8 l0.dot.actor.rep,.int .u32 l0.dot.actor.inc,.int .u64 l0.dot.seq,.str l0.text,.rsl (h.blks.length+4) (h.toks.length+0) 5 ((v6).length),.rsl (h.blks.length+5) (h.toks.length+1) 3 ((v7).length)],.cells [.int .u8 e1.dot.actor.rep,.int .u32 e1.dot.actor.inc,.int .u64 e1.dot.seq,.int .u64 e1.time,.int .u8 e1.op.kind,.sl 1 (e1.op.path.map zG),.int .i64 e1.op.n,.str e1.op.text,.sl 3 (e1.op.dots.map GDot.row)],.cells [.int .u8 (0:Int),.int .i64 (0:Int),.int .u64 (0:Int),.int .u8 (0:Int),.int .u32 (0:Int),.int .u64 (0:Int),.str ([]:yn),.osl none 5 (([]:List GItem).map GItem.row),.osl none 3 (([]:List GDot).map GDot.row)],.mapo [(.int .u8 1,.fn (.func 31) [] []),(.int .u8 2,.fn (.func 32) [] []),(.int .u8 3,.fn (.func 33) [] []),(.int .u8 4,.fn (.func 34) [] []),(.int .u8 5,.fn (.func 35) [] [])] 0,.row (h.toks.length+0) 5 (v6.map GItem.row),.dead,.cells [.int .u8 l0.typ,.int .i64 l0.n,.int .u64 l0.time,.int .u8 l0.dot.actor.rep,.int .u32 l0.dot.actor.inc,.int .u64 l0.dot.seq,.str l0.text,.rsl (h.blks.length+4) (h.toks.length+0) 5 ((v6).length),.rsl (h.blks.length+5) (h.toks.length+1) 3 (((v7++e1.op.dots)).length)],.cells [.int .u8 e1.dot.actor.rep,.int .u32 e1.dot.actor.inc,.int .u64 e1.dot.seq,.int .u64 e1.time,.int .u8 e1.op.kind,.sl 1 (e1.op.path.map zG),.int .i64 e1.op.n,.str e1.op.text,.sl 3 (e1.op.dots.map GDot.row)],.row (h.toks.length+2) 3 (v47.map GDot.row)]) (T':=[(v6).length,(v47).length+1,(v47).length]) wH rfl (by rw [List.length_map];exact sortO_len hv47) (sortO_len hv47).symm rfl rfl wG rfl rfl) ?_
        refine zQ hF (fun v48 hv48 hF=>?_)
        refine ops_turn (B1:=[.cells [.int .u8 l0.typ,.int .i64 l0.n,.int .u64 l0.time,.int .u8 l0.dot.actor.rep,.int .u32 l0.dot.actor.inc,.int .u64 l0.dot.seq,.str l0.text,.rsl (h.blks.length+4) (h.toks.length+0) 5 ((v6).length),.rsl (h.blks.length+5) (h.toks.length+1) 3 ((v7).length)],.cells [.int .u8 e1.dot.actor.rep,.int .u32 e1.dot.actor.inc,.int .u64 e1.dot.seq,.int .u64 e1.time,.int .u8 e1.op.kind,.sl 1 (e1.op.path.map zG),.int .i64 e1.op.n,.str e1.op.text,.sl 3 (e1.op.dots.map GDot.row)],.cells [.int .u8 (0:Int),.int .i64 (0:Int),.int .u64 (0:Int),.int .u8 (0:Int),.int .u32 (0:Int),.int .u64 (0:Int),.str ([]:yn),.osl none 5 (([]:List GItem).map GItem.row),.osl none 3 (([]:List GDot).map GDot.row)],.mapo [(.int .u8 1,.fn (.func 31) [] []),(.int .u8 2,.fn (.func 32) [] []),(.int .u8 3,.fn (.func 33) [] []),(.int .u8 4,.fn (.func 34) [] []),(.int .u8 5,.fn (.func 35) [] [])] 0,.row (h.toks.length+0) 5 (v6.map GItem.row),.dead,.cells [.int .u8 l0.typ,.int .i64 l0.n,.int .u64 l0.time,.int .u8 l0.dot.actor.rep,.int .u32 l0.dot.actor.inc,.int .u64 l0.dot.seq,.str l0.text,.rsl (h.blks.length+4) (h.toks.length+0) 5 ((v6).length),.rsl (h.blks.length+5) (h.toks.length+1) 3 (((v7++e1.op.dots)).length)],.cells [.int .u8 e1.dot.actor.rep,.int .u32 e1.dot.actor.inc,.int .u64 e1.dot.seq,.int .u64 e1.time,.int .u8 e1.op.kind,.sl 1 (e1.op.path.map zG),.int .i64 e1.op.n,.str e1.op.text,.sl 3 (e1.op.dots.map GDot.row)]]) (T1:=[(v6).length,(v47).length+1]) (j:=8) (i:=2) (B':=[.cells [.int .u8 l0.typ,.int .i64 l0.n,.int .u64 l0.time,.int .u8 l0.dot.actor.rep,.int .u32 l0.dot.actor.inc,.int .u64 l0.dot.seq,.str l0.text,.rsl (h.blks.length+4) (h.toks.length+0) 5 ((v6).length),.rsl (h.blks.length+5) (h.toks.length+1) 3 ((v7).length)],.cells [.int .u8 e1.dot.actor.rep,.int .u32 e1.dot.actor.inc,.int .u64 e1.dot.seq,.int .u64 e1.time,.int .u8 e1.op.kind,.sl 1 (e1.op.path.map zG),.int .i64 e1.op.n,.str e1.op.text,.sl 3 (e1.op.dots.map GDot.row)],.cells [.int .u8 (0:Int),.int .i64 (0:Int),.int .u64 (0:Int),.int .u8 (0:Int),.int .u32 (0:Int),.int .u64 (0:Int),.str ([]:yn),.osl none 5 (([]:List GItem).map GItem.row),.osl none 3 (([]:List GDot).map GDot.row)],.mapo [(.int .u8 1,.fn (.func 31) [] []),(.int .u8 2,.fn (.func 32) [] []),(.int .u8 3,.fn (.func 33) [] []),(.int .u8 4,.fn (.func 34) [] []),(.int .u8 5,.fn (.func 35) [] [])] 0,.row (h.toks.length+0) 5 (v6.map GItem.row),.dead,.cells [.int .u8 l0.typ,.int .i64 l0.n,.int .u64 l0.time,.int .u8 l0.dot.actor.rep,.int .u32 l0.dot.actor.inc,.int .u64 l0.dot.seq,.str l0.text,.rsl (h.blks.length+4) (h.toks.length+0) 5 ((v6).length),.rsl (h.blks.length+5) (h.toks.length+1) 3 (((v7++e1.op.dots)).length)],.cells [.int .u8 e1.dot.actor.rep,.int .u32 e1.dot.actor.inc,.int .u64 e1.dot.seq,.int .u64 e1.time,.int .u8 e1.op.kind,.sl 1 (e1.op.path.map zG),.int .i64 e1.op.n,.str e1.op.text,.sl 3 (e1.op.dots.map GDot.row)],.dead,.row (h.toks.length+3) 3 (v48.map GDot.row)]) rfl (zC rfl rfl rfl (zo wH zw) (.cons (zb rfl) .nil)) (okR55 (by simp [AH.ext]) (by simp [AH.ext]) hv48) rfl rfl w9 rfl (fun n_v48=>?_)
        refine zc rfl (zO rfl wg rfl) w8 ?_
        refine zc rfl (zd rfl yk va rfl) w7 ?_
        refine zc rfl (zd rfl y5 wZ rfl) wT ?_
        refine zc rfl (zP (cs':=[.int .u8 l0.typ,.int .i64 l0.n,.int .u64 l0.time,.int .u8 l0.dot.actor.rep,.int .u32 l0.dot.actor.inc,.int .u64 l0.dot.seq,.str l0.text,.rsl (h.blks.length+4) (h.toks.length+0) 5 ((v6).length),.rsl (h.blks.length+9) (h.toks.length+3) 3 ((v48).length)]) rfl xP wQ we (zb rfl) rfl rfl rfl rfl rfl) rfl ?_
        refine zf (zk (ze ?_))
        refine zc rfl (zg rfl yh (zb rfl)) wS ?_
        refine zc rfl (zg rfl yh (zb rfl)) wR ?_
        refine zc rfl (zO rfl wX rfl) vg ?_
        refine zc rfl (zd rfl yk vn rfl) vf ?_
        refine zc rfl (zd rfl ym vm rfl) vI ?_
        refine zc rfl (zq rfl xW vC rfl (zt rfl) (zb rfl)) vN ?_
        refine zc rfl (s_makeFunc rfl rfl rfl) vZ ?_
        refine ops_swk (swk_move (j:=4) (i:=0) (n2:=(v6).length) (B':=[.cells [.int .u8 l0.typ,.int .i64 l0.n,.int .u64 l0.time,.int .u8 l0.dot.actor.rep,.int .u32 l0.dot.actor.inc,.int .u64 l0.dot.seq,.str l0.text,.rsl (h.blks.length+4) (h.toks.length+0) 5 ((v6).length),.rsl (h.blks.length+5) (h.toks.length+1) 3 ((v7).length)],.cells [.int .u8 e1.dot.actor.rep,.int .u32 e1.dot.actor.inc,.int .u64 e1.dot.seq,.int .u64 e1.time,.int .u8 e1.op.kind,.sl 1 (e1.op.path.map zG),.int .i64 e1.op.n,.str e1.op.text,.sl 3 (e1.op.dots.map GDot.row)],.cells [.int .u8 (0:Int),.int .i64 (0:Int),.int .u64 (0:Int),.int .u8 (0:Int),.int .u32 (0:Int),.int .u64 (0:Int),.str ([]:yn),.osl none 5 (([]:List GItem).map GItem.row),.osl none 3 (([]:List GDot).map GDot.row)],.mapo [(.int .u8 1,.fn (.func 31) [] []),(.int .u8 2,.fn (.func 32) [] []),(.int .u8 3,.fn (.func 33) [] []),(.int .u8 4,.fn (.func 34) [] []),(.int .u8 5,.fn (.func 35) [] [])] 0,.dead,.dead,.cells [.int .u8 l0.typ,.int .i64 l0.n,.int .u64 l0.time,.int .u8 l0.dot.actor.rep,.int .u32 l0.dot.actor.inc,.int .u64 l0.dot.seq,.str l0.text,.rsl (h.blks.length+4) (h.toks.length+0) 5 ((v6).length),.rsl (h.blks.length+9) (h.toks.length+3) 3 ((v48).length)],.cells [.int .u8 e1.dot.actor.rep,.int .u32 e1.dot.actor.inc,.int .u64 e1.dot.seq,.int .u64 e1.time,.int .u8 e1.op.kind,.sl 1 (e1.op.path.map zG),.int .i64 e1.op.n,.str e1.op.text,.sl 3 (e1.op.dots.map GDot.row)],.dead,.row (h.toks.length+3) 3 (v48.map GDot.row),.row (h.toks.length+4) 5 (v6.map GItem.row)]) (T':=[(v6).length+1,(v47).length+1,n_v48,(v48).length,(v6).length]) vO rfl (by simp) rfl rfl rfl vN rfl rfl) ?_
        refine zQ hF (fun v49 hv49 hF=>?_)
        refine ops_turn (B1:=[.cells [.int .u8 l0.typ,.int .i64 l0.n,.int .u64 l0.time,.int .u8 l0.dot.actor.rep,.int .u32 l0.dot.actor.inc,.int .u64 l0.dot.seq,.str l0.text,.rsl (h.blks.length+4) (h.toks.length+0) 5 ((v6).length),.rsl (h.blks.length+5) (h.toks.length+1) 3 ((v7).length)],.cells [.int .u8 e1.dot.actor.rep,.int .u32 e1.dot.actor.inc,.int .u64 e1.dot.seq,.int .u64 e1.time,.int .u8 e1.op.kind,.sl 1 (e1.op.path.map zG),.int .i64 e1.op.n,.str e1.op.text,.sl 3 (e1.op.dots.map GDot.row)],.cells [.int .u8 (0:Int),.int .i64 (0:Int),.int .u64 (0:Int),.int .u8 (0:Int),.int .u32 (0:Int),.int .u64 (0:Int),.str ([]:yn),.osl none 5 (([]:List GItem).map GItem.row),.osl none 3 (([]:List GDot).map GDot.row)],.mapo [(.int .u8 1,.fn (.func 31) [] []),(.int .u8 2,.fn (.func 32) [] []),(.int .u8 3,.fn (.func 33) [] []),(.int .u8 4,.fn (.func 34) [] []),(.int .u8 5,.fn (.func 35) [] [])] 0,.dead,.dead,.cells [.int .u8 l0.typ,.int .i64 l0.n,.int .u64 l0.time,.int .u8 l0.dot.actor.rep,.int .u32 l0.dot.actor.inc,.int .u64 l0.dot.seq,.str l0.text,.rsl (h.blks.length+4) (h.toks.length+0) 5 ((v6).length),.rsl (h.blks.length+9) (h.toks.length+3) 3 ((v48).length)],.cells [.int .u8 e1.dot.actor.rep,.int .u32 e1.dot.actor.inc,.int .u64 e1.dot.seq,.int .u64 e1.time,.int .u8 e1.op.kind,.sl 1 (e1.op.path.map zG),.int .i64 e1.op.n,.str e1.op.text,.sl 3 (e1.op.dots.map GDot.row)],.dead,.row (h.toks.length+3) 3 (v48.map GDot.row)]) (T1:=[(v6).length+1,(v47).length+1,n_v48,(v48).length]) (j:=10) (i:=4) (B':=[.cells [.int .u8 l0.typ,.int .i64 l0.n,.int .u64 l0.time,.int .u8 l0.dot.actor.rep,.int .u32 l0.dot.actor.inc,.int .u64 l0.dot.seq,.str l0.text,.rsl (h.blks.length+4) (h.toks.length+0) 5 ((v6).length),.rsl (h.blks.length+5) (h.toks.length+1) 3 ((v7).length)],.cells [.int .u8 e1.dot.actor.rep,.int .u32 e1.dot.actor.inc,.int .u64 e1.dot.seq,.int .u64 e1.time,.int .u8 e1.op.kind,.sl 1 (e1.op.path.map zG),.int .i64 e1.op.n,.str e1.op.text,.sl 3 (e1.op.dots.map GDot.row)],.cells [.int .u8 (0:Int),.int .i64 (0:Int),.int .u64 (0:Int),.int .u8 (0:Int),.int .u32 (0:Int),.int .u64 (0:Int),.str ([]:yn),.osl none 5 (([]:List GItem).map GItem.row),.osl none 3 (([]:List GDot).map GDot.row)],.mapo [(.int .u8 1,.fn (.func 31) [] []),(.int .u8 2,.fn (.func 32) [] []),(.int .u8 3,.fn (.func 33) [] []),(.int .u8 4,.fn (.func 34) [] []),(.int .u8 5,.fn (.func 35) [] [])] 0,.dead,.dead,.cells [.int .u8 l0.typ,.int .i64 l0.n,.int .u64 l0.time,.int .u8 l0.dot.actor.rep,.int .u32 l0.dot.actor.inc,.int .u64 l0.dot.seq,.str l0.text,.rsl (h.blks.length+4) (h.toks.length+0) 5 ((v6).length),.rsl (h.blks.length+9) (h.toks.length+3) 3 ((v48).length)],.cells [.int .u8 e1.dot.actor.rep,.int .u32 e1.dot.actor.inc,.int .u64 e1.dot.seq,.int .u64 e1.time,.int .u8 e1.op.kind,.sl 1 (e1.op.path.map zG),.int .i64 e1.op.n,.str e1.op.text,.sl 3 (e1.op.dots.map GDot.row)],.dead,.row (h.toks.length+3) 3 (v48.map GDot.row),.dead,.row (h.toks.length+5) 5 (v49.map GItem.row)]) rfl (zC rfl rfl rfl (zo vO (zo qe zw)) (.cons (zb rfl) (.cons (zb rfl) .nil))) (okR56 (by simp [AH.ext]) (by simp [AH.ext]) (fun _ v L M hv=>ok57 (blk_ext2 (j:=7) rfl) hv) (fun _ _ _ _=>rfl) (fun n m h1 h2=>by simp [AH.ext] at h1;simp [y3,AV.low];omega) hv49) rfl rfl (sk st0) rfl (fun n_v49=>?_)
        refine zc rfl (zO rfl wY rfl) (sk st1) ?_
        refine zc rfl (zd rfl yk (gk yB) rfl) (sk xf) ?_
        refine zc rfl (zd rfl ym (gk yv) rfl) (sk x5) ?_
        refine zc rfl (zP (cs':=[.int .u8 l0.typ,.int .i64 l0.n,.int .u64 l0.time,.int .u8 l0.dot.actor.rep,.int .u32 l0.dot.actor.inc,.int .u64 l0.dot.seq,.str l0.text,.rsl (h.blks.length+11) (h.toks.length+5) 5 ((v49).length),.rsl (h.blks.length+9) (h.toks.length+3) 3 ((v48).length)]) rfl xW (gk yf) (gk yh) (zb rfl) rfl rfl rfl rfl rfl) rfl ?_
        refine zf (qR ?_)
        obtain rfl:=Option.some.inj hF
        refine x7 rfl zA (xZ ((wn (by exact (.keep (.keep (.keep (.keep (.keep (.keep (.keep (.dead (.keep (.keep (.keep (.keep .nil)))))))))))))).wk) ?_)
        exact ⟨rfl,((v6).length+1,(v47).length+1,n_v48,n_v49),rfl⟩
       ·refine zf (zk (zn (ze ?_)))
        refine zc rfl (zg rfl xu (zb rfl)) (sk yS) ?_
        refine zc rfl (zO rfl (gk yO) rfl) (sk yZ) ?_
        refine zc rfl (zd rfl yk (gk y4) rfl) (sk y8) ?_
        refine zc rfl (zq rfl ty31.choose_spec.1 (gk xd) rfl (zu (cs':=[.int .u8 l0.typ,.int .i64 l0.n,.int .u64 l0.time,.int .u8 l0.dot.actor.rep,.int .u32 l0.dot.actor.inc,.int .u64 l0.dot.seq,.str l0.text,.rsl (h.blks.length+11) (h.toks.length+5) 5 ((v41.2).length),.rsl (h.blks.length+9) (h.toks.length+3) 3 ((v41.1).length)]) ty31.choose_spec.2 rfl rfl) (zb rfl)) (sk xk) ?_
        refine zc rfl (zP (cs':=[.int .u8 l0.typ,.int .i64 l0.n,.int .u64 l0.time,.int .u8 l0.dot.actor.rep,.int .u32 l0.dot.actor.inc,.int .u64 l0.dot.seq,.str l0.text,.rsl (h.blks.length+11) (h.toks.length+5) 5 ((v41.2).length),.rsl (h.blks.length+9) (h.toks.length+3) 3 ((v41.1).length)]) rfl ty31.choose_spec.1 yp (gk xl) (zb rfl) rfl rfl rfl rfl rfl) rfl ?_
        refine zc rfl (zj rfl rfl (zb rfl)) xp ?_
        refine zf (zk (zJ ?_))
        obtain rfl:=Option.some.inj hF
        refine xU rfl (xg ty31.choose_spec.1 yp rfl (zu (cs':=[.int .u8 l0.typ,.int .i64 l0.n,.int .u64 l0.time,.int .u8 l0.dot.actor.rep,.int .u32 l0.dot.actor.inc,.int .u64 l0.dot.seq,.str l0.text,.rsl (h.blks.length+11) (h.toks.length+5) 5 ((v41.2).length),.rsl (h.blks.length+9) (h.toks.length+3) 3 ((v41.1).length)]) ty31.choose_spec.2 rfl rfl) (zb rfl) (zH yR zA)) (qB (ps:=[.int .u8 l0.typ,.int .i64 l0.n,.int .u64 l0.time,.int .u8 l0.dot.actor.rep,.int .u32 l0.dot.actor.inc,.int .u64 l0.dot.seq,.str l0.text]) (qq (j:=11) (i:=5) rfl (by simp)) (qq (j:=9) (i:=3) rfl (by simp)) (by decide) rfl rfl rfl ?_)
        exact ⟨by simp only [List.length_map];try rfl,by simp only [List.length_map];try rfl⟩
      ·refine iteF hF (fun hk50 hF=>?_) (fun hk50 hF=>?_)
       ·refine zc rfl (e_lookF (j:=3) (n:=5) rfl Tryz.underlying64 Tryz.underlying5 (gk yf) rfl (gk xh) hk50 (zY Tryz.underlying5 (by decide) (zY Tryz.underlying5 (by decide) (zY Tryz.underlying5 (by decide) (zY Tryz.underlying5 (by decide) (qm Tryz.underlying5)))))) (sk xN) ?_
        refine zc rfl (zg rfl (gk xu) (zb rfl)) (sk xf) ?_
        refine zc rfl (zV rfl (gk yv) rfl (zb rfl)) (sk xC) ?_
        refine zc rfl (zV rfl (gk yv) rfl (zb rfl)) (sk xR) ?_
        refine zc rfl (zj rfl (gk xr) (zb rfl)) xC ?_
        refine zc rfl (zj rfl (gk xK) (zb rfl)) xR ?_
        refine zf (zk (zn (ze ?_)))
        refine zc rfl (zg rfl xK (zb rfl)) (sk yy) ?_
        refine zf (zk ?_)
        refine vQ (gk yw) (fun _=>?_) (fun hh=>by cases hh)
        refine ze ?_
        refine zc rfl (zg rfl xr (zb rfl)) (sk yx) ?_
        refine zc rfl (zg rfl xu (zb rfl)) (sk yE) ?_
        refine zc rfl (zq rfl ty36.choose_spec.1 yf rfl (zu (cs':=[.int .u8 e1.dot.actor.rep,.int .u32 e1.dot.actor.inc,.int .u64 e1.dot.seq,.int .u64 e1.time,.int .u8 e1.op.kind,.sl 1 (e1.op.path.map zG),.int .i64 e1.op.n,.str e1.op.text,.sl 3 (e1.op.dots.map GDot.row)]) ty36.choose_spec.2 rfl rfl) (zb rfl)) (sk yK) ?_
        refine zQ hF (fun v51 hv51 hF=>?_)
        refine vL (X:=Nat×Nat) (v:=.tup []) (H':=fun n_v51=>h.ext [.cells [.int .u8 l0.typ,.int .i64 l0.n,.int .u64 l0.time,.int .u8 l0.dot.actor.rep,.int .u32 l0.dot.actor.inc,.int .u64 l0.dot.seq,.str l0.text,.rsl (h.blks.length+4) (h.toks.length+0) 5 ((v6).length),.rsl (h.blks.length+5) (h.toks.length+1) 3 ((v7).length)],.cells [.int .u8 e1.dot.actor.rep,.int .u32 e1.dot.actor.inc,.int .u64 e1.dot.seq,.int .u64 e1.time,.int .u8 e1.op.kind,.sl 1 (e1.op.path.map zG),.int .i64 e1.op.n,.str e1.op.text,.sl 3 (e1.op.dots.map GDot.row)],.cells [.int .u8 (0:Int),.int .i64 (0:Int),.int .u64 (0:Int),.int .u8 (0:Int),.int .u32 (0:Int),.int .u64 (0:Int),.str ([]:yn),.osl none 5 (([]:List GItem).map GItem.row),.osl none 3 (([]:List GDot).map GDot.row)],.mapo [(.int .u8 1,.fn (.func 31) [] []),(.int .u8 2,.fn (.func 32) [] []),(.int .u8 3,.fn (.func 33) [] []),(.int .u8 4,.fn (.func 34) [] []),(.int .u8 5,.fn (.func 35) [] [])] 0,.dead,.row (h.toks.length+1) 3 (v7.map GDot.row),.cells [.int .u8 l0.typ,.int .i64 l0.n,.int .u64 l0.time,.int .u8 l0.dot.actor.rep,.int .u32 l0.dot.actor.inc,.int .u64 l0.dot.seq,.str l0.text,.rsl (h.blks.length+10) (h.toks.length+3) 5 ((v51).length),.rsl (h.blks.length+5) (h.toks.length+1) 3 ((v7).length)],.dead,.dead,.dead,.row (h.toks.length+3) 5 (v51.map GItem.row)] [n_v51.1,(v7).length,n_v51.2,(v51).length]) rfl (zC rfl rfl (gk yr) (zo (gk yD) (zo (gk yI) zw)) (.cons (zb rfl) (.cons (zb rfl) .nil))) ?_ (sk yT) (fun n_v51=>?_)
        ·replace hF:=hv51
         refine yz Tryz.func35 rfl (by kernel_rfl) (env:=[.ptr (h.blks.length+6) 0,.agg [.int .u8 e1.dot.actor.rep,.int .u32 e1.dot.actor.inc,.int .u64 e1.dot.seq,.int .u64 e1.time,.int .u8 e1.op.kind,.sl 1 (e1.op.path.map zG),.int .i64 e1.op.n,.str e1.op.text,.sl 3 (e1.op.dots.map GDot.row)],za,za,za,za,za,za,za,za,za,za,za,za]) (by rfl) ?_
         refine zn (ze ?_)
         refine zc rfl (yF (n:=7) rfl yB (zb rfl) rfl rfl) x5 ?_
         refine zf (zk (ze ?_))
         refine zc rfl (zg rfl yh (zb rfl)) yV ?_
         refine zc rfl (zd rfl qY yf rfl) xp ?_
         refine zc rfl (zq rfl xM yR rfl (zt rfl) (zb rfl)) xI ?_
         refine zc rfl (zd rfl vU yf rfl) xN ?_
         refine zc rfl (zq rfl ty27.choose_spec.1 xu rfl (zu (cs':=[.int .u8 e1.dot.actor.rep,.int .u32 e1.dot.actor.inc,.int .u64 e1.dot.seq]) ty27.choose_spec.2 rfl rfl) (zb rfl)) xC ?_
         refine zc rfl (zd rfl wd yf rfl) xR ?_
         refine zc rfl (zd rfl qt xK rfl) yy ?_
         refine zc rfl (zq rfl ty9 yw rfl (zt rfl) (zb rfl)) yx ?_
         refine zc rfl (xc (cs':=[.int .u64 e1.time,.int .u8 e1.dot.actor.rep,.int .u32 e1.dot.actor.inc,.int .u64 e1.dot.seq,.str e1.op.text]) rfl su47 ze47 pl47 (zK xh (zK xr (zK yr zT))) (.cons (zb rfl) (.cons (zb rfl) (.cons (zb rfl) .nil))) rfl rfl) yE ?_
         refine zQ hF (fun v61 hv61 hF=>?_)
         refine vL (X:=Nat×Nat) (v:=.tup []) (H':=fun n_v61=>h.ext [.cells [.int .u8 l0.typ,.int .i64 l0.n,.int .u64 l0.time,.int .u8 l0.dot.actor.rep,.int .u32 l0.dot.actor.inc,.int .u64 l0.dot.seq,.str l0.text,.rsl (h.blks.length+4) (h.toks.length+0) 5 ((v6).length),.rsl (h.blks.length+5) (h.toks.length+1) 3 ((v7).length)],.cells [.int .u8 e1.dot.actor.rep,.int .u32 e1.dot.actor.inc,.int .u64 e1.dot.seq,.int .u64 e1.time,.int .u8 e1.op.kind,.sl 1 (e1.op.path.map zG),.int .i64 e1.op.n,.str e1.op.text,.sl 3 (e1.op.dots.map GDot.row)],.cells [.int .u8 (0:Int),.int .i64 (0:Int),.int .u64 (0:Int),.int .u8 (0:Int),.int .u32 (0:Int),.int .u64 (0:Int),.str ([]:yn),.osl none 5 (([]:List GItem).map GItem.row),.osl none 3 (([]:List GDot).map GDot.row)],.mapo [(.int .u8 1,.fn (.func 31) [] []),(.int .u8 2,.fn (.func 32) [] []),(.int .u8 3,.fn (.func 33) [] []),(.int .u8 4,.fn (.func 34) [] []),(.int .u8 5,.fn (.func 35) [] [])] 0,.dead,.row (h.toks.length+1) 3 (v7.map GDot.row),.cells [.int .u8 l0.typ,.int .i64 l0.n,.int .u64 l0.time,.int .u8 l0.dot.actor.rep,.int .u32 l0.dot.actor.inc,.int .u64 l0.dot.seq,.str l0.text,.rsl (h.blks.length+10) (h.toks.length+3) 5 ((v61).length),.rsl (h.blks.length+5) (h.toks.length+1) 3 ((v7).length)],.cells [.int .u8 e1.dot.actor.rep,.int .u32 e1.dot.actor.inc,.int .u64 e1.dot.seq,.int .u64 e1.time,.int .u8 e1.op.kind,.sl 1 (e1.op.path.map zG),.int .i64 e1.op.n,.str e1.op.text,.sl 3 (e1.op.dots.map GDot.row)],.dead,.dead,.row (h.toks.length+3) 5 (v61.map GItem.row)] [n_v61.1,(v7).length,n_v61.2,(v61).length]) rfl (zC rfl rfl rfl (zo yp (zo yD zw)) (.cons (zb rfl) (.cons (zb rfl) .nil))) ?_ yK (fun n_v61=>?_)
         ·replace hF:=hv61
          refine yz Tryz.func53 rfl (by kernel_rfl) (env:=[.ptr (h.blks.length+6) 0,.agg [.int .u64 e1.time,.int .u8 e1.dot.actor.rep,.int .u32 e1.dot.actor.inc,.int .u64 e1.dot.seq,.str e1.op.text],za,za,za,za,za,za,za,za,za,za,za,za,za,za,za,za,za,za,za,za,za,za,za,za,za,za,za,za,za,za,za,za,za,za,za]) (by rfl) ?_
          refine zn (ze ?_)
          refine zc rfl (yF (n:=8) rfl yB (zb rfl) rfl rfl) x5 ?_
          refine zf (zk (zn (zn ?_)))
          refine yb [] [] trivial mixed (by kernel_rfl) ?_
          refine zi rfl rfl (zg rfl yh (zb rfl)) xI ?_
          refine zi rfl rfl (zO rfl xh rfl) xN ?_
          refine zi rfl rfl (zd rfl yk xu rfl) xC ?_
          refine zi rfl rfl (zd rfl ym xr rfl) xR ?_
          refine zi rfl rfl (zq rfl xW xK rfl (zt rfl) (zb rfl)) yy ?_
          refine zi rfl rfl (zd rfl wI yf rfl) yx ?_
          refine zi rfl rfl (zq rfl ty27.choose_spec.1 yr rfl (zu (cs':=[.int .u8 e1.dot.actor.rep,.int .u32 e1.dot.actor.inc,.int .u64 e1.dot.seq]) ty27.choose_spec.2 rfl rfl) (zb rfl)) yE ?_
          refine zQ hF (fun v66 hv66 hF=>?_)
          refine wM rfl rfl (zC rfl rfl rfl (zo yw (zo yD zw)) (.cons (zb rfl) (.cons (zb rfl) .nil))) (vh (by exact (.cons (.row _ _ _ _ _ (by rw [yL];rfl) (by simp)) (.cons (.low _ rfl) .nil))) rfl (ok46 hv66) (fun _ _ h=>h.1)) yK ?_
          refine zX ?_
          refine zk ?_
          refine zI yI hF (fun hc67 hF=>?_) (fun hc67 hF=>?_)
          ·refine zJ (zD ?_)
           obtain rfl:=Option.some.inj hF
           refine x7 rfl zA (xZ (wk.trans ((wn (by exact (.keep (.keep (.keep (.keep (.keep (.keep (.keep (.keep (.dead .nil))))))))))).wk) (wk.trans ((qg rfl).wk) (wk.trans ((swk_padT (n:=0) rfl).wk) ((wK (jb:=6) (o:=7) (j:=4) (i:=0) (n2:=(v6).length) (B':=[.cells [.int .u8 l0.typ,.int .i64 l0.n,.int .u64 l0.time,.int .u8 l0.dot.actor.rep,.int .u32 l0.dot.actor.inc,.int .u64 l0.dot.seq,.str l0.text,.rsl (h.blks.length+4) (h.toks.length+0) 5 ((v6).length),.rsl (h.blks.length+5) (h.toks.length+1) 3 ((v7).length)],.cells [.int .u8 e1.dot.actor.rep,.int .u32 e1.dot.actor.inc,.int .u64 e1.dot.seq,.int .u64 e1.time,.int .u8 e1.op.kind,.sl 1 (e1.op.path.map zG),.int .i64 e1.op.n,.str e1.op.text,.sl 3 (e1.op.dots.map GDot.row)],.cells [.int .u8 (0:Int),.int .i64 (0:Int),.int .u64 (0:Int),.int .u8 (0:Int),.int .u32 (0:Int),.int .u64 (0:Int),.str ([]:yn),.osl none 5 (([]:List GItem).map GItem.row),.osl none 3 (([]:List GDot).map GDot.row)],.mapo [(.int .u8 1,.fn (.func 31) [] []),(.int .u8 2,.fn (.func 32) [] []),(.int .u8 3,.fn (.func 33) [] []),(.int .u8 4,.fn (.func 34) [] []),(.int .u8 5,.fn (.func 35) [] [])] 0,.dead,.row (h.toks.length+1) 3 (v7.map GDot.row),.cells [.int .u8 l0.typ,.int .i64 l0.n,.int .u64 l0.time,.int .u8 l0.dot.actor.rep,.int .u32 l0.dot.actor.inc,.int .u64 l0.dot.seq,.str l0.text,.rsl (h.blks.length+10) (h.toks.length+3) 5 ((v6).length),.rsl (h.blks.length+5) (h.toks.length+1) 3 ((v7).length)],.cells [.int .u8 e1.dot.actor.rep,.int .u32 e1.dot.actor.inc,.int .u64 e1.dot.seq,.int .u64 e1.time,.int .u8 e1.op.kind,.sl 1 (e1.op.path.map zG),.int .i64 e1.op.n,.str e1.op.text,.sl 3 (e1.op.dots.map GDot.row)],.dead,.dead,.row (h.toks.length+3) 5 (v6.map GItem.row)]) (T':=[(v6).length+1,(v7).length,0,(v6).length]) rfl rfl rfl (by simp) rfl rfl rfl rfl rfl rfl).wk)))) ?_)
           exact ⟨rfl,((v6).length+1,0),rfl⟩
          ·refine zN (zk (zn ?_))
           refine yb [] [] trivial mixed (by kernel_rfl) ?_
           refine zi rfl rfl (zg rfl yh (zb rfl)) yS ?_
           refine zi rfl rfl (zO rfl yO rfl) yZ ?_
           refine zi rfl rfl (zd rfl yk y4 rfl) y8 ?_
           refine zi rfl rfl (zd rfl ym xd rfl) xk ?_
           refine zi rfl rfl (zq rfl xW xl rfl (zt rfl) (zb rfl)) xJ ?_
           refine zi rfl rfl (zq rfl ty47.choose_spec.1 yf rfl (zu (cs':=[.int .u64 e1.time,.int .u8 e1.dot.actor.rep,.int .u32 e1.dot.actor.inc,.int .u64 e1.dot.seq,.str e1.op.text]) ty47.choose_spec.2 rfl rfl) (zb rfl)) xQ ?_
           refine zQ hF (fun v68 hv68 hF=>?_)
           refine wM rfl rfl (zC rfl rfl rfl (zo xL (zo xX (zo rfl zw))) (.cons (zb rfl) (.cons (zb rfl) (.cons (zb rfl) .nil)))) (vh (by exact (.cons (.row _ _ _ _ _ (by rw [yL];rfl) (by simp)) (.cons (.low _ rfl) (.cons (.low _ rfl) .nil)))) rfl (ok68 (fun _ _ v L M hv=>ok69  hv) hv68) (fun _ _ h=>h.1)) wb ?_
           refine zi rfl rfl (zg rfl wa (zb rfl)) yT ?_
           refine zi rfl rfl (zV rfl yY rfl (zb rfl)) wl ?_
           refine zi rfl rfl (zV rfl yY rfl (zb rfl)) wp ?_
           refine zi rfl rfl (zj rfl wq (zb rfl)) yV ?_
           refine zi rfl rfl (zj rfl wg (zb rfl)) xp ?_
           refine zX ?_
           refine zk ?_
           refine yb [] [] trivial mixed (by kernel_rfl) ?_
           refine zi rfl rfl (zg rfl yh (zb rfl)) wu ?_
           refine zi rfl rfl (zg rfl yh (zb rfl)) wz ?_
           refine zi rfl rfl (zO rfl wv rfl) wV ?_
           refine zi rfl rfl (zd rfl yk wD rfl) wU ?_
           refine zi rfl rfl (zd rfl ym w4 rfl) wG ?_
           refine zi rfl rfl (zq rfl xW wH rfl (zt rfl) (zb rfl)) w9 ?_
           refine zi rfl rfl (zg rfl yp (zb rfl)) w8 ?_
           refine zi rfl rfl (zq rfl ty47.choose_spec.1 yf rfl (zu (cs':=[.int .u64 e1.time,.int .u8 e1.dot.actor.rep,.int .u32 e1.dot.actor.inc,.int .u64 e1.dot.seq,.str e1.op.text]) ty47.choose_spec.2 rfl rfl) (zb rfl)) w7 ?_
           refine zi rfl rfl (yq (es:=([(GItem.mk e1.time e1.dot e1.op.text)]:List GItem).map GItem.row) rfl yX ze47 rfl rfl (zK wZ zT) (.cons (zb rfl) .nil) rfl rfl rfl) wT ?_
           refine zQ hF (fun v69 hv69 hF=>?_)
           refine vV (by kernel_rfl) rfl FOk.nil rfl (zC rfl rfl rfl (zo we (zo va (zo wQ zw))) (.cons (zb rfl) (.cons (zb rfl) (.cons (zb rfl) .nil)))) (spec_insO ins70TryzLays (row:=GItem.row) (fun _=>rfl) hv69 (.inr rfl) (i:=4) (q:=0) (B':=[.cells [.int .u8 l0.typ,.int .i64 l0.n,.int .u64 l0.time,.int .u8 l0.dot.actor.rep,.int .u32 l0.dot.actor.inc,.int .u64 l0.dot.seq,.str l0.text,.rsl (h.blks.length+4) (h.toks.length+0) 5 ((v6).length),.rsl (h.blks.length+5) (h.toks.length+1) 3 ((v7).length)],.cells [.int .u8 e1.dot.actor.rep,.int .u32 e1.dot.actor.inc,.int .u64 e1.dot.seq,.int .u64 e1.time,.int .u8 e1.op.kind,.sl 1 (e1.op.path.map zG),.int .i64 e1.op.n,.str e1.op.text,.sl 3 (e1.op.dots.map GDot.row)],.cells [.int .u8 (0:Int),.int .i64 (0:Int),.int .u64 (0:Int),.int .u8 (0:Int),.int .u32 (0:Int),.int .u64 (0:Int),.str ([]:yn),.osl none 5 (([]:List GItem).map GItem.row),.osl none 3 (([]:List GDot).map GDot.row)],.mapo [(.int .u8 1,.fn (.func 31) [] []),(.int .u8 2,.fn (.func 32) [] []),(.int .u8 3,.fn (.func 33) [] []),(.int .u8 4,.fn (.func 34) [] []),(.int .u8 5,.fn (.func 35) [] [])] 0,.dead,.row (h.toks.length+1) 3 (v7.map GDot.row),.cells [.int .u8 l0.typ,.int .i64 l0.n,.int .u64 l0.time,.int .u8 l0.dot.actor.rep,.int .u32 l0.dot.actor.inc,.int .u64 l0.dot.seq,.str l0.text,.rsl (h.blks.length+4) (h.toks.length+0) 5 ((v6).length),.rsl (h.blks.length+5) (h.toks.length+1) 3 ((v7).length)],.cells [.int .u8 e1.dot.actor.rep,.int .u32 e1.dot.actor.inc,.int .u64 e1.dot.seq,.int .u64 e1.time,.int .u8 e1.op.kind,.sl 1 (e1.op.path.map zG),.int .i64 e1.op.n,.str e1.op.text,.sl 3 (e1.op.dots.map GDot.row)],.cells [.int .u64 e1.time,.int .u8 e1.dot.actor.rep,.int .u32 e1.dot.actor.inc,.int .u64 e1.dot.seq,.str e1.op.text],.row (h.toks.length+2) 5 (v69.map GItem.row)]) (T':=[(v6).length+1,(v7).length,(v69).length]) rfl rfl rfl rfl rfl) wS ?_
           refine zi rfl rfl (zO rfl ww rfl) wR ?_
           refine zi rfl rfl (zd rfl yk wX rfl) vg ?_
           refine zi rfl rfl (zd rfl ym vn rfl) vf ?_
           refine yG rfl FOk.nil (by kernel_rfl) rfl (zP (cs':=[.int .u8 l0.typ,.int .i64 l0.n,.int .u64 l0.time,.int .u8 l0.dot.actor.rep,.int .u32 l0.dot.actor.inc,.int .u64 l0.dot.seq,.str l0.text,.rsl (h.blks.length+9) (h.toks.length+2) 5 ((v69).length),.rsl (h.blks.length+5) (h.toks.length+1) 3 ((v7).length)]) rfl xW vm wY (zb rfl) rfl rfl rfl rfl rfl) rfl ?_
           refine zX ?_
           refine qR ?_
           obtain rfl:=Option.some.inj hF
           refine x7 rfl zA (xZ (wk.trans ((wn (by exact (.keep (.keep (.keep (.keep (.keep (.keep (.keep (.keep (.dead (.keep .nil)))))))))))).wk) ((wK (jb:=6) (o:=7) (j:=9) (i:=2) (n2:=(v69).length) (B':=[.cells [.int .u8 l0.typ,.int .i64 l0.n,.int .u64 l0.time,.int .u8 l0.dot.actor.rep,.int .u32 l0.dot.actor.inc,.int .u64 l0.dot.seq,.str l0.text,.rsl (h.blks.length+4) (h.toks.length+0) 5 ((v6).length),.rsl (h.blks.length+5) (h.toks.length+1) 3 ((v7).length)],.cells [.int .u8 e1.dot.actor.rep,.int .u32 e1.dot.actor.inc,.int .u64 e1.dot.seq,.int .u64 e1.time,.int .u8 e1.op.kind,.sl 1 (e1.op.path.map zG),.int .i64 e1.op.n,.str e1.op.text,.sl 3 (e1.op.dots.map GDot.row)],.cells [.int .u8 (0:Int),.int .i64 (0:Int),.int .u64 (0:Int),.int .u8 (0:Int),.int .u32 (0:Int),.int .u64 (0:Int),.str ([]:yn),.osl none 5 (([]:List GItem).map GItem.row),.osl none 3 (([]:List GDot).map GDot.row)],.mapo [(.int .u8 1,.fn (.func 31) [] []),(.int .u8 2,.fn (.func 32) [] []),(.int .u8 3,.fn (.func 33) [] []),(.int .u8 4,.fn (.func 34) [] []),(.int .u8 5,.fn (.func 35) [] [])] 0,.dead,.row (h.toks.length+1) 3 (v7.map GDot.row),.cells [.int .u8 l0.typ,.int .i64 l0.n,.int .u64 l0.time,.int .u8 l0.dot.actor.rep,.int .u32 l0.dot.actor.inc,.int .u64 l0.dot.seq,.str l0.text,.rsl (h.blks.length+10) (h.toks.length+3) 5 ((v69).length),.rsl (h.blks.length+5) (h.toks.length+1) 3 ((v7).length)],.cells [.int .u8 e1.dot.actor.rep,.int .u32 e1.dot.actor.inc,.int .u64 e1.dot.seq,.int .u64 e1.time,.int .u8 e1.op.kind,.sl 1 (e1.op.path.map zG),.int .i64 e1.op.n,.str e1.op.text,.sl 3 (e1.op.dots.map GDot.row)],.dead,.dead,.row (h.toks.length+3) 5 (v69.map GItem.row)]) (T':=[(v6).length+1,(v7).length,(v69).length+1,(v69).length]) rfl rfl rfl (by simp) rfl rfl rfl rfl rfl rfl).wk)) ?_)
           exact ⟨rfl,((v6).length+1,(v69).length+1),rfl⟩
         ·refine zf (qR ?_)
          obtain rfl:=Option.some.inj hF
          refine x7 rfl zA (xZ ((wn (by exact (.keep (.keep (.keep (.keep (.keep (.keep (.keep (.dead (.keep (.keep (.keep .nil))))))))))))).wk) ?_)
          exact ⟨rfl,(n_v61.1,n_v61.2),rfl⟩
        ·refine zf (zk (zn (ze ?_)))
         refine zc rfl (zg rfl xu (zb rfl)) (sk yS) ?_
         refine zc rfl (zO rfl (gk yO) rfl) (sk yZ) ?_
         refine zc rfl (zd rfl yk (gk y4) rfl) (sk y8) ?_
         refine zc rfl (zq rfl ty31.choose_spec.1 (gk xd) rfl (zu (cs':=[.int .u8 l0.typ,.int .i64 l0.n,.int .u64 l0.time,.int .u8 l0.dot.actor.rep,.int .u32 l0.dot.actor.inc,.int .u64 l0.dot.seq,.str l0.text,.rsl (h.blks.length+10) (h.toks.length+3) 5 ((v51).length),.rsl (h.blks.length+5) (h.toks.length+1) 3 ((v7).length)]) ty31.choose_spec.2 rfl rfl) (zb rfl)) (sk xk) ?_
         refine zc rfl (zP (cs':=[.int .u8 l0.typ,.int .i64 l0.n,.int .u64 l0.time,.int .u8 l0.dot.actor.rep,.int .u32 l0.dot.actor.inc,.int .u64 l0.dot.seq,.str l0.text,.rsl (h.blks.length+10) (h.toks.length+3) 5 ((v51).length),.rsl (h.blks.length+5) (h.toks.length+1) 3 ((v7).length)]) rfl ty31.choose_spec.1 yp (gk xl) (zb rfl) rfl rfl rfl rfl rfl) rfl ?_
         refine zc rfl (zj rfl rfl (zb rfl)) xp ?_
         refine zf (zk (zJ ?_))
         obtain rfl:=Option.some.inj hF
         refine xU rfl (xg ty31.choose_spec.1 yp rfl (zu (cs':=[.int .u8 l0.typ,.int .i64 l0.n,.int .u64 l0.time,.int .u8 l0.dot.actor.rep,.int .u32 l0.dot.actor.inc,.int .u64 l0.dot.seq,.str l0.text,.rsl (h.blks.length+10) (h.toks.length+3) 5 ((v51).length),.rsl (h.blks.length+5) (h.toks.length+1) 3 ((v7).length)]) ty31.choose_spec.2 rfl rfl) (zb rfl) (zH yR zA)) (qB (ps:=[.int .u8 l0.typ,.int .i64 l0.n,.int .u64 l0.time,.int .u8 l0.dot.actor.rep,.int .u32 l0.dot.actor.inc,.int .u64 l0.dot.seq,.str l0.text]) (qq (j:=10) (i:=3) rfl (by simp)) (qq (j:=5) (i:=1) rfl (by simp)) (by decide) rfl rfl rfl ?_)
         exact ⟨by simp only [List.length_map];try rfl,by simp only [List.length_map];try rfl⟩
       ·refine zc rfl (e_lookN (j:=3) rfl Tryz.underlying64 Tryz.underlying5 (gk yf) rfl (gk xh) azf61 (zY Tryz.underlying5 hk8 (zY Tryz.underlying5 hk10 (zY Tryz.underlying5 hk16 (zY Tryz.underlying5 hk40 (zY Tryz.underlying5 hk50 wN)))))) (sk xN) ?_
        refine zc rfl (zg rfl (gk xu) (zb rfl)) (sk xf) ?_
        refine zc rfl (zV rfl (gk yv) rfl (zb rfl)) (sk xC) ?_
        refine zc rfl (zV rfl (gk yv) rfl (zb rfl)) (sk xR) ?_
        refine zc rfl (zj rfl (gk xr) (zb rfl)) xC ?_
        refine zc rfl (zj rfl (gk xK) (zb rfl)) xR ?_
        refine zf (zk (zn (ze ?_)))
        refine zc rfl (zg rfl xK (zb rfl)) (sk yy) ?_
        refine zf (zk ?_)
        refine vQ (gk yw) (fun hh=>by cases hh) (fun _=>?_)
        refine zN (zk (zn (ze ?_)))
        refine zc rfl (zg rfl xu (zb rfl)) (sk yS) ?_
        refine zc rfl (zO rfl (gk yO) rfl) (sk yZ) ?_
        refine zc rfl (zd rfl yk (gk y4) rfl) (sk y8) ?_
        refine zc rfl (zq rfl ty31.choose_spec.1 (gk xd) rfl (zu (cs':=[.int .u8 l0.typ,.int .i64 l0.n,.int .u64 l0.time,.int .u8 l0.dot.actor.rep,.int .u32 l0.dot.actor.inc,.int .u64 l0.dot.seq,.str l0.text,.rsl (h.blks.length+4) (h.toks.length+0) 5 ((v6).length),.rsl (h.blks.length+5) (h.toks.length+1) 3 ((v7).length)]) ty31.choose_spec.2 rfl rfl) (zb rfl)) (sk xk) ?_
        refine zc rfl (zP (cs':=[.int .u8 l0.typ,.int .i64 l0.n,.int .u64 l0.time,.int .u8 l0.dot.actor.rep,.int .u32 l0.dot.actor.inc,.int .u64 l0.dot.seq,.str l0.text,.rsl (h.blks.length+4) (h.toks.length+0) 5 ((v6).length),.rsl (h.blks.length+5) (h.toks.length+1) 3 ((v7).length)]) rfl ty31.choose_spec.1 yp (gk xl) (zb rfl) rfl rfl rfl rfl rfl) rfl ?_
        refine zc rfl (zj rfl rfl (zb rfl)) xp ?_
        refine zf (zk (zJ ?_))
        obtain rfl:=Option.some.inj hF
        refine xU rfl (xg ty31.choose_spec.1 yp rfl (zu (cs':=[.int .u8 l0.typ,.int .i64 l0.n,.int .u64 l0.time,.int .u8 l0.dot.actor.rep,.int .u32 l0.dot.actor.inc,.int .u64 l0.dot.seq,.str l0.text,.rsl (h.blks.length+4) (h.toks.length+0) 5 ((v6).length),.rsl (h.blks.length+5) (h.toks.length+1) 3 ((v7).length)]) ty31.choose_spec.2 rfl rfl) (zb rfl) (zH yR zA)) (qB (ps:=[.int .u8 l0.typ,.int .i64 l0.n,.int .u64 l0.time,.int .u8 l0.dot.actor.rep,.int .u32 l0.dot.actor.inc,.int .u64 l0.dot.seq,.str l0.text]) (qq (j:=4) (i:=0) rfl (by simp)) (qq (j:=5) (i:=1) rfl (by simp)) (by decide) rfl rfl rfl ?_)
        exact ⟨by simp only [List.length_map];try rfl,by simp only [List.length_map];try rfl⟩
end Go.Vv
