/- Each function that the law reaches computes what its reading says; printed by a program. -/
import Derived.Test.YtdfmjndkgfpipaaGreatW2
namespace Go.Vv
open Go Go.Proofs
set_option maxRecDepth 100000
set_option maxHeartbeats 1000000
set_option linter.unusedSimpArgs false
set_option linter.unusedVariables false
/-! varve/diff.Diff -/
theorem ok8 {a0:(List GNode)} {b1:(List GNode)} {res:((List GEdit)×Int)} {h:AH}  (hF:diffDiff a0 b1=some res):Spec Tryz.prog 8 [.sl 3 (a0.map GNode.row),.sl 3 (b1.map GNode.row)] h (fun rr hh=>rr=.tup [.sl 22 (res.1.map GEdit.row),.int .i64 res.2]∧hh=h):=by
 unfold diffDiff at hF
 refine zt Tryz.func8 rfl (by kernel_rfl) (env:=[.sl 3 (a0.map GNode.row),.sl 3 (b1.map GNode.row),za,za,za,za,za,za,za,za,za,za,za,za,za,za,za,za,za,za,za,za,za,za,za,za,za,za,za,za,za,za,za,za,za,za,za,za,za,za,za,za,za,za,za,za,za,za,za,za,za,za,za,za,za,za,za,za,za,za,za,za,za,za,za,za,za,za,za,za,za,za,za,za,za,za,za,za,za,za,za]) (by rfl) ?_
 refine zk (zd ?_)
 refine zc rfl (zi rfl rfl (xi el29)) yC ?_
 refine zc rfl (zi rfl rfl (zb rfl)) xw ?_
 refine ze (zj (zk (zk (zd ?_))))
 refine zc rfl (zf rfl yq (zb rfl)) yX ?_
 refine zQ hF (fun v1 hv1 hF=>?_)
 refine zL rfl (zC rfl rfl rfl (zo yM zw) (.cons (zb rfl) .nil)) (ok21 hv1) y4 ?_
 refine zc rfl (xT rfl yE rfl) yZ ?_
 refine zc rfl (zf rfl yS (zb rfl)) y6 ?_
 refine zp rfl (fun hb=>zf rfl yF (zb rfl)) xj ?_
 refine yP hF (fun v2 hv2 hF=>?_)
 refine yj rfl (fun hb=>zC rfl rfl rfl (zo (zn xh hb) zw) (.cons (zb rfl) .nil)) (fun hb=>ok21 (hv2 hb)) xy ?_
 refine zp rfl (fun hb=>xT rfl (zn xq hb) rfl) xF ?_
 refine zc rfl (zM rfl yY rfl xC (z8 (fun ht=>gF ht))) xN ?_
 refine ze (zj ?_)
 refine zN xL hF (fun hc3 hF=>?_) (fun hc3 hF=>?_)
 ·refine zk (zd ?_)
  refine zc rfl (zi rfl rfl (xi el29)) yC ?_
  refine zc rfl (zi rfl rfl (zb rfl)) xw ?_
  refine ze (zj (zI (zx ?_)))
  obtain rfl:=Option.some.inj hF
  refine qC rfl (zD yx (zD yR zF)) (zA (leV.tup (.cons (leV.osl _ _ _) (.eq leL.nil))) rfl ?_)
  exact ⟨rfl,rfl⟩
 ·refine zK (zj (zk (zd ?_)))
  refine zc rfl (e_makeMap (n:=0) rfl rfl) x8 ?_
  refine zc rfl (zi rfl x9 (zb rfl)) xD ?_
  refine ze (zj (zk (zk (zd ?_))))
  refine zc rfl (zf rfl yq (zb rfl)) wg ?_
  refine zQ hF (fun v4 hv4 hF=>?_)
  refine zL rfl (zC rfl rfl rfl (zo wb zw) (.cons (zb rfl) .nil)) (ok22 hv4) wo ?_
  refine ya rfl (zS rfl rfl rfl rfl el61 wl yb) we fun hn5=>?_
  replace hn5:=xB hn5
  refine zc rfl (zf rfl rfl (zb rfl)) wi ?_
  refine ze (zj (zR ?_))
  refine yu (fun (n1:Nat) (s1:List (zJ×GEdit))=>yQ [0,2,3,4,5,7,8,9,10,11,12,13,14,15,16,17,18,19,20,21,25,26,27,28,29,30,31,32,33,34,35,36,37,38,39,40,41,42,43,44,45,46,47,48,49,50,51,52,53,54,55,56,57,58,59,60,61,62,63,64,65,66,67,68,69,70,71,72,73,74,75,76,77,78,79,80] [(24,.int .i64 (n1:Int))]) (fun s1=>h.ext [.mapo (s1.map (qE AV.str (fun x=>AV.agg (GEdit.row x)))) 0] []) hF (fun _ _=>by simp only [yQ,upd,List.set_cons_succ,List.set_cons_zero];try rfl) (wk.le (by exact (.drop (.eq (.d4 (.eq (.d4 (.d4 (.d4 (.drop (.drop (.drop (.eq (.eq (.cons (leV.of_eq rfl) (.d16 (.d16 (.d16 (.d4 (.d4 leL.nil)))))))))))))))))))) ?_
  intro n1 s1 hi1 hF
  refine zk (zd ?_)
  refine zc rfl (zy rfl wh x4 rfl) wt ?_
  refine ze (zj (zk ?_))
  refine yL wp hF (fun x1 o1 hl1 hx1 hF hK1=>?_) (fun hF=>?_)
  ·refine zK (zj (zk (zR (zk (zd ?_)))))
   refine zc rfl (yk rfl el61 wl wh va (yO hx1)) wQ ?_
   refine zc rfl (ye rfl ty64.choose_spec.1 wO (zH (cs':=[.sl 1 (x1.path.map zP),.int .u8 x1.leaf.typ,.int .i64 x1.leaf.n,.int .u64 x1.leaf.time,.int .u8 x1.leaf.dot.actor.rep,.int .u32 x1.leaf.dot.actor.inc,.int .u64 x1.leaf.dot.seq,.str x1.leaf.text,.sl 5 (x1.leaf.items.map GItem.row),.sl 3 (x1.leaf.tombs.map GDot.row)]) ty64.choose_spec.2 rfl rfl) (zb rfl)) wY ?_
   refine zc rfl (xe (n:=1) rfl ze64 rfl) xU ?_
   refine zc rfl (yf (cs':=[.sl 1 (x1.path.map zP),.int .u8 x1.leaf.typ,.int .i64 x1.leaf.n,.int .u64 x1.leaf.time,.int .u8 x1.leaf.dot.actor.rep,.int .u32 x1.leaf.dot.actor.inc,.int .u64 x1.leaf.dot.seq,.str x1.leaf.text,.sl 5 (x1.leaf.items.map GItem.row),.sl 3 (x1.leaf.tombs.map GDot.row)]) rfl ty64.choose_spec.1 xp wU (zb rfl) rfl rfl rfl rfl rfl) rfl ?_
   refine ze (zj ?_)
   refine yK [6] [] trivial mixed (by kernel_rfl) ?_
   refine zq rfl rfl (zf rfl yV (zb rfl)) wX ?_
   refine zq rfl rfl (zg rfl fo64x0 xp rfl) vi ?_
   refine zq rfl rfl (zu rfl ty24 vm rfl (zr rfl) (zb rfl)) vh ?_
   refine zq rfl rfl (zg rfl fo64x1 xp rfl) vg ?_
   refine zq rfl rfl (zg rfl xY vl rfl) vz ?_
   refine zq rfl rfl (zu rfl ty5 vk rfl (zr rfl) (zb rfl)) vw ?_
   refine zQ hF (fun v11 hv11 hF=>?_)
   refine yv rfl rfl (fun _=>zC rfl rfl rfl (zo vE (zo vD zw)) (.cons (zb rfl) (.cons (zb rfl) .nil))) (by rintro _ ⟨B2,T2,rfl,hk2⟩;exact ok23 hv11) vu ?_
   refine zq rfl rfl (zg rfl fo64x0 xp rfl) vt ?_
   refine zq rfl rfl (zu rfl ty24 vC rfl (zr rfl) (zb rfl)) vf ?_
   refine zq rfl rfl (zg rfl fo64x1 xp rfl) vr ?_
   refine zq rfl rfl (zg rfl xY vB rfl) vN ?_
   refine zq rfl rfl (zu rfl ty5 vQ rfl (zr rfl) (zb rfl)) vM ?_
   refine zq rfl rfl (zg rfl fo64x1 xp rfl) (sk st0) ?_
   refine zq rfl rfl (zu rfl ty42.choose_spec.1 (gk yq) rfl (zH (cs':=[.int .u8 x1.leaf.typ,.int .i64 x1.leaf.n,.int .u64 x1.leaf.time,.int .u8 x1.leaf.dot.actor.rep,.int .u32 x1.leaf.dot.actor.inc,.int .u64 x1.leaf.dot.seq,.str x1.leaf.text,.sl 5 (x1.leaf.items.map GItem.row),.sl 3 (x1.leaf.tombs.map GDot.row)]) ty42.choose_spec.2 rfl rfl) (zb rfl)) (sk st1) ?_
   refine zq rfl rfl (qu (cs':=[.sl 1 (x1.path.map zP),.int .u8 x1.leaf.typ,.bool true,.bool false,.int .u8 x1.leaf.typ,.int .i64 x1.leaf.n,.int .u64 x1.leaf.time,.int .u8 x1.leaf.dot.actor.rep,.int .u32 x1.leaf.dot.actor.inc,.int .u64 x1.leaf.dot.seq,.str x1.leaf.text,.sl 5 (x1.leaf.items.map GItem.row),.sl 3 (x1.leaf.tombs.map GDot.row),.int .u8 (0:Int),.int .i64 (0:Int),.int .u64 (0:Int),.int .u8 (0:Int),.int .u32 (0:Int),.int .u64 (0:Int),.str ([]:zJ),.osl none 5 (([]:List GItem).map GItem.row),.osl none 3 (([]:List GDot).map GDot.row)]) rfl su44 ze44 pl44 (yh vb (yh vJ (yh rfl (yh (gk yF) ym)))) (.cons (zb rfl) (.cons (zb rfl) (.cons (zb rfl) (.cons (zb rfl) .nil)))) rfl rfl) (sk xg) ?_
   refine xb rfl (FOk.cons (.inr (xX trivial)) FOk.nil) (by kernel_rfl) rfl (e_mapPut (m:=s1) (k:=v11) (v:=(GEdit.mk x1.path x1.leaf.typ true false x1.leaf yw)) (j:=0) (kv:=AV.str) (vv:=(fun x=>AV.agg (GEdit.row x))) rfl Tryz.underlying60 kq9 wT rfl vj (gk yW) rfl rfl) rfl ?_
   refine yo ?_
   refine yg (zj (zd ?_))
   refine zc rfl (zy rfl wh rfl rfl) (sk wa) ?_
   refine zc rfl (zf rfl (gk xu) (zb rfl)) wi ?_
   refine ze (yH ?_)
   obtain rfl:=Option.some.inj hF
   exact ⟨(wd (fun a b=>a==b) s1 v11 (GEdit.mk x1.path x1.leaf.typ true false x1.leaf yw)),hl1,hK1,wk.trans (wk.le (by exact (.drop (.eq (.d4 (.eq (.d4 (.d4 (.d4 (.drop (.drop (.drop (.eq (.eq (.cons (leV.of_eq (ve (by omega) (by omega))) (.d16 (.d16 (.d16 (.d4 (.d4 leL.nil)))))))))))))))))))) (xJ (by simp [yi,AV.low]) rfl rfl (by simp [Blk.low,yi,AV.low,GEdit.row,qE]))⟩
  ·refine yU ?_
   refine zZ ?_
   refine zW ?_
   refine zX ?_
   refine zj (zk (zk (zd ?_)))
   refine zc rfl (zf rfl yF (zb rfl)) (sk yC) ?_
   refine zQ hF (fun v12 hv12 hF=>?_)
   refine zL rfl (zC rfl rfl rfl (zo (gk yx) zw) (.cons (zb rfl) .nil)) (ok22 hv12) (sk xw) ?_
   refine ya rfl (zS rfl rfl rfl rfl el61 (gk yR) yb) (sk xD) fun hn13=>?_
   replace hn13:=xB hn13
   refine zc rfl (zf rfl rfl (zb rfl)) (sk xM) ?_
   refine ze (zj (zR ?_))
   refine yu (fun (n2:Nat) (s2:List (zJ×GEdit))=>yQ [0,1,2,3,4,5,7,8,9,10,11,12,13,14,15,16,17,18,19,20,21,22,23,24,25,26,27,28,29,30,31,32,33,34,35,36,37,38,39,40,41,42,43,44,48,49,50,51,52,53,54,55,56,57,58,59,60,61,62,63,64,65,66,67,68,69,70,71,72,73,74,75,76,77,78,79,80] [(47,.int .i64 (n2:Int))]) (fun s2=>h.ext [.mapo (s2.map (qE AV.str (fun x=>AV.agg (GEdit.row x)))) 0] []) hF (fun _ _=>by simp only [yQ,upd,List.set_cons_succ,List.set_cons_zero];try rfl) (wk.le (by exact (.d4 (.drop (.drop (.eq (.d16 (.d16 (.d4 (.drop (.drop (.eq (.eq (.cons (leV.of_eq rfl) (.d16 (.d16 (.drop leL.nil))))))))))))))))) ?_
   intro n2 s2 hi2 hF
   refine zk (zd ?_)
   refine zc rfl (zy rfl (gk xE) (gk yV) rfl) (sk xU) ?_
   refine ze (zj (zk ?_))
   refine yL (gk xp) hF (fun x2 o2 hl2 hx2 hF hK2=>?_) (fun hF=>?_)
   ·refine zK (zj (zk (zR (zk (zd ?_)))))
    refine zc rfl (yk rfl el61 (gk yR) (gk xE) va (yO hx2)) (sk wy) ?_
    refine zc rfl (ye rfl ty64.choose_spec.1 (gk xQ) (zH (cs':=[.sl 1 (x2.path.map zP),.int .u8 x2.leaf.typ,.int .i64 x2.leaf.n,.int .u64 x2.leaf.time,.int .u8 x2.leaf.dot.actor.rep,.int .u32 x2.leaf.dot.actor.inc,.int .u64 x2.leaf.dot.seq,.str x2.leaf.text,.sl 5 (x2.leaf.items.map GItem.row),.sl 3 (x2.leaf.tombs.map GDot.row)]) ty64.choose_spec.2 rfl rfl) (zb rfl)) (sk yJ) ?_
    refine zc rfl (xe (n:=1) rfl ze64 rfl) yJ ?_
    refine zc rfl (yf (cs':=[.sl 1 (x2.path.map zP),.int .u8 x2.leaf.typ,.int .i64 x2.leaf.n,.int .u64 x2.leaf.time,.int .u8 x2.leaf.dot.actor.rep,.int .u32 x2.leaf.dot.actor.inc,.int .u64 x2.leaf.dot.seq,.str x2.leaf.text,.sl 5 (x2.leaf.items.map GItem.row),.sl 3 (x2.leaf.tombs.map GDot.row)]) rfl ty64.choose_spec.1 yD (gk yD) (zb rfl) rfl rfl rfl rfl rfl) rfl ?_
    refine ze (zj (zk (zd ?_)))
    refine zc rfl (zf rfl yV (zb rfl)) (sk yN) ?_
    refine zc rfl (zg rfl fo64x0 yD rfl) (sk yX) ?_
    refine zc rfl (zu rfl ty24 (gk yM) rfl (zr rfl) (zb rfl)) (sk y4) ?_
    refine zc rfl (zg rfl fo64x1 yD rfl) (sk yZ) ?_
    refine zc rfl (zg rfl xY (gk yS) rfl) (sk y6) ?_
    refine zc rfl (zu rfl ty5 (gk yY) rfl (zr rfl) (zb rfl)) (sk xj) ?_
    refine zQ hF (fun v20 hv20 hF=>?_)
    refine zL rfl (zC rfl rfl rfl (zo (gk yE) (zo (gk xh) zw)) (.cons (zb rfl) (.cons (zb rfl) .nil))) (ok23 hv20) (sk xy) ?_
    refine zc rfl (e_lookup (m:=s2) (k:=v20) (d:=(GEdit.mk ([]:List zJ) (0:Int) false false yw yw)) (j:=0) (kv:=AV.str) (vv:=(fun x=>AV.agg (GEdit.row x))) rfl Tryz.underlying60 kq9 az44 (gk yy) rfl (gk xq)) (sk xF) ?_
    refine zc rfl (xe (n:=2) rfl ze44 rfl) yN ?_
    refine zc rfl (yf (cs':=[.sl 1 (((zT (fun a b=>a==b) (GEdit.mk ([]:List zJ) (0:Int) false false yw yw) s2 v20).path).map zP),.int .u8 ((zT (fun a b=>a==b) (GEdit.mk ([]:List zJ) (0:Int) false false yw yw) s2 v20).typ),.bool ((zT (fun a b=>a==b) (GEdit.mk ([]:List zJ) (0:Int) false false yw yw) s2 v20).had),.bool ((zT (fun a b=>a==b) (GEdit.mk ([]:List zJ) (0:Int) false false yw yw) s2 v20).has),.int .u8 ((zT (fun a b=>a==b) (GEdit.mk ([]:List zJ) (0:Int) false false yw yw) s2 v20).was.typ),.int .i64 ((zT (fun a b=>a==b) (GEdit.mk ([]:List zJ) (0:Int) false false yw yw) s2 v20).was.n),.int .u64 ((zT (fun a b=>a==b) (GEdit.mk ([]:List zJ) (0:Int) false false yw yw) s2 v20).was.time),.int .u8 ((zT (fun a b=>a==b) (GEdit.mk ([]:List zJ) (0:Int) false false yw yw) s2 v20).was.dot.actor.rep),.int .u32 ((zT (fun a b=>a==b) (GEdit.mk ([]:List zJ) (0:Int) false false yw yw) s2 v20).was.dot.actor.inc),.int .u64 ((zT (fun a b=>a==b) (GEdit.mk ([]:List zJ) (0:Int) false false yw yw) s2 v20).was.dot.seq),.str ((zT (fun a b=>a==b) (GEdit.mk ([]:List zJ) (0:Int) false false yw yw) s2 v20).was.text),.sl 5 (((zT (fun a b=>a==b) (GEdit.mk ([]:List zJ) (0:Int) false false yw yw) s2 v20).was.items).map GItem.row),.sl 3 (((zT (fun a b=>a==b) (GEdit.mk ([]:List zJ) (0:Int) false false yw yw) s2 v20).was.tombs).map GDot.row),.int .u8 ((zT (fun a b=>a==b) (GEdit.mk ([]:List zJ) (0:Int) false false yw yw) s2 v20).is.typ),.int .i64 ((zT (fun a b=>a==b) (GEdit.mk ([]:List zJ) (0:Int) false false yw yw) s2 v20).is.n),.int .u64 ((zT (fun a b=>a==b) (GEdit.mk ([]:List zJ) (0:Int) false false yw yw) s2 v20).is.time),.int .u8 ((zT (fun a b=>a==b) (GEdit.mk ([]:List zJ) (0:Int) false false yw yw) s2 v20).is.dot.actor.rep),.int .u32 ((zT (fun a b=>a==b) (GEdit.mk ([]:List zJ) (0:Int) false false yw yw) s2 v20).is.dot.actor.inc),.int .u64 ((zT (fun a b=>a==b) (GEdit.mk ([]:List zJ) (0:Int) false false yw yw) s2 v20).is.dot.seq),.str ((zT (fun a b=>a==b) (GEdit.mk ([]:List zJ) (0:Int) false false yw yw) s2 v20).is.text),.sl 5 (((zT (fun a b=>a==b) (GEdit.mk ([]:List zJ) (0:Int) false false yw yw) s2 v20).is.items).map GItem.row),.sl 3 (((zT (fun a b=>a==b) (GEdit.mk ([]:List zJ) (0:Int) false false yw yw) s2 v20).is.tombs).map GDot.row)]) rfl ty44.choose_spec.1 yy (gk xC) (zb rfl) rfl rfl rfl rfl rfl) rfl ?_
    refine ze (zj (zk ?_))
    refine yK [4,6] [(4,[(1,.cells [.sl 1 (x2.path.map zP),.int .u8 x2.leaf.typ,.int .i64 x2.leaf.n,.int .u64 x2.leaf.time,.int .u8 x2.leaf.dot.actor.rep,.int .u32 x2.leaf.dot.actor.inc,.int .u64 x2.leaf.dot.seq,.str x2.leaf.text,.sl 5 (x2.leaf.items.map GItem.row),.sl 3 (x2.leaf.tombs.map GDot.row)])]),(6,[(1,.cells [.sl 1 (x2.path.map zP),.int .u8 x2.leaf.typ,.int .i64 x2.leaf.n,.int .u64 x2.leaf.time,.int .u8 x2.leaf.dot.actor.rep,.int .u32 x2.leaf.dot.actor.inc,.int .u64 x2.leaf.dot.seq,.str x2.leaf.text,.sl 5 (x2.leaf.items.map GItem.row),.sl 3 (x2.leaf.tombs.map GDot.row)])])] ⟨⟨rfl,trivial⟩,⟨rfl,trivial⟩,trivial⟩ mixed (by kernel_rfl) ?_
    refine zq rfl rfl (zg rfl fo64x0 yD rfl) (sk xN) ?_
    refine zq rfl rfl (zu rfl ty24 (gk xL) rfl (zr rfl) (zb rfl)) (sk x8) ?_
    refine zq rfl rfl (zg rfl fo64x1 yD rfl) (sk wg) ?_
    refine zq rfl rfl (zg rfl xY (gk wb) rfl) (sk wo) ?_
    refine draw_okN rfl rfl (by rintro _ ⟨B2,T2,rfl,hk2⟩;exact zu rfl ty5 (gk wl) (keeps1 hk2) (zr rfl) (zb rfl)) (sk we) ?_
    refine zq rfl rfl (zg rfl fo64x1 yD rfl) (sk wi) ?_
    refine draw_okN rfl rfl (by rintro _ ⟨B2,T2,rfl,hk2⟩;exact zu rfl ty42.choose_spec.1 (gk wh) (keeps1 hk2) (zH (cs':=[.int .u8 x2.leaf.typ,.int .i64 x2.leaf.n,.int .u64 x2.leaf.time,.int .u8 x2.leaf.dot.actor.rep,.int .u32 x2.leaf.dot.actor.inc,.int .u64 x2.leaf.dot.seq,.str x2.leaf.text,.sl 5 (x2.leaf.items.map GItem.row),.sl 3 (x2.leaf.tombs.map GDot.row)]) ty42.choose_spec.2 rfl rfl) (zb rfl)) (sk wt) ?_
    refine zq rfl rfl (zg rfl fo44x0 yy rfl) (sk wQ) ?_
    refine xb rfl (FOk.cons (.inr (xX ⟨rfl,trivial⟩)) (FOk.cons (.inr (xX ⟨rfl,trivial⟩)) FOk.nil)) (by kernel_rfl) rfl (yf (cs':=[.sl 1 (x2.path.map zP),.int .u8 ((zT (fun a b=>a==b) (GEdit.mk ([]:List zJ) (0:Int) false false yw yw) s2 v20).typ),.bool ((zT (fun a b=>a==b) (GEdit.mk ([]:List zJ) (0:Int) false false yw yw) s2 v20).had),.bool ((zT (fun a b=>a==b) (GEdit.mk ([]:List zJ) (0:Int) false false yw yw) s2 v20).has),.int .u8 ((zT (fun a b=>a==b) (GEdit.mk ([]:List zJ) (0:Int) false false yw yw) s2 v20).was.typ),.int .i64 ((zT (fun a b=>a==b) (GEdit.mk ([]:List zJ) (0:Int) false false yw yw) s2 v20).was.n),.int .u64 ((zT (fun a b=>a==b) (GEdit.mk ([]:List zJ) (0:Int) false false yw yw) s2 v20).was.time),.int .u8 ((zT (fun a b=>a==b) (GEdit.mk ([]:List zJ) (0:Int) false false yw yw) s2 v20).was.dot.actor.rep),.int .u32 ((zT (fun a b=>a==b) (GEdit.mk ([]:List zJ) (0:Int) false false yw yw) s2 v20).was.dot.actor.inc),.int .u64 ((zT (fun a b=>a==b) (GEdit.mk ([]:List zJ) (0:Int) false false yw yw) s2 v20).was.dot.seq),.str ((zT (fun a b=>a==b) (GEdit.mk ([]:List zJ) (0:Int) false false yw yw) s2 v20).was.text),.sl 5 (((zT (fun a b=>a==b) (GEdit.mk ([]:List zJ) (0:Int) false false yw yw) s2 v20).was.items).map GItem.row),.sl 3 (((zT (fun a b=>a==b) (GEdit.mk ([]:List zJ) (0:Int) false false yw yw) s2 v20).was.tombs).map GDot.row),.int .u8 ((zT (fun a b=>a==b) (GEdit.mk ([]:List zJ) (0:Int) false false yw yw) s2 v20).is.typ),.int .i64 ((zT (fun a b=>a==b) (GEdit.mk ([]:List zJ) (0:Int) false false yw yw) s2 v20).is.n),.int .u64 ((zT (fun a b=>a==b) (GEdit.mk ([]:List zJ) (0:Int) false false yw yw) s2 v20).is.time),.int .u8 ((zT (fun a b=>a==b) (GEdit.mk ([]:List zJ) (0:Int) false false yw yw) s2 v20).is.dot.actor.rep),.int .u32 ((zT (fun a b=>a==b) (GEdit.mk ([]:List zJ) (0:Int) false false yw yw) s2 v20).is.dot.actor.inc),.int .u64 ((zT (fun a b=>a==b) (GEdit.mk ([]:List zJ) (0:Int) false false yw yw) s2 v20).is.dot.seq),.str ((zT (fun a b=>a==b) (GEdit.mk ([]:List zJ) (0:Int) false false yw yw) s2 v20).is.text),.sl 5 (((zT (fun a b=>a==b) (GEdit.mk ([]:List zJ) (0:Int) false false yw yw) s2 v20).is.items).map GItem.row),.sl 3 (((zT (fun a b=>a==b) (GEdit.mk ([]:List zJ) (0:Int) false false yw yw) s2 v20).is.tombs).map GDot.row)]) rfl ty24 (gk wO) (gk x9) (zb rfl) rfl rfl rfl rfl rfl) rfl ?_
    refine zq rfl rfl (zg rfl fo44x1 yy rfl) (sk wY) ?_
    refine xb rfl (FOk.cons (.inr (xX ⟨rfl,trivial⟩)) (FOk.cons (.inr (xX ⟨rfl,trivial⟩)) FOk.nil)) (by kernel_rfl) rfl (yf (cs':=[.sl 1 (x2.path.map zP),.int .u8 x2.leaf.typ,.bool ((zT (fun a b=>a==b) (GEdit.mk ([]:List zJ) (0:Int) false false yw yw) s2 v20).had),.bool ((zT (fun a b=>a==b) (GEdit.mk ([]:List zJ) (0:Int) false false yw yw) s2 v20).has),.int .u8 ((zT (fun a b=>a==b) (GEdit.mk ([]:List zJ) (0:Int) false false yw yw) s2 v20).was.typ),.int .i64 ((zT (fun a b=>a==b) (GEdit.mk ([]:List zJ) (0:Int) false false yw yw) s2 v20).was.n),.int .u64 ((zT (fun a b=>a==b) (GEdit.mk ([]:List zJ) (0:Int) false false yw yw) s2 v20).was.time),.int .u8 ((zT (fun a b=>a==b) (GEdit.mk ([]:List zJ) (0:Int) false false yw yw) s2 v20).was.dot.actor.rep),.int .u32 ((zT (fun a b=>a==b) (GEdit.mk ([]:List zJ) (0:Int) false false yw yw) s2 v20).was.dot.actor.inc),.int .u64 ((zT (fun a b=>a==b) (GEdit.mk ([]:List zJ) (0:Int) false false yw yw) s2 v20).was.dot.seq),.str ((zT (fun a b=>a==b) (GEdit.mk ([]:List zJ) (0:Int) false false yw yw) s2 v20).was.text),.sl 5 (((zT (fun a b=>a==b) (GEdit.mk ([]:List zJ) (0:Int) false false yw yw) s2 v20).was.items).map GItem.row),.sl 3 (((zT (fun a b=>a==b) (GEdit.mk ([]:List zJ) (0:Int) false false yw yw) s2 v20).was.tombs).map GDot.row),.int .u8 ((zT (fun a b=>a==b) (GEdit.mk ([]:List zJ) (0:Int) false false yw yw) s2 v20).is.typ),.int .i64 ((zT (fun a b=>a==b) (GEdit.mk ([]:List zJ) (0:Int) false false yw yw) s2 v20).is.n),.int .u64 ((zT (fun a b=>a==b) (GEdit.mk ([]:List zJ) (0:Int) false false yw yw) s2 v20).is.time),.int .u8 ((zT (fun a b=>a==b) (GEdit.mk ([]:List zJ) (0:Int) false false yw yw) s2 v20).is.dot.actor.rep),.int .u32 ((zT (fun a b=>a==b) (GEdit.mk ([]:List zJ) (0:Int) false false yw yw) s2 v20).is.dot.actor.inc),.int .u64 ((zT (fun a b=>a==b) (GEdit.mk ([]:List zJ) (0:Int) false false yw yw) s2 v20).is.dot.seq),.str ((zT (fun a b=>a==b) (GEdit.mk ([]:List zJ) (0:Int) false false yw yw) s2 v20).is.text),.sl 5 (((zT (fun a b=>a==b) (GEdit.mk ([]:List zJ) (0:Int) false false yw yw) s2 v20).is.items).map GItem.row),.sl 3 (((zT (fun a b=>a==b) (GEdit.mk ([]:List zJ) (0:Int) false false yw yw) s2 v20).is.tombs).map GDot.row)]) rfl ty5 (gk wU) (gk x4) (zb rfl) rfl rfl rfl rfl rfl) rfl ?_
    refine zq rfl rfl (zg rfl fo44x3 yy rfl) (sk wX) ?_
    refine xb rfl (FOk.cons (.inr (xX ⟨rfl,trivial⟩)) (FOk.cons (.inr (xX ⟨rfl,trivial⟩)) FOk.nil)) (by kernel_rfl) rfl (yf (cs':=[.sl 1 (x2.path.map zP),.int .u8 x2.leaf.typ,.bool ((zT (fun a b=>a==b) (GEdit.mk ([]:List zJ) (0:Int) false false yw yw) s2 v20).had),.bool true,.int .u8 ((zT (fun a b=>a==b) (GEdit.mk ([]:List zJ) (0:Int) false false yw yw) s2 v20).was.typ),.int .i64 ((zT (fun a b=>a==b) (GEdit.mk ([]:List zJ) (0:Int) false false yw yw) s2 v20).was.n),.int .u64 ((zT (fun a b=>a==b) (GEdit.mk ([]:List zJ) (0:Int) false false yw yw) s2 v20).was.time),.int .u8 ((zT (fun a b=>a==b) (GEdit.mk ([]:List zJ) (0:Int) false false yw yw) s2 v20).was.dot.actor.rep),.int .u32 ((zT (fun a b=>a==b) (GEdit.mk ([]:List zJ) (0:Int) false false yw yw) s2 v20).was.dot.actor.inc),.int .u64 ((zT (fun a b=>a==b) (GEdit.mk ([]:List zJ) (0:Int) false false yw yw) s2 v20).was.dot.seq),.str ((zT (fun a b=>a==b) (GEdit.mk ([]:List zJ) (0:Int) false false yw yw) s2 v20).was.text),.sl 5 (((zT (fun a b=>a==b) (GEdit.mk ([]:List zJ) (0:Int) false false yw yw) s2 v20).was.items).map GItem.row),.sl 3 (((zT (fun a b=>a==b) (GEdit.mk ([]:List zJ) (0:Int) false false yw yw) s2 v20).was.tombs).map GDot.row),.int .u8 ((zT (fun a b=>a==b) (GEdit.mk ([]:List zJ) (0:Int) false false yw yw) s2 v20).is.typ),.int .i64 ((zT (fun a b=>a==b) (GEdit.mk ([]:List zJ) (0:Int) false false yw yw) s2 v20).is.n),.int .u64 ((zT (fun a b=>a==b) (GEdit.mk ([]:List zJ) (0:Int) false false yw yw) s2 v20).is.time),.int .u8 ((zT (fun a b=>a==b) (GEdit.mk ([]:List zJ) (0:Int) false false yw yw) s2 v20).is.dot.actor.rep),.int .u32 ((zT (fun a b=>a==b) (GEdit.mk ([]:List zJ) (0:Int) false false yw yw) s2 v20).is.dot.actor.inc),.int .u64 ((zT (fun a b=>a==b) (GEdit.mk ([]:List zJ) (0:Int) false false yw yw) s2 v20).is.dot.seq),.str ((zT (fun a b=>a==b) (GEdit.mk ([]:List zJ) (0:Int) false false yw yw) s2 v20).is.text),.sl 5 (((zT (fun a b=>a==b) (GEdit.mk ([]:List zJ) (0:Int) false false yw yw) s2 v20).is.items).map GItem.row),.sl 3 (((zT (fun a b=>a==b) (GEdit.mk ([]:List zJ) (0:Int) false false yw yw) s2 v20).is.tombs).map GDot.row)]) rfl ty4 (gk wT) rfl (zb rfl) rfl rfl rfl rfl rfl) rfl ?_
    refine zq rfl rfl (zg rfl fo44x5 yy rfl) (sk vi) ?_
    refine xb rfl (FOk.cons (.inr (xX ⟨rfl,trivial⟩)) (FOk.cons (.inr (xX ⟨rfl,trivial⟩)) FOk.nil)) (by kernel_rfl) rfl (yf (cs':=[.sl 1 (x2.path.map zP),.int .u8 x2.leaf.typ,.bool ((zT (fun a b=>a==b) (GEdit.mk ([]:List zJ) (0:Int) false false yw yw) s2 v20).had),.bool true,.int .u8 ((zT (fun a b=>a==b) (GEdit.mk ([]:List zJ) (0:Int) false false yw yw) s2 v20).was.typ),.int .i64 ((zT (fun a b=>a==b) (GEdit.mk ([]:List zJ) (0:Int) false false yw yw) s2 v20).was.n),.int .u64 ((zT (fun a b=>a==b) (GEdit.mk ([]:List zJ) (0:Int) false false yw yw) s2 v20).was.time),.int .u8 ((zT (fun a b=>a==b) (GEdit.mk ([]:List zJ) (0:Int) false false yw yw) s2 v20).was.dot.actor.rep),.int .u32 ((zT (fun a b=>a==b) (GEdit.mk ([]:List zJ) (0:Int) false false yw yw) s2 v20).was.dot.actor.inc),.int .u64 ((zT (fun a b=>a==b) (GEdit.mk ([]:List zJ) (0:Int) false false yw yw) s2 v20).was.dot.seq),.str ((zT (fun a b=>a==b) (GEdit.mk ([]:List zJ) (0:Int) false false yw yw) s2 v20).was.text),.sl 5 (((zT (fun a b=>a==b) (GEdit.mk ([]:List zJ) (0:Int) false false yw yw) s2 v20).was.items).map GItem.row),.sl 3 (((zT (fun a b=>a==b) (GEdit.mk ([]:List zJ) (0:Int) false false yw yw) s2 v20).was.tombs).map GDot.row),.int .u8 x2.leaf.typ,.int .i64 x2.leaf.n,.int .u64 x2.leaf.time,.int .u8 x2.leaf.dot.actor.rep,.int .u32 x2.leaf.dot.actor.inc,.int .u64 x2.leaf.dot.seq,.str x2.leaf.text,.sl 5 (x2.leaf.items.map GItem.row),.sl 3 (x2.leaf.tombs.map GDot.row)]) rfl ty42.choose_spec.1 (gk vm) (gk wp) (zb rfl) rfl rfl rfl rfl rfl) rfl ?_
    refine yo ?_
    refine zj ?_
    refine yK [6] [] trivial mixed (by kernel_rfl) ?_
    refine zq rfl rfl (zf rfl yV (zb rfl)) (sk vh) ?_
    refine zq rfl rfl (zg rfl fo64x0 yD rfl) (sk vg) ?_
    refine zq rfl rfl (zu rfl ty24 (gk vl) rfl (zr rfl) (zb rfl)) (sk vz) ?_
    refine zq rfl rfl (zg rfl fo64x1 yD rfl) (sk vw) ?_
    refine zq rfl rfl (zg rfl xY (gk vD) rfl) (sk vu) ?_
    refine zq rfl rfl (zu rfl ty5 (gk vj) rfl (zr rfl) (zb rfl)) (sk vt) ?_
    refine zQ hF (fun v21 hv21 hF=>?_)
    refine yv rfl rfl (fun _=>zC rfl rfl rfl (zo (gk vk) (zo (gk vC) zw)) (.cons (zb rfl) (.cons (zb rfl) .nil))) (by rintro _ ⟨B2,T2,rfl,hk2⟩;exact ok23 hv21) (sk vf) ?_
    refine zq rfl rfl (zu rfl ty44.choose_spec.1 yy rfl (zH (cs':=[.sl 1 (x2.path.map zP),.int .u8 x2.leaf.typ,.bool ((zT (fun a b=>a==b) (GEdit.mk ([]:List zJ) (0:Int) false false yw yw) s2 v20).had),.bool true,.int .u8 ((zT (fun a b=>a==b) (GEdit.mk ([]:List zJ) (0:Int) false false yw yw) s2 v20).was.typ),.int .i64 ((zT (fun a b=>a==b) (GEdit.mk ([]:List zJ) (0:Int) false false yw yw) s2 v20).was.n),.int .u64 ((zT (fun a b=>a==b) (GEdit.mk ([]:List zJ) (0:Int) false false yw yw) s2 v20).was.time),.int .u8 ((zT (fun a b=>a==b) (GEdit.mk ([]:List zJ) (0:Int) false false yw yw) s2 v20).was.dot.actor.rep),.int .u32 ((zT (fun a b=>a==b) (GEdit.mk ([]:List zJ) (0:Int) false false yw yw) s2 v20).was.dot.actor.inc),.int .u64 ((zT (fun a b=>a==b) (GEdit.mk ([]:List zJ) (0:Int) false false yw yw) s2 v20).was.dot.seq),.str ((zT (fun a b=>a==b) (GEdit.mk ([]:List zJ) (0:Int) false false yw yw) s2 v20).was.text),.sl 5 (((zT (fun a b=>a==b) (GEdit.mk ([]:List zJ) (0:Int) false false yw yw) s2 v20).was.items).map GItem.row),.sl 3 (((zT (fun a b=>a==b) (GEdit.mk ([]:List zJ) (0:Int) false false yw yw) s2 v20).was.tombs).map GDot.row),.int .u8 x2.leaf.typ,.int .i64 x2.leaf.n,.int .u64 x2.leaf.time,.int .u8 x2.leaf.dot.actor.rep,.int .u32 x2.leaf.dot.actor.inc,.int .u64 x2.leaf.dot.seq,.str x2.leaf.text,.sl 5 (x2.leaf.items.map GItem.row),.sl 3 (x2.leaf.tombs.map GDot.row)]) ty44.choose_spec.2 rfl rfl) (zb rfl)) (sk vr) ?_
    refine xb rfl (FOk.cons (.inr (xX trivial)) FOk.nil) (by kernel_rfl) rfl (e_mapPut (m:=s2) (k:=v21) (v:=(GEdit.mk x2.path x2.leaf.typ ((zT (fun a b=>a==b) (GEdit.mk ([]:List zJ) (0:Int) false false yw yw) s2 v20).had) true ((zT (fun a b=>a==b) (GEdit.mk ([]:List zJ) (0:Int) false false yw yw) s2 v20).was) x2.leaf)) (j:=0) (kv:=AV.str) (vv:=(fun x=>AV.agg (GEdit.row x))) rfl Tryz.underlying60 kq9 (gk vE) rfl (gk vb) (gk vB) rfl rfl) rfl ?_
    refine yo ?_
    refine yg (zj (zd ?_))
    refine zc rfl (zy rfl (gk xE) rfl rfl) (sk vN) ?_
    refine zc rfl (zf rfl (gk vQ) (zb rfl)) (sk xM) ?_
    refine ze (yH ?_)
    obtain rfl:=Option.some.inj hF
    exact ⟨(wd (fun a b=>a==b) s2 v21 (GEdit.mk x2.path x2.leaf.typ ((zT (fun a b=>a==b) (GEdit.mk ([]:List zJ) (0:Int) false false yw yw) s2 v20).had) true ((zT (fun a b=>a==b) (GEdit.mk ([]:List zJ) (0:Int) false false yw yw) s2 v20).was) x2.leaf)),hl2,hK2,wk.trans (wk.le (by exact (.d4 (.drop (.drop (.eq (.d16 (.d16 (.d4 (.drop (.drop (.eq (.eq (.cons (leV.of_eq (ve (by omega) (by omega))) (.d16 (.d16 (.drop leL.nil))))))))))))))))) (xJ (by simp [yi,AV.low]) rfl rfl (by simp [Blk.low,yi,AV.low,GEdit.row,qE]))⟩
   ·refine yU ?_
    refine zZ ?_
    refine zW ?_
    refine zX ?_
    refine zj (zk (zd ?_))
    refine zc rfl (zf rfl yV (zb rfl)) (sk vM) ?_
    refine zQ hF (fun v22 hv22 hF=>?_)
    refine zL rfl (zC rfl rfl rfl (zo (gk vJ) zw) (.cons (zb rfl) .nil)) (ok24 (n_blk rfl rfl) hv22) (sk (sk st0)) ?_
    refine zc rfl (zi rfl (gk (gk yq)) (zb rfl)) yC ?_
    refine zc rfl (zi rfl rfl (zb rfl)) xw ?_
    refine ze (zj (zI ?_))
    obtain rfl:=Option.some.inj hF
    refine qC rfl (zD yx (zD yR zF)) (zA (leV.refl _) rfl ?_)
    exact ⟨rfl,rfl⟩
/-! varve/varvelaw31.known -/
theorem ok7  {res:Bool} {h:AH}  (hF:w7  = some res):Spec Tryz.prog 7 [] h (fun rr hh=>rr=.bool res∧hh=h):=by
 unfold w7 at hF
 refine zt Tryz.func7 rfl (by kernel_rfl) (env:=[za,za,za,za,za,za,za,za,za,za,za,za,za,za,za,za,za,za,za,za,za,za,za,za,za,za,za,za,za,za,za,za,za,za,za,za,za,za,za,za,za,za,za,za,za,za,za,za,za,za,za,za,za,za,za,za,za,za]) (by rfl) ?_
 refine zk (zd ?_)
 refine zc rfl (zi rfl rfl (zb rfl)) st0 ?_
 refine ze (zj (zk (zd ?_)))
 refine zc rfl (qu (cs':=[.int .u8 (1:Int),.int .i64 (5:Int),.int .u64 (0:Int),.int .u8 (0:Int),.int .u32 (0:Int),.int .u64 (0:Int),.str ([]:zJ),.osl none 5 (([]:List GItem).map GItem.row),.osl none 3 (([]:List GDot).map GDot.row)]) rfl su42 ze42 pl42 (yh rfl (yh rfl ym)) (.cons (zb rfl) (.cons (zb rfl) .nil)) rfl rfl) xD ?_
 refine zc rfl (yr (es:=([(GLeaf.mk (1:Int) (5:Int) (0:Int) (GDot.mk (GActor.mk (0:Int) (0:Int)) (0:Int)) ([]:zJ) ([]:List GItem) ([]:List GDot))]:List GLeaf).map GLeaf.row) rfl wn ze42 rfl rfl (yh yV ym) (.cons (zb rfl) .nil) rfl rfl rfl) xM ?_
 refine zc rfl (qu (cs':=[.str ([97]:zJ),.osl none 9 (([(GLeaf.mk (1:Int) (5:Int) (0:Int) (GDot.mk (GActor.mk (0:Int) (0:Int)) (0:Int)) ([]:zJ) ([]:List GItem) ([]:List GDot))]:List GLeaf).map GLeaf.row),.osl none 3 (([]:List GNode).map GNode.row)]) rfl su59 ze59 pl59 (yh rfl (yh xE ym)) (.cons (zb rfl) (.cons (zb rfl) .nil)) rfl rfl) xU ?_
 refine zc rfl (yr (es:=([(GNode.mk ([97]:zJ) ([(GLeaf.mk (1:Int) (5:Int) (0:Int) (GDot.mk (GActor.mk (0:Int) (0:Int)) (0:Int)) ([]:zJ) ([]:List GItem) ([]:List GDot))]:List GLeaf) ([]:List GNode))]:List GNode).map GNode.row) rfl xl ze59 rfl rfl (yh xp ym) (.cons (zb rfl) .nil) rfl rfl (by simp only [List.map_cons,List.map_nil,GNode.row_eq];rfl)) wy ?_
 refine zc rfl (zi rfl xQ (zb rfl)) st1 ?_
 refine ze (zj (zk (zd ?_)))
 refine zc rfl (zf rfl yF (zb rfl)) yN ?_
 refine zQ hF (fun v1 hv1 hF=>?_)
 refine zL rfl (zC rfl rfl rfl (zo rfl (zo yy zw)) (.cons (xi xl) (.cons (zb rfl) .nil))) ((ok8 hv1).le (.cons (leV.osl _ _ _) (.cons (leV.osl _ _ _) leL.nil))) yX ?_
 refine zc rfl (zf rfl yM (zb rfl)) yJ ?_
 refine zc rfl (yl rfl yD rfl (zb rfl)) y4 ?_
 refine zc rfl (yl rfl yD rfl (zb rfl)) yZ ?_
 refine zc rfl (zi rfl yE (zb rfl)) xg ?_
 refine zc rfl (zi rfl yS (zb rfl)) wa ?_
 refine ze (zj (zk (zd ?_)))
 refine zc rfl (zf rfl yF (zb rfl)) xj ?_
 refine zc rfl (zf rfl yF (zb rfl)) xy ?_
 refine zQ hF (fun v2 hv2 hF=>?_)
 refine zL rfl (zC rfl rfl rfl (zo xh (zo xq zw)) (.cons (zb rfl) (.cons (zb rfl) .nil))) ((ok8 hv2).le (.cons (leV.osl _ _ _) (.cons (leV.osl _ _ _) leL.nil))) xF ?_
 refine zc rfl (zf rfl xC (zb rfl)) y6 ?_
 refine zc rfl (yl rfl yY rfl (zb rfl)) xN ?_
 refine zc rfl (yl rfl yY rfl (zb rfl)) x8 ?_
 refine zc rfl (zi rfl xL (zb rfl)) yC ?_
 refine zc rfl (zi rfl x9 (zb rfl)) xw ?_
 refine ze (zj (zk (zd ?_)))
 refine zc rfl (zf rfl xu (zb rfl)) wg ?_
 refine zc rfl (zy rfl wb rfl rfl) wo ?_
 refine zc rfl (zf rfl wl (zb rfl)) we ?_
 refine zp rfl (fun hb=>zf rfl yR (zb rfl)) wi ?_
 refine zp rfl (fun hb=>zy rfl (zn wh hb) rfl rfl) wt ?_
 refine zc rfl (zM rfl x4 wp rfl (zU (fun ht=>gT ht))) wQ ?_
 refine zc rfl (zf rfl wO (zb rfl)) wY ?_
 refine zp rfl (fun hb=>zf rfl yW (zb rfl)) wX ?_
 refine xA rfl (fun hb=>zS rfl rfl rfl rfl el29 (zn wT hb) yb) vi fun hn3=>?_
 refine zp rfl (fun hb=>zy rfl (zn vm hb) rfl rfl) vh ?_
 refine zc rfl (zM rfl wU vE rfl (zU (fun ht=>gT ht))) vg ?_
 refine zc rfl (zf rfl vl (zb rfl)) vz ?_
 refine zp rfl (fun hb=>zf rfl yW (zb rfl)) vw ?_
 refine wJ hF (fun hg4 hF=>?_)
 refine zp rfl (fun hb=>xP default rfl el29 (zn vD hb) rfl va (hg4 hb)) vu ?_
 refine zp rfl (fun hb=>zg rfl fo44x2 (zn vj hb) rfl) vt ?_
 refine zp rfl (fun hb=>ye rfl ty4 (zn vC hb) (zr rfl) (zb rfl)) vf ?_
 refine zp rfl (fun hb=>xT rfl (zn vb hb) rfl) vr ?_
 refine zc rfl (zM rfl vk vB rfl (zU (fun ht=>gT ht))) vN ?_
 refine zc rfl (zf rfl vQ (zb rfl)) vM ?_
 refine zp rfl (fun hb=>zf rfl yW (zb rfl)) (sk st0) ?_
 refine wJ hF (fun hg5 hF=>?_)
 refine zp rfl (fun hb=>xP default rfl el29 (zn (gk yq) hb) rfl va (hg5 hb)) (sk st1) ?_
 refine zp rfl (fun hb=>zg rfl fo44x3 (zn (gk yF) hb) rfl) (sk xg) ?_
 refine zp rfl (fun hb=>ye rfl ty4 (zn (gk yW) hb) (zr rfl) (zb rfl)) (sk wa) ?_
 refine zc rfl (zM rfl vJ (gk xu) rfl (zU (fun ht=>gT ht))) (sk yC) ?_
 refine zc rfl (zf rfl (gk yx) (zb rfl)) (sk xw) ?_
 refine zp rfl (fun hb=>zf rfl yW (zb rfl)) (sk xD) ?_
 refine wJ hF (fun hg6 hF=>?_)
 refine zp rfl (fun hb=>xP default rfl el29 (zn (gk yV) hb) rfl va (hg6 hb)) (sk xM) ?_
 refine zp rfl (fun hb=>zg rfl fo44x5 (zn (gk xE) hb) rfl) (sk xU) ?_
 refine zp rfl (fun hb=>zg rfl fo42x1 (zn (gk xp) hb) rfl) (sk wy) ?_
 refine zp rfl (fun hb=>ye rfl ty2 (zn (gk xQ) hb) (zr rfl) (zb rfl)) (sk yJ) ?_
 refine zp rfl (fun hb=>zy rfl (zn (gk yD) hb) rfl rfl) (sk yN) ?_
 refine zc rfl (zM rfl (gk yR) (gk yy) rfl (zU (fun ht=>gT ht))) (sk yX) ?_
 refine zc rfl (zf rfl (gk yM) (zb rfl)) (sk y4) ?_
 refine zp rfl (fun hb=>zf rfl yx (zb rfl)) (sk yZ) ?_
 refine xA rfl (fun hb=>zS rfl rfl rfl rfl el29 (zn (gk yS) hb) yb) (sk y6) fun hn7=>?_
 refine zp rfl (fun hb=>zy rfl (zn (gk yY) hb) rfl rfl) (sk xj) ?_
 refine zc rfl (zM rfl (gk yE) (gk xh) rfl (zU (fun ht=>gT ht))) (sk xy) ?_
 refine zc rfl (zi rfl (gk xq) (zb rfl)) st0 ?_
 refine ze (zj (zI ?_))
 obtain rfl:=Option.some.inj hF
 refine zz rfl (zD yq zF) (zA (leV.refl _) rfl ?_)
 exact ⟨rfl,rfl⟩
/-! varve/op.MayPath 1 -/
theorem ok47 {s0:zJ} {res:Bool} {h:AH}  (hF:opMayPathC1 s0=some res):Spec Tryz.prog 47 [.str s0] h (fun rr hh=>rr=.bool res∧hh=h):=by
 unfold opMayPathC1 at hF
 refine zt Tryz.func47 rfl (by kernel_rfl) (env:=[.str s0,za,za,za,za,za]) (by rfl) ?_
 refine zk (zd ?_)
 refine zc rfl (zi rfl rfl (zb rfl)) xg ?_
 refine ze (zj (zk (zd ?_)))
 refine zc rfl (zf rfl yq (zb rfl)) wa ?_
 refine zQ hF (fun v1 hv1 hF=>?_)
 refine zL rfl (zC rfl rfl rfl (zo xu zw) (.cons (zb rfl) .nil)) (ok19 hv1) yC ?_
 refine zc rfl (xT rfl yx rfl) xw ?_
 refine zc rfl (zi rfl yR (zb rfl)) xg ?_
 refine ze (zj (zI ?_))
 obtain rfl:=Option.some.inj hF
 refine zz rfl (zD yW zF) (zA (leV.refl _) rfl ?_)
 exact ⟨rfl,rfl⟩
/-! varve/op.MayPath -/
theorem ok25 {p0:(List zJ)} {res:Bool} {h:AH}  (hF:opMayPath p0=some res):Spec Tryz.prog 25 [.sl 1 (p0.map zP)] h (fun rr hh=>rr=.bool res∧hh=h):=by
 unfold opMayPath at hF
 refine zt Tryz.func25 rfl (by kernel_rfl) (env:=[.sl 1 (p0.map zP),za,za,za,za,za,za,za,za,za,za,za,za,za,za,za]) (by rfl) ?_
 refine zk (zd ?_)
 refine zc rfl (zi rfl rfl (zb rfl)) xg ?_
 refine ze (zj (zk (zd ?_)))
 refine zc rfl (zf rfl yq (zb rfl)) wa ?_
 refine ya rfl (zS rfl rfl rfl rfl wD xu yb) yC fun hn1=>?_
 replace hn1:=xB hn1
 refine zc rfl (zy rfl yx rfl rfl) xw ?_
 refine zc rfl (zf rfl yR (zb rfl)) xD ?_
 refine zp rfl (fun hb=>zf rfl yq (zb rfl)) xM ?_
 refine xA rfl (fun hb=>zS rfl rfl rfl rfl wD (zn xE hb) yb) xU fun hn2=>?_
 refine zp rfl (fun hb=>zy rfl (zn xp hb) rfl rfl) wy ?_
 refine zc rfl (zM rfl yV xQ rfl (zU (fun ht=>gT ht))) yJ ?_
 refine zc rfl (zf rfl yD (zb rfl)) yN ?_
 refine zp rfl (fun hb=>zf rfl yq (zb rfl)) yX ?_
 refine yP hF (fun v3 hv3 hF=>?_)
 refine yj rfl (fun hb=>zC rfl rfl rfl (zo (zn yM hb) (zo rfl zw)) (.cons (zb rfl) (.cons (zb rfl) .nil))) (fun hb=>ok20 (fun _ v L M hv=>ok47  hv) (hv3 hb)) y4 ?_
 refine zp rfl (fun hb=>xT rfl (zn yE hb) rfl) yZ ?_
 refine zc rfl (zM rfl yy yS rfl (zU (fun ht=>gT ht))) y6 ?_
 refine zc rfl (zi rfl yY (zb rfl)) xg ?_
 refine ze (zj (zI ?_))
 obtain rfl:=Option.some.inj hF
 refine zz rfl (zD yW zF) (zA (leV.refl _) rfl ?_)
 exact ⟨rfl,rfl⟩
/-! varve/paths.Match -/
theorem ok9 {p0:(List zJ)} {path1:(List zJ)} {res:Bool} {h:AH}  (hF:qM p0 path1=some res):Spec Tryz.prog 9 [.sl 1 (p0.map zP),.sl 1 (path1.map zP)] h (fun rr hh=>rr=.bool res∧hh=h):=by
 unfold qM at hF
 refine zt Tryz.func9 rfl (by kernel_rfl) (env:=[.sl 1 (p0.map zP),.sl 1 (path1.map zP),za,za,za,za,za,za,za,za,za,za,za,za,za,za,za,za,za,za,za,za,za,za,za,za,za,za,za,za,za,za,za,za,za,za,za,za,za,za,za,za,za,za,za,za,za,za,za,za,za,za,za,za,za,za,za,za]) (by rfl) ?_
 refine zk (zd ?_)
 refine zc rfl (zi rfl rfl (zb rfl)) yC ?_
 refine ze (zj (zk (zd ?_)))
 refine zc rfl (zf rfl yq (zb rfl)) yJ ?_
 refine zQ hF (fun v1 hv1 hF=>?_)
 refine zL rfl (zC rfl rfl rfl (zo yD zw) (.cons (zb rfl) .nil)) (ok17 hv1) yN ?_
 refine zc rfl (zf rfl yy (zb rfl)) wy ?_
 refine zc rfl (yl rfl xQ rfl (zb rfl)) yX ?_
 refine zc rfl (yl rfl xQ rfl (zb rfl)) y4 ?_
 refine zc rfl (zi rfl yM (zb rfl)) xw ?_
 refine zc rfl (zi rfl yE (zb rfl)) xD ?_
 refine ze (zj (zk (zk (zd ?_))))
 refine zc rfl (zf rfl yq (zb rfl)) yZ ?_
 refine zQ hF (fun v2 hv2 hF=>?_)
 refine zL rfl (zC rfl rfl rfl (zo yS zw) (.cons (zb rfl) .nil)) (ok6 hv2) y6 ?_
 refine zc rfl (xT rfl yY rfl) xj ?_
 refine zc rfl (zf rfl xh (zb rfl)) xy ?_
 refine zp rfl (fun hb=>zf rfl yF (zb rfl)) xF ?_
 refine yP hF (fun v3 hv3 hF=>?_)
 refine yj rfl (fun hb=>zC rfl rfl rfl (zo (zn xC hb) zw) (.cons (zb rfl) .nil)) (fun hb=>ok25 (hv3 hb)) xN ?_
 refine zp rfl (fun hb=>xT rfl (zn xL hb) rfl) x8 ?_
 refine zc rfl (zM rfl xq rfl x9 (z8 (fun ht=>gF ht))) wg ?_
 refine zc rfl (zf rfl wb (zb rfl)) wo ?_
 refine zp rfl (fun hb=>zf rfl yF (zb rfl)) we ?_
 refine xA rfl (fun hb=>zS rfl rfl rfl rfl wD (zn x4 hb) yb) wi fun hn4=>?_
 refine zp rfl (fun hb=>zf rfl yR (zb rfl)) wt ?_
 refine xA rfl (fun hb=>zS rfl rfl rfl rfl wD (zn wp hb) yb) wQ fun hn5=>?_
 refine zp rfl (fun hb=>zy rfl (zn wh hb) (zn wO hb) rfl) wY ?_
 refine zc rfl (zM rfl wl rfl wU (z8 (fun ht=>gF ht))) wX ?_
 refine zc rfl (zf rfl wT (zb rfl)) vi ?_
 refine zp rfl (fun hb=>zf rfl yF (zb rfl)) vh ?_
 refine xA rfl (fun hb=>zS rfl rfl rfl rfl wD (zn vE hb) yb) vg fun hn6=>?_
 refine zp rfl (fun hb=>zf rfl yR (zb rfl)) vz ?_
 refine xA rfl (fun hb=>zS rfl rfl rfl rfl wD (zn vk hb) yb) vw fun hn7=>?_
 refine zp rfl (fun hb=>zy rfl (zn vl hb) (zn vD hb) rfl) vu ?_
 refine zp rfl (fun hb=>zf rfl (zn vj hb) (zb rfl)) vt ?_
 refine zp (z7 rfl rfl rfl) (fun hb=>zf rfl yV (zb rfl)) vf ?_
 refine zp (z7 rfl rfl rfl) (fun hb=>xT rfl (zn vb hb) rfl) vr ?_
 refine zp rfl (fun hb=>zM rfl (zn vC hb) vB rfl (zU (fun ht=>gT2 hb ht))) vN ?_
 refine zc rfl (zM rfl vm rfl vQ (z8 (fun ht=>gF ht))) vM ?_
 refine ze (zj ?_)
 refine zN vJ hF (fun hc8 hF=>?_) (fun hc8 hF=>?_)
 ·refine zk (zd ?_)
  refine zc rfl (zi rfl rfl (zb rfl)) yC ?_
  refine ze (zj (zI (zx ?_)))
  obtain rfl:=Option.some.inj hF
  refine zz rfl (zD yx zF) (zA (leV.refl _) rfl ?_)
  exact ⟨rfl,rfl⟩
 ·refine zK (zj (zk (zk (zd ?_))))
  refine zc rfl (zf rfl yR (zb rfl)) (sk st0) ?_
  refine ya rfl (zS rfl rfl rfl rfl wD (gk yq) yb) (sk st1) fun hn9=>?_
  replace hn9:=xB hn9
  refine zc rfl (zf rfl rfl (zb rfl)) (sk xg) ?_
  refine ze (zj (zR ?_))
  refine yu (fun (n1:Nat) (s1:Unit)=>yQ [0,2,3,4,5,6,7,8,9,10,11,12,13,14,15,16,17,18,19,20,21,22,23,24,25,26,27,28,29,30,31,32,33,34,35,36,37,38,39,43,44,45,46,47,48,49,50,51,52,53,54,55,56,57] [(42,.int .i64 (n1:Int))]) (fun s1=>h.ext [] []) hF (fun _ _=>by simp only [yQ,upd,List.set_cons_succ,List.set_cons_zero];try rfl) (wk.le (by exact (.drop (.eq (.d16 (.d16 (.d4 (.drop (.drop (.eq (.eq (.cons (leV.of_eq rfl) (.d4 (.d4 (.d4 (.drop (.drop (.drop leL.nil)))))))))))))))))) ?_
  intro n1 s1 hi1 hF
  refine zk (zd ?_)
  refine zc rfl (zy rfl (gk yW) (gk yF) rfl) (sk wa) ?_
  refine ze (zj (zk ?_))
  refine yL (gk xu) hF (fun x1 o1 hl1 hx1 hF hK1=>?_) (fun hF=>?_)
  ·refine zK (zj (zk (zR (zk (zd ?_)))))
   refine zc rfl (zf rfl (gk yW) (zb rfl)) (sk yC) ?_
   refine zc rfl (yk rfl wD (gk yq) (gk yW) va (yO hx1)) (sk xw) ?_
   refine zc rfl (ye rfl ty9 (gk yR) (zr rfl) (zb rfl)) (sk xD) ?_
   refine zc rfl (zi rfl (gk yx) (zb rfl)) xM ?_
   refine zc rfl (zi rfl (gk yV) (zb rfl)) xU ?_
   refine ze (zj (zk (zd ?_)))
   refine zc rfl (zf rfl xp (zb rfl)) (sk xM) ?_
   refine zc rfl (zy rfl (gk xE) rfl rfl) (sk xU) ?_
   refine zc rfl (zf rfl (gk xp) (zb rfl)) (sk wy) ?_
   refine zp rfl (fun hb=>zf rfl xp (zb rfl)) (sk yJ) ?_
   refine zp rfl (fun hb=>zf rfl yF (zb rfl)) (sk yN) ?_
   refine zp rfl (fun hb=>zf rfl xE (zb rfl)) (sk yX) ?_
   refine wJ hF (fun hg15 hF=>?_)
   refine zp rfl (fun hb=>xP default rfl wD (zn (gk yy) hb) (zn (gk yM) hb) va (hg15 hb)) (sk y4) ?_
   refine zp rfl (fun hb=>ye rfl ty9 (zn (gk yE) hb) (zr rfl) (zb rfl)) (sk yZ) ?_
   refine zp rfl (fun hb=>zy rfl (zn (gk yD) hb) (zn (gk yS) hb) rfl) (sk y6) ?_
   refine zc rfl (zM rfl (gk xQ) (gk yY) rfl (zU (fun ht=>gT ht))) (sk xj) ?_
   refine ze (zj ?_)
   refine zN (gk xh) hF (fun hc16 hF=>?_) (fun hc16 hF=>?_)
   ·refine zk (zd ?_)
    refine zc rfl (zi rfl rfl (zb rfl)) yC ?_
    refine ze (zj (zI ?_))
    refine zG ?_
    refine zx ?_
    refine yd ?_
    obtain rfl:=Option.some.inj hF
    replace hF:=hK1
    refine zG ?_
    refine zx ?_
    obtain rfl:=Option.some.inj hF
    refine zz rfl (zD yx zF) (zA (leV.refl _) rfl ?_)
    exact ⟨rfl,rfl⟩
   ·refine zK (yg (zj (zd ?_)))
    refine zc rfl (zy rfl (gk yW) rfl rfl) (sk xy) ?_
    refine zc rfl (zf rfl (gk xq) (zb rfl)) (sk xg) ?_
    refine ze (yH ?_)
    obtain rfl:=Option.some.inj hF
    exact ⟨(),hl1,hK1,wk.le (by exact (.drop (.eq (.d16 (.d16 (.d4 (.drop (.drop (.eq (.eq (.cons (leV.of_eq (ve (by omega) (by omega))) (.d4 (.d4 (.d4 (.drop (.drop (.drop leL.nil)))))))))))))))))⟩
  ·refine yU ?_
   refine zZ ?_
   refine zW ?_
   refine zX ?_
   refine zj (zk (zd ?_))
   refine zc rfl (zi rfl rfl (zb rfl)) yC ?_
   refine ze (zj (zI ?_))
   obtain rfl:=Option.some.inj hF
   refine zz rfl (zD yx zF) (zA (leV.refl _) rfl ?_)
   exact ⟨rfl,rfl⟩
/-! varve/paths.kept -/
theorem ok30N (n:Nat):∀ {t0:(List GNode)} {ahead1:(List zJ)} {is2:((List zJ)→Option Bool)} {fis2:FuncId} {ais2 kis2:List AV} {res:(List GNode)} {h:AH} (his2:∀ x0 v (L:List Blk) (M:List Nat),is2 x0=some v→Spec Tryz.prog fis2 (ais2++[.sl 1 (x0.map zP)]++kis2) (h.ext L M) (fun rr hh=>rr=.bool v∧hh=h.ext L M)),qj n t0 ahead1 is2=some res→Spec Tryz.prog 30 [.sl 3 (t0.map GNode.row),.sl 1 (ahead1.map zP),.fn (.func fis2) ais2 kis2] h (fun rr hh=>rr=.sl 3 (res.map GNode.row)∧hh=h):=by
 induction n with
 | zero=>intro t0 ahead1 is2 fis2 ais2 kis2 res h his2 hF;simp [qj] at hF
 | succ n ih =>
  intro t0 ahead1 is2 fis2 ais2 kis2 res h his2 hF
  unfold qj at hF
  refine yG Tryz.func30 rfl (by kernel_rfl) (env:=[.sl 3 (t0.map GNode.row),.sl 1 (ahead1.map zP),.fn (.func fis2) ais2 kis2,za,za,za,za,za,za,za,za,za,za,za,za,za,za,za,za,za,za,za,za,za,za,za,za,za,za,za,za,za,za,za,za,za,za,za,za,za,za,za,za,za,za,za,za,za,za,za,za,za,za,za,za,za,za,za,za,za,za,za,za,za,za]) (by rfl) (fun hlow hC=>?_)
  simp only [yi,AV.low,Bool.and_eq_true,Bool.true_and,and_true] at hlow
  have hlais2:∀ n m,h.blks.length≤n→h.toks.length≤m→yi n m ais2=true:=fun n m h1 h2=>xd h1 h2 _ (by simp [hlow])
  have hlkis2:∀ n m,h.blks.length≤n→h.toks.length≤m→yi n m kis2=true:=fun n m h1 h2=>xd h1 h2 _ (by simp [hlow])
  refine zk (zd ?_)
  refine zc rfl (zi rfl rfl (xi xl)) xD ?_
  refine ze (zj (zk (zk (zd ?_))))
  refine zc rfl (zf rfl yq (zb rfl)) y4 ?_
  refine ya rfl (zS rfl rfl rfl rfl xl yE yb) yZ fun hn1=>?_
  replace hn1:=xB hn1
  refine zc rfl (zf rfl rfl (zb rfl)) y6 ?_
  refine ze (zj (zR ?_))
  refine yu (fun (n1:Nat) (s1:(List GNode))=>yQ [0,3,4,5,7,8,9,10,11,12,16,17,18,19,20,21,22,23,24,25,26,27,28,29,30,31,32,33,34,35,36,37,38,39,40,41,42,43,44,45,46,47,48,49,50,51,52,53,54,55,56,57,58,59,60,61,62,63,64] [(6,.osl (some (h.toks.length+0)) 3 (s1.map GNode.row)),(15,.int .i64 (n1:Int))]) (fun s1=>h.ext [] [(s1).length]) hF (fun _ _=>by simp only [yQ,upd,List.set_cons_succ,List.set_cons_zero];try rfl) (wk.trans (wk_tok yV rfl xD rfl) (wk.le (by exact (.drop (.eq (.eq (.drop (.drop (.drop (.cons (leV.of_eq rfl) (.d4 (.drop (.drop (.eq (.eq (.cons (leV.of_eq rfl) (.d16 (.d16 (.d16 (.drop leL.nil)))))))))))))))))))) ?_
  intro n1 s1 hi1 hF
  refine zk (zd ?_)
  refine zc rfl (zy rfl yY yS rfl) xj ?_
  refine ze (zj (zk ?_))
  refine yL xh hF (fun x1 o1 hl1 hx1 hF hK1=>?_) (fun hF=>?_)
  ·refine zK (zj (zk (zR (zk (zd ?_)))))
   refine zc rfl (xO rfl xl yE yY va (yO hx1) (GNode.row_eq _)) xy ?_
   refine zc rfl (ye rfl ty59.choose_spec.1 xq (zH (cs':=[.str x1.name,.sl 9 (x1.leaves.map GLeaf.row),.sl 3 (x1.subs.map GNode.row)]) ty59.choose_spec.2 rfl rfl) (zb rfl)) xF ?_
   refine zc rfl (xe (n:=0) rfl ze59 rfl) xU ?_
   refine zc rfl (yf (cs':=[.str x1.name,.sl 9 (x1.leaves.map GLeaf.row),.sl 3 (x1.subs.map GNode.row)]) rfl ty59.choose_spec.1 xp xC (zb rfl) rfl rfl rfl rfl rfl) rfl ?_
   refine ze (zj (zk ?_))
   refine yK [] [] trivial mixed (by kernel_rfl) ?_
   refine zq rfl rfl (zf rfl yF (zb rfl)) xN ?_
   refine zQ hF (fun v32 hv32 hF=>?_)
   refine vd rfl FOk.nil (by rfl) rfl (zC rfl rfl rfl (zo xL zw) (.cons (zb rfl) .nil)) (own_ext (T':=[(s1).length,(v32).length]) (ok68 hv32) (m:=1) rfl rfl) x8 ?_
   refine zq rfl rfl (zg rfl fo59x0 xp rfl) wg ?_
   refine zq rfl rfl (zu rfl ty9 wb rfl (zr rfl) (zb rfl)) wo ?_
   refine zq rfl rfl (yr (es:=([x1.name]:List zJ).map zP) rfl wD ze9 rfl rfl (yh wl ym) (.cons (zb rfl) .nil) rfl rfl rfl) we ?_
   refine wJ hF (fun hm33 hF=>?_)
   refine draw_okH rfl FOk.nil (by rfl) rfl (e_appT (j:=1) (T':=[(s1).length,((v32++([x1.name]:List zJ))).length]) rfl rfl rfl rfl wD wD x9 x4 (zb rfl) (zb rfl) news_osl hm33 rfl rfl) wi ?_
   refine zq rfl rfl (zi rfl wh (zb rfl)) wy ?_
   refine yo ?_
   refine zj (zk ?_)
   refine yK [1,3,6] [(1,[(0,.cells [.str x1.name,.sl 9 (x1.leaves.map GLeaf.row),.sl 3 (x1.subs.map GNode.row)])]),(3,[(0,.cells [.str x1.name,.sl 9 (x1.leaves.map GLeaf.row),.sl 3 (x1.subs.map GNode.row)])])] ⟨⟨rfl,trivial⟩,⟨rfl,trivial⟩,trivial⟩ mixed (by kernel_rfl) ?_
   refine zq rfl rfl (zg rfl fo59x0 xp rfl) wt ?_
   refine draw_okN rfl rfl (by rintro _ ⟨B2,T2,rfl,hk2⟩;exact zu rfl ty9 wp (keeps1 hk2) (zr rfl) (zb rfl)) wQ ?_
   refine zq rfl rfl (zg rfl fo59x2 xp rfl) wY ?_
   refine draw_okN rfl rfl (by rintro _ ⟨B2,T2,rfl,hk2⟩;exact zu rfl ty23 wU (keeps1 hk2) (zr rfl) (zb rfl)) wX ?_
   refine zq rfl rfl (zf rfl xQ (zb rfl)) vi ?_
   refine zq rfl rfl (zf rfl yW (zb rfl)) vh ?_
   refine zQ hF (fun v34 hv34 hF=>?_)
   refine yv rfl rfl (fun _=>zC rfl rfl rfl (zo wT (zo vm (zo vE zw))) (.cons (zb rfl) (.cons (zb rfl) (.cons (zb rfl) .nil)))) (by rintro _ ⟨B2,T2,rfl,hk2⟩;exact (ih (fun x0 v L M hv=>by rw [wr];exact his2 x0 v _ _ hv) hv34).le (.eq (.cons (leV.osl _ _ _) (.eq leL.nil)))) vg ?_
   refine zq rfl rfl (qu (cs':=[.str x1.name,.osl none 9 (([]:List GLeaf).map GLeaf.row),.sl 3 (v34.map GNode.row)]) rfl su59 ze59 pl59 (yh wO (yh vl ym)) (.cons (zb rfl) (.cons (zb rfl) .nil)) rfl rfl) vz ?_
   refine xb rfl (FOk.cons (.inr (xX ⟨rfl,trivial⟩)) (FOk.cons (.inr (xX ⟨rfl,trivial⟩)) (FOk.cons (.inr (xX trivial)) FOk.nil))) (by kernel_rfl) rfl (xe (n:=1) rfl ze59 rfl) yJ ?_
   refine xb rfl (FOk.cons (.inr (xX ⟨rfl,trivial⟩)) (FOk.cons (.inr (xX ⟨rfl,trivial⟩)) (FOk.cons (.inr (xX trivial)) FOk.nil))) (by kernel_rfl) rfl (yf (cs':=[.str x1.name,.osl none 9 (([]:List GLeaf).map GLeaf.row),.sl 3 (v34.map GNode.row)]) rfl ty59.choose_spec.1 yD vk (zb rfl) rfl rfl rfl rfl rfl) rfl ?_
   refine yo ?_
   refine zj (zk (zk (zd ?_)))
   refine zc rfl (zg rfl x6 xp rfl) vw ?_
   refine zc rfl (zu rfl ty57 vD rfl (zr rfl) (zb rfl)) vu ?_
   refine ya rfl (zS rfl rfl rfl rfl wn vj yb) vt fun hn35=>?_
   replace hn35:=xB hn35
   refine zc rfl (zf rfl rfl (zb rfl)) vf ?_
   refine ze (zj (zR ?_))
   refine yu (fun (n2:Nat) (s2:(List GLeaf))=>yQ [0,3,4,5,7,8,11,12,16,17,18,19,20,21,22,23,24,25,26,27,28,29,30,31,32,33,37,38,39,40,41,42,43,44,45,46,47,48,49,50,51,52,53,54,55,56,57,58,59,60,61,62,63,64] [(36,.int .i64 (n2:Int))]) (fun s2=>h.ext [.cells [.str x1.name,.sl 9 (x1.leaves.map GLeaf.row),.sl 3 (x1.subs.map GNode.row)],.cells [.str x1.name,.osl (some (h.toks.length+2)) 9 (s2.map GLeaf.row),.sl 3 (v34.map GNode.row)]] [(s1).length,((v32++([x1.name]:List zJ))).length,(s2).length]) hF (fun _ _=>by simp only [yQ,upd,List.set_cons_succ,List.set_cons_zero];try rfl) (wk.trans (wk_tokB (j:=1) rfl yF rfl st1 rfl rfl) (wk.le (by exact (.drop (.eq (.eq (.drop (.drop (.drop (.eq (.drop (.drop (.eq (.eq (.drop (.drop (.eq (.eq (.eq (.d16 (.drop (.drop (.eq (.eq (.cons (leV.of_eq rfl) (.d16 (.d4 (.d4 (.d4 leL.nil))))))))))))))))))))))))))))) ?_
   intro n2 s2 hi2 hF
   refine zk (zd ?_)
   refine zc rfl (zy rfl vb vC rfl) vr ?_
   refine ze (zj (zk ?_))
   refine yL vB hF (fun x2 o2 hl2 hx2 hF hK2=>?_) (fun hF=>?_)
   ·refine zK (zj (zk (zR (zk (zd ?_)))))
    refine zc rfl (yk rfl wn vj vb va (yO hx2)) vN ?_
    refine zc rfl (ye rfl ty42.choose_spec.1 vQ (zH (cs':=[.int .u8 x2.typ,.int .i64 x2.n,.int .u64 x2.time,.int .u8 x2.dot.actor.rep,.int .u32 x2.dot.actor.inc,.int .u64 x2.dot.seq,.str x2.text,.sl 5 (x2.items.map GItem.row),.sl 3 (x2.tombs.map GDot.row)]) ty42.choose_spec.2 rfl rfl) (zb rfl)) vM ?_
    refine zc rfl (xe (n:=2) rfl ze42 rfl) yX ?_
    refine zc rfl (yf (cs':=[.int .u8 x2.typ,.int .i64 x2.n,.int .u64 x2.time,.int .u8 x2.dot.actor.rep,.int .u32 x2.dot.actor.inc,.int .u64 x2.dot.seq,.str x2.text,.sl 5 (x2.items.map GItem.row),.sl 3 (x2.tombs.map GDot.row)]) rfl ty42.choose_spec.1 yM vJ (zb rfl) rfl rfl rfl rfl rfl) rfl ?_
    refine ze (zj (zk (zd ?_)))
    refine zc rfl (zf rfl yW (zb rfl)) (sk st0) ?_
    refine zc rfl (zf rfl xQ (zb rfl)) (sk st1) ?_
    refine zQ hF (fun v49 hv49 hF=>?_)
    refine zL rfl (s_callC rfl rfl (gk yq) (zo (gk yF) zw) (.cons (zb rfl) .nil) rfl) ((his2 _ _ _ _ hv49).le (leL.app (leL.pre (.cons (leV.osl _ _ _) leL.nil)))) (sk xg) ?_
    refine ze (zj ?_)
    refine zN (gk yW) hF (fun hc50 hF=>?_) (fun hc50 hF=>?_)
    ·refine yK [3] [] trivial mixed (by kernel_rfl) ?_
     refine zq rfl rfl (zg rfl x6 yD rfl) (sk wa) ?_
     refine zq rfl rfl (zu rfl ty57 (gk xu) rfl (zr rfl) (zb rfl)) (sk yC) ?_
     refine zq rfl rfl (zu rfl ty42.choose_spec.1 yM rfl (zH (cs':=[.int .u8 x2.typ,.int .i64 x2.n,.int .u64 x2.time,.int .u8 x2.dot.actor.rep,.int .u32 x2.dot.actor.inc,.int .u64 x2.dot.seq,.str x2.text,.sl 5 (x2.items.map GItem.row),.sl 3 (x2.tombs.map GDot.row)]) ty42.choose_spec.2 rfl rfl) (zb rfl)) (sk xw) ?_
     refine zQ hF (fun v51 hv51 hF=>?_)
     refine yv rfl rfl (fun _=>zC rfl rfl rfl (zo (gk yR) zw) (.cons (zb rfl) .nil)) (by rintro _ ⟨B2,T2,rfl,hk2⟩;exact ok69 hv51) (sk xD) ?_
     refine zq rfl rfl (yr (es:=([v51]:List GLeaf).map GLeaf.row) rfl wn ze42 rfl rfl (yh (gk yV) ym) (.cons (zb rfl) .nil) rfl rfl rfl) (sk xM) ?_
     refine wJ hF (fun hm52 hF=>?_)
     refine draw_okH rfl (FOk.cons (.inr (xX trivial)) FOk.nil) (by rfl) rfl (e_appT (j:=2) (T':=[(s1).length,((v32++([x1.name]:List zJ))).length,((s2++([v51]:List GLeaf))).length]) rfl rfl rfl rfl wn wn (gk yx) (gk xE) (zb rfl) (zb rfl) news_osl hm52 rfl rfl) (sk xU) ?_
     refine zq rfl rfl (zg rfl x6 yD rfl) (sk wy) ?_
     refine xb rfl (FOk.cons (.inr (xX trivial)) FOk.nil) (by kernel_rfl) rfl (yf (cs':=[.str x1.name,.osl (some (h.toks.length+2)) 9 ((s2++([v51]:List GLeaf)).map GLeaf.row),.sl 3 (v34.map GNode.row)]) rfl ty57 (gk xQ) (gk xp) (zb rfl) rfl rfl rfl rfl rfl) rfl ?_
     refine yo ?_
     refine yg (zj (zd ?_))
     refine zc rfl (zy rfl vb rfl rfl) (sk yJ) ?_
     refine zc rfl (zf rfl (gk yD) (zb rfl)) vf ?_
     refine ze (yH ?_)
     obtain rfl:=Option.some.inj hF
     exact ⟨(s2++([v51]:List GLeaf)),hl2,hK2,wk.trans (wk.le (by exact (.drop (.eq (.eq (.drop (.drop (.drop (.eq (.drop (.drop (.eq (.eq (.drop (.drop (.eq (.eq (.eq (.d16 (.drop (.drop (.eq (.eq (.cons (leV.of_eq (ve (by omega) (by omega))) (.d16 (.d4 (.d4 (.d4 leL.nil)))))))))))))))))))))))))))) (xJ (by simp [yi,AV.low,hlais2,hlkis2]) rfl rfl (by simp [Blk.low,yi,AV.low,hlais2,hlkis2]))⟩
    ·refine zK (yg (zj (zd ?_)))
     refine zc rfl (zy rfl vb rfl rfl) (sk yJ) ?_
     refine zc rfl (zf rfl (gk yD) (zb rfl)) vf ?_
     refine ze (yH ?_)
     obtain rfl:=Option.some.inj hF
     exact ⟨s2,hl2,hK2,wk.trans (wk.le (by exact (.drop (.eq (.eq (.drop (.drop (.drop (.eq (.drop (.drop (.eq (.eq (.drop (.drop (.eq (.eq (.eq (.d16 (.drop (.drop (.eq (.eq (.cons (leV.of_eq (ve (by omega) (by omega))) (.d16 (.d4 (.d4 (.d4 leL.nil)))))))))))))))))))))))))))) (xJ (by simp [yi,AV.low,hlais2,hlkis2]) rfl rfl (by simp [Blk.low,yi,AV.low,hlais2,hlkis2]))⟩
   ·refine yU ?_
    refine zZ ?_
    refine zW ?_
    refine zX ?_
    refine zj (zk (zd ?_))
    refine zc rfl (zg rfl x6 yD rfl) (sk yN) ?_
    refine zc rfl (zu rfl ty57 (gk yy) rfl (zr rfl) (zb rfl)) (sk yX) ?_
    refine ya rfl (zS rfl rfl rfl rfl wn (gk yM) lenMapO) (sk y4) fun hn53=>?_
    replace hn53:=xB hn53
    refine zc rfl (zg rfl fo59x2 yD rfl) (sk yZ) ?_
    refine zc rfl (zu rfl ty23 (gk yS) rfl (zr rfl) (zb rfl)) (sk y6) ?_
    refine ya rfl (zS rfl rfl rfl rfl xl (gk yY) yb) (sk xj) fun hn54=>?_
    replace hn54:=xB hn54
    refine zc rfl (zy rfl (gk yE) (gk xh) rfl) (sk xy) ?_
    refine zc rfl (zy rfl (gk xq) rfl rfl) (sk xF) ?_
    refine ze (zj ?_)
    refine zN (gk xC) hF (fun hc55 hF=>?_) (fun hc55 hF=>?_)
    ·refine zd ?_
     refine zc rfl (zf rfl yV (zb rfl)) (sk xN) ?_
     refine zc rfl (zu rfl ty59.choose_spec.1 yD rfl (zH (cs':=[.str x1.name,.osl (some (h.toks.length+2)) 9 (s2.map GLeaf.row),.sl 3 (v34.map GNode.row)]) ty59.choose_spec.2 rfl rfl) (zb rfl)) (sk x8) ?_
     refine zc rfl (yr (es:=([(GNode.mk x1.name s2 v34)]:List GNode).map GNode.row) rfl xl ze59 rfl rfl (yh (gk x9) ym) (.cons (zb rfl) .nil) rfl rfl (by simp only [List.map_cons,List.map_nil,GNode.row_eq];rfl)) (sk wg) ?_
     refine wJ hF (fun hm56 hF=>?_)
     refine zc rfl (e_appT (j:=0) (T':=[((s1++([(GNode.mk x1.name s2 v34)]:List GNode))).length,((v32++([x1.name]:List zJ))).length,(s2).length]) rfl rfl rfl rfl xl xl (gk xL) (gk wb) (zb rfl) (zb rfl) news_osl hm56 rfl rfl) (sk wo) ?_
     refine zc rfl (zi rfl (gk wl) (zb rfl)) xD ?_
     refine ze (yg (zj (zd ?_)))
     refine zc rfl (zy rfl yY rfl rfl) (sk we) ?_
     refine zc rfl (zf rfl (gk x4) (zb rfl)) y6 ?_
     refine ze (yH ?_)
     obtain rfl:=Option.some.inj hF
     exact ⟨(s1++([(GNode.mk x1.name s2 v34)]:List GNode)),hl1,hK1,wk.trans (wk.le (by exact (.drop (.eq (.eq (.drop (.drop (.drop (.cons (leV.of_eq rfl) (.d4 (.drop (.drop (.eq (.eq (.cons (leV.of_eq (ve (by omega) (by omega))) (.d16 (.d16 (.d16 (.drop leL.nil))))))))))))))))))) (xJ (by simp [yi,AV.low,hlais2,hlkis2]) rfl rfl (by simp [Blk.low,yi,AV.low,hlais2,hlkis2]))⟩
    ·refine zK (yg (zj (zd ?_)))
     refine zc rfl (zy rfl yY rfl rfl) (sk we) ?_
     refine zc rfl (zf rfl (gk x4) (zb rfl)) y6 ?_
     refine ze (yH ?_)
     obtain rfl:=Option.some.inj hF
     exact ⟨s1,hl1,hK1,wk.trans (wk.le (by exact (.drop (.eq (.eq (.drop (.drop (.drop (.cons (leV.of_eq rfl) (.d4 (.drop (.drop (.eq (.eq (.cons (leV.of_eq (ve (by omega) (by omega))) (.d16 (.d16 (.d16 (.drop leL.nil))))))))))))))))))) (xJ (by simp [yi,AV.low,hlais2,hlkis2]) rfl rfl (by simp [Blk.low,yi,AV.low,hlais2,hlkis2]))⟩
  ·refine yU ?_
   refine zZ ?_
   refine zW ?_
   refine zX ?_
   refine zj (zk (zd ?_))
   refine zc rfl (zf rfl yV (zb rfl)) (sk wi) ?_
   refine zc rfl (zi rfl (gk wh) (zb rfl)) xD ?_
   refine ze (zj (zI ?_))
   obtain rfl:=Option.some.inj hF
   refine zz rfl (zD yV zF) (zA (leV.osl _ _ _) rfl ?_)
   exact ⟨rfl,rfl⟩
theorem ok30 {t0:(List GNode)} {ahead1:(List zJ)} {is2:((List zJ)→Option Bool)} {fis2:FuncId} {ais2 kis2:List AV} {res:(List GNode)} {h:AH} (his2:∀ x0 v (L:List Blk) (M:List Nat),is2 x0=some v→Spec Tryz.prog fis2 (ais2++[.sl 1 (x0.map zP)]++kis2) (h.ext L M) (fun rr hh=>rr=.bool v∧hh=h.ext L M)) (hF:pathsXkept t0 ahead1 is2=some res):Spec Tryz.prog 30 [.sl 3 (t0.map GNode.row),.sl 1 (ahead1.map zP),.fn (.func fis2) ais2 kis2] h (fun rr hh=>rr=.sl 3 (res.map GNode.row)∧hh=h):=by
 obtain ⟨n,hn⟩:=anyN_is hF
 exact ok30N n his2 hn
/-! varve/paths.Select 1 -/
theorem ok31 {path0:(List zJ)} {c0:(List zJ)} {i0:Nat} {res:Bool} {h:AH} (hb0:h.blk i0=some (.cells [.sl 1 (c0.map zP)])) (hF:pathsSelectC1 path0 c0=some res):Spec Tryz.prog 31 [.sl 1 (path0.map zP),.ptr i0 0] h (fun rr hh=>rr=.bool res∧hh=h):=by
 unfold pathsSelectC1 at hF
 refine zt Tryz.func31 rfl (by kernel_rfl) (env:=[.sl 1 (path0.map zP),.ptr i0 0,za,za,za,za,za]) (by rfl) ?_
 refine zk (zd ?_)
 refine zc rfl (zi rfl rfl (zb rfl)) wa ?_
 refine ze (zj (zk (zd ?_)))
 refine zc rfl (b_load rfl ty24 yF hb0 (zr rfl) (zb rfl)) yC ?_
 refine zc rfl (zf rfl yq (zb rfl)) xw ?_
 refine zQ hF (fun v1 hv1 hF=>?_)
 refine zL rfl (zC rfl rfl rfl (zo yx (zo yR zw)) (.cons (zb rfl) (.cons (zb rfl) .nil))) (ok9 hv1) xD ?_
 refine zc rfl (zi rfl yV (zb rfl)) wa ?_
 refine ze (zj (zI ?_))
 obtain rfl:=Option.some.inj hF
 refine zz rfl (zD xu zF) (zA (leV.refl _) rfl ?_)
 exact ⟨rfl,rfl⟩
/-! varve/paths.Select -/
theorem ok11 {t0:(List GNode)} {p1:(List zJ)} {res:((List GNode)×Int)} {h:AH}  (hF:w6 t0 p1=some res):Spec Tryz.prog 11 [.sl 3 (t0.map GNode.row),.sl 1 (p1.map zP)] h (fun rr hh=>rr=.tup [.sl 3 (res.1.map GNode.row),.int .i64 res.2]∧hh=h):=by
 unfold w6 at hF
 refine zt Tryz.func11 rfl (by kernel_rfl) (env:=[.sl 3 (t0.map GNode.row),.sl 1 (p1.map zP),za,za,za,za,za,za,za,za,za,za,za,za,za,za,za]) (by rfl) ?_
 refine zk (zd ?_)
 refine zc rfl (xr (n:=0) rfl yF (zb rfl) rfl rfl) wa ?_
 refine zc rfl (zi rfl rfl (xi xl)) yC ?_
 refine zc rfl (zi rfl rfl (zb rfl)) xw ?_
 refine ze (zj (zk (zk (zd ?_))))
 refine zc rfl (zf rfl yq (zb rfl)) xD ?_
 refine zQ hF (fun v1 hv1 hF=>?_)
 refine zL rfl (zC rfl rfl rfl (zo yV zw) (.cons (zb rfl) .nil)) (ok21 hv1) xM ?_
 refine zc rfl (xT rfl xE rfl) xU ?_
 refine zc rfl (zf rfl xp (zb rfl)) wy ?_
 refine zp rfl (fun hb=>zu rfl ty24 xu rfl (zr rfl) (zb rfl)) yJ ?_
 refine yP hF (fun v2 hv2 hF=>?_)
 refine yj rfl (fun hb=>zC rfl rfl rfl (zo (zn yD hb) zw) (.cons (zb rfl) .nil)) (fun hb=>ok6 (hv2 hb)) yN ?_
 refine zp rfl (fun hb=>xT rfl (zn yy hb) rfl) yX ?_
 refine zc rfl (zM rfl xQ rfl yM (z8 (fun ht=>gF ht))) y4 ?_
 refine ze (zj ?_)
 refine zN yE hF (fun hc3 hF=>?_) (fun hc3 hF=>?_)
 ·refine zk (zd ?_)
  refine zc rfl (zi rfl rfl (xi xl)) yC ?_
  refine zc rfl (zi rfl rfl (zb rfl)) xw ?_
  refine ze (zj (zI (zx ?_)))
  obtain rfl:=Option.some.inj hF
  refine qC rfl (zD yx (zD yR zF)) (zA (leV.tup (.cons (leV.osl _ _ _) (.eq leL.nil))) rfl ?_)
  exact ⟨rfl,rfl⟩
 ·refine zK (zj (zk (zd ?_)))
  refine zc rfl (zf rfl yq (zb rfl)) yZ ?_
  refine zc rfl (qJ rfl rfl rfl) y6 ?_
  refine zQ hF (fun v4 hv4 hF=>?_)
  refine zL rfl (zC rfl rfl rfl (zo yS (zo rfl (zo yY zw))) (.cons (zb rfl) (.cons (xi wD) (.cons (zb rfl) .nil)))) ((ok30 (fun _ v L M hv=>ok31 (blk_ext2 (j:=0) rfl) hv) hv4).le (.eq (.cons (leV.osl _ _ _) (.eq leL.nil)))) xj ?_
  refine zc rfl (zi rfl xh (zb rfl)) yC ?_
  refine zc rfl (zi rfl rfl (zb rfl)) xw ?_
  refine ze (zj (zI ?_))
  obtain rfl:=Option.some.inj hF
  refine qC rfl (zD yx (zD yR zF)) (zA (leV.refl _) rfl ?_)
  exact ⟨rfl,rfl⟩
/-! varve/diff.side -/
theorem ok48 {there0:Bool} {l1:GLeaf} {kind2:Int} {res:Bool} {h:AH}  (hF:vF there0 l1 kind2=some res):Spec Tryz.prog 48 [.bool there0,.agg [.int .u8 l1.typ,.int .i64 l1.n,.int .u64 l1.time,.int .u8 l1.dot.actor.rep,.int .u32 l1.dot.actor.inc,.int .u64 l1.dot.seq,.str l1.text,.sl 5 (l1.items.map GItem.row),.sl 3 (l1.tombs.map GDot.row)],.int .u8 kind2] h (fun rr hh=>rr=.bool res∧hh=h):=by
 unfold vF at hF
 refine zt Tryz.func48 rfl (by kernel_rfl) (env:=[.bool there0,.agg [.int .u8 l1.typ,.int .i64 l1.n,.int .u64 l1.time,.int .u8 l1.dot.actor.rep,.int .u32 l1.dot.actor.inc,.int .u64 l1.dot.seq,.str l1.text,.sl 5 (l1.items.map GItem.row),.sl 3 (l1.tombs.map GDot.row)],.int .u8 kind2,za,za,za,za,za,za,za,za,za,za,za,za,za,za,za,za,za]) (by rfl) ?_
 refine zk (zd ?_)
 refine zc rfl (xr (n:=0) rfl yF (zb rfl) rfl rfl) yC ?_
 refine zc rfl (zi rfl rfl (zb rfl)) xD ?_
 refine ze (zj (zk (zk (zd ?_))))
 refine zc rfl (zf rfl yq (zb rfl)) xM ?_
 refine zc rfl (xT rfl xE rfl) xU ?_
 refine ze (zj ?_)
 refine zN xp hF (fun hc1 hF=>?_) (fun hc1 hF=>?_)
 ·refine zk (zd ?_)
  refine zc rfl (zu rfl ty42.choose_spec.1 yx rfl (zH (cs':=[.int .u8 l1.typ,.int .i64 l1.n,.int .u64 l1.time,.int .u8 l1.dot.actor.rep,.int .u32 l1.dot.actor.inc,.int .u64 l1.dot.seq,.str l1.text,.sl 5 (l1.items.map GItem.row),.sl 3 (l1.tombs.map GDot.row)]) ty42.choose_spec.2 rfl rfl) (zb rfl)) wy ?_
  refine zc rfl (qu (cs':=[.int .u8 (0:Int),.int .i64 (0:Int),.int .u64 (0:Int),.int .u8 (0:Int),.int .u32 (0:Int),.int .u64 (0:Int),.str ([]:zJ),.osl none 5 (([]:List GItem).map GItem.row),.osl none 3 (([]:List GDot).map GDot.row)]) rfl su42 ze42 pl42 ym .nil rfl rfl) yJ ?_
  refine zQ hF (fun v2 hv2 hF=>?_)
  refine zL rfl (zC rfl rfl rfl (zo xQ (zo yD zw)) (.cons (zb rfl) (.cons (zb rfl) .nil))) ((ok28 hv2).le (.eq (.cons (leV.agg (.eq (.eq (.eq (.eq (.eq (.eq (.eq (.cons (leV.osl _ _ _) (.cons (leV.osl _ _ _) leL.nil))))))))) rfl) leL.nil))) yN ?_
  refine zc rfl (zi rfl yy (zb rfl)) xD ?_
  refine ze (zj (zI (zx ?_)))
  obtain rfl:=Option.some.inj hF
  refine zz rfl (zD yV zF) (zA (leV.refl _) rfl ?_)
  exact ⟨rfl,rfl⟩
 ·refine zK (zj (zk (zd ?_)))
  refine zc rfl (zg rfl xY yx rfl) yX ?_
  refine zc rfl (zu rfl ty5 yM rfl (zr rfl) (zb rfl)) y4 ?_
  refine zc rfl (zf rfl yW (zb rfl)) yZ ?_
  refine zc rfl (zy rfl yE yS rfl) y6 ?_
  refine zc rfl (zf rfl yY (zb rfl)) xj ?_
  refine zp rfl (fun hb=>zu rfl ty42.choose_spec.1 yx rfl (zH (cs':=[.int .u8 l1.typ,.int .i64 l1.n,.int .u64 l1.time,.int .u8 l1.dot.actor.rep,.int .u32 l1.dot.actor.inc,.int .u64 l1.dot.seq,.str l1.text,.sl 5 (l1.items.map GItem.row),.sl 3 (l1.tombs.map GDot.row)]) ty42.choose_spec.2 rfl rfl) (zb rfl)) xy ?_
  refine yP hF (fun v3 hv3 hF=>?_)
  refine yj rfl (fun hb=>zC rfl rfl rfl (zo (zn xq hb) zw) (.cons (zb rfl) .nil)) (fun hb=>ok76 (hv3 hb)) xF ?_
  refine zc rfl (zM rfl xh xC rfl (zU (fun ht=>gT ht))) xN ?_
  refine zc rfl (zi rfl xL (zb rfl)) xD ?_
  refine ze (zj (zI ?_))
  obtain rfl:=Option.some.inj hF
  refine zz rfl (zD yV zF) (zA (leV.refl _) rfl ?_)
  exact ⟨rfl,rfl⟩
/-! varve/diff.May -/
theorem ok26 {l0:(List GEdit)} {res:Bool} {h:AH}  (hF:diffMay l0=some res):Spec Tryz.prog 26 [.sl 22 (l0.map GEdit.row)] h (fun rr hh=>rr=.bool res∧hh=h):=by
 unfold diffMay at hF
 refine zt Tryz.func26 rfl (by kernel_rfl) (env:=[.sl 22 (l0.map GEdit.row),za,za,za,za,za,za,za,za,za,za,za,za,za,za,za,za,za,za,za,za,za,za,za,za,za,za,za,za,za,za,za,za,za,za,za,za,za,za,za,za,za,za,za,za,za,za,za,za,za,za,za,za,za,za,za,za,za,za,za,za,za,za,za,za,za,za,za,za,za,za,za,za,za,za,za,za,za,za,za,za,za,za,za,za,za,za,za,za]) (by rfl) ?_
 refine zk (zd ?_)
 refine zc rfl (zi rfl rfl (zb rfl)) xg ?_
 refine ze (zj (zk (zk (zd ?_))))
 refine zc rfl (zf rfl yq (zb rfl)) xM ?_
 refine ya rfl (zS rfl rfl rfl rfl el29 xE yb) xU fun hn1=>?_
 replace hn1:=xB hn1
 refine zc rfl (zf rfl rfl (zb rfl)) wy ?_
 refine ze (zj (zR ?_))
 refine yu (fun (n1:Nat) (s1:Unit)=>yQ [1,2,3,4,5,6,10,11,12,13,14,15,16,17,18,19,20,21,22,23,24,25,26,27,28,29,30,31,32,33,34,35,36,37,38,39,40,41,42,43,44,45,46,47,48,49,50,51,52,53,54,55,56,57,58,59,60,61,62,63,64,65,66,67,68,69,70,71,72,73,74,75,76,77,78,79,80,81,82,83,84,85,86,87,88] [(9,.int .i64 (n1:Int))]) (fun s1=>h.ext [] []) hF (fun _ _=>by simp only [yQ,upd,List.set_cons_succ,List.set_cons_zero];try rfl) (wk.le (by exact (.eq (.d4 (.drop (.drop (.eq (.eq (.cons (leV.of_eq rfl) (.d16 (.d16 (.d16 (.d16 (.d4 (.d4 (.d4 (.drop (.drop (.drop leL.nil))))))))))))))))))) ?_
 intro n1 s1 hi1 hF
 refine zk (zd ?_)
 refine zc rfl (zy rfl xQ xp rfl) yJ ?_
 refine ze (zj (zk ?_))
 refine yL yD hF (fun x1 o1 hl1 hx1 hF hK1=>?_) (fun hF=>?_)
 ·refine zK (zj (zk (zR (zk (zd ?_)))))
  refine zc rfl (zf rfl xQ (zb rfl)) yN ?_
  refine zc rfl (yk rfl el29 xE xQ va (yO hx1)) yX ?_
  refine zc rfl (ye rfl ty44.choose_spec.1 yM (zH (cs':=[.sl 1 (x1.path.map zP),.int .u8 x1.typ,.bool x1.had,.bool x1.has,.int .u8 x1.was.typ,.int .i64 x1.was.n,.int .u64 x1.was.time,.int .u8 x1.was.dot.actor.rep,.int .u32 x1.was.dot.actor.inc,.int .u64 x1.was.dot.seq,.str x1.was.text,.sl 5 (x1.was.items.map GItem.row),.sl 3 (x1.was.tombs.map GDot.row),.int .u8 x1.is.typ,.int .i64 x1.is.n,.int .u64 x1.is.time,.int .u8 x1.is.dot.actor.rep,.int .u32 x1.is.dot.actor.inc,.int .u64 x1.is.dot.seq,.str x1.is.text,.sl 5 (x1.is.items.map GItem.row),.sl 3 (x1.is.tombs.map GDot.row)]) ty44.choose_spec.2 rfl rfl) (zb rfl)) y4 ?_
  refine zc rfl (xe (n:=0) rfl ze44 rfl) yC ?_
  refine zc rfl (zi rfl yy (zb rfl)) wa ?_
  refine zc rfl (yf (cs':=[.sl 1 (x1.path.map zP),.int .u8 x1.typ,.bool x1.had,.bool x1.has,.int .u8 x1.was.typ,.int .i64 x1.was.n,.int .u64 x1.was.time,.int .u8 x1.was.dot.actor.rep,.int .u32 x1.was.dot.actor.inc,.int .u64 x1.was.dot.seq,.str x1.was.text,.sl 5 (x1.was.items.map GItem.row),.sl 3 (x1.was.tombs.map GDot.row),.int .u8 x1.is.typ,.int .i64 x1.is.n,.int .u64 x1.is.time,.int .u8 x1.is.dot.actor.rep,.int .u32 x1.is.dot.actor.inc,.int .u64 x1.is.dot.seq,.str x1.is.text,.sl 5 (x1.is.items.map GItem.row),.sl 3 (x1.is.tombs.map GDot.row)]) rfl ty44.choose_spec.1 yx yE (zb rfl) rfl rfl rfl rfl rfl) rfl ?_
  refine ze (zj (zk (zd ?_)))
  refine zc rfl (zg rfl fo44x1 yx rfl) yZ ?_
  refine zc rfl (zu rfl ty5 yS rfl (zr rfl) (zb rfl)) y6 ?_
  refine zc rfl (zy rfl yY rfl rfl) xj ?_
  refine zc rfl (zf rfl xh (zb rfl)) xy ?_
  refine zp rfl (fun hb=>zg rfl fo44x1 yx rfl) xF ?_
  refine zp rfl (fun hb=>zu rfl ty5 (zn xC hb) rfl (zr rfl) (zb rfl)) xN ?_
  refine zp rfl (fun hb=>zy rfl (zn xL hb) rfl rfl) x8 ?_
  refine zc rfl (zM rfl xq x9 rfl (zU (fun ht=>gT ht))) wg ?_
  refine zc rfl (zi rfl wb (zb rfl)) xw ?_
  refine ze (zj (zk (zd ?_)))
  refine zc rfl (zg rfl fo44x2 yx rfl) wo ?_
  refine zc rfl (zu rfl ty4 wl rfl (zr rfl) (zb rfl)) we ?_
  refine zc rfl (zf rfl x4 (zb rfl)) wi ?_
  refine zp rfl (fun hb=>zg rfl fo44x3 yx rfl) wt ?_
  refine zp rfl (fun hb=>zu rfl ty4 (zn wp hb) rfl (zr rfl) (zb rfl)) wQ ?_
  refine zc rfl (zM rfl wh wO rfl (zU (fun ht=>gT ht))) wY ?_
  refine zc rfl (zf rfl wU (zb rfl)) wX ?_
  refine zp rfl (fun hb=>zg rfl fo44x4 yx rfl) vi ?_
  refine zp rfl (fun hb=>zu rfl ty42.choose_spec.1 (zn vm hb) rfl (zH (cs':=[.int .u8 x1.was.typ,.int .i64 x1.was.n,.int .u64 x1.was.time,.int .u8 x1.was.dot.actor.rep,.int .u32 x1.was.dot.actor.inc,.int .u64 x1.was.dot.seq,.str x1.was.text,.sl 5 (x1.was.items.map GItem.row),.sl 3 (x1.was.tombs.map GDot.row)]) ty42.choose_spec.2 rfl rfl) (zb rfl)) vh ?_
  refine zp rfl (fun hb=>zg rfl fo44x5 yx rfl) vg ?_
  refine zp rfl (fun hb=>zu rfl ty42.choose_spec.1 (zn vl hb) rfl (zH (cs':=[.int .u8 x1.is.typ,.int .i64 x1.is.n,.int .u64 x1.is.time,.int .u8 x1.is.dot.actor.rep,.int .u32 x1.is.dot.actor.inc,.int .u64 x1.is.dot.seq,.str x1.is.text,.sl 5 (x1.is.items.map GItem.row),.sl 3 (x1.is.tombs.map GDot.row)]) ty42.choose_spec.2 rfl rfl) (zb rfl)) vz ?_
  refine yP hF (fun v13 hv13 hF=>?_)
  refine yj rfl (fun hb=>zC rfl rfl rfl (zo (zn vE hb) (zo (zn vk hb) zw)) (.cons (zb rfl) (.cons (zb rfl) .nil))) (fun hb=>ok28 (hv13 hb)) vw ?_
  refine zc rfl (zM rfl wT vD rfl (zU (fun ht=>gT ht))) vu ?_
  refine zc rfl (zi rfl vj (zb rfl)) xD ?_
  refine ze (zj (zk (zk (zd ?_))))
  refine zc rfl (zg rfl fo44x0 yx rfl) vt ?_
  refine zc rfl (zu rfl ty24 vC rfl (zr rfl) (zb rfl)) vf ?_
  refine zQ hF (fun v14 hv14 hF=>?_)
  refine zL rfl (zC rfl rfl rfl (zo vb zw) (.cons (zb rfl) .nil)) (ok25 hv14) vr ?_
  refine zc rfl (xT rfl vB rfl) vN ?_
  refine zc rfl (zf rfl vQ (zb rfl)) vM ?_
  refine zp rfl (fun hb=>zf rfl yR (zb rfl)) (sk st0) ?_
  refine zp rfl (fun hb=>xT rfl (zn (gk yq) hb) rfl) (sk st1) ?_
  refine zc rfl (zM rfl vJ rfl (gk yF) (z8 (fun ht=>gF ht))) (sk xg) ?_
  refine zc rfl (zf rfl (gk yW) (zb rfl)) (sk wa) ?_
  refine zp rfl (fun hb=>zg rfl fo44x2 yx rfl) (sk yC) ?_
  refine zp rfl (fun hb=>zu rfl ty4 (zn (gk yx) hb) rfl (zr rfl) (zb rfl)) (sk xw) ?_
  refine zp rfl (fun hb=>xT rfl (zn (gk yR) hb) rfl) (sk xD) ?_
  refine zp rfl (fun hb=>zf rfl (zn (gk yV) hb) (zb rfl)) (sk xM) ?_
  refine zp (z7 rfl rfl rfl) (fun hb=>zg rfl fo44x3 yx rfl) (sk xU) ?_
  refine zp (z7 rfl rfl rfl) (fun hb=>zu rfl ty4 (zn (gk xp) hb) rfl (zr rfl) (zb rfl)) (sk wy) ?_
  refine zp (z7 rfl rfl rfl) (fun hb=>xT rfl (zn (gk xQ) hb) rfl) (sk yJ) ?_
  refine zp rfl (fun hb=>zM rfl (zn (gk xE) hb) (gk yD) rfl (zU (fun ht=>gT2 hb ht))) (sk yN) ?_
  refine zc rfl (zM rfl (gk xu) rfl (gk yy) (z8 (fun ht=>gF ht))) (sk yX) ?_
  refine zc rfl (zf rfl (gk yM) (zb rfl)) (sk y4) ?_
  refine zp rfl (fun hb=>zf rfl yV (zb rfl)) (sk yZ) ?_
  refine zc rfl (zM rfl (gk yE) rfl (gk yS) (z8 (fun ht=>gF ht))) (sk y6) ?_
  refine zc rfl (zf rfl (gk yY) (zb rfl)) (sk xj) ?_
  refine zp rfl (fun hb=>zg rfl fo44x2 yx rfl) (sk xy) ?_
  refine zp rfl (fun hb=>zu rfl ty4 (zn (gk xq) hb) rfl (zr rfl) (zb rfl)) (sk xF) ?_
  refine zp rfl (fun hb=>zg rfl fo44x4 yx rfl) (sk xN) ?_
  refine zp rfl (fun hb=>zu rfl ty42.choose_spec.1 (zn (gk xL) hb) rfl (zH (cs':=[.int .u8 x1.was.typ,.int .i64 x1.was.n,.int .u64 x1.was.time,.int .u8 x1.was.dot.actor.rep,.int .u32 x1.was.dot.actor.inc,.int .u64 x1.was.dot.seq,.str x1.was.text,.sl 5 (x1.was.items.map GItem.row),.sl 3 (x1.was.tombs.map GDot.row)]) ty42.choose_spec.2 rfl rfl) (zb rfl)) (sk x8) ?_
  refine zp rfl (fun hb=>zg rfl fo44x1 yx rfl) (sk wg) ?_
  refine zp rfl (fun hb=>zu rfl ty5 (zn (gk wb) hb) rfl (zr rfl) (zb rfl)) (sk wo) ?_
  refine yP hF (fun v15 hv15 hF=>?_)
  refine yj rfl (fun hb=>zC rfl rfl rfl (zo (zn (gk xC) hb) (zo (zn (gk x9) hb) (zo (zn (gk wl) hb) zw))) (.cons (zb rfl) (.cons (zb rfl) (.cons (zb rfl) .nil)))) (fun hb=>ok48 (hv15 hb)) (sk we) ?_
  refine zp rfl (fun hb=>xT rfl (zn (gk x4) hb) rfl) (sk wi) ?_
  refine zc rfl (zM rfl (gk xh) rfl (gk wh) (z8 (fun ht=>gF ht))) (sk wt) ?_
  refine zc rfl (zf rfl (gk wp) (zb rfl)) (sk wQ) ?_
  refine zp rfl (fun hb=>zg rfl fo44x3 yx rfl) (sk wY) ?_
  refine zp rfl (fun hb=>zu rfl ty4 (zn (gk wU) hb) rfl (zr rfl) (zb rfl)) (sk wX) ?_
  refine zp rfl (fun hb=>zg rfl fo44x5 yx rfl) (sk vi) ?_
  refine zp rfl (fun hb=>zu rfl ty42.choose_spec.1 (zn (gk vm) hb) rfl (zH (cs':=[.int .u8 x1.is.typ,.int .i64 x1.is.n,.int .u64 x1.is.time,.int .u8 x1.is.dot.actor.rep,.int .u32 x1.is.dot.actor.inc,.int .u64 x1.is.dot.seq,.str x1.is.text,.sl 5 (x1.is.items.map GItem.row),.sl 3 (x1.is.tombs.map GDot.row)]) ty42.choose_spec.2 rfl rfl) (zb rfl)) (sk vh) ?_
  refine zp rfl (fun hb=>zg rfl fo44x1 yx rfl) (sk vg) ?_
  refine zp rfl (fun hb=>zu rfl ty5 (zn (gk vl) hb) rfl (zr rfl) (zb rfl)) (sk vz) ?_
  refine yP hF (fun v16 hv16 hF=>?_)
  refine yj rfl (fun hb=>zC rfl rfl rfl (zo (zn (gk wT) hb) (zo (zn (gk vE) hb) (zo (zn (gk vk) hb) zw))) (.cons (zb rfl) (.cons (zb rfl) (.cons (zb rfl) .nil)))) (fun hb=>ok48 (hv16 hb)) (sk vw) ?_
  refine zp rfl (fun hb=>xT rfl (zn (gk vD) hb) rfl) (sk vu) ?_
  refine zc rfl (zM rfl (gk wO) rfl (gk vj) (z8 (fun ht=>gF ht))) (sk vt) ?_
  refine ze (zj ?_)
  refine zN (gk vC) hF (fun hc17 hF=>?_) (fun hc17 hF=>?_)
  ·refine zk (zd ?_)
   refine zc rfl (zi rfl rfl (zb rfl)) xg ?_
   refine ze (zj (zI (zx ?_)))
   refine zG ?_
   refine zx ?_
   refine yd ?_
   obtain rfl:=Option.some.inj hF
   replace hF:=hK1
   refine zG ?_
   refine zx ?_
   obtain rfl:=Option.some.inj hF
   refine zz rfl (zD yW zF) (zA (leV.refl _) rfl ?_)
   exact ⟨rfl,rfl⟩
  ·refine zK (zj (zk ?_))
   refine yK [] [] trivial mixed (by kernel_rfl) ?_
   refine zq rfl rfl (zf rfl xu (zb rfl)) (sk vf) ?_
   refine zq rfl rfl (zy rfl (gk vb) rfl rfl) (sk vr) ?_
   refine zq rfl rfl (zf rfl (gk vB) (zb rfl)) (sk vN) ?_
   refine zB rfl rfl (fun hb=>zf rfl yq (zb rfl)) (sk vM) ?_
   refine zB rfl rfl (fun hb=>zf rfl xu (zb rfl)) (sk (sk st0)) ?_
   refine zB rfl rfl (fun hb=>zy rfl (zn (gk (gk yq)) hb) rfl rfl) (sk (sk st1)) ?_
   refine wJ hF (fun hg18 hF=>?_)
   refine zB rfl rfl (fun hb=>xP default rfl el29 (zn (gk vJ) hb) (zn (gk (gk yF)) hb) va (hg18 hb)) (sk (sk xg)) ?_
   refine zB rfl rfl (fun hb=>ye rfl ty44.choose_spec.1 (zn (gk (gk yW)) hb) (zH (cs':=[.sl 1 ((((l0).getD (IntKind.wrap .i64 ((n1:Int) - (1:Int))).toNat default).path).map zP),.int .u8 (((l0).getD (IntKind.wrap .i64 ((n1:Int) - (1:Int))).toNat default).typ),.bool (((l0).getD (IntKind.wrap .i64 ((n1:Int) - (1:Int))).toNat default).had),.bool (((l0).getD (IntKind.wrap .i64 ((n1:Int) - (1:Int))).toNat default).has),.int .u8 (((l0).getD (IntKind.wrap .i64 ((n1:Int) - (1:Int))).toNat default).was.typ),.int .i64 (((l0).getD (IntKind.wrap .i64 ((n1:Int) - (1:Int))).toNat default).was.n),.int .u64 (((l0).getD (IntKind.wrap .i64 ((n1:Int) - (1:Int))).toNat default).was.time),.int .u8 (((l0).getD (IntKind.wrap .i64 ((n1:Int) - (1:Int))).toNat default).was.dot.actor.rep),.int .u32 (((l0).getD (IntKind.wrap .i64 ((n1:Int) - (1:Int))).toNat default).was.dot.actor.inc),.int .u64 (((l0).getD (IntKind.wrap .i64 ((n1:Int) - (1:Int))).toNat default).was.dot.seq),.str (((l0).getD (IntKind.wrap .i64 ((n1:Int) - (1:Int))).toNat default).was.text),.sl 5 ((((l0).getD (IntKind.wrap .i64 ((n1:Int) - (1:Int))).toNat default).was.items).map GItem.row),.sl 3 ((((l0).getD (IntKind.wrap .i64 ((n1:Int) - (1:Int))).toNat default).was.tombs).map GDot.row),.int .u8 (((l0).getD (IntKind.wrap .i64 ((n1:Int) - (1:Int))).toNat default).is.typ),.int .i64 (((l0).getD (IntKind.wrap .i64 ((n1:Int) - (1:Int))).toNat default).is.n),.int .u64 (((l0).getD (IntKind.wrap .i64 ((n1:Int) - (1:Int))).toNat default).is.time),.int .u8 (((l0).getD (IntKind.wrap .i64 ((n1:Int) - (1:Int))).toNat default).is.dot.actor.rep),.int .u32 (((l0).getD (IntKind.wrap .i64 ((n1:Int) - (1:Int))).toNat default).is.dot.actor.inc),.int .u64 (((l0).getD (IntKind.wrap .i64 ((n1:Int) - (1:Int))).toNat default).is.dot.seq),.str (((l0).getD (IntKind.wrap .i64 ((n1:Int) - (1:Int))).toNat default).is.text),.sl 5 ((((l0).getD (IntKind.wrap .i64 ((n1:Int) - (1:Int))).toNat default).is.items).map GItem.row),.sl 3 ((((l0).getD (IntKind.wrap .i64 ((n1:Int) - (1:Int))).toNat default).is.tombs).map GDot.row)]) ty44.choose_spec.2 rfl rfl) (zb rfl)) (sk (sk wa)) ?_
   refine zB rfl rfl (fun hb=>zu rfl ty44.choose_spec.1 yx rfl (zH (cs':=[.sl 1 (x1.path.map zP),.int .u8 x1.typ,.bool x1.had,.bool x1.has,.int .u8 x1.was.typ,.int .i64 x1.was.n,.int .u64 x1.was.time,.int .u8 x1.was.dot.actor.rep,.int .u32 x1.was.dot.actor.inc,.int .u64 x1.was.dot.seq,.str x1.was.text,.sl 5 (x1.was.items.map GItem.row),.sl 3 (x1.was.tombs.map GDot.row),.int .u8 x1.is.typ,.int .i64 x1.is.n,.int .u64 x1.is.time,.int .u8 x1.is.dot.actor.rep,.int .u32 x1.is.dot.actor.inc,.int .u64 x1.is.dot.seq,.str x1.is.text,.sl 5 (x1.is.items.map GItem.row),.sl 3 (x1.is.tombs.map GDot.row)]) ty44.choose_spec.2 rfl rfl) (zb rfl)) (sk (sk yC)) ?_
   refine yP hF (fun v19 hv19 hF=>?_)
   refine vc rfl rfl (fun hb=>zC rfl rfl rfl (zo (zn (gk (gk xu)) hb) (zo (zn (gk (gk yx)) hb) zw)) (.cons (zb rfl) (.cons (zb rfl) .nil))) (fun hb=>ok46 (hv19 hb)) (sk (sk xw)) ?_
   refine zB rfl rfl (fun hb=>zy rfl (zn (gk (gk yR)) hb) rfl rfl) (sk (sk xD)) ?_
   refine zq rfl rfl (zM rfl (gk vQ) (gk (gk yV)) rfl (zU (fun ht=>gT ht))) (sk (sk xM)) ?_
   refine yo ?_
   refine zj ?_
   refine zN (gk (gk xE)) hF (fun hc20 hF=>?_) (fun hc20 hF=>?_)
   ·refine zk (zd ?_)
    refine zc rfl (zi rfl rfl (zb rfl)) xg ?_
    refine ze (zj (zI ?_))
    refine zG ?_
    refine zx ?_
    refine yd ?_
    obtain rfl:=Option.some.inj hF
    replace hF:=hK1
    refine zG ?_
    refine zx ?_
    obtain rfl:=Option.some.inj hF
    refine zz rfl (zD yW zF) (zA (leV.refl _) rfl ?_)
    exact ⟨rfl,rfl⟩
   ·refine zK (yg (zj (zd ?_)))
    refine zc rfl (zy rfl xQ rfl rfl) (sk (sk xU)) ?_
    refine zc rfl (zf rfl (gk (gk xp)) (zb rfl)) wy ?_
    refine ze (yH ?_)
    obtain rfl:=Option.some.inj hF
    exact ⟨(),hl1,hK1,wk.trans (wk.le (by exact (.eq (.d4 (.drop (.drop (.eq (.eq (.cons (leV.of_eq (ve (by omega) (by omega))) (.d16 (.d16 (.d16 (.d16 (.d4 (.d4 (.d4 (.drop (.drop (.drop leL.nil))))))))))))))))))) (xJ (by simp [yi,AV.low]) rfl rfl (by simp [Blk.low,yi,AV.low]))⟩
 ·refine yU ?_
  refine zZ ?_
  refine zW ?_
  refine zX ?_
  refine zj (zk (zd ?_))
  refine zc rfl (zi rfl rfl (zb rfl)) xg ?_
  refine ze (zj (zI ?_))
  obtain rfl:=Option.some.inj hF
  refine zz rfl (zD yW zF) (zA (leV.refl _) rfl ?_)
  exact ⟨rfl,rfl⟩
/-! slices.IndexFunc[varve/api.Tree,varve/api.Node] -/
theorem ok86 {s0:(List GNode)} {f1:(GNode→Option Bool)} {ff1:FuncId} {af1 kf1:List AV} {res:Int} {h:AH} (hf1:∀ x0 v (L:List Blk) (M:List Nat),f1 x0=some v→Spec Tryz.prog ff1 (af1++[.agg [.str x0.name,.sl 9 (x0.leaves.map GLeaf.row),.sl 3 (x0.subs.map GNode.row)]]++kf1) (h.ext L M) (fun rr hh=>rr=.bool v∧hh=h.ext L M)) (hF:wq s0 f1=some res):Spec Tryz.prog 86 [.sl 3 (s0.map GNode.row),.fn (.func ff1) af1 kf1] h (fun rr hh=>rr=.int .i64 res∧hh=h):=by
 unfold wq at hF
 refine yG Tryz.func86 rfl (by kernel_rfl) (env:=[.sl 3 (s0.map GNode.row),.fn (.func ff1) af1 kf1,za,za,za,za,za,za,za,za,za,za,za,za,za,za,za,za,za]) (by rfl) (fun hlow hC=>?_)
 simp only [yi,AV.low,Bool.and_eq_true,Bool.true_and,and_true] at hlow
 have hlaf1:∀ n m,h.blks.length≤n→h.toks.length≤m→yi n m af1=true:=fun n m h1 h2=>xd h1 h2 _ (by simp [hlow])
 have hlkf1:∀ n m,h.blks.length≤n→h.toks.length≤m→yi n m kf1=true:=fun n m h1 h2=>xd h1 h2 _ (by simp [hlow])
 refine zk (zd ?_)
 refine zc rfl (zi rfl rfl (zb rfl)) yC ?_
 refine ze (zj (zk (zk (zd ?_))))
 refine zc rfl (zf rfl yq (zb rfl)) xD ?_
 refine ya rfl (zS rfl rfl rfl rfl xl yV yb) xM fun hn1=>?_
 replace hn1:=xB hn1
 refine zc rfl (zf rfl rfl (zb rfl)) xU ?_
 refine ze (zj (zR ?_))
 refine yu (fun (n1:Nat) (s1:Unit)=>yQ [2,3,4,5,6,9,10,11,12,13,14,15,16,17,18] [(8,.int .i64 (n1:Int))]) (fun s1=>h.ext [] []) hF (fun _ _=>by simp only [yQ,upd,List.set_cons_succ,List.set_cons_zero];try rfl) (wk.le (by exact (.eq (.eq (.d4 (.drop (.eq (.cons (leV.of_eq rfl) (.d4 (.d4 (.drop (.drop leL.nil)))))))))))) ?_
 intro n1 s1 hi1 hF
 refine zk (zd ?_)
 refine zc rfl (zy rfl xp xE rfl) wy ?_
 refine ze (zj (zk ?_))
 refine yL xQ hF (fun x1 o1 hl1 hx1 hF hK1=>?_) (fun hF=>?_)
 ·refine zK (zj (zk (zR (zk (zd ?_)))))
  refine zc rfl (zf rfl xp (zb rfl)) yJ ?_
  refine zc rfl (zi rfl yD (zb rfl)) xw ?_
  refine ze (zj (zk (zd ?_)))
  refine zc rfl (zf rfl yF (zb rfl)) yN ?_
  refine zc rfl (zf rfl yq (zb rfl)) yX ?_
  refine zc rfl (zf rfl yR (zb rfl)) y4 ?_
  refine zc rfl (xO rfl xl yM yE va (yO hx1) (GNode.row_eq _)) yZ ?_
  refine zc rfl (ye rfl ty59.choose_spec.1 yS (zH (cs':=[.str x1.name,.sl 9 (x1.leaves.map GLeaf.row),.sl 3 (x1.subs.map GNode.row)]) ty59.choose_spec.2 rfl rfl) (zb rfl)) y6 ?_
  refine zQ hF (fun v7 hv7 hF=>?_)
  refine zL rfl (s_callC rfl rfl yy (zo yY zw) (.cons (zb rfl) .nil) rfl) (hf1 _ _ _ _ hv7) xj ?_
  refine ze (zj ?_)
  refine zN xh hF (fun hc8 hF=>?_) (fun hc8 hF=>?_)
  ·refine zk (zd ?_)
   refine zc rfl (zf rfl yR (zb rfl)) xy ?_
   refine zc rfl (zi rfl xq (zb rfl)) yC ?_
   refine ze (zj (zI ?_))
   refine zG ?_
   refine zx ?_
   refine yd ?_
   obtain rfl:=Option.some.inj hF
   replace hF:=hK1
   refine zG ?_
   refine zx ?_
   obtain rfl:=Option.some.inj hF
   refine zz rfl (zD yx zF) (zA (leV.refl _) rfl ?_)
   exact ⟨rfl,rfl⟩
  ·refine zK (yg (zj (zd ?_)))
   refine zc rfl (zy rfl xp rfl rfl) xF ?_
   refine zc rfl (zf rfl xC (zb rfl)) xU ?_
   refine ze (yH ?_)
   obtain rfl:=Option.some.inj hF
   exact ⟨(),hl1,hK1,wk.le (by exact (.eq (.eq (.d4 (.drop (.eq (.cons (leV.of_eq (ve (by omega) (by omega))) (.d4 (.d4 (.drop (.drop leL.nil)))))))))))⟩
 ·refine yU ?_
  refine zZ ?_
  refine zW ?_
  refine zX ?_
  refine zj (zk (zd ?_))
  refine zc rfl (zi rfl rfl (zb rfl)) yC ?_
  refine ze (zj (zI ?_))
  obtain rfl:=Option.some.inj hF
  refine zz rfl (zD yx zF) (zA (leV.refl _) rfl ?_)
  exact ⟨rfl,rfl⟩
/-! varve/tree.linear 1 -/
theorem ok87 {n0:GNode} {c0:zJ} {i0:Nat} {res:Bool} {h:AH} (hb0:h.blk i0=some (.cells [.str c0])) (hF:treeXlinearC1 n0 c0=some res):Spec Tryz.prog 87 [.agg [.str n0.name,.sl 9 (n0.leaves.map GLeaf.row),.sl 3 (n0.subs.map GNode.row)],.ptr i0 0] h (fun rr hh=>rr=.bool res∧hh=h):=by
 unfold treeXlinearC1 at hF
 refine zt Tryz.func87 rfl (by kernel_rfl) (env:=[.agg [.str n0.name,.sl 9 (n0.leaves.map GLeaf.row),.sl 3 (n0.subs.map GNode.row)],.ptr i0 0,za,za,za,za,za,za]) (by rfl) ?_
 refine zk (zd ?_)
 refine zc rfl (xr (n:=0) rfl yq (zb rfl) rfl rfl) xg ?_
 refine zc rfl (zi rfl rfl (zb rfl)) wa ?_
 refine ze (zj (zk (zd ?_)))
 refine zc rfl (zg rfl fo59x0 yW rfl) yC ?_
 refine zc rfl (zu rfl ty9 yx rfl (zr rfl) (zb rfl)) xw ?_
 refine zc rfl (b_load rfl ty9 yF hb0 (zr rfl) (zb rfl)) xD ?_
 refine zc rfl (zy rfl yR yV rfl) xM ?_
 refine zc rfl (zi rfl xE (zb rfl)) wa ?_
 refine ze (zj (zI ?_))
 obtain rfl:=Option.some.inj hF
 refine zz rfl (zD xu zF) (zA (leV.refl _) rfl ?_)
 exact ⟨rfl,rfl⟩
/-! varve/tree.linear -/
theorem ok49 {t0:(List GNode)} {name1:zJ} {res:(GNode×Bool)} {h:AH}  (hF:qR t0 name1=some res):Spec Tryz.prog 49 [.sl 3 (t0.map GNode.row),.str name1] h (fun rr hh=>rr=.tup [.agg [.str res.1.name,.sl 9 (res.1.leaves.map GLeaf.row),.sl 3 (res.1.subs.map GNode.row)],.bool res.2]∧hh=h):=by
 unfold qR at hF
 refine zt Tryz.func49 rfl (by kernel_rfl) (env:=[.sl 3 (t0.map GNode.row),.str name1,za,za,za,za,za,za,za,za,za,za,za,za,za,za,za]) (by rfl) ?_
 refine zk (zd ?_)
 refine zc rfl (xr (n:=0) rfl yF (zb rfl) rfl rfl) wa ?_
 refine zc rfl (xe (n:=1) rfl ze59 rfl) yC ?_
 refine zc rfl (zi rfl rfl (zb rfl)) xw ?_
 refine ze (zj (zk (zd ?_)))
 refine zc rfl (zf rfl yq (zb rfl)) xM ?_
 refine zc rfl (qJ rfl rfl rfl) xU ?_
 refine zQ hF (fun v1 hv1 hF=>?_)
 refine zL rfl (zC rfl rfl rfl (zo xE (zo xp zw)) (.cons (zb rfl) (.cons (zb rfl) .nil))) (ok86 (fun _ v L M hv=>ok87 (blk_ext2 (j:=0) rfl) hv) hv1) wy ?_
 refine zc rfl (zi rfl xQ (zb rfl)) xD ?_
 refine ze (zj (zk (zk (zd ?_))))
 refine zc rfl (zf rfl yV (zb rfl)) yJ ?_
 refine zc rfl (zy rfl yD rfl rfl) yN ?_
 refine ze (zj ?_)
 refine zN yy hF (fun hc2 hF=>?_) (fun hc2 hF=>?_)
 ·refine zk (zd ?_)
  refine zc rfl (qu (cs':=[.str ([]:zJ),.osl none 9 (([]:List GLeaf).map GLeaf.row),.osl none 3 (([]:List GNode).map GNode.row)]) rfl su59 ze59 pl59 ym .nil rfl rfl) yX ?_
  refine zc rfl (yf (cs':=[.str ([]:zJ),.osl none 9 (([]:List GLeaf).map GLeaf.row),.osl none 3 (([]:List GNode).map GNode.row)]) rfl ty59.choose_spec.1 yx yM (zb rfl) rfl rfl rfl rfl rfl) rfl ?_
  refine zc rfl (zi rfl rfl (zb rfl)) xw ?_
  refine ze (zj (zI (zx ?_)))
  obtain rfl:=Option.some.inj hF
  refine qC rfl (rl_cell ty59.choose_spec.1 yx rfl (zH (cs':=[.str ([]:zJ),.osl none 9 (([]:List GLeaf).map GLeaf.row),.osl none 3 (([]:List GNode).map GNode.row)]) ty59.choose_spec.2 rfl rfl) (zb rfl) (zD yR zF)) (zA (leV.tup (.cons (leV.agg (.eq (.cons (leV.osl _ _ _) (.cons (leV.osl _ _ _) leL.nil))) rfl) (.eq leL.nil))) rfl ?_)
  exact ⟨rfl,rfl⟩
 ·refine zK (zj (zk (zd ?_)))
  refine zc rfl (zf rfl yq (zb rfl)) y4 ?_
  refine zc rfl (zf rfl yV (zb rfl)) yZ ?_
  refine zQ hF (fun y3 hy3 hF=>?_)
  refine zc rfl (xO rfl xl yE yS va hy3 (GNode.row_eq _)) y6 ?_
  refine zc rfl (ye rfl ty59.choose_spec.1 yY (zH (cs':=[.str y3.name,.sl 9 (y3.leaves.map GLeaf.row),.sl 3 (y3.subs.map GNode.row)]) ty59.choose_spec.2 rfl rfl) (zb rfl)) xj ?_
  refine zc rfl (yf (cs':=[.str y3.name,.sl 9 (y3.leaves.map GLeaf.row),.sl 3 (y3.subs.map GNode.row)]) rfl ty59.choose_spec.1 yx xh (zb rfl) rfl rfl rfl rfl rfl) rfl ?_
  refine zc rfl (zi rfl rfl (zb rfl)) xw ?_
  refine ze (zj (zI ?_))
  obtain rfl:=Option.some.inj hF
  refine qC rfl (rl_cell ty59.choose_spec.1 yx rfl (zH (cs':=[.str y3.name,.sl 9 (y3.leaves.map GLeaf.row),.sl 3 (y3.subs.map GNode.row)]) ty59.choose_spec.2 rfl rfl) (zb rfl) (zD yR zF)) (zA (leV.refl _) rfl ?_)
  exact ⟨rfl,rfl⟩
/-! slices.IndexFunc[[]varve/api.Leaf,varve/api.Leaf] -/
theorem ok50 {s0:(List GLeaf)} {f1:(GLeaf→Option Bool)} {ff1:FuncId} {af1 kf1:List AV} {res:Int} {h:AH} (hf1:∀ x0 v (L:List Blk) (M:List Nat),f1 x0=some v→Spec Tryz.prog ff1 (af1++[.agg [.int .u8 x0.typ,.int .i64 x0.n,.int .u64 x0.time,.int .u8 x0.dot.actor.rep,.int .u32 x0.dot.actor.inc,.int .u64 x0.dot.seq,.str x0.text,.sl 5 (x0.items.map GItem.row),.sl 3 (x0.tombs.map GDot.row)]]++kf1) (h.ext L M) (fun rr hh=>rr=.bool v∧hh=h.ext L M)) (hF:yI s0 f1=some res):Spec Tryz.prog 50 [.sl 9 (s0.map GLeaf.row),.fn (.func ff1) af1 kf1] h (fun rr hh=>rr=.int .i64 res∧hh=h):=by
 unfold yI at hF
 refine yG Tryz.func50 rfl (by kernel_rfl) (env:=[.sl 9 (s0.map GLeaf.row),.fn (.func ff1) af1 kf1,za,za,za,za,za,za,za,za,za,za,za,za,za,za,za,za,za]) (by rfl) (fun hlow hC=>?_)
 simp only [yi,AV.low,Bool.and_eq_true,Bool.true_and,and_true] at hlow
 have hlaf1:∀ n m,h.blks.length≤n→h.toks.length≤m→yi n m af1=true:=fun n m h1 h2=>xd h1 h2 _ (by simp [hlow])
 have hlkf1:∀ n m,h.blks.length≤n→h.toks.length≤m→yi n m kf1=true:=fun n m h1 h2=>xd h1 h2 _ (by simp [hlow])
 refine zk (zd ?_)
 refine zc rfl (zi rfl rfl (zb rfl)) yC ?_
 refine ze (zj (zk (zk (zd ?_))))
 refine zc rfl (zf rfl yq (zb rfl)) xD ?_
 refine ya rfl (zS rfl rfl rfl rfl wn yV yb) xM fun hn1=>?_
 replace hn1:=xB hn1
 refine zc rfl (zf rfl rfl (zb rfl)) xU ?_
 refine ze (zj (zR ?_))
 refine yu (fun (n1:Nat) (s1:Unit)=>yQ [2,3,4,5,6,9,10,11,12,13,14,15,16,17,18] [(8,.int .i64 (n1:Int))]) (fun s1=>h.ext [] []) hF (fun _ _=>by simp only [yQ,upd,List.set_cons_succ,List.set_cons_zero];try rfl) (wk.le (by exact (.eq (.eq (.d4 (.drop (.eq (.cons (leV.of_eq rfl) (.d4 (.d4 (.drop (.drop leL.nil)))))))))))) ?_
 intro n1 s1 hi1 hF
 refine zk (zd ?_)
 refine zc rfl (zy rfl xp xE rfl) wy ?_
 refine ze (zj (zk ?_))
 refine yL xQ hF (fun x1 o1 hl1 hx1 hF hK1=>?_) (fun hF=>?_)
 ·refine zK (zj (zk (zR (zk (zd ?_)))))
  refine zc rfl (zf rfl xp (zb rfl)) yJ ?_
  refine zc rfl (zi rfl yD (zb rfl)) xw ?_
  refine ze (zj (zk (zd ?_)))
  refine zc rfl (zf rfl yF (zb rfl)) yN ?_
  refine zc rfl (zf rfl yq (zb rfl)) yX ?_
  refine zc rfl (zf rfl yR (zb rfl)) y4 ?_
  refine zc rfl (yk rfl wn yM yE va (yO hx1)) yZ ?_
  refine zc rfl (ye rfl ty42.choose_spec.1 yS (zH (cs':=[.int .u8 x1.typ,.int .i64 x1.n,.int .u64 x1.time,.int .u8 x1.dot.actor.rep,.int .u32 x1.dot.actor.inc,.int .u64 x1.dot.seq,.str x1.text,.sl 5 (x1.items.map GItem.row),.sl 3 (x1.tombs.map GDot.row)]) ty42.choose_spec.2 rfl rfl) (zb rfl)) y6 ?_
  refine zQ hF (fun v7 hv7 hF=>?_)
  refine zL rfl (s_callC rfl rfl yy (zo yY zw) (.cons (zb rfl) .nil) rfl) (hf1 _ _ _ _ hv7) xj ?_
  refine ze (zj ?_)
  refine zN xh hF (fun hc8 hF=>?_) (fun hc8 hF=>?_)
  ·refine zk (zd ?_)
   refine zc rfl (zf rfl yR (zb rfl)) xy ?_
   refine zc rfl (zi rfl xq (zb rfl)) yC ?_
   refine ze (zj (zI ?_))
   refine zG ?_
   refine zx ?_
   refine yd ?_
   obtain rfl:=Option.some.inj hF
   replace hF:=hK1
   refine zG ?_
   refine zx ?_
   obtain rfl:=Option.some.inj hF
   refine zz rfl (zD yx zF) (zA (leV.refl _) rfl ?_)
   exact ⟨rfl,rfl⟩
  ·refine zK (yg (zj (zd ?_)))
   refine zc rfl (zy rfl xp rfl rfl) xF ?_
   refine zc rfl (zf rfl xC (zb rfl)) xU ?_
   refine ze (yH ?_)
   obtain rfl:=Option.some.inj hF
   exact ⟨(),hl1,hK1,wk.le (by exact (.eq (.eq (.d4 (.drop (.eq (.cons (leV.of_eq (ve (by omega) (by omega))) (.d4 (.d4 (.drop (.drop leL.nil)))))))))))⟩
 ·refine yU ?_
  refine zZ ?_
  refine zW ?_
  refine zX ?_
  refine zj (zk (zd ?_))
  refine zc rfl (zi rfl rfl (zb rfl)) yC ?_
  refine ze (zj (zI ?_))
  obtain rfl:=Option.some.inj hF
  refine zz rfl (zD yx zF) (zA (leV.refl _) rfl ?_)
  exact ⟨rfl,rfl⟩
theorem okR50 {bl tl:Nat} {s0:(List GLeaf)} {f1:(GLeaf→Option Bool)} {ff1:FuncId} {af1 kf1:List AV} {res:Int} {h:AH} (hbl:h.blks.length=bl) (htl:h.toks.length=tl) (hf1:∀ x0 v (L:List Blk) (M:List Nat),f1 x0=some v→Spec Tryz.prog ff1 (af1++[.agg [.int .u8 x0.typ,.int .i64 x0.n,.int .u64 x0.time,.int .u8 x0.dot.actor.rep,.int .u32 x0.dot.actor.inc,.int .u64 x0.dot.seq,.str x0.text,.sl 5 (x0.items.map GItem.row),.sl 3 (x0.tombs.map GDot.row)]]++kf1) (h.ext L M) (fun rr hh=>rr=.bool v∧hh=h.ext L M)) (hlaf1:∀ n m,h.blks.length≤n→h.toks.length≤m→yi n m af1=true) (hlkf1:∀ n m,h.blks.length≤n→h.toks.length≤m→yi n m kf1=true) (hF:yI s0 f1=some res):Spec Tryz.prog 50 [.rsl bl tl 9 s0.length,.fn (.func ff1) af1 kf1] (h.ext [.row tl 9 (s0.map GLeaf.row)] [s0.length]) (fun rr hh=>rr=.int .i64 res∧hh=h.ext [.row tl 9 (s0.map GLeaf.row)] [s0.length]):=by
 unfold yI at hF
 subst hbl htl
 refine spec_of_body_R Tryz.func50 rfl (by kernel_rfl) (env:=[.rsl h.blks.length h.toks.length 9 s0.length,.fn (.func ff1) af1 kf1,za,za,za,za,za,za,za,za,za,za,za,za,za,za,za,za,za]) (by rfl) ?_
 refine zk (zd ?_)
 refine zc rfl (zi rfl rfl (zb rfl)) yC ?_
 refine ze (zj (zk (zk (zd ?_))))
 refine zc rfl (zf rfl yq (zb rfl)) xD ?_
 refine ya rfl (zS rfl rfl rfl rfl wn yV rfl) xM fun hn1=>?_
 replace hn1:=xB hn1
 refine zc rfl (zf rfl rfl (zb rfl)) xU ?_
 refine ze (zj (zR ?_))
 refine yu (fun (n1:Nat) (s1:Unit)=>yQ [2,3,4,5,6,9,10,11,12,13,14,15,16,17,18] [(8,.int .i64 (n1:Int))]) (fun s1=>h.ext [.row (h.toks.length+0) 9 (s0.map GLeaf.row)] [s0.length]) hF (fun _ _=>by simp only [yQ,upd,List.set_cons_succ,List.set_cons_zero];try rfl) (wk.le (by exact (.eq (.eq (.d4 (.drop (.eq (.cons (leV.of_eq rfl) (.d4 (.d4 (.drop (.drop leL.nil)))))))))))) ?_
 intro n1 s1 hi1 hF
 refine zk (zd ?_)
 refine zc rfl (zy rfl xp xE rfl) wy ?_
 refine ze (zj (zk ?_))
 refine yL xQ hF (fun x1 o1 hl1 hx1 hF hK1=>?_) (fun hF=>?_)
 ·refine zK (zj (zk (zR (zk (zd ?_)))))
  refine zc rfl (zf rfl xp (zb rfl)) yJ ?_
  refine zc rfl (zi rfl yD (zb rfl)) xw ?_
  refine ze (zj (zk (zd ?_)))
  refine zc rfl (zf rfl yF (zb rfl)) yN ?_
  refine zc rfl (zf rfl yq (zb rfl)) yX ?_
  refine zc rfl (zf rfl yR (zb rfl)) y4 ?_
  refine zc rfl (e_idxR rfl wn yM yE (idxRn (yO hx1) rfl)) yZ ?_
  refine zc rfl (e_ldR (off:=0) (i:=0) (q:=h.toks.length+0) (z:=(n1:Int).toNat) (row:=GLeaf.row) (fun _=>rfl) rfl ty42.choose_spec.1 (by decide) yS rfl rfl (idxR (yO hx1)).2.2 (zH (cs':=[.int .u8 x1.typ,.int .i64 x1.n,.int .u64 x1.time,.int .u8 x1.dot.actor.rep,.int .u32 x1.dot.actor.inc,.int .u64 x1.dot.seq,.str x1.text,.sl 5 (x1.items.map GItem.row),.sl 3 (x1.tombs.map GDot.row)]) ty42.choose_spec.2 rfl rfl) (zb rfl)) y6 ?_
  refine zQ hF (fun v8 hv8 hF=>?_)
  refine zL rfl (s_callC rfl rfl yy (zo yY zw) (.cons (zb rfl) .nil) rfl) (hf1 _ _ _ _ hv8) xj ?_
  refine ze (zj ?_)
  refine zN xh hF (fun hc9 hF=>?_) (fun hc9 hF=>?_)
  ·refine zk (zd ?_)
   refine zc rfl (zf rfl yR (zb rfl)) xy ?_
   refine zc rfl (zi rfl xq (zb rfl)) yC ?_
   refine ze (zj (zI ?_))
   refine zG ?_
   refine zx ?_
   refine yd ?_
   obtain rfl:=Option.some.inj hF
   replace hF:=hK1
   refine zG ?_
   refine zx ?_
   obtain rfl:=Option.some.inj hF
   refine zz rfl (zD yx zF) (fin_extR (L:=[]) (M:=[]) rfl rfl (leV.refl _) rfl ?_)
   exact ⟨rfl,rfl⟩
  ·refine zK (yg (zj (zd ?_)))
   refine zc rfl (zy rfl xp rfl rfl) xF ?_
   refine zc rfl (zf rfl xC (zb rfl)) xU ?_
   refine ze (yH ?_)
   obtain rfl:=Option.some.inj hF
   exact ⟨(),hl1,hK1,wk.le (by exact (.eq (.eq (.d4 (.drop (.eq (.cons (leV.of_eq (ve (by omega) (by omega))) (.d4 (.d4 (.drop (.drop leL.nil)))))))))))⟩
 ·refine yU ?_
  refine zZ ?_
  refine zW ?_
  refine zX ?_
  refine zj (zk (zd ?_))
  refine zc rfl (zi rfl rfl (zb rfl)) yC ?_
  refine ze (zj (zI ?_))
  obtain rfl:=Option.some.inj hF
  refine zz rfl (zD yx zF) (fin_extR (L:=[]) (M:=[]) rfl rfl (leV.refl _) rfl ?_)
  exact ⟨rfl,rfl⟩
/-! varve/tree.Leaf 1 -/
theorem ok51 {l0:GLeaf} {c0:Int} {i0:Nat} {res:Bool} {h:AH} (hb0:h.blk i0=some (.cells [.int .u8 c0])) (hF:treeLeafC1 l0 c0=some res):Spec Tryz.prog 51 [.agg [.int .u8 l0.typ,.int .i64 l0.n,.int .u64 l0.time,.int .u8 l0.dot.actor.rep,.int .u32 l0.dot.actor.inc,.int .u64 l0.dot.seq,.str l0.text,.sl 5 (l0.items.map GItem.row),.sl 3 (l0.tombs.map GDot.row)],.ptr i0 0] h (fun rr hh=>rr=.bool res∧hh=h):=by
 unfold treeLeafC1 at hF
 refine zt Tryz.func51 rfl (by kernel_rfl) (env:=[.agg [.int .u8 l0.typ,.int .i64 l0.n,.int .u64 l0.time,.int .u8 l0.dot.actor.rep,.int .u32 l0.dot.actor.inc,.int .u64 l0.dot.seq,.str l0.text,.sl 5 (l0.items.map GItem.row),.sl 3 (l0.tombs.map GDot.row)],.ptr i0 0,za,za,za,za,za,za]) (by rfl) ?_
 refine zk (zd ?_)
 refine zc rfl (xr (n:=0) rfl yq (zb rfl) rfl rfl) xg ?_
 refine zc rfl (zi rfl rfl (zb rfl)) wa ?_
 refine ze (zj (zk (zd ?_)))
 refine zc rfl (zg rfl xY yW rfl) yC ?_
 refine zc rfl (zu rfl ty5 yx rfl (zr rfl) (zb rfl)) xw ?_
 refine zc rfl (b_load rfl ty5 yF hb0 (zr rfl) (zb rfl)) xD ?_
 refine zc rfl (zy rfl yR yV rfl) xM ?_
 refine zc rfl (zi rfl xE (zb rfl)) wa ?_
 refine ze (zj (zI ?_))
 obtain rfl:=Option.some.inj hF
 refine zz rfl (zD xu zF) (zA (leV.refl _) rfl ?_)
 exact ⟨rfl,rfl⟩
/-! varve/leaf.New -/
theorem ok52 {kind0:Int} {res:GLeaf} {h:AH}  (hF:leafNew kind0=some res):Spec Tryz.prog 52 [.int .u8 kind0] h (fun rr hh=>rr=.agg [.int .u8 res.typ,.int .i64 res.n,.int .u64 res.time,.int .u8 res.dot.actor.rep,.int .u32 res.dot.actor.inc,.int .u64 res.dot.seq,.str res.text,.sl 5 (res.items.map GItem.row),.sl 3 (res.tombs.map GDot.row)]∧hh=h):=by
 unfold leafNew at hF
 refine zt Tryz.func52 rfl (by kernel_rfl) (env:=[.int .u8 kind0,za,za,za,za,za,za,za,za,za,za,za]) (by rfl) ?_
 refine zk (zd ?_)
 refine zc rfl (xe (n:=0) rfl ze42 rfl) xg ?_
 refine ze (zj (zk (zk (zd ?_))))
 refine zc rfl (zf rfl yq (zb rfl)) wa ?_
 refine zc rfl (zy rfl xu rfl rfl) yC ?_
 refine zc rfl (zf rfl yx (zb rfl)) xw ?_
 refine zp rfl (fun hb=>zf rfl yq (zb rfl)) xD ?_
 refine zp rfl (fun hb=>zy rfl (zn yV hb) rfl rfl) xM ?_
 refine zc rfl (zM rfl yR rfl xE (z8 (fun ht=>gF ht))) xU ?_
 refine ze (zj ?_)
 refine zN xp hF (fun hc1 hF=>?_) (fun hc1 hF=>?_)
 ·refine zk (zd ?_)
  refine zc rfl (qu (cs':=[.int .u8 (0:Int),.int .i64 (0:Int),.int .u64 (0:Int),.int .u8 (0:Int),.int .u32 (0:Int),.int .u64 (0:Int),.str ([]:zJ),.osl none 5 (([]:List GItem).map GItem.row),.osl none 3 (([]:List GDot).map GDot.row)]) rfl su42 ze42 pl42 ym .nil rfl rfl) wy ?_
  refine zc rfl (yf (cs':=[.int .u8 (0:Int),.int .i64 (0:Int),.int .u64 (0:Int),.int .u8 (0:Int),.int .u32 (0:Int),.int .u64 (0:Int),.str ([]:zJ),.osl none 5 (([]:List GItem).map GItem.row),.osl none 3 (([]:List GDot).map GDot.row)]) rfl ty42.choose_spec.1 yW xQ (zb rfl) rfl rfl rfl rfl rfl) rfl ?_
  refine ze (zj (zI (zx ?_)))
  obtain rfl:=Option.some.inj hF
  refine zz rfl (rl_cell ty42.choose_spec.1 yW rfl (zH (cs':=[.int .u8 (0:Int),.int .i64 (0:Int),.int .u64 (0:Int),.int .u8 (0:Int),.int .u32 (0:Int),.int .u64 (0:Int),.str ([]:zJ),.osl none 5 (([]:List GItem).map GItem.row),.osl none 3 (([]:List GDot).map GDot.row)]) ty42.choose_spec.2 rfl rfl) (zb rfl) zF) (zA (leV.agg (.eq (.eq (.eq (.eq (.eq (.eq (.eq (.cons (leV.osl _ _ _) (.cons (leV.osl _ _ _) leL.nil))))))))) rfl) rfl ?_)
  exact ⟨rfl,rfl⟩
 ·refine zK (zj (zk (zd ?_)))
  refine zc rfl (zf rfl yq (zb rfl)) yJ ?_
  refine zc rfl (qu (cs':=[.int .u8 kind0,.int .i64 (0:Int),.int .u64 (0:Int),.int .u8 (0:Int),.int .u32 (0:Int),.int .u64 (0:Int),.str ([]:zJ),.osl none 5 (([]:List GItem).map GItem.row),.osl none 3 (([]:List GDot).map GDot.row)]) rfl su42 ze42 pl42 (yh yD ym) (.cons (zb rfl) .nil) rfl rfl) yN ?_
  refine zc rfl (yf (cs':=[.int .u8 kind0,.int .i64 (0:Int),.int .u64 (0:Int),.int .u8 (0:Int),.int .u32 (0:Int),.int .u64 (0:Int),.str ([]:zJ),.osl none 5 (([]:List GItem).map GItem.row),.osl none 3 (([]:List GDot).map GDot.row)]) rfl ty42.choose_spec.1 yW yy (zb rfl) rfl rfl rfl rfl rfl) rfl ?_
  refine ze (zj (zI ?_))
  obtain rfl:=Option.some.inj hF
  refine zz rfl (rl_cell ty42.choose_spec.1 yW rfl (zH (cs':=[.int .u8 kind0,.int .i64 (0:Int),.int .u64 (0:Int),.int .u8 (0:Int),.int .u32 (0:Int),.int .u64 (0:Int),.str ([]:zJ),.osl none 5 (([]:List GItem).map GItem.row),.osl none 3 (([]:List GDot).map GDot.row)]) ty42.choose_spec.2 rfl rfl) (zb rfl) zF) (zA (leV.agg (.eq (.eq (.eq (.eq (.eq (.eq (.eq (.cons (leV.osl _ _ _) (.cons (leV.osl _ _ _) leL.nil))))))))) rfl) rfl ?_)
  exact ⟨rfl,rfl⟩
/-! varve/tree.Leaf -/
theorem ok27 {t0:(List GNode)} {path1:(List zJ)} {kind2:Int} {res:(GLeaf×Bool)} {h:AH}  (hF:treeLeaf t0 path1 kind2=some res):Spec Tryz.prog 27 [.sl 3 (t0.map GNode.row),.sl 1 (path1.map zP),.int .u8 kind2] h (fun rr hh=>rr=.tup [.agg [.int .u8 res.1.typ,.int .i64 res.1.n,.int .u64 res.1.time,.int .u8 res.1.dot.actor.rep,.int .u32 res.1.dot.actor.inc,.int .u64 res.1.dot.seq,.str res.1.text,.sl 5 (res.1.items.map GItem.row),.sl 3 (res.1.tombs.map GDot.row)],.bool res.2]∧hh=h):=by
 unfold treeLeaf at hF
 refine zt Tryz.func27 rfl (by kernel_rfl) (env:=[.sl 3 (t0.map GNode.row),.sl 1 (path1.map zP),.int .u8 kind2,za,za,za,za,za,za,za,za,za,za,za,za,za,za,za,za,za,za,za,za,za,za,za,za,za,za,za,za,za,za,za,za,za,za,za,za,za,za,za,za,za,za,za,za,za,za,za,za,za,za,za,za,za,za,za,za,za,za,za,za,za,za,za]) (by rfl) ?_
 refine zk (zd ?_)
 refine zc rfl (xr (n:=0) rfl yW (zb rfl) rfl rfl) xw ?_
 refine zc rfl (xe (n:=1) rfl ze42 rfl) xD ?_
 refine zc rfl (zi rfl rfl (zb rfl)) xM ?_
 refine ze (zj (zk (zd ?_)))
 refine zc rfl (xe (n:=2) rfl ze59 rfl) xU ?_
 refine ze (zj (zk (zd ?_)))
 refine zc rfl (zf rfl yF (zb rfl)) yZ ?_
 refine ya rfl (zS rfl rfl rfl rfl wD yS yb) y6 fun hn1=>?_
 replace hn1:=xB hn1
 refine zc rfl (zy rfl yY rfl rfl) xj ?_
 refine zc rfl (zi rfl xh (zb rfl)) wy ?_
 refine ze (zj ?_)
 refine r_join (fun (s1:Bool×zJ×(List GLeaf)×(List GNode))=>yQ [0,1,2,3,4,7,10,11,12,13,14,15,16,17,18,19,20,21,22,23,24,25,26,27,28,29,30,31,32,33,34,35,36,37,38,39,40,41,42,43,44,45,46,47,48,49,50,51,52,53,54,55,56,57,58,59,60,61,62,63,64,65] [(9,.bool s1.1)]) (fun s1=>h.ext [.cells [.int .u8 kind2],.cells [.int .u8 (0:Int),.int .i64 (0:Int),.int .u64 (0:Int),.int .u8 (0:Int),.int .u32 (0:Int),.int .u64 (0:Int),.str ([]:zJ),.osl none 5 (([]:List GItem).map GItem.row),.osl none 3 (([]:List GDot).map GDot.row)],.cells [.str s1.2.1,.sl 9 (s1.2.2.1.map GLeaf.row),.sl 3 (s1.2.2.2.map GNode.row)]] []) hF (fun _=>by simp only [yQ,upd,List.set_cons_succ,List.set_cons_zero];try rfl) (fun o1 hF hK1=>?_) (fun s1 hF=>?_)
 ·refine zk (zd ?_)
  refine zc rfl (zf rfl yF (zb rfl)) xy ?_
  refine ya rfl (zS rfl rfl rfl rfl wD xq yb) xF fun hn26=>?_
  replace hn26:=xB hn26
  refine zc rfl (zf rfl rfl (zb rfl)) xN ?_
  refine ze (zj (zR ?_))
  refine yu (fun (n2:Nat) (s2:(List GNode)×Bool×zJ×(List GLeaf)×(List GNode))=>yQ [1,2,3,4,7,10,11,12,13,14,15,16,20,21,22,23,24,25,26,27,28,29,30,31,32,33,34,35,36,37,38,39,40,41,42,43,44,45,46,47,48,49,50,51,52,53,54,55,56,57,58,59,60,61,62,63,64,65] [(0,.sl 3 (s2.1.map GNode.row)),(9,.bool s2.2.1),(19,.int .i64 (n2:Int))]) (fun s2=>h.ext [.cells [.int .u8 kind2],.cells [.int .u8 (0:Int),.int .i64 (0:Int),.int .u64 (0:Int),.int .u8 (0:Int),.int .u32 (0:Int),.int .u64 (0:Int),.str ([]:zJ),.osl none 5 (([]:List GItem).map GItem.row),.osl none 3 (([]:List GDot).map GDot.row)],.cells [.str s2.2.2.1,.sl 9 (s2.2.2.2.1.map GLeaf.row),.sl 3 (s2.2.2.2.2.map GNode.row)]] []) hF (fun _ _=>by simp only [yQ,upd,List.set_cons_succ,List.set_cons_zero];try rfl) (wk.trans (wk_leB (j:=2) rfl (by exact (.eq (.cons (leV.osl _ _ _) (.cons (leV.osl _ _ _) leL.nil)))) rfl rfl) (wk.le (by exact (.cons (leV.of_eq rfl) (.d4 (.eq (.eq (.drop (.eq (.cons (leV.of_eq rfl) (.d4 (.drop (.drop (.drop (.eq (.eq (.cons (leV.of_eq rfl) (.d16 (.d16 (.d4 (.d4 (.d4 (.drop (.drop leL.nil)))))))))))))))))))))))) ?_
  intro n2 s2 hi2 hF
  refine zk (zd ?_)
  refine zc rfl (zy rfl xL xC rfl) x8 ?_
  refine ze (zj (zk ?_))
  refine yL x9 hF (fun x2 o2 hl2 hx2 hF hK2=>?_) (fun hF=>?_)
  ·refine zK (zj (zk (zR (zk (zd ?_)))))
   refine zc rfl (yk rfl wD xq xL va (yO hx2)) wg ?_
   refine zc rfl (ye rfl ty9 wb (zr rfl) (zb rfl)) wo ?_
   refine zc rfl (zi rfl wl (zb rfl)) yN ?_
   refine ze (zj (zk (zk (zd ?_))))
   refine zc rfl (zf rfl yq (zb rfl)) wi ?_
   refine zc rfl (zf rfl yy (zb rfl)) wt ?_
   refine zQ hF (fun v47 hv47 hF=>?_)
   refine zL rfl (zC rfl rfl rfl (zo wh (zo wp zw)) (.cons (zb rfl) (.cons (zb rfl) .nil))) (ok49 hv47) wQ ?_
   refine zc rfl (zf rfl wO (zb rfl)) we ?_
   refine zc rfl (yl rfl x4 rfl (zb rfl)) wY ?_
   refine zc rfl (yl rfl x4 rfl (zb rfl)) wX ?_
   refine zc rfl (yf (cs':=[.str v47.1.name,.sl 9 (v47.1.leaves.map GLeaf.row),.sl 3 (v47.1.subs.map GNode.row)]) rfl ty59.choose_spec.1 xp wU (zb rfl) rfl rfl rfl rfl rfl) rfl ?_
   refine zc rfl (zi rfl wT (zb rfl)) wy ?_
   refine ze (zj (zk (zd ?_)))
   refine zc rfl (zf rfl xQ (zb rfl)) vi ?_
   refine zc rfl (xT rfl vm rfl) vh ?_
   refine ze (zj ?_)
   refine zN vE hF (fun hc48 hF=>?_) (fun hc48 hF=>?_)
   ·refine yU ?_
    refine zZ ?_
    refine q_block_miss (by decide) ?_
    refine zZ ?_
    refine zW ?_
    obtain rfl:=Option.some.inj hF
    replace hF:=hK2
    refine zX ?_
    refine q_join ?_
    obtain rfl:=Option.some.inj hF
    exact ⟨(v47.2,v47.1.name,v47.1.leaves,v47.1.subs),hK1,wk.le (by exact (.d4 (.drop (.eq (.eq (.drop (.eq (.cons (leV.of_eq rfl) (.d16 (.d16 (.d16 (.d4 (.d4 leL.nil)))))))))))))⟩
   ·refine zK (zj (zd ?_))
    refine zc rfl (zg rfl fo59x2 xp rfl) vg ?_
    refine zc rfl (zu rfl ty23 vl rfl (zr rfl) (zb rfl)) vz ?_
    refine zc rfl (zi rfl vk (zb rfl)) st0 ?_
    refine ze (yg (zj (zd ?_)))
    refine zc rfl (zy rfl xL rfl rfl) vw ?_
    refine zc rfl (zf rfl vD (zb rfl)) xN ?_
    refine ze (yH ?_)
    obtain rfl:=Option.some.inj hF
    exact ⟨(v47.1.subs,v47.2,v47.1.name,v47.1.leaves,v47.1.subs),hl2,hK2,wk.le (by exact (.cons (leV.of_eq rfl) (.d4 (.eq (.eq (.drop (.eq (.cons (leV.of_eq rfl) (.d4 (.drop (.drop (.drop (.eq (.eq (.cons (leV.of_eq (ve (by omega) (by omega))) (.d16 (.d16 (.d4 (.d4 (.d4 (.drop (.drop leL.nil))))))))))))))))))))))⟩
  ·refine yU ?_
   refine zZ ?_
   refine zW ?_
   refine zX ?_
   refine q_join ?_
   obtain rfl:=Option.some.inj hF
   exact ⟨(s2.2.1,s2.2.2.1,s2.2.2.2.1,s2.2.2.2.2),hK1,wk.le (by exact (.d4 (.drop (.eq (.eq (.drop (.eq (.cons (leV.of_eq rfl) (.d16 (.d16 (.d16 (.d4 (.d4 leL.nil)))))))))))))⟩
 ·refine zk (zd ?_)
  refine zc rfl (zg rfl x6 xp rfl) vu ?_
  refine zc rfl (zu rfl ty57 vj rfl (zr rfl) (zb rfl)) vt ?_
  refine zc rfl (qJ rfl rfl rfl) vf ?_
  refine zQ hF (fun v49 hv49 hF=>?_)
  refine zL rfl (zC rfl rfl rfl (zo vC (zo vb zw)) (.cons (zb rfl) (.cons (zb rfl) .nil))) (ok50 (fun _ v L M hv=>ok51 (blk_ext2 (j:=0) rfl) hv) hv49) vr ?_
  refine zc rfl (zi rfl vB (zb rfl)) yX ?_
  refine ze (zj (zk (zk (zd ?_))))
  refine zc rfl (zf rfl xQ (zb rfl)) vN ?_
  refine zc rfl (xT rfl vQ rfl) vM ?_
  refine zc rfl (zf rfl vJ (zb rfl)) (sk st0) ?_
  refine zp rfl (fun hb=>zf rfl yM (zb rfl)) (sk st1) ?_
  refine zp rfl (fun hb=>zy rfl (zn (gk yF) hb) rfl rfl) (sk xg) ?_
  refine zc rfl (zM rfl (gk yq) rfl (gk yW) (z8 (fun ht=>gF ht))) (sk wa) ?_
  refine zc rfl (zf rfl (gk xu) (zb rfl)) (sk yC) ?_
  refine zp rfl (fun hb=>zu rfl ty5 yR rfl (zr rfl) (zb rfl)) (sk xw) ?_
  refine yP hF (fun v50 hv50 hF=>?_)
  refine yj rfl (fun hb=>zC rfl rfl rfl (zo (zn (gk yR) hb) zw) (.cons (zb rfl) .nil)) (fun hb=>ok52 (hv50 hb)) (sk xD) ?_
  refine zp rfl (fun hb=>s_field rfl xY ty5 (zn (gk yV) hb) rfl (zb rfl)) (sk xM) ?_
  refine zp rfl (fun hb=>zy rfl (zn (gk xE) hb) rfl rfl) (sk xU) ?_
  refine zc rfl (zM rfl (gk yx) rfl (gk xp) (z8 (fun ht=>gF ht))) (sk wy) ?_
  refine ze (zj ?_)
  refine zN (gk xQ) hF (fun hc51 hF=>?_) (fun hc51 hF=>?_)
  ·refine zk (zd ?_)
   refine zc rfl (zu rfl ty5 yR rfl (zr rfl) (zb rfl)) (sk yJ) ?_
   refine zQ hF (fun v52 hv52 hF=>?_)
   refine zL rfl (zC rfl rfl rfl (zo (gk yD) zw) (.cons (zb rfl) .nil)) (ok52 hv52) (sk yN) ?_
   refine zc rfl (yf (cs':=[.int .u8 v52.typ,.int .i64 v52.n,.int .u64 v52.time,.int .u8 v52.dot.actor.rep,.int .u32 v52.dot.actor.inc,.int .u64 v52.dot.seq,.str v52.text,.sl 5 (v52.items.map GItem.row),.sl 3 (v52.tombs.map GDot.row)]) rfl ty42.choose_spec.1 yV (gk yy) (zb rfl) rfl rfl rfl rfl rfl) rfl ?_
   refine zc rfl (zi rfl rfl (zb rfl)) xM ?_
   refine ze (zj (zI (zx ?_)))
   obtain rfl:=Option.some.inj hF
   refine qC rfl (rl_cell ty42.choose_spec.1 yV rfl (zH (cs':=[.int .u8 v52.typ,.int .i64 v52.n,.int .u64 v52.time,.int .u8 v52.dot.actor.rep,.int .u32 v52.dot.actor.inc,.int .u64 v52.dot.seq,.str v52.text,.sl 5 (v52.items.map GItem.row),.sl 3 (v52.tombs.map GDot.row)]) ty42.choose_spec.2 rfl rfl) (zb rfl) (zD xE zF)) (zA (leV.refl _) rfl ?_)
   exact ⟨rfl,rfl⟩
  ·refine zK (zj (zk (zd ?_)))
   refine zc rfl (zg rfl x6 xp rfl) (sk yX) ?_
   refine zc rfl (zu rfl ty57 (gk yM) rfl (zr rfl) (zb rfl)) (sk y4) ?_
   refine zc rfl (zf rfl yM (zb rfl)) (sk yZ) ?_
   refine zQ hF (fun y53 hy53 hF=>?_)
   refine zc rfl (yk rfl wn (gk yE) (gk yS) va hy53) (sk y6) ?_
   refine zc rfl (ye rfl ty42.choose_spec.1 (gk yY) (zH (cs':=[.int .u8 y53.typ,.int .i64 y53.n,.int .u64 y53.time,.int .u8 y53.dot.actor.rep,.int .u32 y53.dot.actor.inc,.int .u64 y53.dot.seq,.str y53.text,.sl 5 (y53.items.map GItem.row),.sl 3 (y53.tombs.map GDot.row)]) ty42.choose_spec.2 rfl rfl) (zb rfl)) (sk xj) ?_
   refine zc rfl (xe (n:=3) rfl ze42 rfl) y4 ?_
   refine zc rfl (yf (cs':=[.int .u8 y53.typ,.int .i64 y53.n,.int .u64 y53.time,.int .u8 y53.dot.actor.rep,.int .u32 y53.dot.actor.inc,.int .u64 y53.dot.seq,.str y53.text,.sl 5 (y53.items.map GItem.row),.sl 3 (y53.tombs.map GDot.row)]) rfl ty42.choose_spec.1 yE (gk xh) (zb rfl) rfl rfl rfl rfl rfl) rfl ?_
   refine ze (zj (zk ?_))
   refine yK [] [] trivial mixed (by kernel_rfl) ?_
   refine zq rfl rfl (zg rfl xR yE rfl) (sk xy) ?_
   refine zq rfl rfl (zu rfl ty39 (gk xq) rfl (zr rfl) (zb rfl)) (sk xF) ?_
   refine zQ hF (fun v54 hv54 hF=>?_)
   refine vd rfl FOk.nil (by rfl) rfl (zC rfl rfl rfl (zo (gk xC) zw) (.cons (zb rfl) .nil)) (own_ext (T':=[(v54).length]) (ok53 hv54) (m:=0) rfl rfl) (sk xN) ?_
   refine zq rfl rfl (zg rfl wm yE rfl) (sk x8) ?_
   refine zq rfl rfl (zu rfl ty40 (gk x9) rfl (zr rfl) (zb rfl)) (sk wg) ?_
   refine zQ hF (fun v55 hv55 hF=>?_)
   refine vd rfl FOk.nil (by rfl) rfl (zC rfl rfl rfl (zo (gk wb) zw) (.cons (zb rfl) .nil)) (own_ext (T':=[(v54).length,(v55).length]) (ok54 hv55) (m:=1) rfl rfl) (sk wo) ?_
   refine zq rfl rfl (zg rfl xR yE rfl) (sk we) ?_
   refine xb rfl FOk.nil (by kernel_rfl) rfl (yf (cs':=[.int .u8 y53.typ,.int .i64 y53.n,.int .u64 y53.time,.int .u8 y53.dot.actor.rep,.int .u32 y53.dot.actor.inc,.int .u64 y53.dot.seq,.str y53.text,.osl (some (h.toks.length+0)) 5 (v54.map GItem.row),.sl 3 (y53.tombs.map GDot.row)]) rfl ty39 (gk x4) (gk xL) (zb rfl) rfl rfl rfl rfl rfl) rfl ?_
   refine zq rfl rfl (zg rfl wm yE rfl) (sk wi) ?_
   refine xb rfl FOk.nil (by kernel_rfl) rfl (yf (cs':=[.int .u8 y53.typ,.int .i64 y53.n,.int .u64 y53.time,.int .u8 y53.dot.actor.rep,.int .u32 y53.dot.actor.inc,.int .u64 y53.dot.seq,.str y53.text,.osl (some (h.toks.length+0)) 5 (v54.map GItem.row),.osl (some (h.toks.length+1)) 3 (v55.map GDot.row)]) rfl ty40 (gk wh) (gk wl) (zb rfl) rfl rfl rfl rfl rfl) rfl ?_
   refine yo ?_
   refine zj (zk (zd ?_))
   refine zc rfl (zu rfl ty42.choose_spec.1 yE rfl (zH (cs':=[.int .u8 y53.typ,.int .i64 y53.n,.int .u64 y53.time,.int .u8 y53.dot.actor.rep,.int .u32 y53.dot.actor.inc,.int .u64 y53.dot.seq,.str y53.text,.osl (some (h.toks.length+0)) 5 (v54.map GItem.row),.osl (some (h.toks.length+1)) 3 (v55.map GDot.row)]) ty42.choose_spec.2 rfl rfl) (zb rfl)) (sk wt) ?_
   refine zc rfl (yf (cs':=[.int .u8 y53.typ,.int .i64 y53.n,.int .u64 y53.time,.int .u8 y53.dot.actor.rep,.int .u32 y53.dot.actor.inc,.int .u64 y53.dot.seq,.str y53.text,.osl (some (h.toks.length+0)) 5 (v54.map GItem.row),.osl (some (h.toks.length+1)) 3 (v55.map GDot.row)]) rfl ty42.choose_spec.1 yV (gk wp) (zb rfl) rfl rfl rfl rfl rfl) rfl ?_
   refine zc rfl (zi rfl rfl (zb rfl)) xM ?_
   refine ze (zj (zI ?_))
   obtain rfl:=Option.some.inj hF
   refine qC rfl (rl_cell ty42.choose_spec.1 yV rfl (zH (cs':=[.int .u8 y53.typ,.int .i64 y53.n,.int .u64 y53.time,.int .u8 y53.dot.actor.rep,.int .u32 y53.dot.actor.inc,.int .u64 y53.dot.seq,.str y53.text,.osl (some (h.toks.length+0)) 5 (v54.map GItem.row),.osl (some (h.toks.length+1)) 3 (v55.map GDot.row)]) ty42.choose_spec.2 rfl rfl) (zb rfl) (zD xE zF)) (zA (leV.tup (.cons (leV.agg (.eq (.eq (.eq (.eq (.eq (.eq (.eq (.cons (leV.osl _ _ _) (.cons (leV.osl _ _ _) leL.nil))))))))) rfl) (.eq leL.nil))) rfl ?_)
   exact ⟨rfl,rfl⟩
/-! slices.SortFunc[[]varve/api.Leaf,varve/api.Leaf] -/
def sort64TryzRen:Go.Shelf.Ren :=
  { f:=fun x=>match x with
      | 6=>64
      | 15=>83
      | 14=>89
      | 28=>108
      | 29=>109
      | 20=>112
      | 21=>113
      | 22=>114
      | 23=>115
      | 24=>116
      | 25=>117
      | 26=>118
      | 27=>119
      | 46=>133
      | 47=>128
      | 48=>129
      | 49=>134
      | 50=>135
      | 57=>142
      | n=>n
    t:=fun x=>match x with
      | 22=>57
      | 24=>42
      | 25=>106
      | 3=>3
      | 39=>128
      | 0=>0
      | 53=>34
      | 55=>33
      | 4=>4
      | 46=>142
      | 45=>141
      | 50=>97
      | 5=>5
      | 9=>9
      | 66=>161
      | 70=>165
      | 76=>175
      | 77=>176
      | n=>n
    g:=fun n=>n }
theorem sort64TryzLays:Go.Proofs.SlLaysF0.n6 Tryz.prog sort64TryzRen where
  mixed:=mixed
  f6:=⟨Tryz.f64.name,by kernel_rfl,Tryz.func64.trans (by kernel_rfl)⟩
  f15:=Tryz.func83.trans (by kernel_rfl)
  f14:=⟨Tryz.f89.name,by kernel_rfl,Tryz.func89.trans (by kernel_rfl)⟩
  f28:=Tryz.func108.trans (by kernel_rfl)
  f29:=Tryz.func109.trans (by kernel_rfl)
  f20:=⟨Tryz.f112.name,by kernel_rfl,Tryz.func112.trans (by kernel_rfl)⟩
  f21:=⟨Tryz.f113.name,by kernel_rfl,Tryz.func113.trans (by kernel_rfl)⟩
  f22:=⟨Tryz.f114.name,by kernel_rfl,Tryz.func114.trans (by kernel_rfl)⟩
  f23:=⟨Tryz.f115.name,by kernel_rfl,Tryz.func115.trans (by kernel_rfl)⟩
  f24:=⟨Tryz.f116.name,by kernel_rfl,Tryz.func116.trans (by kernel_rfl)⟩
  f25:=⟨Tryz.f117.name,by kernel_rfl,Tryz.func117.trans (by kernel_rfl)⟩
  f26:=⟨Tryz.f118.name,by kernel_rfl,Tryz.func118.trans (by kernel_rfl)⟩
  f27:=⟨Tryz.f119.name,by kernel_rfl,Tryz.func119.trans (by kernel_rfl)⟩
  f46:=⟨Tryz.f133.name,by kernel_rfl,Tryz.func133.trans (by kernel_rfl)⟩
  f47:=Tryz.func128.trans (by kernel_rfl)
  f48:=Tryz.func129.trans (by kernel_rfl)
  f49:=⟨Tryz.f134.name,by kernel_rfl,Tryz.func134.trans (by kernel_rfl)⟩
  f50:=⟨Tryz.f135.name,by kernel_rfl,Tryz.func135.trans (by kernel_rfl)⟩
  f57:=⟨Tryz.f142.name,by kernel_rfl,Tryz.func142.trans (by kernel_rfl)⟩
  t0:=Tryz.underlying0
  a0:=Tryz.isAgg0
  z0:=Tryz.sizeOf0
  v0:=Tryz.zeroValue0
  t3:=Tryz.underlying3
  a3:=Tryz.isAgg3
  z3:=Tryz.sizeOf3
  v3:=Tryz.zeroValue3
  t4:=Tryz.underlying4
  a4:=Tryz.isAgg4
  z4:=Tryz.sizeOf4
  v4:=Tryz.zeroValue4
  t5:=Tryz.underlying5
  a5:=Tryz.isAgg5
  z5:=Tryz.sizeOf5
  v5:=Tryz.zeroValue5
  t9:=Tryz.underlying9
  a9:=Tryz.isAgg9
  z9:=Tryz.sizeOf9
  v9:=Tryz.zeroValue9
  t22:=Tryz.underlying57
  a22:=Tryz.isAgg57
  z22:=Tryz.sizeOf57
  v22:=Tryz.zeroValue57
  t25:=Tryz.underlying106
  a25:=Tryz.isAgg106
  z25:=Tryz.sizeOf106
  v25:=Tryz.zeroValue106
  t39:=Tryz.underlying128
  a39:=Tryz.isAgg128
  z39:=Tryz.sizeOf128
  v39:=Tryz.zeroValue128
  t45:=Tryz.underlying141
  a45:=Tryz.isAgg141
  z45:=Tryz.sizeOf141
  v45:=Tryz.zeroValue141
  t46:=Tryz.underlying142
  a46:=Tryz.isAgg142
  z46:=Tryz.sizeOf142
  v46:=Tryz.zeroValue142
  t50:=Tryz.underlying97
  a50:=Tryz.isAgg97
  z50:=Tryz.sizeOf97
  v50:=Tryz.zeroValue97
  t53:=Tryz.underlying34
  a53:=Tryz.isAgg34
  z53:=Tryz.sizeOf34
  v53:=Tryz.zeroValue34
  t55:=Tryz.underlying33
  a55:=Tryz.isAgg33
  z55:=Tryz.sizeOf33
  v55:=Tryz.zeroValue33
  t66:=Tryz.underlying161
  a66:=Tryz.isAgg161
  z66:=Tryz.sizeOf161
  v66:=Tryz.zeroValue161
  t70:=Tryz.underlying165
  a70:=Tryz.isAgg165
  z70:=Tryz.sizeOf165
  v70:=Tryz.zeroValue165
  t76:=Tryz.underlying175
  a76:=Tryz.isAgg175
  z76:=Tryz.sizeOf175
  v76:=Tryz.zeroValue175
  t77:=Tryz.underlying176
  a77:=Tryz.isAgg176
  z77:=Tryz.sizeOf176
  v77:=Tryz.zeroValue176
/-! varve/diff.lay 3 -/
theorem ok65 {x0:GLeaf} {y1:GLeaf} {res:Int} {h:AH}  (hF:diffXlayC3 x0 y1=some res):Spec Tryz.prog 65 [.agg [.int .u8 x0.typ,.int .i64 x0.n,.int .u64 x0.time,.int .u8 x0.dot.actor.rep,.int .u32 x0.dot.actor.inc,.int .u64 x0.dot.seq,.str x0.text,.sl 5 (x0.items.map GItem.row),.sl 3 (x0.tombs.map GDot.row)],.agg [.int .u8 y1.typ,.int .i64 y1.n,.int .u64 y1.time,.int .u8 y1.dot.actor.rep,.int .u32 y1.dot.actor.inc,.int .u64 y1.dot.seq,.str y1.text,.sl 5 (y1.items.map GItem.row),.sl 3 (y1.tombs.map GDot.row)]] h (fun rr hh=>rr=.int .i64 res∧hh=h):=by
 unfold diffXlayC3 at hF
 refine zt Tryz.func65 rfl (by kernel_rfl) (env:=[.agg [.int .u8 x0.typ,.int .i64 x0.n,.int .u64 x0.time,.int .u8 x0.dot.actor.rep,.int .u32 x0.dot.actor.inc,.int .u64 x0.dot.seq,.str x0.text,.sl 5 (x0.items.map GItem.row),.sl 3 (x0.tombs.map GDot.row)],.agg [.int .u8 y1.typ,.int .i64 y1.n,.int .u64 y1.time,.int .u8 y1.dot.actor.rep,.int .u32 y1.dot.actor.inc,.int .u64 y1.dot.seq,.str y1.text,.sl 5 (y1.items.map GItem.row),.sl 3 (y1.tombs.map GDot.row)],za,za,za,za,za,za,za,za]) (by rfl) ?_
 refine zk (zd ?_)
 refine zc rfl (xr (n:=0) rfl yq (zb rfl) rfl rfl) xg ?_
 refine zc rfl (xr (n:=1) rfl yF (zb rfl) rfl rfl) wa ?_
 refine zc rfl (zi rfl rfl (zb rfl)) yC ?_
 refine ze (zj (zk (zd ?_)))
 refine zc rfl (zg rfl xY yW rfl) xw ?_
 refine zc rfl (zu rfl ty5 yR rfl (zr rfl) (zb rfl)) xD ?_
 refine zc rfl (zg rfl xY xu rfl) xM ?_
 refine zc rfl (zu rfl ty5 xE rfl (zr rfl) (zb rfl)) xU ?_
 refine zQ hF (fun v1 hv1 hF=>?_)
 refine zL rfl (zC rfl rfl rfl (zo yV (zo xp zw)) (.cons (zb rfl) (.cons (zb rfl) .nil))) (ok66 hv1) wy ?_
 refine zc rfl (zi rfl xQ (zb rfl)) yC ?_
 refine ze (zj (zI ?_))
 obtain rfl:=Option.some.inj hF
 refine zz rfl (zD yx zF) (zA (leV.refl _) rfl ?_)
 exact ⟨rfl,rfl⟩
/-! slices.Clone[varve/api.Tree,varve/api.Node] -/
theorem ok67 {s0:(List GNode)} {res:(List GNode)} {h:AH}  (hF:wA s0=some res):Spec Tryz.prog 67 [.sl 3 (s0.map GNode.row)] h (OwnK h 3 res.length (res.map GNode.row)):=by
 unfold wA at hF
 refine zt Tryz.func67 rfl (by kernel_rfl) (env:=[.sl 3 (s0.map GNode.row),za,za,za,za,za,za,za]) (by rfl) ?_
 refine zk (zd ?_)
 refine zc rfl (zi rfl rfl (xi xl)) xg ?_
 refine ze (zj (zk (zk (zd ?_))))
 refine zc rfl (zf rfl yq (zb rfl)) wa ?_
 refine ops_nilqE rfl rfl xl xu va rfl (fun _=>yC) hF (fun b1 hb1 hF=>?_)
 refine ze (zj ?_)
 refine zN yx hF (fun hc2 hF=>?_) (fun hc2 hF=>?_)
 ·refine zk (zd ?_)
  refine zc rfl (zi rfl rfl (xi xl)) xg ?_
  refine ze (zj (zI (zx ?_)))
  obtain rfl:=Option.some.inj hF
  refine zz rfl (zD yW zF) (fin_own0 (row:=GNode.row) (L:=([]:List GNode)) ?_)
  exact ⟨rfl,rfl⟩
 ·refine zK (zj (zk (zd ?_)))
  refine zc rfl (yr (es:=([]:List GNode).map GNode.row) rfl xl ze59 rfl rfl ym .nil rfl rfl (by simp only [List.map_cons,List.map_nil,GNode.row_eq];rfl)) xw ?_
  refine zc rfl (zf rfl yq (zb rfl)) xD ?_
  refine wJ hF (fun hm3 hF=>?_)
  refine zc rfl (e_appN (m:=0) (T':=[((([]:List GNode)++s0)).length]) rfl rfl rfl rfl xl xl yR yV (zb rfl) (zb rfl) news_sl hm3 rfl rfl) xM ?_
  refine zc rfl (zi rfl xE (zb rfl)) xg ?_
  refine ze (zj (zI ?_))
  obtain rfl:=Option.some.inj hF
  refine zz rfl (zD yW zF) (fin_own ?_)
  exact ⟨rfl,rfl⟩
/-! slices.BinarySearchFunc[varve/api.Tree,varve/api.Node,string] -/
theorem ok57 {x0:(List GNode)} {target1:zJ} {cmp2:(GNode→zJ→Option Int)} {fcmp2:FuncId} {acmp2 kcmp2:List AV} {res:(Int×Bool)} {h:AH} (hcmp2:∀ x0 x1 v (L:List Blk) (M:List Nat),cmp2 x0 x1=some v→Spec Tryz.prog fcmp2 (acmp2++[.agg [.str x0.name,.sl 9 (x0.leaves.map GLeaf.row),.sl 3 (x0.subs.map GNode.row)],.str x1]++kcmp2) (h.ext L M) (fun rr hh=>rr=.int .i64 v∧hh=h.ext L M)) (hF:yc x0 target1 cmp2=some res):Spec Tryz.prog 57 [.sl 3 (x0.map GNode.row),.str target1,.fn (.func fcmp2) acmp2 kcmp2] h (fun rr hh=>rr=.tup [.int .i64 res.1,.bool res.2]∧hh=h):=by
 unfold yc at hF
 refine yG Tryz.func57 rfl (by kernel_rfl) (env:=[.sl 3 (x0.map GNode.row),.str target1,.fn (.func fcmp2) acmp2 kcmp2,za,za,za,za,za,za,za,za,za,za,za,za,za,za,za,za,za,za,za,za,za,za,za,za,za,za,za,za,za,za,za,za,za,za,za,za,za,za,za,za,za,za,za,za,za,za]) (by rfl) (fun hlow hC=>?_)
 simp only [yi,AV.low,Bool.and_eq_true,Bool.true_and,and_true] at hlow
 have hlacmp2:∀ n m,h.blks.length≤n→h.toks.length≤m→yi n m acmp2=true:=fun n m h1 h2=>xd h1 h2 _ (by simp [hlow])
 have hlkcmp2:∀ n m,h.blks.length≤n→h.toks.length≤m→yi n m kcmp2=true:=fun n m h1 h2=>xd h1 h2 _ (by simp [hlow])
 refine zk (zd ?_)
 refine zc rfl (zi rfl rfl (zb rfl)) xD ?_
 refine zc rfl (zi rfl rfl (zb rfl)) xM ?_
 refine ze (zj (zk (zd ?_)))
 refine zc rfl (zf rfl yq (zb rfl)) yX ?_
 refine ya rfl (zS rfl rfl rfl rfl xl yM yb) y4 fun hn1=>?_
 replace hn1:=xB hn1
 refine zc rfl (zi rfl yE (zb rfl)) xU ?_
 refine ze (zj (zk (zd ?_)))
 refine zc rfl (zf rfl xp (zb rfl)) yZ ?_
 refine zc rfl (zi rfl rfl (zb rfl)) wy ?_
 refine zc rfl (zi rfl yS (zb rfl)) yJ ?_
 refine ze (zj (zk (zR ?_)))
 refine r_loopWF (fun (s1:Int×Int)=>yQ [3,4,5,6,7,11,12,13,14,15,16,17,18,19,20,21,22,23,24,25,26,27,28,29,30,31,32,33,34,35,36,37,38,39,40,41,42,43,44,45,46,47,48] [(9,.int .i64 s1.1),(10,.int .i64 s1.2)]) (fun s1=>h.ext [] []) hF (fun _=>by simp only [yQ,upd,List.set_cons_succ,List.set_cons_zero];try rfl) (wk.le (by exact (.eq (.eq (.eq (.d4 (.drop (.eq (.cons (leV.of_eq rfl) (.cons (leV.of_eq rfl) (.d16 (.d16 (.d4 (.drop (.drop leL.nil))))))))))))))) ?_
 intro n1 s1 o1 hF hK1
 refine zk (zk (zd ?_))
 refine zc rfl (zf rfl xQ (zb rfl)) y6 ?_
 refine zc rfl (zf rfl yD (zb rfl)) xj ?_
 refine zc rfl (zy rfl yY xh rfl) xy ?_
 refine ze (zj ?_)
 refine zN xq hF (fun hc8 hF=>?_) (fun hc8 hF=>?_)
 ·refine zK (zj (zR (zk (zd ?_))))
  refine zc rfl (zf rfl xQ (zb rfl)) xF ?_
  refine zc rfl (zf rfl yD (zb rfl)) xN ?_
  refine zc rfl (zy rfl xC xL rfl) x8 ?_
  refine zc rfl (s_convert rfl ty3 ty128 x9 rfl) wg ?_
  refine zc rfl (zy rfl wb rfl rfl) wo ?_
  refine zc rfl (s_convert rfl ty128 ty3 wl rfl) we ?_
  refine zc rfl (zi rfl x4 (zb rfl)) yN ?_
  refine ze (zj (zk (zd ?_)))
  refine zc rfl (zf rfl yW (zb rfl)) wi ?_
  refine zc rfl (zf rfl yq (zb rfl)) wt ?_
  refine zc rfl (zf rfl yy (zb rfl)) wQ ?_
  refine zQ hF (fun y9 hy9 hF=>?_)
  refine zc rfl (xO rfl xl wp wO va hy9 (GNode.row_eq _)) wY ?_
  refine zc rfl (ye rfl ty59.choose_spec.1 wU (zH (cs':=[.str y9.name,.sl 9 (y9.leaves.map GLeaf.row),.sl 3 (y9.subs.map GNode.row)]) ty59.choose_spec.2 rfl rfl) (zb rfl)) wX ?_
  refine zc rfl (zf rfl yF (zb rfl)) vi ?_
  refine zQ hF (fun v10 hv10 hF=>?_)
  refine zL rfl (s_callC rfl rfl wh (zo wT (zo vm zw)) (.cons (zb rfl) (.cons (zb rfl) .nil)) rfl) (hcmp2 _ _ _ _ _ hv10) vh ?_
  refine zc rfl (zy rfl vE rfl rfl) vg ?_
  refine ze (zj ?_)
  refine zN vl hF (fun hc11 hF=>?_) (fun hc11 hF=>?_)
  ·refine zd ?_
   refine zc rfl (zf rfl yy (zb rfl)) vz ?_
   refine zc rfl (zy rfl vk rfl rfl) vw ?_
   refine zc rfl (zi rfl vD (zb rfl)) wy ?_
   refine ze (yg (yH ?_))
   obtain rfl:=Option.some.inj hF
   exact ⟨((IntKind.wrap .i64 ((IntKind.wrap .i64 ((Int.fdiv (IntKind.wrap .u64 ((IntKind.wrap .i64 (s1.1+s1.2)))) (2 ^ (min (1:Int).toNat (IntKind.bits .u64))))))+(1:Int))),s1.2),hK1,wk.le (by exact (.eq (.eq (.eq (.d4 (.drop (.eq (.cons (leV.of_eq rfl) (.cons (leV.of_eq rfl) (.d16 (.d16 (.d4 (.drop (.drop leL.nil))))))))))))))⟩
  ·refine zd ?_
   refine zc rfl (zf rfl yy (zb rfl)) vu ?_
   refine zc rfl (zi rfl vj (zb rfl)) yJ ?_
   refine ze (yg (yH ?_))
   obtain rfl:=Option.some.inj hF
   exact ⟨(s1.1,(IntKind.wrap .i64 ((Int.fdiv (IntKind.wrap .u64 ((IntKind.wrap .i64 (s1.1+s1.2)))) (2 ^ (min (1:Int).toNat (IntKind.bits .u64))))))),hK1,wk.le (by exact (.eq (.eq (.eq (.d4 (.drop (.eq (.cons (leV.of_eq rfl) (.cons (leV.of_eq rfl) (.d16 (.d16 (.d4 (.drop (.drop leL.nil))))))))))))))⟩
 ·refine yU ?_
  refine zZ ?_
  refine zW ?_
  obtain rfl:=Option.some.inj hF
  replace hF:=hK1
  refine zX ?_
  refine zj (zk (zd ?_))
  refine zc rfl (zf rfl xQ (zb rfl)) vt ?_
  refine zc rfl (zf rfl xQ (zb rfl)) vf ?_
  refine zc rfl (zf rfl xp (zb rfl)) vr ?_
  refine zc rfl (zy rfl vb vB rfl) vN ?_
  refine zc rfl (zf rfl vQ (zb rfl)) vM ?_
  refine zp rfl (fun hb=>zf rfl yW (zb rfl)) (sk st0) ?_
  refine zp rfl (fun hb=>zf rfl yq (zb rfl)) (sk st1) ?_
  refine zp rfl (fun hb=>zf rfl xQ (zb rfl)) (sk xg) ?_
  refine wJ hF (fun hg14 hF=>?_)
  refine zp rfl (fun hb=>qK default rfl xl (zn (gk yF) hb) (zn (gk yW) hb) va (hg14 hb) (GNode.row_eq _)) (sk wa) ?_
  refine zp rfl (fun hb=>ye rfl ty59.choose_spec.1 (zn (gk xu) hb) (zH (cs':=[.str (((x0).getD s1.1.toNat default).name),.sl 9 ((((x0).getD s1.1.toNat default).leaves).map GLeaf.row),.sl 3 ((((x0).getD s1.1.toNat default).subs).map GNode.row)]) ty59.choose_spec.2 rfl rfl) (zb rfl)) (sk yC) ?_
  refine zp rfl (fun hb=>zf rfl yF (zb rfl)) (sk xw) ?_
  refine yP hF (fun v15 hv15 hF=>?_)
  refine yj rfl (fun hb=>s_callC rfl rfl (zn (gk yq) hb) (zo (zn (gk yx) hb) (zo (zn (gk yR) hb) zw)) (.cons (zb rfl) (.cons (zb rfl) .nil)) rfl) (fun hb=>hcmp2 _ _ _ _ _ (hv15 hb)) (sk xD) ?_
  refine zp rfl (fun hb=>zy rfl (zn (gk yV) hb) rfl rfl) (sk xM) ?_
  refine zc rfl (zM rfl vJ (gk xE) rfl (zU (fun ht=>gT ht))) (sk xU) ?_
  refine zc rfl (zi rfl vC (zb rfl)) xD ?_
  refine zc rfl (zi rfl (gk xp) (zb rfl)) xM ?_
  refine ze (zj (zI ?_))
  obtain rfl:=Option.some.inj hF
  refine qC rfl (zD yV (zD xE zF)) (zA (leV.refl _) rfl ?_)
  exact ⟨rfl,rfl⟩
/-! strings.Compare -/
def scmpTryzRen:Go.Shelf.Ren :=
  { f:=fun x=>match x with
      | 106=>59
      | 213=>88
      | 265=>111
      | n=>n
    t:=fun x=>match x with
      | 3=>3
      | 9=>9
      | n=>n
    g:=fun n=>n }
theorem scmpTryzLays:Go.Proofs.Lays.n106 Tryz.prog scmpTryzRen where
  mixed:=mixed
  f106:=Tryz.func59.trans (by kernel_rfl)
  f213:=Tryz.func88.trans (by kernel_rfl)
  f265:=Tryz.func111.trans (by kernel_rfl)
  t3:=Tryz.underlying3
  a3:=Tryz.isAgg3
  z3:=Tryz.sizeOf3
  v3:=Tryz.zeroValue3
  t9:=Tryz.underlying9
  a9:=Tryz.isAgg9
  z9:=Tryz.sizeOf9
  v9:=Tryz.zeroValue9
theorem ok59 {p0:zJ} {p1:zJ} {res:Int} {h:AH} (hF:stringsCompare p0 p1=some res):Spec Tryz.prog 59 [.str p0,.str p1] h (fun rr hh=>rr=.int .i64 res∧hh=h):=by
 obtain rfl:=Option.some.inj hF
 exact spec_scompare scmpTryzLays
/-! varve/diff.lay 1 -/
theorem ok58 {n0:GNode} {name1:zJ} {res:Int} {h:AH}  (hF:qm n0 name1=some res):Spec Tryz.prog 58 [.agg [.str n0.name,.sl 9 (n0.leaves.map GLeaf.row),.sl 3 (n0.subs.map GNode.row)],.str name1] h (fun rr hh=>rr=.int .i64 res∧hh=h):=by
 unfold qm at hF
 refine zt Tryz.func58 rfl (by kernel_rfl) (env:=[.agg [.str n0.name,.sl 9 (n0.leaves.map GLeaf.row),.sl 3 (n0.subs.map GNode.row)],.str name1,za,za,za,za,za,za,za]) (by rfl) ?_
 refine zk (zd ?_)
 refine zc rfl (xr (n:=0) rfl yq (zb rfl) rfl rfl) xg ?_
 refine zc rfl (zi rfl rfl (zb rfl)) yC ?_
 refine ze (zj (zk (zd ?_)))
 refine zc rfl (zg rfl fo59x0 yW rfl) xw ?_
 refine zc rfl (zu rfl ty9 yR rfl (zr rfl) (zb rfl)) xD ?_
 refine zc rfl (zf rfl yF (zb rfl)) xM ?_
 refine zQ hF (fun v1 hv1 hF=>?_)
 refine zL rfl (zC rfl rfl rfl (zo yV (zo xE zw)) (.cons (zb rfl) (.cons (zb rfl) .nil))) (ok59 hv1) xU ?_
 refine zc rfl (zi rfl xp (zb rfl)) yC ?_
 refine ze (zj (zI ?_))
 obtain rfl:=Option.some.inj hF
 refine zz rfl (zD yx zF) (zA (leV.refl _) rfl ?_)
 exact ⟨rfl,rfl⟩
/-! slices.DeleteFunc[[]varve/api.Leaf,varve/api.Leaf] -/
theorem okR60 {bl tl:Nat} {s0:(List GLeaf)} {del1:(GLeaf→Option Bool)} {fdel1:FuncId} {adel1 kdel1:List AV} {res:(List GLeaf)} {h:AH} (hbl:h.blks.length=bl) (htl:h.toks.length=tl) (hdel1:∀ x0 v (L:List Blk) (M:List Nat),del1 x0=some v→Spec Tryz.prog fdel1 (adel1++[.agg [.int .u8 x0.typ,.int .i64 x0.n,.int .u64 x0.time,.int .u8 x0.dot.actor.rep,.int .u32 x0.dot.actor.inc,.int .u64 x0.dot.seq,.str x0.text,.sl 5 (x0.items.map GItem.row),.sl 3 (x0.tombs.map GDot.row)]]++kdel1) (h.ext L M) (fun rr hh=>rr=.bool v∧hh=h.ext L M)) (hladel1:∀ n m,h.blks.length≤n→h.toks.length≤m→yi n m adel1=true) (hlkdel1:∀ n m,h.blks.length≤n→h.toks.length≤m→yi n m kdel1=true) (hF:xH s0 del1=some res):Spec Tryz.prog 60 [.rsl bl tl 9 s0.length,.fn (.func fdel1) adel1 kdel1] (h.ext [.row tl 9 (s0.map GLeaf.row)] [s0.length]) (TurnK h bl tl 9 res.length (res.map GLeaf.row)):=by
 unfold xH at hF
 subst hbl htl
 refine spec_of_body_R Tryz.func60 rfl (by kernel_rfl) (env:=[.rsl h.blks.length h.toks.length 9 s0.length,.fn (.func fdel1) adel1 kdel1,za,za,za,za,za,za,za,za,za,za,za,za,za,za,za,za,za,za,za,za,za,za,za,za,za,za,za,za,za,za,za,za,za,za,za,za,za,za,za,za]) (by rfl) ?_
 refine zk (zd ?_)
 refine zc rfl (zi rfl rfl (xi wn)) yC ?_
 refine ze (zj (zk (zd ?_)))
 refine zc rfl (zf rfl yq (zb rfl)) xU ?_
 refine zc rfl (zf rfl yF (zb rfl)) wy ?_
 refine zQ hF (fun v1 hv1 hF=>?_)
 refine zL rfl (zC rfl rfl rfl (zo xp (zo xQ zw)) (.cons (zb rfl) (.cons (zb rfl) .nil))) (row_read (B1:=[]) (T1:=[]) (okR50 (by simp [AH.ext]) (by simp [AH.ext]) (fun x0 v L M hv=>by rw [wr];exact hdel1 x0 v _ _ hv) (fun n m h1 h2=>hladel1 n m (by simp [AH.ext] at h1;omega) (by simp [AH.ext] at h2;omega)) (fun n m h1 h2=>hlkdel1 n m (by simp [AH.ext] at h1;omega) (by simp [AH.ext] at h2;omega)) hv1) rfl rfl) yJ ?_
 refine zc rfl (zi rfl yD (zb rfl)) xw ?_
 refine ze (zj (zk (zk (zd ?_))))
 refine zc rfl (zf rfl yR (zb rfl)) yN ?_
 refine zc rfl (zy rfl yy rfl rfl) yX ?_
 refine ze (zj ?_)
 refine zN yM hF (fun hc2 hF=>?_) (fun hc2 hF=>?_)
 ·refine zk (zd ?_)
  refine zc rfl (zf rfl yq (zb rfl)) y4 ?_
  refine zc rfl (zi rfl yE (zb rfl)) yC ?_
  refine ze (zj (zI (zx ?_)))
  obtain rfl:=Option.some.inj hF
  refine zz rfl (zD yx zF) (fin_turn0 (row:=GLeaf.row) ?_)
  exact ⟨rfl,_,rfl⟩
 ·refine zK (zj (zk (zk (zd ?_))))
  refine zc rfl (zf rfl yR (zb rfl)) yZ ?_
  refine zc rfl (zy rfl yS rfl rfl) y6 ?_
  refine zc rfl (zi rfl yY (zb rfl)) xD ?_
  refine ze (zj (zR ?_))
  refine r_loopWF (fun (s1:Int×Int×(List GLeaf))=>yQ [2,3,4,7,8,9,10,11,12,13,14,15,16,17,18,19,20,21,22,23,24,25,26,27,28,29,30,31,32,33,34,35,36,37,38,39,40,41] [(5,.int .i64 s1.1),(6,.int .i64 s1.2.1)]) (fun s1=>h.ext [.row (h.toks.length+0) 9 (s1.2.2.map GLeaf.row)] [s0.length]) hF (fun _=>by simp only [yQ,upd,List.set_cons_succ,List.set_cons_zero];try rfl) (wk.le (by exact (.eq (.eq (.drop (.drop (.drop (.cons (leV.of_eq rfl) (.cons (leV.of_eq rfl) (.d16 (.d16 (.drop (.drop (.drop leL.nil)))))))))))))) ?_
  intro n1 s1 o1 hF hK1
  refine wJ hF (fun hr1 hF=>?_)
  refine zk (zk (zd ?_))
  refine zc rfl (zf rfl yV (zb rfl)) xj ?_
  refine zc rfl (zf rfl yq (zb rfl)) xy ?_
  refine ya rfl (zS rfl rfl rfl rfl wn xq rfl) xF fun hn12=>?_
  refine zc rfl (zy rfl xh xC rfl) xN ?_
  refine ze (zj ?_)
  refine zN xL hF (fun hc13 hF=>?_) (fun hc13 hF=>?_)
  ·refine zK (zj (zk (zR (zk (zd ?_)))))
   refine zc rfl (zf rfl yq (zb rfl)) wo ?_
   refine zc rfl (zf rfl yV (zb rfl)) we ?_
   refine zQ hF (fun y14 hy14 hF=>?_)
   refine zc rfl (e_idxR rfl wn wl x4 (idxRn hy14 hr1)) wi ?_
   refine zc rfl (e_ldR (off:=0) (i:=0) (q:=h.toks.length+0) (z:=s1.2.1.toNat) (row:=GLeaf.row) (fun _=>rfl) rfl ty42.choose_spec.1 (by decide) wh rfl hr1 (idxR hy14).2.2 (zH (cs':=[.int .u8 y14.typ,.int .i64 y14.n,.int .u64 y14.time,.int .u8 y14.dot.actor.rep,.int .u32 y14.dot.actor.inc,.int .u64 y14.dot.seq,.str y14.text,.sl 5 (y14.items.map GItem.row),.sl 3 (y14.tombs.map GDot.row)]) ty42.choose_spec.2 rfl rfl) (zb rfl)) wt ?_
   refine zc rfl (xe (n:=1) rfl ze42 rfl) xM ?_
   refine zc rfl (yf (cs':=[.int .u8 y14.typ,.int .i64 y14.n,.int .u64 y14.time,.int .u8 y14.dot.actor.rep,.int .u32 y14.dot.actor.inc,.int .u64 y14.dot.seq,.str y14.text,.sl 5 (y14.items.map GItem.row),.sl 3 (y14.tombs.map GDot.row)]) rfl ty42.choose_spec.1 xE wp (zb rfl) rfl rfl rfl rfl rfl) rfl ?_
   refine ze (zj (zk (zd ?_)))
   refine zc rfl (zf rfl yF (zb rfl)) wQ ?_
   refine zc rfl (zu rfl ty42.choose_spec.1 xE rfl (zH (cs':=[.int .u8 y14.typ,.int .i64 y14.n,.int .u64 y14.time,.int .u8 y14.dot.actor.rep,.int .u32 y14.dot.actor.inc,.int .u64 y14.dot.seq,.str y14.text,.sl 5 (y14.items.map GItem.row),.sl 3 (y14.tombs.map GDot.row)]) ty42.choose_spec.2 rfl rfl) (zb rfl)) wY ?_
   refine zQ hF (fun v15 hv15 hF=>?_)
   refine zL rfl (s_callC rfl rfl wO (zo wU zw) (.cons (zb rfl) .nil) rfl) (hdel1 _ _ _ _ hv15) wX ?_
   refine zc rfl (xT rfl wT rfl) vi ?_
   refine ze (zj ?_)
   refine zN vm hF (fun hc16 hF=>?_) (fun hc16 hF=>?_)
   ·refine zk (zd ?_)
    refine zc rfl (zf rfl yq (zb rfl)) vh ?_
    refine zc rfl (zf rfl yR (zb rfl)) vg ?_
    refine zc rfl (zu rfl ty42.choose_spec.1 xE rfl (zH (cs':=[.int .u8 y14.typ,.int .i64 y14.n,.int .u64 y14.time,.int .u8 y14.dot.actor.rep,.int .u32 y14.dot.actor.inc,.int .u64 y14.dot.seq,.str y14.text,.sl 5 (y14.items.map GItem.row),.sl 3 (y14.tombs.map GDot.row)]) ty42.choose_spec.2 rfl rfl) (zb rfl)) vz ?_
    refine zQ hF (fun y17 hy17 hF=>?_)
    refine zc rfl (e_idxR rfl wn vE vl (idxRn hy17 hr1)) vw ?_
    refine zc rfl (e_stR (off:=0) (i:=0) (q:=h.toks.length+0) (z:=s1.1.toNat) (row:=GLeaf.row) (y':=y14) (us:=[.int .u8 y14.typ,.int .i64 y14.n,.int .u64 y14.time,.int .u8 y14.dot.actor.rep,.int .u32 y14.dot.actor.inc,.int .u64 y14.dot.seq,.str y14.text,.sl 5 (y14.items.map GItem.row),.sl 3 (y14.tombs.map GDot.row)]) (B':=[.row (h.toks.length+0) 9 ((s1.2.2.set s1.1.toNat y14).map GLeaf.row),.cells [.int .u8 y14.typ,.int .i64 y14.n,.int .u64 y14.time,.int .u8 y14.dot.actor.rep,.int .u32 y14.dot.actor.inc,.int .u64 y14.dot.seq,.str y14.text,.sl 5 (y14.items.map GItem.row),.sl 3 (y14.tombs.map GDot.row)]]) (fun _=>rfl) rfl ty42.choose_spec.1 vD vk (zb rfl) rfl rfl rfl rfl hr1 (idxR hy17).2.2 (by decide) rfl rfl) rfl ?_
    refine ze (zj (zd ?_))
    refine zc rfl (zf rfl yR (zb rfl)) vu ?_
    refine zc rfl (zy rfl vj rfl rfl) vt ?_
    refine zc rfl (zi rfl vC (zb rfl)) xw ?_
    refine ze (yg (zj (zd ?_)))
    refine zc rfl (zf rfl yV (zb rfl)) x8 ?_
    refine zc rfl (zy rfl x9 rfl rfl) wg ?_
    refine zc rfl (zi rfl wb (zb rfl)) xD ?_
    refine ze (yH ?_)
    obtain rfl:=Option.some.inj hF
    exact ⟨((IntKind.wrap .i64 (s1.1+(1:Int))),(IntKind.wrap .i64 (s1.2.1+(1:Int))),(s1.2.2.set s1.1.toNat y14)),hK1,wk.trans (wk.le (by exact (.eq (.eq (.drop (.drop (.drop (.cons (leV.of_eq rfl) (.cons (leV.of_eq rfl) (.d16 (.d16 (.drop (.drop (.drop leL.nil)))))))))))))) (xJ (by simp [yi,AV.low,hladel1,hlkdel1]) rfl rfl (by simp [Blk.low,yi,AV.low,hladel1,hlkdel1]))⟩
   ·refine zK (yg (zj (zd ?_)))
    refine zc rfl (zf rfl yV (zb rfl)) x8 ?_
    refine zc rfl (zy rfl x9 rfl rfl) wg ?_
    refine zc rfl (zi rfl wb (zb rfl)) xD ?_
    refine ze (yH ?_)
    obtain rfl:=Option.some.inj hF
    exact ⟨(s1.1,(IntKind.wrap .i64 (s1.2.1+(1:Int))),s1.2.2),hK1,wk.trans (wk.le (by exact (.eq (.eq (.drop (.drop (.drop (.cons (leV.of_eq rfl) (.cons (leV.of_eq rfl) (.d16 (.d16 (.drop (.drop (.drop leL.nil)))))))))))))) (xJ (by simp [yi,AV.low,hladel1,hlkdel1]) rfl rfl (by simp [Blk.low,yi,AV.low,hladel1,hlkdel1]))⟩
  ·refine yU ?_
   refine zZ ?_
   refine zW ?_
   obtain rfl:=Option.some.inj hF
   replace hF:=hK1
   refine zX ?_
   refine zj (zk (zd ?_))
   refine zc rfl (zf rfl yq (zb rfl)) vf ?_
   refine zc rfl (zf rfl yR (zb rfl)) vr ?_
   refine wJ hF (fun hm20 hF=>?_)
   refine ops_b rfl (e_sufR rfl wn vb vB hm20) vN ?_
   refine ops_b rfl (e_clrR (i:=0) (q:=h.toks.length+0) (L:=s1.2.2) (row:=GLeaf.row) (d:=yw) (B':=[.row (h.toks.length+0) 9 ((s1.2.2.take s1.1.toNat++List.replicate (s0.length - s1.1.toNat) yw).map GLeaf.row)]) (fun _=>rfl) rfl rfl rfl rfl wn ze42 rfl vQ rfl hr1 (Int.toNat_le.2 hm20.2) rfl) rfl ?_
   refine ze (zj (zk (zd ?_)))
   refine zc rfl (zf rfl yq (zb rfl)) vM ?_
   refine zc rfl (zf rfl yR (zb rfl)) (sk st0) ?_
   refine zQ hF (fun m21 hm21 hF=>?_)
   refine ops_b rfl (e_cutR (i:=0) (j:=0) (L:=(s1.2.2.take s1.1.toNat++List.replicate (s0.length - s1.1.toNat) yw)) (row:=GLeaf.row) (B':=[.dead,.row (h.toks.length+1) 9 (m21.map GLeaf.row)]) (T':=[s0.length+1,(m21).length]) rfl wn vJ (gk yq) rfl (clr_len hr1 (Int.toNat_le.2 hm20.2)) hm21 rfl rfl rfl rfl) (sk st1) ?_
   refine zc rfl (zi rfl (gk yF) (zb rfl)) yC ?_
   refine ze (zj (zI ?_))
   obtain rfl:=Option.some.inj hF
   refine zz rfl (zD yx zF) (fin_at ?_)
   exact ⟨rfl,_,rfl⟩
/-! slices.Clone[[]varve/api.Leaf,varve/api.Leaf] -/
theorem ok61 {s0:(List GLeaf)} {res:(List GLeaf)} {h:AH}  (hF:wu s0=some res):Spec Tryz.prog 61 [.sl 9 (s0.map GLeaf.row)] h (OwnK h 9 res.length (res.map GLeaf.row)):=by
 unfold wu at hF
 refine zt Tryz.func61 rfl (by kernel_rfl) (env:=[.sl 9 (s0.map GLeaf.row),za,za,za,za,za,za,za]) (by rfl) ?_
 refine zk (zd ?_)
 refine zc rfl (zi rfl rfl (xi wn)) xg ?_
 refine ze (zj (zk (zk (zd ?_))))
 refine zc rfl (zf rfl yq (zb rfl)) wa ?_
 refine ops_nilqE rfl rfl wn xu va rfl (fun _=>yC) hF (fun b1 hb1 hF=>?_)
 refine ze (zj ?_)
 refine zN yx hF (fun hc2 hF=>?_) (fun hc2 hF=>?_)
 ·refine zk (zd ?_)
  refine zc rfl (zi rfl rfl (xi wn)) xg ?_
  refine ze (zj (zI (zx ?_)))
  obtain rfl:=Option.some.inj hF
  refine zz rfl (zD yW zF) (fin_own0 (row:=GLeaf.row) (L:=([]:List GLeaf)) ?_)
  exact ⟨rfl,rfl⟩
 ·refine zK (zj (zk (zd ?_)))
  refine zc rfl (yr (es:=([]:List GLeaf).map GLeaf.row) rfl wn ze42 rfl rfl ym .nil rfl rfl rfl) xw ?_
  refine zc rfl (zf rfl yq (zb rfl)) xD ?_
  refine wJ hF (fun hm3 hF=>?_)
  refine zc rfl (e_appN (m:=0) (T':=[((([]:List GLeaf)++s0)).length]) rfl rfl rfl rfl wn wn yR yV (zb rfl) (zb rfl) news_sl hm3 rfl rfl) xM ?_
  refine zc rfl (zi rfl xE (zb rfl)) xg ?_
  refine ze (zj (zI ?_))
  obtain rfl:=Option.some.inj hF
  refine zz rfl (zD yW zF) (fin_own ?_)
  exact ⟨rfl,rfl⟩
theorem okR61 {s0:(List GLeaf)} {res:(List GLeaf)} {h:AH}  (hF:wu s0=some res):Spec Tryz.prog 61 [.sl 9 (s0.map GLeaf.row)] h (NewK h 9 res.length (res.map GLeaf.row)):=by
 unfold wu at hF
 refine zt Tryz.func61 rfl (by kernel_rfl) (env:=[.sl 9 (s0.map GLeaf.row),za,za,za,za,za,za,za]) (by rfl) ?_
 refine zk (zd ?_)
 refine zc rfl (zi rfl rfl (xi wn)) xg ?_
 refine ze (zj (zk (zk (zd ?_))))
 refine zc rfl (zf rfl yq (zb rfl)) wa ?_
 refine ops_nilqE rfl rfl wn xu va rfl (fun _=>yC) hF (fun b1 hb1 hF=>?_)
 refine ze (zj ?_)
 refine zN yx hF (fun hc2 hF=>?_) (fun hc2 hF=>?_)
 ·refine zk (zd ?_)
  refine zc rfl (zi rfl rfl (xi wn)) xg ?_
  refine ze (zj (zI (zx ?_)))
  obtain rfl:=Option.some.inj hF
  refine zz rfl (zD yW zF) (fin_row0 ?_)
  exact ⟨rfl,rfl⟩
 ·refine zK (zj (zk (zd ?_)))
  refine zc rfl (yr (es:=([]:List GLeaf).map GLeaf.row) rfl wn ze42 rfl rfl ym .nil rfl rfl rfl) xw ?_
  refine zc rfl (zf rfl yq (zb rfl)) xD ?_
  refine ops_swk (swk_thaw yR rfl rfl xw rfl rfl) ?_
  refine wJ hF (fun hm3 hF=>?_)
  refine zc rfl (e_appR (i:=0) (j:=0) (B':=[.row (h.toks.length+0) 9 ((([]:List GLeaf)++s0).map GLeaf.row)]) (T':=[((([]:List GLeaf)++s0)).length]) rfl rfl rfl rfl wn wn yR yV rfl (zb rfl) news_sl hm3 rfl rfl rfl rfl rfl) xM ?_
  refine zc rfl (zi rfl xE (zb rfl)) xg ?_
  refine ze (zj (zI ?_))
  obtain rfl:=Option.some.inj hF
  refine zz rfl (zD yW zF) (fin_at ?_)
  exact ⟨rfl,rfl⟩
/-! varve/diff.lay 2 -/
theorem ok62 {x0:GLeaf} {c0:Int} {i0:Nat} {res:Bool} {h:AH} (hb0:h.blk i0=some (.cells [.int .u8 c0])) (hF:diffXlayC2 x0 c0=some res):Spec Tryz.prog 62 [.agg [.int .u8 x0.typ,.int .i64 x0.n,.int .u64 x0.time,.int .u8 x0.dot.actor.rep,.int .u32 x0.dot.actor.inc,.int .u64 x0.dot.seq,.str x0.text,.sl 5 (x0.items.map GItem.row),.sl 3 (x0.tombs.map GDot.row)],.ptr i0 0] h (fun rr hh=>rr=.bool res∧hh=h):=by
 unfold diffXlayC2 at hF
 refine zt Tryz.func62 rfl (by kernel_rfl) (env:=[.agg [.int .u8 x0.typ,.int .i64 x0.n,.int .u64 x0.time,.int .u8 x0.dot.actor.rep,.int .u32 x0.dot.actor.inc,.int .u64 x0.dot.seq,.str x0.text,.sl 5 (x0.items.map GItem.row),.sl 3 (x0.tombs.map GDot.row)],.ptr i0 0,za,za,za,za,za,za]) (by rfl) ?_
 refine zk (zd ?_)
 refine zc rfl (xr (n:=0) rfl yq (zb rfl) rfl rfl) xg ?_
 refine zc rfl (zi rfl rfl (zb rfl)) wa ?_
 refine ze (zj (zk (zd ?_)))
 refine zc rfl (zg rfl xY yW rfl) yC ?_
 refine zc rfl (zu rfl ty5 yx rfl (zr rfl) (zb rfl)) xw ?_
 refine zc rfl (b_load rfl ty5 yF hb0 (zr rfl) (zb rfl)) xD ?_
 refine zc rfl (zy rfl yR yV rfl) xM ?_
 refine zc rfl (zi rfl xE (zb rfl)) wa ?_
 refine ze (zj (zI ?_))
 obtain rfl:=Option.some.inj hF
 refine zz rfl (zD xu zF) (zA (leV.refl _) rfl ?_)
 exact ⟨rfl,rfl⟩
end Go.Vv
