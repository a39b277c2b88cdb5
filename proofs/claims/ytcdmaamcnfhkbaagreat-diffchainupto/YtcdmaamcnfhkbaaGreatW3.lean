/- Each function that the law reaches computes what its reading says; printed by a program. -/
import Derived.Test.YtcdmaamcnfhkbaaGreatW2
namespace Go.Vv
open Go Go.Proofs
set_option maxRecDepth 100000
set_option maxHeartbeats 1000000
set_option linter.unusedSimpArgs false
set_option linter.unusedVariables false
/-! varve/diff.Diff -/
theorem ok7 {a0:(List GNode)} {b1:(List GNode)} {res:((List GEdit)×Int)} {h:AH}  (hF:qv a0 b1=some res):Spec Tryz.prog 7 [.sl 3 (a0.map GNode.row),.sl 3 (b1.map GNode.row)] h (fun rr hh=>rr=.tup [.sl 22 (res.1.map GEdit.row),.int .i64 res.2]∧hh=h):=by
 unfold qv at hF
 refine zt Tryz.func7 rfl (by kernel_rfl) (env:=[.sl 3 (a0.map GNode.row),.sl 3 (b1.map GNode.row),za,za,za,za,za,za,za,za,za,za,za,za,za,za,za,za,za,za,za,za,za,za,za,za,za,za,za,za,za,za,za,za,za,za,za,za,za,za,za,za,za,za,za,za,za,za,za,za,za,za,za,za,za,za,za,za,za,za,za,za,za,za,za,za,za,za,za,za,za,za,za,za,za,za,za,za,za,za,za]) (by rfl) ?_
 refine zk (zd ?_)
 refine zc rfl (zi rfl rfl (xy qE)) yB ?_
 refine zc rfl (zi rfl rfl (zb rfl)) xz ?_
 refine ze (zj (zk (zk (zd ?_))))
 refine zc rfl (zf rfl yr (zb rfl)) yX ?_
 refine zR hF (fun v1 hv1 hF=>?_)
 refine zN rfl (zC rfl rfl rfl (zo yM zw) (.cons (zb rfl) .nil)) (ok15 hv1) yW ?_
 refine zc rfl (xR rfl yC rfl) y5 ?_
 refine zc rfl (zf rfl yY (zb rfl)) y6 ?_
 refine zp rfl (fun hb=>zf rfl yF (zb rfl)) xg ?_
 refine yN hF (fun v2 hv2 hF=>?_)
 refine yk rfl (fun hb=>zC rfl rfl rfl (zo (zn xd hb) zw) (.cons (zb rfl) .nil)) (fun hb=>ok15 (hv2 hb)) xk ?_
 refine zp rfl (fun hb=>xR rfl (zn xi hb) rfl) xD ?_
 refine zc rfl (zM rfl yT rfl xB (z8 (fun ht=>gF ht))) xK ?_
 refine ze (zj ?_)
 refine zO xJ hF (fun hc3 hF=>?_) (fun hc3 hF=>?_)
 ·refine zk (zd ?_)
  refine zc rfl (zi rfl rfl (xy qE)) yB ?_
  refine zc rfl (zi rfl rfl (zb rfl)) xz ?_
  refine ze (zj (zL (zx ?_)))
  obtain rfl:=Option.some.inj hF
  refine qm rfl (zD yz (zD yS zG)) (zz (leV.tup (.cons (leV.osl _ _ _) (.eq leL.nil))) rfl ?_)
  exact ⟨rfl,rfl⟩
 ·refine zK (zj (zk (zd ?_)))
  refine zc rfl (e_makeMap (n:=0) rfl rfl) xY ?_
  refine zc rfl (zi rfl xZ (zb rfl)) xE ?_
  refine ze (zj (zk (zk (zd ?_))))
  refine zc rfl (zf rfl yr (zb rfl)) x7 ?_
  refine zR hF (fun v4 hv4 hF=>?_)
  refine zN rfl (zC rfl rfl rfl (zo x5 zw) (.cons (zb rfl) .nil)) (ok16 hv4) wl ?_
  refine yb rfl (zS rfl rfl rfl rfl el56 wi yc) x6 fun hn5=>?_
  replace hn5:=xl hn5
  refine zc rfl (zf rfl rfl (zb rfl)) wh ?_
  refine ze (zj (zQ ?_))
  refine yo (fun (n1:Nat) (s1:List (zJ×GEdit))=>yO [0,2,3,4,5,7,8,9,10,11,12,13,14,15,16,17,18,19,20,21,25,26,27,28,29,30,31,32,33,34,35,36,37,38,39,40,41,42,43,44,45,46,47,48,49,50,51,52,53,54,55,56,57,58,59,60,61,62,63,64,65,66,67,68,69,70,71,72,73,74,75,76,77,78,79,80] [(24,.int .i64 (n1:Int))]) (fun s1=>h.ext [.mapo (s1.map (qb AV.str (fun x=>AV.agg (GEdit.row x)))) 0] []) hF (fun _ _=>by simp only [yO,upd,List.set_cons_succ,List.set_cons_zero];try rfl) (wk.le (by exact (.drop (.eq (.d4 (.eq (.d4 (.d4 (.d4 (.drop (.drop (.drop (.eq (.eq (.cons (leV.of_eq rfl) (.d16 (.d16 (.d16 (.d4 (.d4 leL.nil)))))))))))))))))))) ?_
  intro n1 s1 hi1 hF
  refine zk (zd ?_)
  refine zc rfl (zy rfl wc xN rfl) wj ?_
  refine ze (zj (zk ?_))
  refine yJ wb hF (fun x1 o1 hl1 hx1 hF hK1=>?_) (fun hF=>?_)
  ·refine zK (zj (zk (zQ (zk (zd ?_)))))
   refine zc rfl (yj rfl el56 wi wc w7 (yK hx1)) wF ?_
   refine zc rfl (ye rfl ty59.choose_spec.1 wE (zH (cs':=[.sl 1 (x1.path.map zP),.int .u8 x1.leaf.typ,.int .i64 x1.leaf.n,.int .u64 x1.leaf.time,.int .u8 x1.leaf.dot.actor.rep,.int .u32 x1.leaf.dot.actor.inc,.int .u64 x1.leaf.dot.seq,.str x1.leaf.text,.sl 5 (x1.leaf.items.map GItem.row),.sl 3 (x1.leaf.tombs.map GDot.row)]) ty59.choose_spec.2 rfl rfl) (zb rfl)) wM ?_
   refine zc rfl (y4 (n:=1) rfl ze59 rfl) xX ?_
   refine zc rfl (yg (cs':=[.sl 1 (x1.path.map zP),.int .u8 x1.leaf.typ,.int .i64 x1.leaf.n,.int .u64 x1.leaf.time,.int .u8 x1.leaf.dot.actor.rep,.int .u32 x1.leaf.dot.actor.inc,.int .u64 x1.leaf.dot.seq,.str x1.leaf.text,.sl 5 (x1.leaf.items.map GItem.row),.sl 3 (x1.leaf.tombs.map GDot.row)]) rfl ty59.choose_spec.1 xj wN (zb rfl) rfl rfl rfl rfl rfl) rfl ?_
   refine ze (zj ?_)
   refine yI [6] [] trivial mixed (by kernel_rfl) ?_
   refine zq rfl rfl (zf rfl yU (zb rfl)) wL ?_
   refine zq rfl rfl (zg rfl fo59x0 xj rfl) wW ?_
   refine zq rfl rfl (zu rfl ty52 w6 rfl (zr rfl) (zb rfl)) wV ?_
   refine zq rfl rfl (zg rfl fo59x1 xj rfl) wU ?_
   refine zq rfl rfl (zg rfl wd w5 rfl) vl ?_
   refine zq rfl rfl (zu rfl ty5 vf rfl (zr rfl) (zb rfl)) vk ?_
   refine zR hF (fun v11 hv11 hF=>?_)
   refine yu rfl rfl (fun _=>zC rfl rfl rfl (zo vg (zo vt zw)) (.cons (zb rfl) (.cons (zb rfl) .nil))) (by rintro _ ⟨B2,T2,rfl,hk2⟩;exact ok17 hv11) vb ?_
   refine zq rfl rfl (zg rfl fo59x0 xj rfl) va ?_
   refine zq rfl rfl (zu rfl ty52 ve rfl (zr rfl) (zb rfl)) w9 ?_
   refine zq rfl rfl (zg rfl fo59x1 xj rfl) vj ?_
   refine zq rfl rfl (zg rfl wd wX rfl) vI ?_
   refine zq rfl rfl (zu rfl ty5 vM rfl (zr rfl) (zb rfl)) vA ?_
   refine zq rfl rfl (zg rfl fo59x1 xj rfl) (sk st0) ?_
   refine zq rfl rfl (zu rfl ty48.choose_spec.1 (gk yr) rfl (zH (cs':=[.int .u8 x1.leaf.typ,.int .i64 x1.leaf.n,.int .u64 x1.leaf.time,.int .u8 x1.leaf.dot.actor.rep,.int .u32 x1.leaf.dot.actor.inc,.int .u64 x1.leaf.dot.seq,.str x1.leaf.text,.sl 5 (x1.leaf.items.map GItem.row),.sl 3 (x1.leaf.tombs.map GDot.row)]) ty48.choose_spec.2 rfl rfl) (zb rfl)) (sk st1) ?_
   refine zq rfl rfl (qA (cs':=[.sl 1 (x1.path.map zP),.int .u8 x1.leaf.typ,.bool true,.bool false,.int .u8 x1.leaf.typ,.int .i64 x1.leaf.n,.int .u64 x1.leaf.time,.int .u8 x1.leaf.dot.actor.rep,.int .u32 x1.leaf.dot.actor.inc,.int .u64 x1.leaf.dot.seq,.str x1.leaf.text,.sl 5 (x1.leaf.items.map GItem.row),.sl 3 (x1.leaf.tombs.map GDot.row),.int .u8 (0:Int),.int .i64 (0:Int),.int .u64 (0:Int),.int .u8 (0:Int),.int .u32 (0:Int),.int .u64 (0:Int),.str ([]:zJ),.osl none 5 (([]:List GItem).map GItem.row),.osl none 3 (([]:List GDot).map GDot.row)]) rfl su54 ze54 pl54 (yl wY (yl vr (yl rfl (yl (gk yF) yp)))) (.cons (zb rfl) (.cons (zb rfl) (.cons (zb rfl) (.cons (zb rfl) .nil)))) rfl rfl) (sk xh) ?_
   refine yZ rfl (FOk.cons (.inr (xP trivial)) FOk.nil) (by kernel_rfl) rfl (e_mapPut (m:=s1) (k:=v11) (v:=(GEdit.mk x1.path x1.leaf.typ true false x1.leaf zZ)) (j:=0) (kv:=AV.str) (vv:=(fun x=>AV.agg (GEdit.row x))) rfl Tryz.underlying55 kq9 wH rfl wZ (gk yV) rfl rfl) rfl ?_
   refine ym ?_
   refine yh (zj (zd ?_))
   refine zc rfl (zy rfl wc rfl rfl) (sk wo) ?_
   refine zc rfl (zf rfl (gk xn) (zb rfl)) wh ?_
   refine ze (yH ?_)
   obtain rfl:=Option.some.inj hF
   exact ⟨(xG (fun a b=>a==b) s1 v11 (GEdit.mk x1.path x1.leaf.typ true false x1.leaf zZ)),hl1,hK1,wk.trans (wk.le (by exact (.drop (.eq (.d4 (.eq (.d4 (.d4 (.d4 (.drop (.drop (.drop (.eq (.eq (.cons (leV.of_eq (w8 (by omega) (by omega))) (.d16 (.d16 (.d16 (.d4 (.d4 leL.nil)))))))))))))))))))) (xI (by simp [yi,AV.low]) rfl rfl (by simp [Blk.low,yi,AV.low,GEdit.row,qb]))⟩
  ·refine yR ?_
   refine ya ?_
   refine zV ?_
   refine zW ?_
   refine zj (zk (zk (zd ?_)))
   refine zc rfl (zf rfl yF (zb rfl)) (sk yB) ?_
   refine zR hF (fun v12 hv12 hF=>?_)
   refine zN rfl (zC rfl rfl rfl (zo (gk yz) zw) (.cons (zb rfl) .nil)) (ok16 hv12) (sk xz) ?_
   refine yb rfl (zS rfl rfl rfl rfl el56 (gk yS) yc) (sk xE) fun hn13=>?_
   replace hn13:=xl hn13
   refine zc rfl (zf rfl rfl (zb rfl)) (sk xO) ?_
   refine ze (zj (zQ ?_))
   refine yo (fun (n2:Nat) (s2:List (zJ×GEdit))=>yO [0,1,2,3,4,5,7,8,9,10,11,12,13,14,15,16,17,18,19,20,21,22,23,24,25,26,27,28,29,30,31,32,33,34,35,36,37,38,39,40,41,42,43,44,48,49,50,51,52,53,54,55,56,57,58,59,60,61,62,63,64,65,66,67,68,69,70,71,72,73,74,75,76,77,78,79,80] [(47,.int .i64 (n2:Int))]) (fun s2=>h.ext [.mapo (s2.map (qb AV.str (fun x=>AV.agg (GEdit.row x)))) 0] []) hF (fun _ _=>by simp only [yO,upd,List.set_cons_succ,List.set_cons_zero];try rfl) (wk.le (by exact (.d4 (.drop (.drop (.eq (.d16 (.d16 (.d4 (.drop (.drop (.eq (.eq (.cons (leV.of_eq rfl) (.d16 (.d16 (.drop leL.nil))))))))))))))))) ?_
   intro n2 s2 hi2 hF
   refine zk (zd ?_)
   refine zc rfl (zy rfl (gk xH) (gk yU) rfl) (sk xX) ?_
   refine ze (zj (zk ?_))
   refine yJ (gk xj) hF (fun x2 o2 hl2 hx2 hF hK2=>?_) (fun hF=>?_)
   ·refine zK (zj (zk (zQ (zk (zd ?_)))))
    refine zc rfl (yj rfl el56 (gk yS) (gk xH) w7 (yK hx2)) (sk wB) ?_
    refine zc rfl (ye rfl ty59.choose_spec.1 (gk xV) (zH (cs':=[.sl 1 (x2.path.map zP),.int .u8 x2.leaf.typ,.int .i64 x2.leaf.n,.int .u64 x2.leaf.time,.int .u8 x2.leaf.dot.actor.rep,.int .u32 x2.leaf.dot.actor.inc,.int .u64 x2.leaf.dot.seq,.str x2.leaf.text,.sl 5 (x2.leaf.items.map GItem.row),.sl 3 (x2.leaf.tombs.map GDot.row)]) ty59.choose_spec.2 rfl rfl) (zb rfl)) (sk yL) ?_
    refine zc rfl (y4 (n:=1) rfl ze59 rfl) yL ?_
    refine zc rfl (yg (cs':=[.sl 1 (x2.path.map zP),.int .u8 x2.leaf.typ,.int .i64 x2.leaf.n,.int .u64 x2.leaf.time,.int .u8 x2.leaf.dot.actor.rep,.int .u32 x2.leaf.dot.actor.inc,.int .u64 x2.leaf.dot.seq,.str x2.leaf.text,.sl 5 (x2.leaf.items.map GItem.row),.sl 3 (x2.leaf.tombs.map GDot.row)]) rfl ty59.choose_spec.1 yq (gk yq) (zb rfl) rfl rfl rfl rfl rfl) rfl ?_
    refine ze (zj (zk (zd ?_)))
    refine zc rfl (zf rfl yU (zb rfl)) (sk yP) ?_
    refine zc rfl (zg rfl fo59x0 yq rfl) (sk yX) ?_
    refine zc rfl (zu rfl ty52 (gk yM) rfl (zr rfl) (zb rfl)) (sk yW) ?_
    refine zc rfl (zg rfl fo59x1 yq rfl) (sk y5) ?_
    refine zc rfl (zg rfl wd (gk yY) rfl) (sk y6) ?_
    refine zc rfl (zu rfl ty5 (gk yT) rfl (zr rfl) (zb rfl)) (sk xg) ?_
    refine zR hF (fun v20 hv20 hF=>?_)
    refine zN rfl (zC rfl rfl rfl (zo (gk yC) (zo (gk xd) zw)) (.cons (zb rfl) (.cons (zb rfl) .nil))) (ok17 hv20) (sk xk) ?_
    refine zc rfl (e_lookup (m:=s2) (k:=v20) (d:=(GEdit.mk ([]:List zJ) (0:Int) false false zZ zZ)) (j:=0) (kv:=AV.str) (vv:=(fun x=>AV.agg (GEdit.row x))) rfl Tryz.underlying55 kq9 az54 (gk yA) rfl (gk xi)) (sk xD) ?_
    refine zc rfl (y4 (n:=2) rfl ze54 rfl) yP ?_
    refine zc rfl (yg (cs':=[.sl 1 (((zI (fun a b=>a==b) (GEdit.mk ([]:List zJ) (0:Int) false false zZ zZ) s2 v20).path).map zP),.int .u8 ((zI (fun a b=>a==b) (GEdit.mk ([]:List zJ) (0:Int) false false zZ zZ) s2 v20).typ),.bool ((zI (fun a b=>a==b) (GEdit.mk ([]:List zJ) (0:Int) false false zZ zZ) s2 v20).had),.bool ((zI (fun a b=>a==b) (GEdit.mk ([]:List zJ) (0:Int) false false zZ zZ) s2 v20).has),.int .u8 ((zI (fun a b=>a==b) (GEdit.mk ([]:List zJ) (0:Int) false false zZ zZ) s2 v20).was.typ),.int .i64 ((zI (fun a b=>a==b) (GEdit.mk ([]:List zJ) (0:Int) false false zZ zZ) s2 v20).was.n),.int .u64 ((zI (fun a b=>a==b) (GEdit.mk ([]:List zJ) (0:Int) false false zZ zZ) s2 v20).was.time),.int .u8 ((zI (fun a b=>a==b) (GEdit.mk ([]:List zJ) (0:Int) false false zZ zZ) s2 v20).was.dot.actor.rep),.int .u32 ((zI (fun a b=>a==b) (GEdit.mk ([]:List zJ) (0:Int) false false zZ zZ) s2 v20).was.dot.actor.inc),.int .u64 ((zI (fun a b=>a==b) (GEdit.mk ([]:List zJ) (0:Int) false false zZ zZ) s2 v20).was.dot.seq),.str ((zI (fun a b=>a==b) (GEdit.mk ([]:List zJ) (0:Int) false false zZ zZ) s2 v20).was.text),.sl 5 (((zI (fun a b=>a==b) (GEdit.mk ([]:List zJ) (0:Int) false false zZ zZ) s2 v20).was.items).map GItem.row),.sl 3 (((zI (fun a b=>a==b) (GEdit.mk ([]:List zJ) (0:Int) false false zZ zZ) s2 v20).was.tombs).map GDot.row),.int .u8 ((zI (fun a b=>a==b) (GEdit.mk ([]:List zJ) (0:Int) false false zZ zZ) s2 v20).is.typ),.int .i64 ((zI (fun a b=>a==b) (GEdit.mk ([]:List zJ) (0:Int) false false zZ zZ) s2 v20).is.n),.int .u64 ((zI (fun a b=>a==b) (GEdit.mk ([]:List zJ) (0:Int) false false zZ zZ) s2 v20).is.time),.int .u8 ((zI (fun a b=>a==b) (GEdit.mk ([]:List zJ) (0:Int) false false zZ zZ) s2 v20).is.dot.actor.rep),.int .u32 ((zI (fun a b=>a==b) (GEdit.mk ([]:List zJ) (0:Int) false false zZ zZ) s2 v20).is.dot.actor.inc),.int .u64 ((zI (fun a b=>a==b) (GEdit.mk ([]:List zJ) (0:Int) false false zZ zZ) s2 v20).is.dot.seq),.str ((zI (fun a b=>a==b) (GEdit.mk ([]:List zJ) (0:Int) false false zZ zZ) s2 v20).is.text),.sl 5 (((zI (fun a b=>a==b) (GEdit.mk ([]:List zJ) (0:Int) false false zZ zZ) s2 v20).is.items).map GItem.row),.sl 3 (((zI (fun a b=>a==b) (GEdit.mk ([]:List zJ) (0:Int) false false zZ zZ) s2 v20).is.tombs).map GDot.row)]) rfl ty54.choose_spec.1 yA (gk xB) (zb rfl) rfl rfl rfl rfl rfl) rfl ?_
    refine ze (zj (zk ?_))
    refine yI [4,6] [(4,[(1,.cells [.sl 1 (x2.path.map zP),.int .u8 x2.leaf.typ,.int .i64 x2.leaf.n,.int .u64 x2.leaf.time,.int .u8 x2.leaf.dot.actor.rep,.int .u32 x2.leaf.dot.actor.inc,.int .u64 x2.leaf.dot.seq,.str x2.leaf.text,.sl 5 (x2.leaf.items.map GItem.row),.sl 3 (x2.leaf.tombs.map GDot.row)])]),(6,[(1,.cells [.sl 1 (x2.path.map zP),.int .u8 x2.leaf.typ,.int .i64 x2.leaf.n,.int .u64 x2.leaf.time,.int .u8 x2.leaf.dot.actor.rep,.int .u32 x2.leaf.dot.actor.inc,.int .u64 x2.leaf.dot.seq,.str x2.leaf.text,.sl 5 (x2.leaf.items.map GItem.row),.sl 3 (x2.leaf.tombs.map GDot.row)])])] ⟨⟨rfl,trivial⟩,⟨rfl,trivial⟩,trivial⟩ mixed (by kernel_rfl) ?_
    refine zq rfl rfl (zg rfl fo59x0 yq rfl) (sk xK) ?_
    refine zq rfl rfl (zu rfl ty52 (gk xJ) rfl (zr rfl) (zb rfl)) (sk xY) ?_
    refine zq rfl rfl (zg rfl fo59x1 yq rfl) (sk x7) ?_
    refine zq rfl rfl (zg rfl wd (gk x5) rfl) (sk wl) ?_
    refine draw_okN rfl rfl (by rintro _ ⟨B2,T2,rfl,hk2⟩;exact zu rfl ty5 (gk wi) (keeps1 hk2) (zr rfl) (zb rfl)) (sk x6) ?_
    refine zq rfl rfl (zg rfl fo59x1 yq rfl) (sk wh) ?_
    refine draw_okN rfl rfl (by rintro _ ⟨B2,T2,rfl,hk2⟩;exact zu rfl ty48.choose_spec.1 (gk wc) (keeps1 hk2) (zH (cs':=[.int .u8 x2.leaf.typ,.int .i64 x2.leaf.n,.int .u64 x2.leaf.time,.int .u8 x2.leaf.dot.actor.rep,.int .u32 x2.leaf.dot.actor.inc,.int .u64 x2.leaf.dot.seq,.str x2.leaf.text,.sl 5 (x2.leaf.items.map GItem.row),.sl 3 (x2.leaf.tombs.map GDot.row)]) ty48.choose_spec.2 rfl rfl) (zb rfl)) (sk wj) ?_
    refine zq rfl rfl (zg rfl qX yA rfl) (sk wF) ?_
    refine yZ rfl (FOk.cons (.inr (xP ⟨rfl,trivial⟩)) (FOk.cons (.inr (xP ⟨rfl,trivial⟩)) FOk.nil)) (by kernel_rfl) rfl (yg (cs':=[.sl 1 (x2.path.map zP),.int .u8 ((zI (fun a b=>a==b) (GEdit.mk ([]:List zJ) (0:Int) false false zZ zZ) s2 v20).typ),.bool ((zI (fun a b=>a==b) (GEdit.mk ([]:List zJ) (0:Int) false false zZ zZ) s2 v20).had),.bool ((zI (fun a b=>a==b) (GEdit.mk ([]:List zJ) (0:Int) false false zZ zZ) s2 v20).has),.int .u8 ((zI (fun a b=>a==b) (GEdit.mk ([]:List zJ) (0:Int) false false zZ zZ) s2 v20).was.typ),.int .i64 ((zI (fun a b=>a==b) (GEdit.mk ([]:List zJ) (0:Int) false false zZ zZ) s2 v20).was.n),.int .u64 ((zI (fun a b=>a==b) (GEdit.mk ([]:List zJ) (0:Int) false false zZ zZ) s2 v20).was.time),.int .u8 ((zI (fun a b=>a==b) (GEdit.mk ([]:List zJ) (0:Int) false false zZ zZ) s2 v20).was.dot.actor.rep),.int .u32 ((zI (fun a b=>a==b) (GEdit.mk ([]:List zJ) (0:Int) false false zZ zZ) s2 v20).was.dot.actor.inc),.int .u64 ((zI (fun a b=>a==b) (GEdit.mk ([]:List zJ) (0:Int) false false zZ zZ) s2 v20).was.dot.seq),.str ((zI (fun a b=>a==b) (GEdit.mk ([]:List zJ) (0:Int) false false zZ zZ) s2 v20).was.text),.sl 5 (((zI (fun a b=>a==b) (GEdit.mk ([]:List zJ) (0:Int) false false zZ zZ) s2 v20).was.items).map GItem.row),.sl 3 (((zI (fun a b=>a==b) (GEdit.mk ([]:List zJ) (0:Int) false false zZ zZ) s2 v20).was.tombs).map GDot.row),.int .u8 ((zI (fun a b=>a==b) (GEdit.mk ([]:List zJ) (0:Int) false false zZ zZ) s2 v20).is.typ),.int .i64 ((zI (fun a b=>a==b) (GEdit.mk ([]:List zJ) (0:Int) false false zZ zZ) s2 v20).is.n),.int .u64 ((zI (fun a b=>a==b) (GEdit.mk ([]:List zJ) (0:Int) false false zZ zZ) s2 v20).is.time),.int .u8 ((zI (fun a b=>a==b) (GEdit.mk ([]:List zJ) (0:Int) false false zZ zZ) s2 v20).is.dot.actor.rep),.int .u32 ((zI (fun a b=>a==b) (GEdit.mk ([]:List zJ) (0:Int) false false zZ zZ) s2 v20).is.dot.actor.inc),.int .u64 ((zI (fun a b=>a==b) (GEdit.mk ([]:List zJ) (0:Int) false false zZ zZ) s2 v20).is.dot.seq),.str ((zI (fun a b=>a==b) (GEdit.mk ([]:List zJ) (0:Int) false false zZ zZ) s2 v20).is.text),.sl 5 (((zI (fun a b=>a==b) (GEdit.mk ([]:List zJ) (0:Int) false false zZ zZ) s2 v20).is.items).map GItem.row),.sl 3 (((zI (fun a b=>a==b) (GEdit.mk ([]:List zJ) (0:Int) false false zZ zZ) s2 v20).is.tombs).map GDot.row)]) rfl ty52 (gk wE) (gk xZ) (zb rfl) rfl rfl rfl rfl rfl) rfl ?_
    refine zq rfl rfl (zg rfl fo54x1 yA rfl) (sk wM) ?_
    refine yZ rfl (FOk.cons (.inr (xP ⟨rfl,trivial⟩)) (FOk.cons (.inr (xP ⟨rfl,trivial⟩)) FOk.nil)) (by kernel_rfl) rfl (yg (cs':=[.sl 1 (x2.path.map zP),.int .u8 x2.leaf.typ,.bool ((zI (fun a b=>a==b) (GEdit.mk ([]:List zJ) (0:Int) false false zZ zZ) s2 v20).had),.bool ((zI (fun a b=>a==b) (GEdit.mk ([]:List zJ) (0:Int) false false zZ zZ) s2 v20).has),.int .u8 ((zI (fun a b=>a==b) (GEdit.mk ([]:List zJ) (0:Int) false false zZ zZ) s2 v20).was.typ),.int .i64 ((zI (fun a b=>a==b) (GEdit.mk ([]:List zJ) (0:Int) false false zZ zZ) s2 v20).was.n),.int .u64 ((zI (fun a b=>a==b) (GEdit.mk ([]:List zJ) (0:Int) false false zZ zZ) s2 v20).was.time),.int .u8 ((zI (fun a b=>a==b) (GEdit.mk ([]:List zJ) (0:Int) false false zZ zZ) s2 v20).was.dot.actor.rep),.int .u32 ((zI (fun a b=>a==b) (GEdit.mk ([]:List zJ) (0:Int) false false zZ zZ) s2 v20).was.dot.actor.inc),.int .u64 ((zI (fun a b=>a==b) (GEdit.mk ([]:List zJ) (0:Int) false false zZ zZ) s2 v20).was.dot.seq),.str ((zI (fun a b=>a==b) (GEdit.mk ([]:List zJ) (0:Int) false false zZ zZ) s2 v20).was.text),.sl 5 (((zI (fun a b=>a==b) (GEdit.mk ([]:List zJ) (0:Int) false false zZ zZ) s2 v20).was.items).map GItem.row),.sl 3 (((zI (fun a b=>a==b) (GEdit.mk ([]:List zJ) (0:Int) false false zZ zZ) s2 v20).was.tombs).map GDot.row),.int .u8 ((zI (fun a b=>a==b) (GEdit.mk ([]:List zJ) (0:Int) false false zZ zZ) s2 v20).is.typ),.int .i64 ((zI (fun a b=>a==b) (GEdit.mk ([]:List zJ) (0:Int) false false zZ zZ) s2 v20).is.n),.int .u64 ((zI (fun a b=>a==b) (GEdit.mk ([]:List zJ) (0:Int) false false zZ zZ) s2 v20).is.time),.int .u8 ((zI (fun a b=>a==b) (GEdit.mk ([]:List zJ) (0:Int) false false zZ zZ) s2 v20).is.dot.actor.rep),.int .u32 ((zI (fun a b=>a==b) (GEdit.mk ([]:List zJ) (0:Int) false false zZ zZ) s2 v20).is.dot.actor.inc),.int .u64 ((zI (fun a b=>a==b) (GEdit.mk ([]:List zJ) (0:Int) false false zZ zZ) s2 v20).is.dot.seq),.str ((zI (fun a b=>a==b) (GEdit.mk ([]:List zJ) (0:Int) false false zZ zZ) s2 v20).is.text),.sl 5 (((zI (fun a b=>a==b) (GEdit.mk ([]:List zJ) (0:Int) false false zZ zZ) s2 v20).is.items).map GItem.row),.sl 3 (((zI (fun a b=>a==b) (GEdit.mk ([]:List zJ) (0:Int) false false zZ zZ) s2 v20).is.tombs).map GDot.row)]) rfl ty5 (gk wN) (gk xN) (zb rfl) rfl rfl rfl rfl rfl) rfl ?_
    refine zq rfl rfl (zg rfl fo54x3 yA rfl) (sk wL) ?_
    refine yZ rfl (FOk.cons (.inr (xP ⟨rfl,trivial⟩)) (FOk.cons (.inr (xP ⟨rfl,trivial⟩)) FOk.nil)) (by kernel_rfl) rfl (yg (cs':=[.sl 1 (x2.path.map zP),.int .u8 x2.leaf.typ,.bool ((zI (fun a b=>a==b) (GEdit.mk ([]:List zJ) (0:Int) false false zZ zZ) s2 v20).had),.bool true,.int .u8 ((zI (fun a b=>a==b) (GEdit.mk ([]:List zJ) (0:Int) false false zZ zZ) s2 v20).was.typ),.int .i64 ((zI (fun a b=>a==b) (GEdit.mk ([]:List zJ) (0:Int) false false zZ zZ) s2 v20).was.n),.int .u64 ((zI (fun a b=>a==b) (GEdit.mk ([]:List zJ) (0:Int) false false zZ zZ) s2 v20).was.time),.int .u8 ((zI (fun a b=>a==b) (GEdit.mk ([]:List zJ) (0:Int) false false zZ zZ) s2 v20).was.dot.actor.rep),.int .u32 ((zI (fun a b=>a==b) (GEdit.mk ([]:List zJ) (0:Int) false false zZ zZ) s2 v20).was.dot.actor.inc),.int .u64 ((zI (fun a b=>a==b) (GEdit.mk ([]:List zJ) (0:Int) false false zZ zZ) s2 v20).was.dot.seq),.str ((zI (fun a b=>a==b) (GEdit.mk ([]:List zJ) (0:Int) false false zZ zZ) s2 v20).was.text),.sl 5 (((zI (fun a b=>a==b) (GEdit.mk ([]:List zJ) (0:Int) false false zZ zZ) s2 v20).was.items).map GItem.row),.sl 3 (((zI (fun a b=>a==b) (GEdit.mk ([]:List zJ) (0:Int) false false zZ zZ) s2 v20).was.tombs).map GDot.row),.int .u8 ((zI (fun a b=>a==b) (GEdit.mk ([]:List zJ) (0:Int) false false zZ zZ) s2 v20).is.typ),.int .i64 ((zI (fun a b=>a==b) (GEdit.mk ([]:List zJ) (0:Int) false false zZ zZ) s2 v20).is.n),.int .u64 ((zI (fun a b=>a==b) (GEdit.mk ([]:List zJ) (0:Int) false false zZ zZ) s2 v20).is.time),.int .u8 ((zI (fun a b=>a==b) (GEdit.mk ([]:List zJ) (0:Int) false false zZ zZ) s2 v20).is.dot.actor.rep),.int .u32 ((zI (fun a b=>a==b) (GEdit.mk ([]:List zJ) (0:Int) false false zZ zZ) s2 v20).is.dot.actor.inc),.int .u64 ((zI (fun a b=>a==b) (GEdit.mk ([]:List zJ) (0:Int) false false zZ zZ) s2 v20).is.dot.seq),.str ((zI (fun a b=>a==b) (GEdit.mk ([]:List zJ) (0:Int) false false zZ zZ) s2 v20).is.text),.sl 5 (((zI (fun a b=>a==b) (GEdit.mk ([]:List zJ) (0:Int) false false zZ zZ) s2 v20).is.items).map GItem.row),.sl 3 (((zI (fun a b=>a==b) (GEdit.mk ([]:List zJ) (0:Int) false false zZ zZ) s2 v20).is.tombs).map GDot.row)]) rfl ty4 (gk wH) rfl (zb rfl) rfl rfl rfl rfl rfl) rfl ?_
    refine zq rfl rfl (zg rfl fo54x5 yA rfl) (sk wW) ?_
    refine yZ rfl (FOk.cons (.inr (xP ⟨rfl,trivial⟩)) (FOk.cons (.inr (xP ⟨rfl,trivial⟩)) FOk.nil)) (by kernel_rfl) rfl (yg (cs':=[.sl 1 (x2.path.map zP),.int .u8 x2.leaf.typ,.bool ((zI (fun a b=>a==b) (GEdit.mk ([]:List zJ) (0:Int) false false zZ zZ) s2 v20).had),.bool true,.int .u8 ((zI (fun a b=>a==b) (GEdit.mk ([]:List zJ) (0:Int) false false zZ zZ) s2 v20).was.typ),.int .i64 ((zI (fun a b=>a==b) (GEdit.mk ([]:List zJ) (0:Int) false false zZ zZ) s2 v20).was.n),.int .u64 ((zI (fun a b=>a==b) (GEdit.mk ([]:List zJ) (0:Int) false false zZ zZ) s2 v20).was.time),.int .u8 ((zI (fun a b=>a==b) (GEdit.mk ([]:List zJ) (0:Int) false false zZ zZ) s2 v20).was.dot.actor.rep),.int .u32 ((zI (fun a b=>a==b) (GEdit.mk ([]:List zJ) (0:Int) false false zZ zZ) s2 v20).was.dot.actor.inc),.int .u64 ((zI (fun a b=>a==b) (GEdit.mk ([]:List zJ) (0:Int) false false zZ zZ) s2 v20).was.dot.seq),.str ((zI (fun a b=>a==b) (GEdit.mk ([]:List zJ) (0:Int) false false zZ zZ) s2 v20).was.text),.sl 5 (((zI (fun a b=>a==b) (GEdit.mk ([]:List zJ) (0:Int) false false zZ zZ) s2 v20).was.items).map GItem.row),.sl 3 (((zI (fun a b=>a==b) (GEdit.mk ([]:List zJ) (0:Int) false false zZ zZ) s2 v20).was.tombs).map GDot.row),.int .u8 x2.leaf.typ,.int .i64 x2.leaf.n,.int .u64 x2.leaf.time,.int .u8 x2.leaf.dot.actor.rep,.int .u32 x2.leaf.dot.actor.inc,.int .u64 x2.leaf.dot.seq,.str x2.leaf.text,.sl 5 (x2.leaf.items.map GItem.row),.sl 3 (x2.leaf.tombs.map GDot.row)]) rfl ty48.choose_spec.1 (gk w6) (gk wb) (zb rfl) rfl rfl rfl rfl rfl) rfl ?_
    refine ym ?_
    refine zj ?_
    refine yI [6] [] trivial mixed (by kernel_rfl) ?_
    refine zq rfl rfl (zf rfl yU (zb rfl)) (sk wV) ?_
    refine zq rfl rfl (zg rfl fo59x0 yq rfl) (sk wU) ?_
    refine zq rfl rfl (zu rfl ty52 (gk w5) rfl (zr rfl) (zb rfl)) (sk vl) ?_
    refine zq rfl rfl (zg rfl fo59x1 yq rfl) (sk vk) ?_
    refine zq rfl rfl (zg rfl wd (gk vt) rfl) (sk vb) ?_
    refine zq rfl rfl (zu rfl ty5 (gk wZ) rfl (zr rfl) (zb rfl)) (sk va) ?_
    refine zR hF (fun v21 hv21 hF=>?_)
    refine yu rfl rfl (fun _=>zC rfl rfl rfl (zo (gk vf) (zo (gk ve) zw)) (.cons (zb rfl) (.cons (zb rfl) .nil))) (by rintro _ ⟨B2,T2,rfl,hk2⟩;exact ok17 hv21) (sk w9) ?_
    refine zq rfl rfl (zu rfl ty54.choose_spec.1 yA rfl (zH (cs':=[.sl 1 (x2.path.map zP),.int .u8 x2.leaf.typ,.bool ((zI (fun a b=>a==b) (GEdit.mk ([]:List zJ) (0:Int) false false zZ zZ) s2 v20).had),.bool true,.int .u8 ((zI (fun a b=>a==b) (GEdit.mk ([]:List zJ) (0:Int) false false zZ zZ) s2 v20).was.typ),.int .i64 ((zI (fun a b=>a==b) (GEdit.mk ([]:List zJ) (0:Int) false false zZ zZ) s2 v20).was.n),.int .u64 ((zI (fun a b=>a==b) (GEdit.mk ([]:List zJ) (0:Int) false false zZ zZ) s2 v20).was.time),.int .u8 ((zI (fun a b=>a==b) (GEdit.mk ([]:List zJ) (0:Int) false false zZ zZ) s2 v20).was.dot.actor.rep),.int .u32 ((zI (fun a b=>a==b) (GEdit.mk ([]:List zJ) (0:Int) false false zZ zZ) s2 v20).was.dot.actor.inc),.int .u64 ((zI (fun a b=>a==b) (GEdit.mk ([]:List zJ) (0:Int) false false zZ zZ) s2 v20).was.dot.seq),.str ((zI (fun a b=>a==b) (GEdit.mk ([]:List zJ) (0:Int) false false zZ zZ) s2 v20).was.text),.sl 5 (((zI (fun a b=>a==b) (GEdit.mk ([]:List zJ) (0:Int) false false zZ zZ) s2 v20).was.items).map GItem.row),.sl 3 (((zI (fun a b=>a==b) (GEdit.mk ([]:List zJ) (0:Int) false false zZ zZ) s2 v20).was.tombs).map GDot.row),.int .u8 x2.leaf.typ,.int .i64 x2.leaf.n,.int .u64 x2.leaf.time,.int .u8 x2.leaf.dot.actor.rep,.int .u32 x2.leaf.dot.actor.inc,.int .u64 x2.leaf.dot.seq,.str x2.leaf.text,.sl 5 (x2.leaf.items.map GItem.row),.sl 3 (x2.leaf.tombs.map GDot.row)]) ty54.choose_spec.2 rfl rfl) (zb rfl)) (sk vj) ?_
    refine yZ rfl (FOk.cons (.inr (xP trivial)) FOk.nil) (by kernel_rfl) rfl (e_mapPut (m:=s2) (k:=v21) (v:=(GEdit.mk x2.path x2.leaf.typ ((zI (fun a b=>a==b) (GEdit.mk ([]:List zJ) (0:Int) false false zZ zZ) s2 v20).had) true ((zI (fun a b=>a==b) (GEdit.mk ([]:List zJ) (0:Int) false false zZ zZ) s2 v20).was) x2.leaf)) (j:=0) (kv:=AV.str) (vv:=(fun x=>AV.agg (GEdit.row x))) rfl Tryz.underlying55 kq9 (gk vg) rfl (gk wY) (gk wX) rfl rfl) rfl ?_
    refine ym ?_
    refine yh (zj (zd ?_))
    refine zc rfl (zy rfl (gk xH) rfl rfl) (sk vI) ?_
    refine zc rfl (zf rfl (gk vM) (zb rfl)) (sk xO) ?_
    refine ze (yH ?_)
    obtain rfl:=Option.some.inj hF
    exact ⟨(xG (fun a b=>a==b) s2 v21 (GEdit.mk x2.path x2.leaf.typ ((zI (fun a b=>a==b) (GEdit.mk ([]:List zJ) (0:Int) false false zZ zZ) s2 v20).had) true ((zI (fun a b=>a==b) (GEdit.mk ([]:List zJ) (0:Int) false false zZ zZ) s2 v20).was) x2.leaf)),hl2,hK2,wk.trans (wk.le (by exact (.d4 (.drop (.drop (.eq (.d16 (.d16 (.d4 (.drop (.drop (.eq (.eq (.cons (leV.of_eq (w8 (by omega) (by omega))) (.d16 (.d16 (.drop leL.nil))))))))))))))))) (xI (by simp [yi,AV.low]) rfl rfl (by simp [Blk.low,yi,AV.low,GEdit.row,qb]))⟩
   ·refine yR ?_
    refine ya ?_
    refine zV ?_
    refine zW ?_
    refine zj (zk (zd ?_))
    refine zc rfl (zf rfl yU (zb rfl)) (sk vA) ?_
    refine zR hF (fun v22 hv22 hF=>?_)
    refine zN rfl (zC rfl rfl rfl (zo (gk vr) zw) (.cons (zb rfl) .nil)) (ok18 (n_blk rfl rfl) hv22) (sk (sk st0)) ?_
    refine zc rfl (zi rfl (gk (gk yr)) (zb rfl)) yB ?_
    refine zc rfl (zi rfl rfl (zb rfl)) xz ?_
    refine ze (zj (zL ?_))
    obtain rfl:=Option.some.inj hF
    refine qm rfl (zD yz (zD yS zG)) (zz (leV.refl _) rfl ?_)
    exact ⟨rfl,rfl⟩
/-! varve/varvelaw31.known -/
theorem ok6  {res:Bool} {h:AH}  (hF:vq  = some res):Spec Tryz.prog 6 [] h (fun rr hh=>rr=.bool res∧hh=h):=by
 unfold vq at hF
 refine zt Tryz.func6 rfl (by kernel_rfl) (env:=[za,za,za,za,za,za,za,za,za,za,za,za,za,za,za,za,za,za,za,za,za,za,za,za,za,za,za,za,za,za,za,za,za,za,za,za,za,za,za,za,za,za,za,za,za,za,za,za,za,za,za,za,za,za,za,za,za,za]) (by rfl) ?_
 refine zk (zd ?_)
 refine zc rfl (zi rfl rfl (zb rfl)) st0 ?_
 refine ze (zj (zk (zd ?_)))
 refine zc rfl (qA (cs':=[.int .u8 (1:Int),.int .i64 (5:Int),.int .u64 (0:Int),.int .u8 (0:Int),.int .u32 (0:Int),.int .u64 (0:Int),.str ([]:zJ),.osl none 5 (([]:List GItem).map GItem.row),.osl none 3 (([]:List GDot).map GDot.row)]) rfl su48 ze48 pl48 (yl rfl (yl rfl yp)) (.cons (zb rfl) (.cons (zb rfl) .nil)) rfl rfl) xE ?_
 refine zc rfl (yE (es:=([(GLeaf.mk (1:Int) (5:Int) (0:Int) (GDot.mk (GActor.mk (0:Int) (0:Int)) (0:Int)) ([]:zJ) ([]:List GItem) ([]:List GDot))]:List GLeaf).map GLeaf.row) rfl wu ze48 rfl rfl (yl yU yp) (.cons (zb rfl) .nil) rfl rfl rfl) xO ?_
 refine zc rfl (qA (cs':=[.str ([97]:zJ),.osl none 9 (([(GLeaf.mk (1:Int) (5:Int) (0:Int) (GDot.mk (GActor.mk (0:Int) (0:Int)) (0:Int)) ([]:zJ) ([]:List GItem) ([]:List GDot))]:List GLeaf).map GLeaf.row),.osl none 3 (([]:List GNode).map GNode.row)]) rfl su51 ze51 pl51 (yl rfl (yl xH yp)) (.cons (zb rfl) (.cons (zb rfl) .nil)) rfl rfl) xX ?_
 refine zc rfl (yE (es:=([(GNode.mk ([97]:zJ) ([(GLeaf.mk (1:Int) (5:Int) (0:Int) (GDot.mk (GActor.mk (0:Int) (0:Int)) (0:Int)) ([]:zJ) ([]:List GItem) ([]:List GDot))]:List GLeaf) ([]:List GNode))]:List GNode).map GNode.row) rfl xC ze51 rfl rfl (yl xj yp) (.cons (zb rfl) .nil) rfl rfl (by simp only [List.map_cons,List.map_nil,GNode.row_eq];rfl)) wB ?_
 refine zc rfl (zi rfl xV (zb rfl)) st1 ?_
 refine ze (zj (zk (zd ?_)))
 refine zc rfl (zf rfl yF (zb rfl)) yP ?_
 refine zR hF (fun v1 hv1 hF=>?_)
 refine zN rfl (zC rfl rfl rfl (zo rfl (zo yA zw)) (.cons (xy xC) (.cons (zb rfl) .nil))) ((ok7 hv1).le (.cons (leV.osl _ _ _) (.cons (leV.osl _ _ _) leL.nil))) yX ?_
 refine zc rfl (zf rfl yM (zb rfl)) yL ?_
 refine zc rfl (yn rfl yq rfl (zb rfl)) yW ?_
 refine zc rfl (yn rfl yq rfl (zb rfl)) y5 ?_
 refine zc rfl (zi rfl yC (zb rfl)) xh ?_
 refine zc rfl (zi rfl yY (zb rfl)) wo ?_
 refine ze (zj (zk (zd ?_)))
 refine zc rfl (zf rfl yF (zb rfl)) xg ?_
 refine zc rfl (zf rfl yF (zb rfl)) xk ?_
 refine zR hF (fun v2 hv2 hF=>?_)
 refine zN rfl (zC rfl rfl rfl (zo xd (zo xi zw)) (.cons (zb rfl) (.cons (zb rfl) .nil))) ((ok7 hv2).le (.cons (leV.osl _ _ _) (.cons (leV.osl _ _ _) leL.nil))) xD ?_
 refine zc rfl (zf rfl xB (zb rfl)) y6 ?_
 refine zc rfl (yn rfl yT rfl (zb rfl)) xK ?_
 refine zc rfl (yn rfl yT rfl (zb rfl)) xY ?_
 refine zc rfl (zi rfl xJ (zb rfl)) yB ?_
 refine zc rfl (zi rfl xZ (zb rfl)) xz ?_
 refine ze (zj (zk (zd ?_)))
 refine zc rfl (zf rfl xn (zb rfl)) x7 ?_
 refine zc rfl (zy rfl x5 rfl rfl) wl ?_
 refine zc rfl (zf rfl wi (zb rfl)) x6 ?_
 refine zp rfl (fun hb=>zf rfl yS (zb rfl)) wh ?_
 refine zp rfl (fun hb=>zy rfl (zn wc hb) rfl rfl) wj ?_
 refine zc rfl (zM rfl xN wb rfl (zX (fun ht=>gT ht))) wF ?_
 refine zc rfl (zf rfl wE (zb rfl)) wM ?_
 refine zp rfl (fun hb=>zf rfl yV (zb rfl)) wL ?_
 refine xA rfl (fun hb=>zS rfl rfl rfl rfl qE (zn wH hb) yc) wW fun hn3=>?_
 refine zp rfl (fun hb=>zy rfl (zn w6 hb) rfl rfl) wV ?_
 refine zc rfl (zM rfl wN vg rfl (zX (fun ht=>gT ht))) wU ?_
 refine zc rfl (zf rfl w5 (zb rfl)) vl ?_
 refine zp rfl (fun hb=>zf rfl yV (zb rfl)) vk ?_
 refine wS hF (fun hg4 hF=>?_)
 refine zp rfl (fun hb=>xT default rfl qE (zn vt hb) rfl w7 (hg4 hb)) vb ?_
 refine zp rfl (fun hb=>zg rfl fo54x2 (zn wZ hb) rfl) va ?_
 refine zp rfl (fun hb=>ye rfl ty4 (zn ve hb) (zr rfl) (zb rfl)) w9 ?_
 refine zp rfl (fun hb=>xR rfl (zn wY hb) rfl) vj ?_
 refine zc rfl (zM rfl vf wX rfl (zX (fun ht=>gT ht))) vI ?_
 refine zc rfl (zf rfl vM (zb rfl)) vA ?_
 refine zp rfl (fun hb=>zf rfl yV (zb rfl)) (sk st0) ?_
 refine wS hF (fun hg5 hF=>?_)
 refine zp rfl (fun hb=>xT default rfl qE (zn (gk yr) hb) rfl w7 (hg5 hb)) (sk st1) ?_
 refine zp rfl (fun hb=>zg rfl fo54x3 (zn (gk yF) hb) rfl) (sk xh) ?_
 refine zp rfl (fun hb=>ye rfl ty4 (zn (gk yV) hb) (zr rfl) (zb rfl)) (sk wo) ?_
 refine zc rfl (zM rfl vr (gk xn) rfl (zX (fun ht=>gT ht))) (sk yB) ?_
 refine zc rfl (zf rfl (gk yz) (zb rfl)) (sk xz) ?_
 refine zp rfl (fun hb=>zf rfl yV (zb rfl)) (sk xE) ?_
 refine wS hF (fun hg6 hF=>?_)
 refine zp rfl (fun hb=>xT default rfl qE (zn (gk yU) hb) rfl w7 (hg6 hb)) (sk xO) ?_
 refine zp rfl (fun hb=>zg rfl fo54x5 (zn (gk xH) hb) rfl) (sk xX) ?_
 refine zp rfl (fun hb=>zg rfl fo48x1 (zn (gk xj) hb) rfl) (sk wB) ?_
 refine zp rfl (fun hb=>ye rfl ty2 (zn (gk xV) hb) (zr rfl) (zb rfl)) (sk yL) ?_
 refine zp rfl (fun hb=>zy rfl (zn (gk yq) hb) rfl rfl) (sk yP) ?_
 refine zc rfl (zM rfl (gk yS) (gk yA) rfl (zX (fun ht=>gT ht))) (sk yX) ?_
 refine zc rfl (zf rfl (gk yM) (zb rfl)) (sk yW) ?_
 refine zp rfl (fun hb=>zf rfl yz (zb rfl)) (sk y5) ?_
 refine xA rfl (fun hb=>zS rfl rfl rfl rfl qE (zn (gk yY) hb) yc) (sk y6) fun hn7=>?_
 refine zp rfl (fun hb=>zy rfl (zn (gk yT) hb) rfl rfl) (sk xg) ?_
 refine zc rfl (zM rfl (gk yC) (gk xd) rfl (zX (fun ht=>gT ht))) (sk xk) ?_
 refine zc rfl (zi rfl (gk xi) (zb rfl)) st0 ?_
 refine ze (zj (zL ?_))
 obtain rfl:=Option.some.inj hF
 refine zA rfl (zD yr zG) (zz (leV.refl _) rfl ?_)
 exact ⟨rfl,rfl⟩
/-! slices.IndexFunc[[]string,string] -/
theorem ok111 {s0:(List zJ)} {f1:(zJ→Option Bool)} {ff1:FuncId} {af1 kf1:List AV} {res:Int} {h:AH} (hf1:∀ x0 v (L:List Blk) (M:List Nat),f1 x0=some v→Spec Tryz.prog ff1 (af1++[.str x0]++kf1) (h.ext L M) (fun rr hh=>rr=.bool v∧hh=h.ext L M)) (hF:wT s0 f1=some res):Spec Tryz.prog 111 [.sl 1 (s0.map zP),.fn (.func ff1) af1 kf1] h (fun rr hh=>rr=.int .i64 res∧hh=h):=by
 unfold wT at hF
 refine yG Tryz.func111 rfl (by kernel_rfl) (env:=[.sl 1 (s0.map zP),.fn (.func ff1) af1 kf1,za,za,za,za,za,za,za,za,za,za,za,za,za,za,za,za,za]) (by rfl) (fun hlow hC=>?_)
 simp only [yi,AV.low,Bool.and_eq_true,Bool.true_and,and_true] at hlow
 have hlaf1:∀ n m,h.blks.length≤n→h.toks.length≤m→yi n m af1=true:=fun n m h1 h2=>y8 h1 h2 _ (by simp [hlow])
 have hlkf1:∀ n m,h.blks.length≤n→h.toks.length≤m→yi n m kf1=true:=fun n m h1 h2=>y8 h1 h2 _ (by simp [hlow])
 refine zk (zd ?_)
 refine zc rfl (zi rfl rfl (zb rfl)) yB ?_
 refine ze (zj (zk (zk (zd ?_))))
 refine zc rfl (zf rfl yr (zb rfl)) xE ?_
 refine yb rfl (zS rfl rfl rfl rfl wt yU yc) xO fun hn1=>?_
 replace hn1:=xl hn1
 refine zc rfl (zf rfl rfl (zb rfl)) xX ?_
 refine ze (zj (zQ ?_))
 refine yo (fun (n1:Nat) (s1:Unit)=>yO [2,3,4,5,6,9,10,11,12,13,14,15,16,17,18] [(8,.int .i64 (n1:Int))]) (fun s1=>h.ext [] []) hF (fun _ _=>by simp only [yO,upd,List.set_cons_succ,List.set_cons_zero];try rfl) (wk.le (by exact (.eq (.eq (.d4 (.drop (.eq (.cons (leV.of_eq rfl) (.d4 (.d4 (.drop (.drop leL.nil)))))))))))) ?_
 intro n1 s1 hi1 hF
 refine zk (zd ?_)
 refine zc rfl (zy rfl xj xH rfl) wB ?_
 refine ze (zj (zk ?_))
 refine yJ xV hF (fun x1 o1 hl1 hx1 hF hK1=>?_) (fun hF=>?_)
 ·refine zK (zj (zk (zQ (zk (zd ?_)))))
  refine zc rfl (zf rfl xj (zb rfl)) yL ?_
  refine zc rfl (zi rfl yq (zb rfl)) xz ?_
  refine ze (zj (zk (zd ?_)))
  refine zc rfl (zf rfl yF (zb rfl)) yP ?_
  refine zc rfl (zf rfl yr (zb rfl)) yX ?_
  refine zc rfl (zf rfl yS (zb rfl)) yW ?_
  refine zc rfl (yj rfl wt yM yC w7 (yK hx1)) y5 ?_
  refine zc rfl (ye rfl ty9 yY (zr rfl) (zb rfl)) y6 ?_
  refine zR hF (fun v7 hv7 hF=>?_)
  refine zN rfl (s_callC rfl rfl yA (zo yT zw) (.cons (zb rfl) .nil) rfl) (hf1 _ _ _ _ hv7) xg ?_
  refine ze (zj ?_)
  refine zO xd hF (fun hc8 hF=>?_) (fun hc8 hF=>?_)
  ·refine zk (zd ?_)
   refine zc rfl (zf rfl yS (zb rfl)) xk ?_
   refine zc rfl (zi rfl xi (zb rfl)) yB ?_
   refine ze (zj (zL ?_))
   refine zF ?_
   refine zx ?_
   refine yd ?_
   obtain rfl:=Option.some.inj hF
   replace hF:=hK1
   refine zF ?_
   refine zx ?_
   obtain rfl:=Option.some.inj hF
   refine zA rfl (zD yz zG) (zz (leV.refl _) rfl ?_)
   exact ⟨rfl,rfl⟩
  ·refine zK (yh (zj (zd ?_)))
   refine zc rfl (zy rfl xj rfl rfl) xD ?_
   refine zc rfl (zf rfl xB (zb rfl)) xX ?_
   refine ze (yH ?_)
   obtain rfl:=Option.some.inj hF
   exact ⟨(),hl1,hK1,wk.le (by exact (.eq (.eq (.d4 (.drop (.eq (.cons (leV.of_eq (w8 (by omega) (by omega))) (.d4 (.d4 (.drop (.drop leL.nil)))))))))))⟩
 ·refine yR ?_
  refine ya ?_
  refine zV ?_
  refine zW ?_
  refine zj (zk (zd ?_))
  refine zc rfl (zi rfl rfl (zb rfl)) yB ?_
  refine ze (zj (zL ?_))
  obtain rfl:=Option.some.inj hF
  refine zA rfl (zD yz zG) (zz (leV.refl _) rfl ?_)
  exact ⟨rfl,rfl⟩
/-! slices.ContainsFunc[[]string,string] -/
theorem ok81 {s0:(List zJ)} {f1:(zJ→Option Bool)} {ff1:FuncId} {af1 kf1:List AV} {res:Bool} {h:AH} (hf1:∀ x0 v (L:List Blk) (M:List Nat),f1 x0=some v→Spec Tryz.prog ff1 (af1++[.str x0]++kf1) (h.ext L M) (fun rr hh=>rr=.bool v∧hh=h.ext L M)) (hF:xp s0 f1=some res):Spec Tryz.prog 81 [.sl 1 (s0.map zP),.fn (.func ff1) af1 kf1] h (fun rr hh=>rr=.bool res∧hh=h):=by
 unfold xp at hF
 refine yG Tryz.func81 rfl (by kernel_rfl) (env:=[.sl 1 (s0.map zP),.fn (.func ff1) af1 kf1,za,za,za,za,za,za,za]) (by rfl) (fun hlow hC=>?_)
 simp only [yi,AV.low,Bool.and_eq_true,Bool.true_and,and_true] at hlow
 have hlaf1:∀ n m,h.blks.length≤n→h.toks.length≤m→yi n m af1=true:=fun n m h1 h2=>y8 h1 h2 _ (by simp [hlow])
 have hlkf1:∀ n m,h.blks.length≤n→h.toks.length≤m→yi n m kf1=true:=fun n m h1 h2=>y8 h1 h2 _ (by simp [hlow])
 refine zk (zd ?_)
 refine zc rfl (zi rfl rfl (zb rfl)) yB ?_
 refine ze (zj (zk (zd ?_)))
 refine zc rfl (zf rfl yr (zb rfl)) xz ?_
 refine zc rfl (zf rfl yF (zb rfl)) xE ?_
 refine zR hF (fun v1 hv1 hF=>?_)
 refine zN rfl (zC rfl rfl rfl (zo yS (zo yU zw)) (.cons (zb rfl) (.cons (zb rfl) .nil))) (ok111 (fun x0 v L M hv=>by rw [ww];exact hf1 x0 v _ _ hv) hv1) xO ?_
 refine zc rfl (zy rfl xH rfl rfl) xX ?_
 refine zc rfl (zi rfl xj (zb rfl)) yB ?_
 refine ze (zj (zL ?_))
 obtain rfl:=Option.some.inj hF
 refine zA rfl (zD yz zG) (zz (leV.refl _) rfl ?_)
 exact ⟨rfl,rfl⟩
/-! varve/op.MayPath 1 -/
theorem ok82 {s0:zJ} {res:Bool} {h:AH}  (hF:opMayPathC1 s0=some res):Spec Tryz.prog 82 [.str s0] h (fun rr hh=>rr=.bool res∧hh=h):=by
 unfold opMayPathC1 at hF
 refine zt Tryz.func82 rfl (by kernel_rfl) (env:=[.str s0,za,za,za,za,za]) (by rfl) ?_
 refine zk (zd ?_)
 refine zc rfl (zi rfl rfl (zb rfl)) xh ?_
 refine ze (zj (zk (zd ?_)))
 refine zc rfl (zf rfl yr (zb rfl)) wo ?_
 refine zR hF (fun v1 hv1 hF=>?_)
 refine zN rfl (zC rfl rfl rfl (zo xn zw) (.cons (zb rfl) .nil)) (ok68 hv1) yB ?_
 refine zc rfl (xR rfl yz rfl) xz ?_
 refine zc rfl (zi rfl yS (zb rfl)) xh ?_
 refine ze (zj (zL ?_))
 obtain rfl:=Option.some.inj hF
 refine zA rfl (zD yV zG) (zz (leV.refl _) rfl ?_)
 exact ⟨rfl,rfl⟩
/-! varve/op.MayPath -/
theorem ok38 {p0:(List zJ)} {res:Bool} {h:AH}  (hF:opMayPath p0=some res):Spec Tryz.prog 38 [.sl 1 (p0.map zP)] h (fun rr hh=>rr=.bool res∧hh=h):=by
 unfold opMayPath at hF
 refine zt Tryz.func38 rfl (by kernel_rfl) (env:=[.sl 1 (p0.map zP),za,za,za,za,za,za,za,za,za,za,za,za,za,za,za]) (by rfl) ?_
 refine zk (zd ?_)
 refine zc rfl (zi rfl rfl (zb rfl)) xh ?_
 refine ze (zj (zk (zd ?_)))
 refine zc rfl (zf rfl yr (zb rfl)) wo ?_
 refine yb rfl (zS rfl rfl rfl rfl wt xn yc) yB fun hn1=>?_
 replace hn1:=xl hn1
 refine zc rfl (zy rfl yz rfl rfl) xz ?_
 refine zc rfl (zf rfl yS (zb rfl)) xE ?_
 refine zp rfl (fun hb=>zf rfl yr (zb rfl)) xO ?_
 refine xA rfl (fun hb=>zS rfl rfl rfl rfl wt (zn xH hb) yc) xX fun hn2=>?_
 refine zp rfl (fun hb=>zy rfl (zn xj hb) rfl rfl) wB ?_
 refine zc rfl (zM rfl yU xV rfl (zX (fun ht=>gT ht))) yL ?_
 refine zc rfl (zf rfl yq (zb rfl)) yP ?_
 refine zp rfl (fun hb=>zf rfl yr (zb rfl)) yX ?_
 refine yN hF (fun v3 hv3 hF=>?_)
 refine yk rfl (fun hb=>zC rfl rfl rfl (zo (zn yM hb) (zo rfl zw)) (.cons (zb rfl) (.cons (zb rfl) .nil))) (fun hb=>ok81 (fun _ v L M hv=>ok82  hv) (hv3 hb)) yW ?_
 refine zp rfl (fun hb=>xR rfl (zn yC hb) rfl) y5 ?_
 refine zc rfl (zM rfl yA yY rfl (zX (fun ht=>gT ht))) y6 ?_
 refine zc rfl (zi rfl yT (zb rfl)) xh ?_
 refine ze (zj (zL ?_))
 obtain rfl:=Option.some.inj hF
 refine zA rfl (zD yV zG) (zz (leV.refl _) rfl ?_)
 exact ⟨rfl,rfl⟩
/-! varve/diff.side -/
theorem ok39 {there0:Bool} {l1:GLeaf} {kind2:Int} {res:Bool} {h:AH}  (hF:vN there0 l1 kind2=some res):Spec Tryz.prog 39 [.bool there0,.agg [.int .u8 l1.typ,.int .i64 l1.n,.int .u64 l1.time,.int .u8 l1.dot.actor.rep,.int .u32 l1.dot.actor.inc,.int .u64 l1.dot.seq,.str l1.text,.sl 5 (l1.items.map GItem.row),.sl 3 (l1.tombs.map GDot.row)],.int .u8 kind2] h (fun rr hh=>rr=.bool res∧hh=h):=by
 unfold vN at hF
 refine zt Tryz.func39 rfl (by kernel_rfl) (env:=[.bool there0,.agg [.int .u8 l1.typ,.int .i64 l1.n,.int .u64 l1.time,.int .u8 l1.dot.actor.rep,.int .u32 l1.dot.actor.inc,.int .u64 l1.dot.seq,.str l1.text,.sl 5 (l1.items.map GItem.row),.sl 3 (l1.tombs.map GDot.row)],.int .u8 kind2,za,za,za,za,za,za,za,za,za,za,za,za,za,za,za,za,za]) (by rfl) ?_
 refine zk (zd ?_)
 refine zc rfl (xw (n:=0) rfl yF (zb rfl) rfl rfl) yB ?_
 refine zc rfl (zi rfl rfl (zb rfl)) xE ?_
 refine ze (zj (zk (zk (zd ?_))))
 refine zc rfl (zf rfl yr (zb rfl)) xO ?_
 refine zc rfl (xR rfl xH rfl) xX ?_
 refine ze (zj ?_)
 refine zO xj hF (fun hc1 hF=>?_) (fun hc1 hF=>?_)
 ·refine zk (zd ?_)
  refine zc rfl (zu rfl ty48.choose_spec.1 yz rfl (zH (cs':=[.int .u8 l1.typ,.int .i64 l1.n,.int .u64 l1.time,.int .u8 l1.dot.actor.rep,.int .u32 l1.dot.actor.inc,.int .u64 l1.dot.seq,.str l1.text,.sl 5 (l1.items.map GItem.row),.sl 3 (l1.tombs.map GDot.row)]) ty48.choose_spec.2 rfl rfl) (zb rfl)) wB ?_
  refine zc rfl (qA (cs':=[.int .u8 (0:Int),.int .i64 (0:Int),.int .u64 (0:Int),.int .u8 (0:Int),.int .u32 (0:Int),.int .u64 (0:Int),.str ([]:zJ),.osl none 5 (([]:List GItem).map GItem.row),.osl none 3 (([]:List GDot).map GDot.row)]) rfl su48 ze48 pl48 yp .nil rfl rfl) yL ?_
  refine zR hF (fun v2 hv2 hF=>?_)
  refine zN rfl (zC rfl rfl rfl (zo xV (zo yq zw)) (.cons (zb rfl) (.cons (zb rfl) .nil))) ((ok20 hv2).le (.eq (.cons (leV.agg (.eq (.eq (.eq (.eq (.eq (.eq (.eq (.cons (leV.osl _ _ _) (.cons (leV.osl _ _ _) leL.nil))))))))) rfl) leL.nil))) yP ?_
  refine zc rfl (zi rfl yA (zb rfl)) xE ?_
  refine ze (zj (zL (zx ?_)))
  obtain rfl:=Option.some.inj hF
  refine zA rfl (zD yU zG) (zz (leV.refl _) rfl ?_)
  exact ⟨rfl,rfl⟩
 ·refine zK (zj (zk (zd ?_)))
  refine zc rfl (zg rfl wd yz rfl) yX ?_
  refine zc rfl (zu rfl ty5 yM rfl (zr rfl) (zb rfl)) yW ?_
  refine zc rfl (zf rfl yV (zb rfl)) y5 ?_
  refine zc rfl (zy rfl yC yY rfl) y6 ?_
  refine zc rfl (zf rfl yT (zb rfl)) xg ?_
  refine zp rfl (fun hb=>zu rfl ty48.choose_spec.1 yz rfl (zH (cs':=[.int .u8 l1.typ,.int .i64 l1.n,.int .u64 l1.time,.int .u8 l1.dot.actor.rep,.int .u32 l1.dot.actor.inc,.int .u64 l1.dot.seq,.str l1.text,.sl 5 (l1.items.map GItem.row),.sl 3 (l1.tombs.map GDot.row)]) ty48.choose_spec.2 rfl rfl) (zb rfl)) xk ?_
  refine yN hF (fun v3 hv3 hF=>?_)
  refine yk rfl (fun hb=>zC rfl rfl rfl (zo (zn xi hb) zw) (.cons (zb rfl) .nil)) (fun hb=>ok69 (hv3 hb)) xD ?_
  refine zc rfl (zM rfl xd xB rfl (zX (fun ht=>gT ht))) xK ?_
  refine zc rfl (zi rfl xJ (zb rfl)) xE ?_
  refine ze (zj (zL ?_))
  obtain rfl:=Option.some.inj hF
  refine zA rfl (zD yU zG) (zz (leV.refl _) rfl ?_)
  exact ⟨rfl,rfl⟩
/-! varve/diff.May -/
theorem ok19 {l0:(List GEdit)} {res:Bool} {h:AH}  (hF:qT l0=some res):Spec Tryz.prog 19 [.sl 22 (l0.map GEdit.row)] h (fun rr hh=>rr=.bool res∧hh=h):=by
 unfold qT at hF
 refine zt Tryz.func19 rfl (by kernel_rfl) (env:=[.sl 22 (l0.map GEdit.row),za,za,za,za,za,za,za,za,za,za,za,za,za,za,za,za,za,za,za,za,za,za,za,za,za,za,za,za,za,za,za,za,za,za,za,za,za,za,za,za,za,za,za,za,za,za,za,za,za,za,za,za,za,za,za,za,za,za,za,za,za,za,za,za,za,za,za,za,za,za,za,za,za,za,za,za,za,za,za,za,za,za,za,za,za,za,za,za]) (by rfl) ?_
 refine zk (zd ?_)
 refine zc rfl (zi rfl rfl (zb rfl)) xh ?_
 refine ze (zj (zk (zk (zd ?_))))
 refine zc rfl (zf rfl yr (zb rfl)) xO ?_
 refine yb rfl (zS rfl rfl rfl rfl qE xH yc) xX fun hn1=>?_
 replace hn1:=xl hn1
 refine zc rfl (zf rfl rfl (zb rfl)) wB ?_
 refine ze (zj (zQ ?_))
 refine yo (fun (n1:Nat) (s1:Unit)=>yO [1,2,3,4,5,6,10,11,12,13,14,15,16,17,18,19,20,21,22,23,24,25,26,27,28,29,30,31,32,33,34,35,36,37,38,39,40,41,42,43,44,45,46,47,48,49,50,51,52,53,54,55,56,57,58,59,60,61,62,63,64,65,66,67,68,69,70,71,72,73,74,75,76,77,78,79,80,81,82,83,84,85,86,87,88] [(9,.int .i64 (n1:Int))]) (fun s1=>h.ext [] []) hF (fun _ _=>by simp only [yO,upd,List.set_cons_succ,List.set_cons_zero];try rfl) (wk.le (by exact (.eq (.d4 (.drop (.drop (.eq (.eq (.cons (leV.of_eq rfl) (.d16 (.d16 (.d16 (.d16 (.d4 (.d4 (.d4 (.drop (.drop (.drop leL.nil))))))))))))))))))) ?_
 intro n1 s1 hi1 hF
 refine zk (zd ?_)
 refine zc rfl (zy rfl xV xj rfl) yL ?_
 refine ze (zj (zk ?_))
 refine yJ yq hF (fun x1 o1 hl1 hx1 hF hK1=>?_) (fun hF=>?_)
 ·refine zK (zj (zk (zQ (zk (zd ?_)))))
  refine zc rfl (zf rfl xV (zb rfl)) yP ?_
  refine zc rfl (yj rfl qE xH xV w7 (yK hx1)) yX ?_
  refine zc rfl (ye rfl ty54.choose_spec.1 yM (zH (cs':=[.sl 1 (x1.path.map zP),.int .u8 x1.typ,.bool x1.had,.bool x1.has,.int .u8 x1.was.typ,.int .i64 x1.was.n,.int .u64 x1.was.time,.int .u8 x1.was.dot.actor.rep,.int .u32 x1.was.dot.actor.inc,.int .u64 x1.was.dot.seq,.str x1.was.text,.sl 5 (x1.was.items.map GItem.row),.sl 3 (x1.was.tombs.map GDot.row),.int .u8 x1.is.typ,.int .i64 x1.is.n,.int .u64 x1.is.time,.int .u8 x1.is.dot.actor.rep,.int .u32 x1.is.dot.actor.inc,.int .u64 x1.is.dot.seq,.str x1.is.text,.sl 5 (x1.is.items.map GItem.row),.sl 3 (x1.is.tombs.map GDot.row)]) ty54.choose_spec.2 rfl rfl) (zb rfl)) yW ?_
  refine zc rfl (y4 (n:=0) rfl ze54 rfl) yB ?_
  refine zc rfl (zi rfl yA (zb rfl)) wo ?_
  refine zc rfl (yg (cs':=[.sl 1 (x1.path.map zP),.int .u8 x1.typ,.bool x1.had,.bool x1.has,.int .u8 x1.was.typ,.int .i64 x1.was.n,.int .u64 x1.was.time,.int .u8 x1.was.dot.actor.rep,.int .u32 x1.was.dot.actor.inc,.int .u64 x1.was.dot.seq,.str x1.was.text,.sl 5 (x1.was.items.map GItem.row),.sl 3 (x1.was.tombs.map GDot.row),.int .u8 x1.is.typ,.int .i64 x1.is.n,.int .u64 x1.is.time,.int .u8 x1.is.dot.actor.rep,.int .u32 x1.is.dot.actor.inc,.int .u64 x1.is.dot.seq,.str x1.is.text,.sl 5 (x1.is.items.map GItem.row),.sl 3 (x1.is.tombs.map GDot.row)]) rfl ty54.choose_spec.1 yz yC (zb rfl) rfl rfl rfl rfl rfl) rfl ?_
  refine ze (zj (zk (zd ?_)))
  refine zc rfl (zg rfl fo54x1 yz rfl) y5 ?_
  refine zc rfl (zu rfl ty5 yY rfl (zr rfl) (zb rfl)) y6 ?_
  refine zc rfl (zy rfl yT rfl rfl) xg ?_
  refine zc rfl (zf rfl xd (zb rfl)) xk ?_
  refine zp rfl (fun hb=>zg rfl fo54x1 yz rfl) xD ?_
  refine zp rfl (fun hb=>zu rfl ty5 (zn xB hb) rfl (zr rfl) (zb rfl)) xK ?_
  refine zp rfl (fun hb=>zy rfl (zn xJ hb) rfl rfl) xY ?_
  refine zc rfl (zM rfl xi xZ rfl (zX (fun ht=>gT ht))) x7 ?_
  refine zc rfl (zi rfl x5 (zb rfl)) xz ?_
  refine ze (zj (zk (zd ?_)))
  refine zc rfl (zg rfl fo54x2 yz rfl) wl ?_
  refine zc rfl (zu rfl ty4 wi rfl (zr rfl) (zb rfl)) x6 ?_
  refine zc rfl (zf rfl xN (zb rfl)) wh ?_
  refine zp rfl (fun hb=>zg rfl fo54x3 yz rfl) wj ?_
  refine zp rfl (fun hb=>zu rfl ty4 (zn wb hb) rfl (zr rfl) (zb rfl)) wF ?_
  refine zc rfl (zM rfl wc wE rfl (zX (fun ht=>gT ht))) wM ?_
  refine zc rfl (zf rfl wN (zb rfl)) wL ?_
  refine zp rfl (fun hb=>zg rfl fo54x4 yz rfl) wW ?_
  refine zp rfl (fun hb=>zu rfl ty48.choose_spec.1 (zn w6 hb) rfl (zH (cs':=[.int .u8 x1.was.typ,.int .i64 x1.was.n,.int .u64 x1.was.time,.int .u8 x1.was.dot.actor.rep,.int .u32 x1.was.dot.actor.inc,.int .u64 x1.was.dot.seq,.str x1.was.text,.sl 5 (x1.was.items.map GItem.row),.sl 3 (x1.was.tombs.map GDot.row)]) ty48.choose_spec.2 rfl rfl) (zb rfl)) wV ?_
  refine zp rfl (fun hb=>zg rfl fo54x5 yz rfl) wU ?_
  refine zp rfl (fun hb=>zu rfl ty48.choose_spec.1 (zn w5 hb) rfl (zH (cs':=[.int .u8 x1.is.typ,.int .i64 x1.is.n,.int .u64 x1.is.time,.int .u8 x1.is.dot.actor.rep,.int .u32 x1.is.dot.actor.inc,.int .u64 x1.is.dot.seq,.str x1.is.text,.sl 5 (x1.is.items.map GItem.row),.sl 3 (x1.is.tombs.map GDot.row)]) ty48.choose_spec.2 rfl rfl) (zb rfl)) vl ?_
  refine yN hF (fun v13 hv13 hF=>?_)
  refine yk rfl (fun hb=>zC rfl rfl rfl (zo (zn vg hb) (zo (zn vf hb) zw)) (.cons (zb rfl) (.cons (zb rfl) .nil))) (fun hb=>ok20 (hv13 hb)) vk ?_
  refine zc rfl (zM rfl wH vt rfl (zX (fun ht=>gT ht))) vb ?_
  refine zc rfl (zi rfl wZ (zb rfl)) xE ?_
  refine ze (zj (zk (zk (zd ?_))))
  refine zc rfl (zg rfl qX yz rfl) va ?_
  refine zc rfl (zu rfl ty52 ve rfl (zr rfl) (zb rfl)) w9 ?_
  refine zR hF (fun v14 hv14 hF=>?_)
  refine zN rfl (zC rfl rfl rfl (zo wY zw) (.cons (zb rfl) .nil)) (ok38 hv14) vj ?_
  refine zc rfl (xR rfl wX rfl) vI ?_
  refine zc rfl (zf rfl vM (zb rfl)) vA ?_
  refine zp rfl (fun hb=>zf rfl yS (zb rfl)) (sk st0) ?_
  refine zp rfl (fun hb=>xR rfl (zn (gk yr) hb) rfl) (sk st1) ?_
  refine zc rfl (zM rfl vr rfl (gk yF) (z8 (fun ht=>gF ht))) (sk xh) ?_
  refine zc rfl (zf rfl (gk yV) (zb rfl)) (sk wo) ?_
  refine zp rfl (fun hb=>zg rfl fo54x2 yz rfl) (sk yB) ?_
  refine zp rfl (fun hb=>zu rfl ty4 (zn (gk yz) hb) rfl (zr rfl) (zb rfl)) (sk xz) ?_
  refine zp rfl (fun hb=>xR rfl (zn (gk yS) hb) rfl) (sk xE) ?_
  refine zp rfl (fun hb=>zf rfl (zn (gk yU) hb) (zb rfl)) (sk xO) ?_
  refine zp (z7 rfl rfl rfl) (fun hb=>zg rfl fo54x3 yz rfl) (sk xX) ?_
  refine zp (z7 rfl rfl rfl) (fun hb=>zu rfl ty4 (zn (gk xj) hb) rfl (zr rfl) (zb rfl)) (sk wB) ?_
  refine zp (z7 rfl rfl rfl) (fun hb=>xR rfl (zn (gk xV) hb) rfl) (sk yL) ?_
  refine zp rfl (fun hb=>zM rfl (zn (gk xH) hb) (gk yq) rfl (zX (fun ht=>gT2 hb ht))) (sk yP) ?_
  refine zc rfl (zM rfl (gk xn) rfl (gk yA) (z8 (fun ht=>gF ht))) (sk yX) ?_
  refine zc rfl (zf rfl (gk yM) (zb rfl)) (sk yW) ?_
  refine zp rfl (fun hb=>zf rfl yU (zb rfl)) (sk y5) ?_
  refine zc rfl (zM rfl (gk yC) rfl (gk yY) (z8 (fun ht=>gF ht))) (sk y6) ?_
  refine zc rfl (zf rfl (gk yT) (zb rfl)) (sk xg) ?_
  refine zp rfl (fun hb=>zg rfl fo54x2 yz rfl) (sk xk) ?_
  refine zp rfl (fun hb=>zu rfl ty4 (zn (gk xi) hb) rfl (zr rfl) (zb rfl)) (sk xD) ?_
  refine zp rfl (fun hb=>zg rfl fo54x4 yz rfl) (sk xK) ?_
  refine zp rfl (fun hb=>zu rfl ty48.choose_spec.1 (zn (gk xJ) hb) rfl (zH (cs':=[.int .u8 x1.was.typ,.int .i64 x1.was.n,.int .u64 x1.was.time,.int .u8 x1.was.dot.actor.rep,.int .u32 x1.was.dot.actor.inc,.int .u64 x1.was.dot.seq,.str x1.was.text,.sl 5 (x1.was.items.map GItem.row),.sl 3 (x1.was.tombs.map GDot.row)]) ty48.choose_spec.2 rfl rfl) (zb rfl)) (sk xY) ?_
  refine zp rfl (fun hb=>zg rfl fo54x1 yz rfl) (sk x7) ?_
  refine zp rfl (fun hb=>zu rfl ty5 (zn (gk x5) hb) rfl (zr rfl) (zb rfl)) (sk wl) ?_
  refine yN hF (fun v15 hv15 hF=>?_)
  refine yk rfl (fun hb=>zC rfl rfl rfl (zo (zn (gk xB) hb) (zo (zn (gk xZ) hb) (zo (zn (gk wi) hb) zw))) (.cons (zb rfl) (.cons (zb rfl) (.cons (zb rfl) .nil)))) (fun hb=>ok39 (hv15 hb)) (sk x6) ?_
  refine zp rfl (fun hb=>xR rfl (zn (gk xN) hb) rfl) (sk wh) ?_
  refine zc rfl (zM rfl (gk xd) rfl (gk wc) (z8 (fun ht=>gF ht))) (sk wj) ?_
  refine zc rfl (zf rfl (gk wb) (zb rfl)) (sk wF) ?_
  refine zp rfl (fun hb=>zg rfl fo54x3 yz rfl) (sk wM) ?_
  refine zp rfl (fun hb=>zu rfl ty4 (zn (gk wN) hb) rfl (zr rfl) (zb rfl)) (sk wL) ?_
  refine zp rfl (fun hb=>zg rfl fo54x5 yz rfl) (sk wW) ?_
  refine zp rfl (fun hb=>zu rfl ty48.choose_spec.1 (zn (gk w6) hb) rfl (zH (cs':=[.int .u8 x1.is.typ,.int .i64 x1.is.n,.int .u64 x1.is.time,.int .u8 x1.is.dot.actor.rep,.int .u32 x1.is.dot.actor.inc,.int .u64 x1.is.dot.seq,.str x1.is.text,.sl 5 (x1.is.items.map GItem.row),.sl 3 (x1.is.tombs.map GDot.row)]) ty48.choose_spec.2 rfl rfl) (zb rfl)) (sk wV) ?_
  refine zp rfl (fun hb=>zg rfl fo54x1 yz rfl) (sk wU) ?_
  refine zp rfl (fun hb=>zu rfl ty5 (zn (gk w5) hb) rfl (zr rfl) (zb rfl)) (sk vl) ?_
  refine yN hF (fun v16 hv16 hF=>?_)
  refine yk rfl (fun hb=>zC rfl rfl rfl (zo (zn (gk wH) hb) (zo (zn (gk vg) hb) (zo (zn (gk vf) hb) zw))) (.cons (zb rfl) (.cons (zb rfl) (.cons (zb rfl) .nil)))) (fun hb=>ok39 (hv16 hb)) (sk vk) ?_
  refine zp rfl (fun hb=>xR rfl (zn (gk vt) hb) rfl) (sk vb) ?_
  refine zc rfl (zM rfl (gk wE) rfl (gk wZ) (z8 (fun ht=>gF ht))) (sk va) ?_
  refine ze (zj ?_)
  refine zO (gk ve) hF (fun hc17 hF=>?_) (fun hc17 hF=>?_)
  ·refine zk (zd ?_)
   refine zc rfl (zi rfl rfl (zb rfl)) xh ?_
   refine ze (zj (zL (zx ?_)))
   refine zF ?_
   refine zx ?_
   refine yd ?_
   obtain rfl:=Option.some.inj hF
   replace hF:=hK1
   refine zF ?_
   refine zx ?_
   obtain rfl:=Option.some.inj hF
   refine zA rfl (zD yV zG) (zz (leV.refl _) rfl ?_)
   exact ⟨rfl,rfl⟩
  ·refine zK (zj (zk ?_))
   refine yI [] [] trivial mixed (by kernel_rfl) ?_
   refine zq rfl rfl (zf rfl xn (zb rfl)) (sk w9) ?_
   refine zq rfl rfl (zy rfl (gk wY) rfl rfl) (sk vj) ?_
   refine zq rfl rfl (zf rfl (gk wX) (zb rfl)) (sk vI) ?_
   refine zB rfl rfl (fun hb=>zf rfl yr (zb rfl)) (sk vA) ?_
   refine zB rfl rfl (fun hb=>zf rfl xn (zb rfl)) (sk (sk st0)) ?_
   refine zB rfl rfl (fun hb=>zy rfl (zn (gk (gk yr)) hb) rfl rfl) (sk (sk st1)) ?_
   refine wS hF (fun hg18 hF=>?_)
   refine zB rfl rfl (fun hb=>xT default rfl qE (zn (gk vr) hb) (zn (gk (gk yF)) hb) w7 (hg18 hb)) (sk (sk xh)) ?_
   refine zB rfl rfl (fun hb=>ye rfl ty54.choose_spec.1 (zn (gk (gk yV)) hb) (zH (cs':=[.sl 1 ((((l0).getD (IntKind.wrap .i64 ((n1:Int) - (1:Int))).toNat default).path).map zP),.int .u8 (((l0).getD (IntKind.wrap .i64 ((n1:Int) - (1:Int))).toNat default).typ),.bool (((l0).getD (IntKind.wrap .i64 ((n1:Int) - (1:Int))).toNat default).had),.bool (((l0).getD (IntKind.wrap .i64 ((n1:Int) - (1:Int))).toNat default).has),.int .u8 (((l0).getD (IntKind.wrap .i64 ((n1:Int) - (1:Int))).toNat default).was.typ),.int .i64 (((l0).getD (IntKind.wrap .i64 ((n1:Int) - (1:Int))).toNat default).was.n),.int .u64 (((l0).getD (IntKind.wrap .i64 ((n1:Int) - (1:Int))).toNat default).was.time),.int .u8 (((l0).getD (IntKind.wrap .i64 ((n1:Int) - (1:Int))).toNat default).was.dot.actor.rep),.int .u32 (((l0).getD (IntKind.wrap .i64 ((n1:Int) - (1:Int))).toNat default).was.dot.actor.inc),.int .u64 (((l0).getD (IntKind.wrap .i64 ((n1:Int) - (1:Int))).toNat default).was.dot.seq),.str (((l0).getD (IntKind.wrap .i64 ((n1:Int) - (1:Int))).toNat default).was.text),.sl 5 ((((l0).getD (IntKind.wrap .i64 ((n1:Int) - (1:Int))).toNat default).was.items).map GItem.row),.sl 3 ((((l0).getD (IntKind.wrap .i64 ((n1:Int) - (1:Int))).toNat default).was.tombs).map GDot.row),.int .u8 (((l0).getD (IntKind.wrap .i64 ((n1:Int) - (1:Int))).toNat default).is.typ),.int .i64 (((l0).getD (IntKind.wrap .i64 ((n1:Int) - (1:Int))).toNat default).is.n),.int .u64 (((l0).getD (IntKind.wrap .i64 ((n1:Int) - (1:Int))).toNat default).is.time),.int .u8 (((l0).getD (IntKind.wrap .i64 ((n1:Int) - (1:Int))).toNat default).is.dot.actor.rep),.int .u32 (((l0).getD (IntKind.wrap .i64 ((n1:Int) - (1:Int))).toNat default).is.dot.actor.inc),.int .u64 (((l0).getD (IntKind.wrap .i64 ((n1:Int) - (1:Int))).toNat default).is.dot.seq),.str (((l0).getD (IntKind.wrap .i64 ((n1:Int) - (1:Int))).toNat default).is.text),.sl 5 ((((l0).getD (IntKind.wrap .i64 ((n1:Int) - (1:Int))).toNat default).is.items).map GItem.row),.sl 3 ((((l0).getD (IntKind.wrap .i64 ((n1:Int) - (1:Int))).toNat default).is.tombs).map GDot.row)]) ty54.choose_spec.2 rfl rfl) (zb rfl)) (sk (sk wo)) ?_
   refine zB rfl rfl (fun hb=>zu rfl ty54.choose_spec.1 yz rfl (zH (cs':=[.sl 1 (x1.path.map zP),.int .u8 x1.typ,.bool x1.had,.bool x1.has,.int .u8 x1.was.typ,.int .i64 x1.was.n,.int .u64 x1.was.time,.int .u8 x1.was.dot.actor.rep,.int .u32 x1.was.dot.actor.inc,.int .u64 x1.was.dot.seq,.str x1.was.text,.sl 5 (x1.was.items.map GItem.row),.sl 3 (x1.was.tombs.map GDot.row),.int .u8 x1.is.typ,.int .i64 x1.is.n,.int .u64 x1.is.time,.int .u8 x1.is.dot.actor.rep,.int .u32 x1.is.dot.actor.inc,.int .u64 x1.is.dot.seq,.str x1.is.text,.sl 5 (x1.is.items.map GItem.row),.sl 3 (x1.is.tombs.map GDot.row)]) ty54.choose_spec.2 rfl rfl) (zb rfl)) (sk (sk yB)) ?_
   refine yN hF (fun v19 hv19 hF=>?_)
   refine vC rfl rfl (fun hb=>zC rfl rfl rfl (zo (zn (gk (gk xn)) hb) (zo (zn (gk (gk yz)) hb) zw)) (.cons (zb rfl) (.cons (zb rfl) .nil))) (fun hb=>ok37 (hv19 hb)) (sk (sk xz)) ?_
   refine zB rfl rfl (fun hb=>zy rfl (zn (gk (gk yS)) hb) rfl rfl) (sk (sk xE)) ?_
   refine zq rfl rfl (zM rfl (gk vM) (gk (gk yU)) rfl (zX (fun ht=>gT ht))) (sk (sk xO)) ?_
   refine ym ?_
   refine zj ?_
   refine zO (gk (gk xH)) hF (fun hc20 hF=>?_) (fun hc20 hF=>?_)
   ·refine zk (zd ?_)
    refine zc rfl (zi rfl rfl (zb rfl)) xh ?_
    refine ze (zj (zL ?_))
    refine zF ?_
    refine zx ?_
    refine yd ?_
    obtain rfl:=Option.some.inj hF
    replace hF:=hK1
    refine zF ?_
    refine zx ?_
    obtain rfl:=Option.some.inj hF
    refine zA rfl (zD yV zG) (zz (leV.refl _) rfl ?_)
    exact ⟨rfl,rfl⟩
   ·refine zK (yh (zj (zd ?_)))
    refine zc rfl (zy rfl xV rfl rfl) (sk (sk xX)) ?_
    refine zc rfl (zf rfl (gk (gk xj)) (zb rfl)) wB ?_
    refine ze (yH ?_)
    obtain rfl:=Option.some.inj hF
    exact ⟨(),hl1,hK1,wk.trans (wk.le (by exact (.eq (.d4 (.drop (.drop (.eq (.eq (.cons (leV.of_eq (w8 (by omega) (by omega))) (.d16 (.d16 (.d16 (.d16 (.d4 (.d4 (.d4 (.drop (.drop (.drop leL.nil))))))))))))))))))) (xI (by simp [yi,AV.low]) rfl rfl (by simp [Blk.low,yi,AV.low]))⟩
 ·refine yR ?_
  refine ya ?_
  refine zV ?_
  refine zW ?_
  refine zj (zk (zd ?_))
  refine zc rfl (zi rfl rfl (zb rfl)) xh ?_
  refine ze (zj (zL ?_))
  obtain rfl:=Option.some.inj hF
  refine zA rfl (zD yV zG) (zz (leV.refl _) rfl ?_)
  exact ⟨rfl,rfl⟩
/-! varve/diff.Chain -/
theorem ok8 {l0:(List GEdit)} {m1:(List GEdit)} {res:((List GEdit)×Int)} {h:AH}  (hF:diffChain l0 m1=some res):Spec Tryz.prog 8 [.sl 22 (l0.map GEdit.row),.sl 22 (m1.map GEdit.row)] h (fun rr hh=>rr=.tup [.sl 22 (res.1.map GEdit.row),.int .i64 res.2]∧hh=h):=by
 unfold diffChain at hF
 refine zt Tryz.func8 rfl (by kernel_rfl) (env:=[.sl 22 (l0.map GEdit.row),.sl 22 (m1.map GEdit.row),za,za,za,za,za,za,za,za,za,za,za,za,za,za,za,za,za,za,za,za,za,za,za,za,za,za,za,za,za,za,za,za,za,za,za,za,za,za,za,za,za,za,za,za,za,za,za,za,za,za,za,za,za,za,za,za,za,za,za,za,za,za,za,za,za,za,za,za,za,za,za,za,za,za,za,za,za,za]) (by rfl) ?_
 refine zk (zd ?_)
 refine zc rfl (zi rfl rfl (xy qE)) yB ?_
 refine zc rfl (zi rfl rfl (zb rfl)) xz ?_
 refine ze (zj (zk (zk (zd ?_))))
 refine zc rfl (zf rfl yr (zb rfl)) y5 ?_
 refine zR hF (fun v1 hv1 hF=>?_)
 refine zN rfl (zC rfl rfl rfl (zo yY zw) (.cons (zb rfl) .nil)) (ok19 hv1) y6 ?_
 refine zc rfl (xR rfl yT rfl) xg ?_
 refine zc rfl (zf rfl xd (zb rfl)) xk ?_
 refine zp rfl (fun hb=>zf rfl yF (zb rfl)) xD ?_
 refine yN hF (fun v2 hv2 hF=>?_)
 refine yk rfl (fun hb=>zC rfl rfl rfl (zo (zn xB hb) zw) (.cons (zb rfl) .nil)) (fun hb=>ok19 (hv2 hb)) xK ?_
 refine zp rfl (fun hb=>xR rfl (zn xJ hb) rfl) xY ?_
 refine zc rfl (zM rfl xi rfl xZ (z8 (fun ht=>gF ht))) x7 ?_
 refine ze (zj ?_)
 refine zO x5 hF (fun hc3 hF=>?_) (fun hc3 hF=>?_)
 ·refine zk (zd ?_)
  refine zc rfl (zi rfl rfl (xy qE)) yB ?_
  refine zc rfl (zi rfl rfl (zb rfl)) xz ?_
  refine ze (zj (zL (zx ?_)))
  obtain rfl:=Option.some.inj hF
  refine qm rfl (zD yz (zD yS zG)) (zz (leV.tup (.cons (leV.osl _ _ _) (.eq leL.nil))) rfl ?_)
  exact ⟨rfl,rfl⟩
 ·refine zK (zj (zk (zd ?_)))
  refine zc rfl (e_makeMap (n:=0) rfl rfl) wl ?_
  refine zc rfl (zi rfl wi (zb rfl)) xE ?_
  refine ze (zj (zk (zk (zd ?_))))
  refine zc rfl (zf rfl yr (zb rfl)) x6 ?_
  refine yb rfl (zS rfl rfl rfl rfl qE xN yc) wh fun hn4=>?_
  replace hn4:=xl hn4
  refine zc rfl (zf rfl rfl (zb rfl)) wj ?_
  refine ze (zj (zQ ?_))
  refine yo (fun (n1:Nat) (s1:List (zJ×GEdit))=>yO [0,2,3,4,5,7,8,9,10,11,12,13,14,15,16,17,18,19,20,21,22,26,27,28,29,30,31,32,33,34,35,36,37,38,39,40,41,42,43,44,45,46,47,48,49,50,51,52,53,54,55,56,57,58,59,60,61,62,63,64,65,66,67,68,69,70,71,72,73,74,75,76,77,78,79] [(25,.int .i64 (n1:Int))]) (fun s1=>h.ext [.mapo (s1.map (qb AV.str (fun x=>AV.agg (GEdit.row x)))) 0] []) hF (fun _ _=>by simp only [yO,upd,List.set_cons_succ,List.set_cons_zero];try rfl) (wk.le (by exact (.drop (.eq (.d4 (.eq (.d16 (.eq (.eq (.cons (leV.of_eq rfl) (.d16 (.d16 (.d16 (.d4 (.drop (.drop leL.nil)))))))))))))))) ?_
  intro n1 s1 hi1 hF
  refine zk (zd ?_)
  refine zc rfl (zy rfl wb wc rfl) wF ?_
  refine ze (zj (zk ?_))
  refine yJ wE hF (fun x1 o1 hl1 hx1 hF hK1=>?_) (fun hF=>?_)
  ·refine zK (zj (zk (zQ (zk (zd ?_)))))
   refine zc rfl (yj rfl qE xN wb w7 (yK hx1)) wM ?_
   refine zc rfl (ye rfl ty54.choose_spec.1 wN (zH (cs':=[.sl 1 (x1.path.map zP),.int .u8 x1.typ,.bool x1.had,.bool x1.has,.int .u8 x1.was.typ,.int .i64 x1.was.n,.int .u64 x1.was.time,.int .u8 x1.was.dot.actor.rep,.int .u32 x1.was.dot.actor.inc,.int .u64 x1.was.dot.seq,.str x1.was.text,.sl 5 (x1.was.items.map GItem.row),.sl 3 (x1.was.tombs.map GDot.row),.int .u8 x1.is.typ,.int .i64 x1.is.n,.int .u64 x1.is.time,.int .u8 x1.is.dot.actor.rep,.int .u32 x1.is.dot.actor.inc,.int .u64 x1.is.dot.seq,.str x1.is.text,.sl 5 (x1.is.items.map GItem.row),.sl 3 (x1.is.tombs.map GDot.row)]) ty54.choose_spec.2 rfl rfl) (zb rfl)) wL ?_
   refine zc rfl (y4 (n:=1) rfl ze54 rfl) xX ?_
   refine zc rfl (yg (cs':=[.sl 1 (x1.path.map zP),.int .u8 x1.typ,.bool x1.had,.bool x1.has,.int .u8 x1.was.typ,.int .i64 x1.was.n,.int .u64 x1.was.time,.int .u8 x1.was.dot.actor.rep,.int .u32 x1.was.dot.actor.inc,.int .u64 x1.was.dot.seq,.str x1.was.text,.sl 5 (x1.was.items.map GItem.row),.sl 3 (x1.was.tombs.map GDot.row),.int .u8 x1.is.typ,.int .i64 x1.is.n,.int .u64 x1.is.time,.int .u8 x1.is.dot.actor.rep,.int .u32 x1.is.dot.actor.inc,.int .u64 x1.is.dot.seq,.str x1.is.text,.sl 5 (x1.is.items.map GItem.row),.sl 3 (x1.is.tombs.map GDot.row)]) rfl ty54.choose_spec.1 xj wH (zb rfl) rfl rfl rfl rfl rfl) rfl ?_
   refine ze (zj ?_)
   refine yI [5] [] trivial mixed (by kernel_rfl) ?_
   refine zq rfl rfl (zf rfl yU (zb rfl)) wW ?_
   refine zq rfl rfl (zg rfl qX xj rfl) wV ?_
   refine zq rfl rfl (zu rfl ty52 vg rfl (zr rfl) (zb rfl)) wU ?_
   refine zq rfl rfl (zg rfl fo54x1 xj rfl) vl ?_
   refine zq rfl rfl (zu rfl ty5 vf rfl (zr rfl) (zb rfl)) vk ?_
   refine zR hF (fun v10 hv10 hF=>?_)
   refine yu rfl rfl (fun _=>zC rfl rfl rfl (zo w5 (zo vt zw)) (.cons (zb rfl) (.cons (zb rfl) .nil))) (by rintro _ ⟨B2,T2,rfl,hk2⟩;exact ok17 hv10) vb ?_
   refine zq rfl rfl (zu rfl ty54.choose_spec.1 xj rfl (zH (cs':=[.sl 1 (x1.path.map zP),.int .u8 x1.typ,.bool x1.had,.bool x1.has,.int .u8 x1.was.typ,.int .i64 x1.was.n,.int .u64 x1.was.time,.int .u8 x1.was.dot.actor.rep,.int .u32 x1.was.dot.actor.inc,.int .u64 x1.was.dot.seq,.str x1.was.text,.sl 5 (x1.was.items.map GItem.row),.sl 3 (x1.was.tombs.map GDot.row),.int .u8 x1.is.typ,.int .i64 x1.is.n,.int .u64 x1.is.time,.int .u8 x1.is.dot.actor.rep,.int .u32 x1.is.dot.actor.inc,.int .u64 x1.is.dot.seq,.str x1.is.text,.sl 5 (x1.is.items.map GItem.row),.sl 3 (x1.is.tombs.map GDot.row)]) ty54.choose_spec.2 rfl rfl) (zb rfl)) va ?_
   refine yZ rfl (FOk.cons (.inr (xP trivial)) FOk.nil) (by kernel_rfl) rfl (e_mapPut (m:=s1) (k:=v10) (v:=x1) (j:=0) (kv:=AV.str) (vv:=(fun x=>AV.agg (GEdit.row x))) rfl Tryz.underlying55 kq9 w6 rfl wZ ve rfl rfl) rfl ?_
   refine ym ?_
   refine yh (zj (zd ?_))
   refine zc rfl (zy rfl wb rfl rfl) w9 ?_
   refine zc rfl (zf rfl wY (zb rfl)) wj ?_
   refine ze (yH ?_)
   obtain rfl:=Option.some.inj hF
   exact ⟨(xG (fun a b=>a==b) s1 v10 x1),hl1,hK1,wk.trans (wk.le (by exact (.drop (.eq (.d4 (.eq (.d16 (.eq (.eq (.cons (leV.of_eq (w8 (by omega) (by omega))) (.d16 (.d16 (.d16 (.d4 (.drop (.drop leL.nil)))))))))))))))) (xI (by simp [yi,AV.low]) rfl rfl (by simp [Blk.low,yi,AV.low,GEdit.row,qb]))⟩
  ·refine yR ?_
   refine ya ?_
   refine zV ?_
   refine zW ?_
   refine zj (zk (zk (zd ?_)))
   refine zc rfl (zf rfl yF (zb rfl)) vj ?_
   refine yb rfl (zS rfl rfl rfl rfl qE wX yc) vI fun hn11=>?_
   replace hn11:=xl hn11
   refine zc rfl (zf rfl rfl (zb rfl)) vA ?_
   refine ze (zj (zQ ?_))
   refine yo (fun (n2:Nat) (s2:List (zJ×GEdit))=>yO [0,1,2,3,4,5,7,8,9,10,11,12,13,14,15,16,17,18,19,20,21,22,23,24,25,26,27,28,29,30,31,32,33,34,35,36,40,41,42,43,44,45,46,47,48,49,50,51,52,53,54,55,56,57,58,59,60,61,62,63,64,65,66,67,68,69,70,71,72,73,74,75,76,77,78,79] [(39,.int .i64 (n2:Int))]) (fun s2=>h.ext [.mapo (s2.map (qb AV.str (fun x=>AV.agg (GEdit.row x)))) 0] []) hF (fun _ _=>by simp only [yO,upd,List.set_cons_succ,List.set_cons_zero];try rfl) (wk.le (by exact (.d4 (.drop (.drop (.eq (.d16 (.d4 (.d4 (.d4 (.drop (.drop (.eq (.eq (.cons (leV.of_eq rfl) (.d16 (.d16 (.d4 (.d4 leL.nil))))))))))))))))))) ?_
   intro n2 s2 hi2 hF
   refine zk (zd ?_)
   refine zc rfl (zy rfl vr vM rfl) (sk st0) ?_
   refine ze (zj (zk ?_))
   refine yJ (gk yr) hF (fun x2 o2 hl2 hx2 hF hK2=>?_) (fun hF=>?_)
   ·refine zK (zj (zk (zQ (zk (zd ?_)))))
    refine zc rfl (yj rfl qE wX vr w7 (yK hx2)) (sk st1) ?_
    refine zc rfl (ye rfl ty54.choose_spec.1 (gk yF) (zH (cs':=[.sl 1 (x2.path.map zP),.int .u8 x2.typ,.bool x2.had,.bool x2.has,.int .u8 x2.was.typ,.int .i64 x2.was.n,.int .u64 x2.was.time,.int .u8 x2.was.dot.actor.rep,.int .u32 x2.was.dot.actor.inc,.int .u64 x2.was.dot.seq,.str x2.was.text,.sl 5 (x2.was.items.map GItem.row),.sl 3 (x2.was.tombs.map GDot.row),.int .u8 x2.is.typ,.int .i64 x2.is.n,.int .u64 x2.is.time,.int .u8 x2.is.dot.actor.rep,.int .u32 x2.is.dot.actor.inc,.int .u64 x2.is.dot.seq,.str x2.is.text,.sl 5 (x2.is.items.map GItem.row),.sl 3 (x2.is.tombs.map GDot.row)]) ty54.choose_spec.2 rfl rfl) (zb rfl)) (sk xh) ?_
    refine zc rfl (y4 (n:=1) rfl ze54 rfl) yL ?_
    refine zc rfl (yg (cs':=[.sl 1 (x2.path.map zP),.int .u8 x2.typ,.bool x2.had,.bool x2.has,.int .u8 x2.was.typ,.int .i64 x2.was.n,.int .u64 x2.was.time,.int .u8 x2.was.dot.actor.rep,.int .u32 x2.was.dot.actor.inc,.int .u64 x2.was.dot.seq,.str x2.was.text,.sl 5 (x2.was.items.map GItem.row),.sl 3 (x2.was.tombs.map GDot.row),.int .u8 x2.is.typ,.int .i64 x2.is.n,.int .u64 x2.is.time,.int .u8 x2.is.dot.actor.rep,.int .u32 x2.is.dot.actor.inc,.int .u64 x2.is.dot.seq,.str x2.is.text,.sl 5 (x2.is.items.map GItem.row),.sl 3 (x2.is.tombs.map GDot.row)]) rfl ty54.choose_spec.1 yq (gk yV) (zb rfl) rfl rfl rfl rfl rfl) rfl ?_
    refine ze (zj (zk (zd ?_)))
    refine zc rfl (zg rfl qX yq rfl) (sk wo) ?_
    refine zc rfl (zu rfl ty52 (gk xn) rfl (zr rfl) (zb rfl)) (sk yB) ?_
    refine zc rfl (zg rfl fo54x1 yq rfl) (sk xz) ?_
    refine zc rfl (zu rfl ty5 (gk yS) rfl (zr rfl) (zb rfl)) (sk xE) ?_
    refine zR hF (fun v20 hv20 hF=>?_)
    refine zN rfl (zC rfl rfl rfl (zo (gk yz) (zo (gk yU) zw)) (.cons (zb rfl) (.cons (zb rfl) .nil))) (ok17 hv20) (sk xO) ?_
    refine zc rfl (zi rfl (gk xH) (zb rfl)) yP ?_
    refine ze (zj (zk (zk (zd ?_))))
    refine zc rfl (zf rfl yU (zb rfl)) (sk wB) ?_
    refine zc rfl (zf rfl yA (zb rfl)) (sk yL) ?_
    refine zc rfl (e_lookupOk (m:=s2) (k:=v20) (d:=(GEdit.mk ([]:List zJ) (0:Int) false false zZ zZ)) (j:=0) (kv:=AV.str) (vv:=(fun x=>AV.agg (GEdit.row x))) rfl Tryz.underlying55 kq9 az54 (gk xV) rfl (gk yq)) (sk yP) ?_
    refine zc rfl (zf rfl (gk yA) (zb rfl)) (sk xX) ?_
    refine zc rfl (yn rfl (gk xj) rfl (zb rfl)) (sk yX) ?_
    refine zc rfl (yn rfl (gk xj) rfl (zb rfl)) (sk yW) ?_
    refine zc rfl (y4 (n:=2) rfl ze54 rfl) yX ?_
    refine zc rfl (yg (cs':=[.sl 1 (((zI (fun a b=>a==b) (GEdit.mk ([]:List zJ) (0:Int) false false zZ zZ) s2 v20).path).map zP),.int .u8 ((zI (fun a b=>a==b) (GEdit.mk ([]:List zJ) (0:Int) false false zZ zZ) s2 v20).typ),.bool ((zI (fun a b=>a==b) (GEdit.mk ([]:List zJ) (0:Int) false false zZ zZ) s2 v20).had),.bool ((zI (fun a b=>a==b) (GEdit.mk ([]:List zJ) (0:Int) false false zZ zZ) s2 v20).has),.int .u8 ((zI (fun a b=>a==b) (GEdit.mk ([]:List zJ) (0:Int) false false zZ zZ) s2 v20).was.typ),.int .i64 ((zI (fun a b=>a==b) (GEdit.mk ([]:List zJ) (0:Int) false false zZ zZ) s2 v20).was.n),.int .u64 ((zI (fun a b=>a==b) (GEdit.mk ([]:List zJ) (0:Int) false false zZ zZ) s2 v20).was.time),.int .u8 ((zI (fun a b=>a==b) (GEdit.mk ([]:List zJ) (0:Int) false false zZ zZ) s2 v20).was.dot.actor.rep),.int .u32 ((zI (fun a b=>a==b) (GEdit.mk ([]:List zJ) (0:Int) false false zZ zZ) s2 v20).was.dot.actor.inc),.int .u64 ((zI (fun a b=>a==b) (GEdit.mk ([]:List zJ) (0:Int) false false zZ zZ) s2 v20).was.dot.seq),.str ((zI (fun a b=>a==b) (GEdit.mk ([]:List zJ) (0:Int) false false zZ zZ) s2 v20).was.text),.sl 5 (((zI (fun a b=>a==b) (GEdit.mk ([]:List zJ) (0:Int) false false zZ zZ) s2 v20).was.items).map GItem.row),.sl 3 (((zI (fun a b=>a==b) (GEdit.mk ([]:List zJ) (0:Int) false false zZ zZ) s2 v20).was.tombs).map GDot.row),.int .u8 ((zI (fun a b=>a==b) (GEdit.mk ([]:List zJ) (0:Int) false false zZ zZ) s2 v20).is.typ),.int .i64 ((zI (fun a b=>a==b) (GEdit.mk ([]:List zJ) (0:Int) false false zZ zZ) s2 v20).is.n),.int .u64 ((zI (fun a b=>a==b) (GEdit.mk ([]:List zJ) (0:Int) false false zZ zZ) s2 v20).is.time),.int .u8 ((zI (fun a b=>a==b) (GEdit.mk ([]:List zJ) (0:Int) false false zZ zZ) s2 v20).is.dot.actor.rep),.int .u32 ((zI (fun a b=>a==b) (GEdit.mk ([]:List zJ) (0:Int) false false zZ zZ) s2 v20).is.dot.actor.inc),.int .u64 ((zI (fun a b=>a==b) (GEdit.mk ([]:List zJ) (0:Int) false false zZ zZ) s2 v20).is.dot.seq),.str ((zI (fun a b=>a==b) (GEdit.mk ([]:List zJ) (0:Int) false false zZ zZ) s2 v20).is.text),.sl 5 (((zI (fun a b=>a==b) (GEdit.mk ([]:List zJ) (0:Int) false false zZ zZ) s2 v20).is.items).map GItem.row),.sl 3 (((zI (fun a b=>a==b) (GEdit.mk ([]:List zJ) (0:Int) false false zZ zZ) s2 v20).is.tombs).map GDot.row)]) rfl ty54.choose_spec.1 yM (gk yM) (zb rfl) rfl rfl rfl rfl rfl) rfl ?_
    refine zc rfl (zi rfl (gk yC) (zb rfl)) yW ?_
    refine ze (zj (zk (zd ?_)))
    refine zc rfl (zf rfl yC (zb rfl)) (sk y5) ?_
    refine ze (zj ?_)
    refine zO (gk yY) hF (fun hc21 hF=>?_) (fun hc21 hF=>?_)
    ·refine zk (zk (zd ?_))
     refine zc rfl (zg rfl fo54x3 yM rfl) (sk y6) ?_
     refine zc rfl (zu rfl ty4 (gk yT) rfl (zr rfl) (zb rfl)) (sk xg) ?_
     refine zc rfl (zg rfl fo54x2 yq rfl) (sk xk) ?_
     refine zc rfl (zu rfl ty4 (gk xi) rfl (zr rfl) (zb rfl)) (sk xD) ?_
     refine zc rfl (zy rfl (gk xd) (gk xB) (bin_boolN ty4)) (sk xK) ?_
     refine zc rfl (zf rfl (gk xJ) (zb rfl)) (sk xY) ?_
     refine zp rfl (fun hb=>zg rfl fo54x5 yM rfl) (sk x7) ?_
     refine zp rfl (fun hb=>zu rfl ty48.choose_spec.1 (zn (gk x5) hb) rfl (zH (cs':=[.int .u8 ((zI (fun a b=>a==b) (GEdit.mk ([]:List zJ) (0:Int) false false zZ zZ) s2 v20).is.typ),.int .i64 ((zI (fun a b=>a==b) (GEdit.mk ([]:List zJ) (0:Int) false false zZ zZ) s2 v20).is.n),.int .u64 ((zI (fun a b=>a==b) (GEdit.mk ([]:List zJ) (0:Int) false false zZ zZ) s2 v20).is.time),.int .u8 ((zI (fun a b=>a==b) (GEdit.mk ([]:List zJ) (0:Int) false false zZ zZ) s2 v20).is.dot.actor.rep),.int .u32 ((zI (fun a b=>a==b) (GEdit.mk ([]:List zJ) (0:Int) false false zZ zZ) s2 v20).is.dot.actor.inc),.int .u64 ((zI (fun a b=>a==b) (GEdit.mk ([]:List zJ) (0:Int) false false zZ zZ) s2 v20).is.dot.seq),.str ((zI (fun a b=>a==b) (GEdit.mk ([]:List zJ) (0:Int) false false zZ zZ) s2 v20).is.text),.sl 5 (((zI (fun a b=>a==b) (GEdit.mk ([]:List zJ) (0:Int) false false zZ zZ) s2 v20).is.items).map GItem.row),.sl 3 (((zI (fun a b=>a==b) (GEdit.mk ([]:List zJ) (0:Int) false false zZ zZ) s2 v20).is.tombs).map GDot.row)]) ty48.choose_spec.2 rfl rfl) (zb rfl)) (sk wl) ?_
     refine zp rfl (fun hb=>zg rfl fo54x4 yq rfl) (sk x6) ?_
     refine zp rfl (fun hb=>zu rfl ty48.choose_spec.1 (zn (gk xN) hb) rfl (zH (cs':=[.int .u8 x2.was.typ,.int .i64 x2.was.n,.int .u64 x2.was.time,.int .u8 x2.was.dot.actor.rep,.int .u32 x2.was.dot.actor.inc,.int .u64 x2.was.dot.seq,.str x2.was.text,.sl 5 (x2.was.items.map GItem.row),.sl 3 (x2.was.tombs.map GDot.row)]) ty48.choose_spec.2 rfl rfl) (zb rfl)) (sk wh) ?_
     refine yN hF (fun v22 hv22 hF=>?_)
     refine yk rfl (fun hb=>zC rfl rfl rfl (zo (zn (gk wi) hb) (zo (zn (gk wc) hb) zw)) (.cons (zb rfl) (.cons (zb rfl) .nil))) (fun hb=>ok20 (hv22 hb)) (sk wj) ?_
     refine zp rfl (fun hb=>xR rfl (zn (gk wb) hb) rfl) (sk wF) ?_
     refine zc rfl (zM rfl (gk xZ) rfl (gk wE) (z8 (fun ht=>gF ht))) (sk wM) ?_
     refine ze (zj ?_)
     refine zO (gk wN) hF (fun hc23 hF=>?_) (fun hc23 hF=>?_)
     ·refine zk (zd ?_)
      refine zc rfl (zi rfl rfl (xy qE)) yB ?_
      refine zc rfl (zi rfl rfl (zb rfl)) xz ?_
      refine ze (zj (zL (zx (zx ?_))))
      refine zF ?_
      refine zx ?_
      refine yd ?_
      obtain rfl:=Option.some.inj hF
      replace hF:=hK2
      refine zF ?_
      refine zx ?_
      obtain rfl:=Option.some.inj hF
      refine qm rfl (zD yz (zD yS zG)) (zz (leV.tup (.cons (leV.osl _ _ _) (.eq leL.nil))) rfl ?_)
      exact ⟨rfl,rfl⟩
     ·refine zK (zj ?_)
      refine yI [3] [(3,[(2,.cells [.sl 1 (((zI (fun a b=>a==b) (GEdit.mk ([]:List zJ) (0:Int) false false zZ zZ) s2 v20).path).map zP),.int .u8 ((zI (fun a b=>a==b) (GEdit.mk ([]:List zJ) (0:Int) false false zZ zZ) s2 v20).typ),.bool ((zI (fun a b=>a==b) (GEdit.mk ([]:List zJ) (0:Int) false false zZ zZ) s2 v20).had),.bool ((zI (fun a b=>a==b) (GEdit.mk ([]:List zJ) (0:Int) false false zZ zZ) s2 v20).has),.int .u8 ((zI (fun a b=>a==b) (GEdit.mk ([]:List zJ) (0:Int) false false zZ zZ) s2 v20).was.typ),.int .i64 ((zI (fun a b=>a==b) (GEdit.mk ([]:List zJ) (0:Int) false false zZ zZ) s2 v20).was.n),.int .u64 ((zI (fun a b=>a==b) (GEdit.mk ([]:List zJ) (0:Int) false false zZ zZ) s2 v20).was.time),.int .u8 ((zI (fun a b=>a==b) (GEdit.mk ([]:List zJ) (0:Int) false false zZ zZ) s2 v20).was.dot.actor.rep),.int .u32 ((zI (fun a b=>a==b) (GEdit.mk ([]:List zJ) (0:Int) false false zZ zZ) s2 v20).was.dot.actor.inc),.int .u64 ((zI (fun a b=>a==b) (GEdit.mk ([]:List zJ) (0:Int) false false zZ zZ) s2 v20).was.dot.seq),.str ((zI (fun a b=>a==b) (GEdit.mk ([]:List zJ) (0:Int) false false zZ zZ) s2 v20).was.text),.sl 5 (((zI (fun a b=>a==b) (GEdit.mk ([]:List zJ) (0:Int) false false zZ zZ) s2 v20).was.items).map GItem.row),.sl 3 (((zI (fun a b=>a==b) (GEdit.mk ([]:List zJ) (0:Int) false false zZ zZ) s2 v20).was.tombs).map GDot.row),.int .u8 ((zI (fun a b=>a==b) (GEdit.mk ([]:List zJ) (0:Int) false false zZ zZ) s2 v20).is.typ),.int .i64 ((zI (fun a b=>a==b) (GEdit.mk ([]:List zJ) (0:Int) false false zZ zZ) s2 v20).is.n),.int .u64 ((zI (fun a b=>a==b) (GEdit.mk ([]:List zJ) (0:Int) false false zZ zZ) s2 v20).is.time),.int .u8 ((zI (fun a b=>a==b) (GEdit.mk ([]:List zJ) (0:Int) false false zZ zZ) s2 v20).is.dot.actor.rep),.int .u32 ((zI (fun a b=>a==b) (GEdit.mk ([]:List zJ) (0:Int) false false zZ zZ) s2 v20).is.dot.actor.inc),.int .u64 ((zI (fun a b=>a==b) (GEdit.mk ([]:List zJ) (0:Int) false false zZ zZ) s2 v20).is.dot.seq),.str ((zI (fun a b=>a==b) (GEdit.mk ([]:List zJ) (0:Int) false false zZ zZ) s2 v20).is.text),.sl 5 (((zI (fun a b=>a==b) (GEdit.mk ([]:List zJ) (0:Int) false false zZ zZ) s2 v20).is.items).map GItem.row),.sl 3 (((zI (fun a b=>a==b) (GEdit.mk ([]:List zJ) (0:Int) false false zZ zZ) s2 v20).is.tombs).map GDot.row)])])] ⟨⟨rfl,trivial⟩,trivial⟩ mixed (by kernel_rfl) ?_
      refine zq rfl rfl (zg rfl fo54x2 yM rfl) (sk wL) ?_
      refine zq rfl rfl (zu rfl ty4 (gk wH) rfl (zr rfl) (zb rfl)) (sk wW) ?_
      refine zq rfl rfl (zg rfl fo54x4 yM rfl) (sk wV) ?_
      refine draw_okN rfl rfl (by rintro _ ⟨B2,T2,rfl,hk2⟩;exact zu rfl ty48.choose_spec.1 (gk vg) (keeps1 hk2) (zH (cs':=[.int .u8 ((zI (fun a b=>a==b) (GEdit.mk ([]:List zJ) (0:Int) false false zZ zZ) s2 v20).was.typ),.int .i64 ((zI (fun a b=>a==b) (GEdit.mk ([]:List zJ) (0:Int) false false zZ zZ) s2 v20).was.n),.int .u64 ((zI (fun a b=>a==b) (GEdit.mk ([]:List zJ) (0:Int) false false zZ zZ) s2 v20).was.time),.int .u8 ((zI (fun a b=>a==b) (GEdit.mk ([]:List zJ) (0:Int) false false zZ zZ) s2 v20).was.dot.actor.rep),.int .u32 ((zI (fun a b=>a==b) (GEdit.mk ([]:List zJ) (0:Int) false false zZ zZ) s2 v20).was.dot.actor.inc),.int .u64 ((zI (fun a b=>a==b) (GEdit.mk ([]:List zJ) (0:Int) false false zZ zZ) s2 v20).was.dot.seq),.str ((zI (fun a b=>a==b) (GEdit.mk ([]:List zJ) (0:Int) false false zZ zZ) s2 v20).was.text),.sl 5 (((zI (fun a b=>a==b) (GEdit.mk ([]:List zJ) (0:Int) false false zZ zZ) s2 v20).was.items).map GItem.row),.sl 3 (((zI (fun a b=>a==b) (GEdit.mk ([]:List zJ) (0:Int) false false zZ zZ) s2 v20).was.tombs).map GDot.row)]) ty48.choose_spec.2 rfl rfl) (zb rfl)) (sk wU) ?_
      refine zq rfl rfl (zg rfl fo54x2 yq rfl) (sk vl) ?_
      refine yZ rfl (FOk.cons (.inr (xP ⟨rfl,trivial⟩)) FOk.nil) (by kernel_rfl) rfl (yg (cs':=[.sl 1 (x2.path.map zP),.int .u8 x2.typ,.bool ((zI (fun a b=>a==b) (GEdit.mk ([]:List zJ) (0:Int) false false zZ zZ) s2 v20).had),.bool x2.has,.int .u8 x2.was.typ,.int .i64 x2.was.n,.int .u64 x2.was.time,.int .u8 x2.was.dot.actor.rep,.int .u32 x2.was.dot.actor.inc,.int .u64 x2.was.dot.seq,.str x2.was.text,.sl 5 (x2.was.items.map GItem.row),.sl 3 (x2.was.tombs.map GDot.row),.int .u8 x2.is.typ,.int .i64 x2.is.n,.int .u64 x2.is.time,.int .u8 x2.is.dot.actor.rep,.int .u32 x2.is.dot.actor.inc,.int .u64 x2.is.dot.seq,.str x2.is.text,.sl 5 (x2.is.items.map GItem.row),.sl 3 (x2.is.tombs.map GDot.row)]) rfl ty4 (gk vf) (gk w6) (zb rfl) rfl rfl rfl rfl rfl) rfl ?_
      refine zq rfl rfl (zg rfl fo54x4 yq rfl) (sk vk) ?_
      refine yZ rfl (FOk.cons (.inr (xP ⟨rfl,trivial⟩)) FOk.nil) (by kernel_rfl) rfl (yg (cs':=[.sl 1 (x2.path.map zP),.int .u8 x2.typ,.bool ((zI (fun a b=>a==b) (GEdit.mk ([]:List zJ) (0:Int) false false zZ zZ) s2 v20).had),.bool x2.has,.int .u8 ((zI (fun a b=>a==b) (GEdit.mk ([]:List zJ) (0:Int) false false zZ zZ) s2 v20).was.typ),.int .i64 ((zI (fun a b=>a==b) (GEdit.mk ([]:List zJ) (0:Int) false false zZ zZ) s2 v20).was.n),.int .u64 ((zI (fun a b=>a==b) (GEdit.mk ([]:List zJ) (0:Int) false false zZ zZ) s2 v20).was.time),.int .u8 ((zI (fun a b=>a==b) (GEdit.mk ([]:List zJ) (0:Int) false false zZ zZ) s2 v20).was.dot.actor.rep),.int .u32 ((zI (fun a b=>a==b) (GEdit.mk ([]:List zJ) (0:Int) false false zZ zZ) s2 v20).was.dot.actor.inc),.int .u64 ((zI (fun a b=>a==b) (GEdit.mk ([]:List zJ) (0:Int) false false zZ zZ) s2 v20).was.dot.seq),.str ((zI (fun a b=>a==b) (GEdit.mk ([]:List zJ) (0:Int) false false zZ zZ) s2 v20).was.text),.sl 5 (((zI (fun a b=>a==b) (GEdit.mk ([]:List zJ) (0:Int) false false zZ zZ) s2 v20).was.items).map GItem.row),.sl 3 (((zI (fun a b=>a==b) (GEdit.mk ([]:List zJ) (0:Int) false false zZ zZ) s2 v20).was.tombs).map GDot.row),.int .u8 x2.is.typ,.int .i64 x2.is.n,.int .u64 x2.is.time,.int .u8 x2.is.dot.actor.rep,.int .u32 x2.is.dot.actor.inc,.int .u64 x2.is.dot.seq,.str x2.is.text,.sl 5 (x2.is.items.map GItem.row),.sl 3 (x2.is.tombs.map GDot.row)]) rfl ty48.choose_spec.1 (gk vt) (gk w5) (zb rfl) rfl rfl rfl rfl rfl) rfl ?_
      refine ym ?_
      refine zj (zd ?_)
      refine zc rfl (zf rfl yU (zb rfl)) (sk vb) ?_
      refine zc rfl (zf rfl yA (zb rfl)) (sk va) ?_
      refine zc rfl (zu rfl ty54.choose_spec.1 yq rfl (zH (cs':=[.sl 1 (x2.path.map zP),.int .u8 x2.typ,.bool ((zI (fun a b=>a==b) (GEdit.mk ([]:List zJ) (0:Int) false false zZ zZ) s2 v20).had),.bool x2.has,.int .u8 ((zI (fun a b=>a==b) (GEdit.mk ([]:List zJ) (0:Int) false false zZ zZ) s2 v20).was.typ),.int .i64 ((zI (fun a b=>a==b) (GEdit.mk ([]:List zJ) (0:Int) false false zZ zZ) s2 v20).was.n),.int .u64 ((zI (fun a b=>a==b) (GEdit.mk ([]:List zJ) (0:Int) false false zZ zZ) s2 v20).was.time),.int .u8 ((zI (fun a b=>a==b) (GEdit.mk ([]:List zJ) (0:Int) false false zZ zZ) s2 v20).was.dot.actor.rep),.int .u32 ((zI (fun a b=>a==b) (GEdit.mk ([]:List zJ) (0:Int) false false zZ zZ) s2 v20).was.dot.actor.inc),.int .u64 ((zI (fun a b=>a==b) (GEdit.mk ([]:List zJ) (0:Int) false false zZ zZ) s2 v20).was.dot.seq),.str ((zI (fun a b=>a==b) (GEdit.mk ([]:List zJ) (0:Int) false false zZ zZ) s2 v20).was.text),.sl 5 (((zI (fun a b=>a==b) (GEdit.mk ([]:List zJ) (0:Int) false false zZ zZ) s2 v20).was.items).map GItem.row),.sl 3 (((zI (fun a b=>a==b) (GEdit.mk ([]:List zJ) (0:Int) false false zZ zZ) s2 v20).was.tombs).map GDot.row),.int .u8 x2.is.typ,.int .i64 x2.is.n,.int .u64 x2.is.time,.int .u8 x2.is.dot.actor.rep,.int .u32 x2.is.dot.actor.inc,.int .u64 x2.is.dot.seq,.str x2.is.text,.sl 5 (x2.is.items.map GItem.row),.sl 3 (x2.is.tombs.map GDot.row)]) ty54.choose_spec.2 rfl rfl) (zb rfl)) (sk w9) ?_
      refine zc rfl (e_mapPut (m:=s2) (k:=v20) (v:=(GEdit.mk x2.path x2.typ ((zI (fun a b=>a==b) (GEdit.mk ([]:List zJ) (0:Int) false false zZ zZ) s2 v20).had) x2.has ((zI (fun a b=>a==b) (GEdit.mk ([]:List zJ) (0:Int) false false zZ zZ) s2 v20).was) x2.is)) (j:=0) (kv:=AV.str) (vv:=(fun x=>AV.agg (GEdit.row x))) rfl Tryz.underlying55 kq9 (gk wZ) rfl (gk ve) (gk wY) rfl rfl) rfl ?_
      refine ze (yh (zj (zd ?_)))
      refine zc rfl (zy rfl vr rfl rfl) (sk vj) ?_
      refine zc rfl (zf rfl (gk wX) (zb rfl)) vA ?_
      refine ze (yH ?_)
      obtain rfl:=Option.some.inj hF
      exact ⟨(xG (fun a b=>a==b) s2 v20 (GEdit.mk x2.path x2.typ ((zI (fun a b=>a==b) (GEdit.mk ([]:List zJ) (0:Int) false false zZ zZ) s2 v20).had) x2.has ((zI (fun a b=>a==b) (GEdit.mk ([]:List zJ) (0:Int) false false zZ zZ) s2 v20).was) x2.is)),hl2,hK2,wk.trans (wk.le (by exact (.d4 (.drop (.drop (.eq (.d16 (.d4 (.d4 (.d4 (.drop (.drop (.eq (.eq (.cons (leV.of_eq (w8 (by omega) (by omega))) (.d16 (.d16 (.d4 (.d4 leL.nil))))))))))))))))))) (xI (by simp [yi,AV.low]) rfl rfl (by simp [Blk.low,yi,AV.low,GEdit.row,qb]))⟩
    ·refine zK (zj (zd ?_))
     refine zc rfl (zf rfl yU (zb rfl)) (sk vb) ?_
     refine zc rfl (zf rfl yA (zb rfl)) (sk va) ?_
     refine zc rfl (zu rfl ty54.choose_spec.1 yq rfl (zH (cs':=[.sl 1 (x2.path.map zP),.int .u8 x2.typ,.bool x2.had,.bool x2.has,.int .u8 x2.was.typ,.int .i64 x2.was.n,.int .u64 x2.was.time,.int .u8 x2.was.dot.actor.rep,.int .u32 x2.was.dot.actor.inc,.int .u64 x2.was.dot.seq,.str x2.was.text,.sl 5 (x2.was.items.map GItem.row),.sl 3 (x2.was.tombs.map GDot.row),.int .u8 x2.is.typ,.int .i64 x2.is.n,.int .u64 x2.is.time,.int .u8 x2.is.dot.actor.rep,.int .u32 x2.is.dot.actor.inc,.int .u64 x2.is.dot.seq,.str x2.is.text,.sl 5 (x2.is.items.map GItem.row),.sl 3 (x2.is.tombs.map GDot.row)]) ty54.choose_spec.2 rfl rfl) (zb rfl)) (sk w9) ?_
     refine zc rfl (e_mapPut (m:=s2) (k:=v20) (v:=x2) (j:=0) (kv:=AV.str) (vv:=(fun x=>AV.agg (GEdit.row x))) rfl Tryz.underlying55 kq9 (gk wZ) rfl (gk ve) (gk wY) rfl rfl) rfl ?_
     refine ze (yh (zj (zd ?_)))
     refine zc rfl (zy rfl vr rfl rfl) (sk vj) ?_
     refine zc rfl (zf rfl (gk wX) (zb rfl)) vA ?_
     refine ze (yH ?_)
     obtain rfl:=Option.some.inj hF
     exact ⟨(xG (fun a b=>a==b) s2 v20 x2),hl2,hK2,wk.trans (wk.le (by exact (.d4 (.drop (.drop (.eq (.d16 (.d4 (.d4 (.d4 (.drop (.drop (.eq (.eq (.cons (leV.of_eq (w8 (by omega) (by omega))) (.d16 (.d16 (.d4 (.d4 leL.nil))))))))))))))))))) (xI (by simp [yi,AV.low]) rfl rfl (by simp [Blk.low,yi,AV.low,GEdit.row,qb]))⟩
   ·refine yR ?_
    refine ya ?_
    refine zV ?_
    refine zW ?_
    refine zj (zk (zd ?_))
    refine zc rfl (zf rfl yU (zb rfl)) (sk vI) ?_
    refine zR hF (fun v24 hv24 hF=>?_)
    refine zN rfl (zC rfl rfl rfl (zo (gk vM) zw) (.cons (zb rfl) .nil)) (ok18 (n_blk rfl rfl) hv24) (sk vA) ?_
    refine zc rfl (zi rfl (gk vr) (zb rfl)) yB ?_
    refine zc rfl (zi rfl rfl (zb rfl)) xz ?_
    refine ze (zj (zL ?_))
    obtain rfl:=Option.some.inj hF
    refine qm rfl (zD yz (zD yS zG)) (zz (leV.refl _) rfl ?_)
    exact ⟨rfl,rfl⟩
/-! slices.EqualFunc[[]varve/api.Edit,[]varve/api.Edit,varve/api.Edit,varve/api.Edit] -/
theorem ok21 {s10:(List GEdit)} {s21:(List GEdit)} {eq2:(GEdit→GEdit→Option Bool)} {feq2:FuncId} {aeq2 keq2:List AV} {res:Bool} {h:AH} (heq2:∀ x0 x1 v (L:List Blk) (M:List Nat),eq2 x0 x1=some v→Spec Tryz.prog feq2 (aeq2++[.agg [.sl 1 (x0.path.map zP),.int .u8 x0.typ,.bool x0.had,.bool x0.has,.int .u8 x0.was.typ,.int .i64 x0.was.n,.int .u64 x0.was.time,.int .u8 x0.was.dot.actor.rep,.int .u32 x0.was.dot.actor.inc,.int .u64 x0.was.dot.seq,.str x0.was.text,.sl 5 (x0.was.items.map GItem.row),.sl 3 (x0.was.tombs.map GDot.row),.int .u8 x0.is.typ,.int .i64 x0.is.n,.int .u64 x0.is.time,.int .u8 x0.is.dot.actor.rep,.int .u32 x0.is.dot.actor.inc,.int .u64 x0.is.dot.seq,.str x0.is.text,.sl 5 (x0.is.items.map GItem.row),.sl 3 (x0.is.tombs.map GDot.row)],.agg [.sl 1 (x1.path.map zP),.int .u8 x1.typ,.bool x1.had,.bool x1.has,.int .u8 x1.was.typ,.int .i64 x1.was.n,.int .u64 x1.was.time,.int .u8 x1.was.dot.actor.rep,.int .u32 x1.was.dot.actor.inc,.int .u64 x1.was.dot.seq,.str x1.was.text,.sl 5 (x1.was.items.map GItem.row),.sl 3 (x1.was.tombs.map GDot.row),.int .u8 x1.is.typ,.int .i64 x1.is.n,.int .u64 x1.is.time,.int .u8 x1.is.dot.actor.rep,.int .u32 x1.is.dot.actor.inc,.int .u64 x1.is.dot.seq,.str x1.is.text,.sl 5 (x1.is.items.map GItem.row),.sl 3 (x1.is.tombs.map GDot.row)]]++keq2) (h.ext L M) (fun rr hh=>rr=.bool v∧hh=h.ext L M)) (hF:xW s10 s21 eq2=some res):Spec Tryz.prog 21 [.sl 22 (s10.map GEdit.row),.sl 22 (s21.map GEdit.row),.fn (.func feq2) aeq2 keq2] h (fun rr hh=>rr=.bool res∧hh=h):=by
 unfold xW at hF
 refine yG Tryz.func21 rfl (by kernel_rfl) (env:=[.sl 22 (s10.map GEdit.row),.sl 22 (s21.map GEdit.row),.fn (.func feq2) aeq2 keq2,za,za,za,za,za,za,za,za,za,za,za,za,za,za,za,za,za,za,za,za,za,za,za,za,za,za,za,za,za]) (by rfl) (fun hlow hC=>?_)
 simp only [yi,AV.low,Bool.and_eq_true,Bool.true_and,and_true] at hlow
 have hlaeq2:∀ n m,h.blks.length≤n→h.toks.length≤m→yi n m aeq2=true:=fun n m h1 h2=>y8 h1 h2 _ (by simp [hlow])
 have hlkeq2:∀ n m,h.blks.length≤n→h.toks.length≤m→yi n m keq2=true:=fun n m h1 h2=>y8 h1 h2 _ (by simp [hlow])
 refine zk (zd ?_)
 refine zc rfl (zi rfl rfl (zb rfl)) xE ?_
 refine ze (zj (zk (zk (zd ?_))))
 refine zc rfl (zf rfl yr (zb rfl)) yL ?_
 refine yb rfl (zS rfl rfl rfl rfl qE yq yc) yP fun hn1=>?_
 replace hn1:=xl hn1
 refine zc rfl (zf rfl yF (zb rfl)) yX ?_
 refine yb rfl (zS rfl rfl rfl rfl qE yM yc) yW fun hn2=>?_
 replace hn2:=xl hn2
 refine zc rfl (zy rfl yA yC rfl) y5 ?_
 refine ze (zj ?_)
 refine zO yY hF (fun hc3 hF=>?_) (fun hc3 hF=>?_)
 ·refine zk (zd ?_)
  refine zc rfl (zi rfl rfl (zb rfl)) xE ?_
  refine ze (zj (zL (zx ?_)))
  obtain rfl:=Option.some.inj hF
  refine zA rfl (zD yU zG) (zz (leV.refl _) rfl ?_)
  exact ⟨rfl,rfl⟩
 ·refine zK (zj (zk (zk (zd ?_))))
  refine zc rfl (zf rfl yr (zb rfl)) y6 ?_
  refine yb rfl (zS rfl rfl rfl rfl qE yT yc) xg fun hn4=>?_
  replace hn4:=xl hn4
  refine zc rfl (zf rfl rfl (zb rfl)) xk ?_
  refine ze (zj (zQ ?_))
  refine yo (fun (n1:Nat) (s1:Unit)=>yO [0,3,4,5,6,7,8,9,10,11,12,13,14,18,19,20,21,22,23,24,25,26,27,28,29,30,31] [(17,.int .i64 (n1:Int))]) (fun s1=>h.ext [] []) hF (fun _ _=>by simp only [yO,upd,List.set_cons_succ,List.set_cons_zero];try rfl) (wk.le (by exact (.drop (.eq (.eq (.d4 (.d4 (.d4 (.eq (.eq (.cons (leV.of_eq rfl) (.d4 (.d4 (.d4 (.drop (.drop leL.nil)))))))))))))))) ?_
  intro n1 s1 hi1 hF
  refine zk (zd ?_)
  refine zc rfl (zy rfl xi xd rfl) xD ?_
  refine ze (zj (zk ?_))
  refine yJ xB hF (fun x1 o1 hl1 hx1 hF hK1=>?_) (fun hF=>?_)
  ·refine zK (zj (zk (zQ (zk (zd ?_)))))
   refine zc rfl (zf rfl xi (zb rfl)) xK ?_
   refine zc rfl (yj rfl qE yT xi w7 (yK hx1)) xY ?_
   refine zc rfl (ye rfl ty54.choose_spec.1 xZ (zH (cs':=[.sl 1 (x1.path.map zP),.int .u8 x1.typ,.bool x1.had,.bool x1.has,.int .u8 x1.was.typ,.int .i64 x1.was.n,.int .u64 x1.was.time,.int .u8 x1.was.dot.actor.rep,.int .u32 x1.was.dot.actor.inc,.int .u64 x1.was.dot.seq,.str x1.was.text,.sl 5 (x1.was.items.map GItem.row),.sl 3 (x1.was.tombs.map GDot.row),.int .u8 x1.is.typ,.int .i64 x1.is.n,.int .u64 x1.is.time,.int .u8 x1.is.dot.actor.rep,.int .u32 x1.is.dot.actor.inc,.int .u64 x1.is.dot.seq,.str x1.is.text,.sl 5 (x1.is.items.map GItem.row),.sl 3 (x1.is.tombs.map GDot.row)]) ty54.choose_spec.2 rfl rfl) (zb rfl)) x7 ?_
   refine zc rfl (y4 (n:=0) rfl ze54 rfl) xX ?_
   refine zc rfl (zi rfl xJ (zb rfl)) xO ?_
   refine zc rfl (yg (cs':=[.sl 1 (x1.path.map zP),.int .u8 x1.typ,.bool x1.had,.bool x1.has,.int .u8 x1.was.typ,.int .i64 x1.was.n,.int .u64 x1.was.time,.int .u8 x1.was.dot.actor.rep,.int .u32 x1.was.dot.actor.inc,.int .u64 x1.was.dot.seq,.str x1.was.text,.sl 5 (x1.was.items.map GItem.row),.sl 3 (x1.was.tombs.map GDot.row),.int .u8 x1.is.typ,.int .i64 x1.is.n,.int .u64 x1.is.time,.int .u8 x1.is.dot.actor.rep,.int .u32 x1.is.dot.actor.inc,.int .u64 x1.is.dot.seq,.str x1.is.text,.sl 5 (x1.is.items.map GItem.row),.sl 3 (x1.is.tombs.map GDot.row)]) rfl ty54.choose_spec.1 xj x5 (zb rfl) rfl rfl rfl rfl rfl) rfl ?_
   refine ze (zj (zk (zd ?_)))
   refine zc rfl (zf rfl yF (zb rfl)) wl ?_
   refine zc rfl (zf rfl xH (zb rfl)) x6 ?_
   refine zR hF (fun y11 hy11 hF=>?_)
   refine zc rfl (yj rfl qE wi xN w7 hy11) wh ?_
   refine zc rfl (ye rfl ty54.choose_spec.1 wc (zH (cs':=[.sl 1 (y11.path.map zP),.int .u8 y11.typ,.bool y11.had,.bool y11.has,.int .u8 y11.was.typ,.int .i64 y11.was.n,.int .u64 y11.was.time,.int .u8 y11.was.dot.actor.rep,.int .u32 y11.was.dot.actor.inc,.int .u64 y11.was.dot.seq,.str y11.was.text,.sl 5 (y11.was.items.map GItem.row),.sl 3 (y11.was.tombs.map GDot.row),.int .u8 y11.is.typ,.int .i64 y11.is.n,.int .u64 y11.is.time,.int .u8 y11.is.dot.actor.rep,.int .u32 y11.is.dot.actor.inc,.int .u64 y11.is.dot.seq,.str y11.is.text,.sl 5 (y11.is.items.map GItem.row),.sl 3 (y11.is.tombs.map GDot.row)]) ty54.choose_spec.2 rfl rfl) (zb rfl)) wj ?_
   refine zc rfl (y4 (n:=1) rfl ze54 rfl) wB ?_
   refine zc rfl (yg (cs':=[.sl 1 (y11.path.map zP),.int .u8 y11.typ,.bool y11.had,.bool y11.has,.int .u8 y11.was.typ,.int .i64 y11.was.n,.int .u64 y11.was.time,.int .u8 y11.was.dot.actor.rep,.int .u32 y11.was.dot.actor.inc,.int .u64 y11.was.dot.seq,.str y11.was.text,.sl 5 (y11.was.items.map GItem.row),.sl 3 (y11.was.tombs.map GDot.row),.int .u8 y11.is.typ,.int .i64 y11.is.n,.int .u64 y11.is.time,.int .u8 y11.is.dot.actor.rep,.int .u32 y11.is.dot.actor.inc,.int .u64 y11.is.dot.seq,.str y11.is.text,.sl 5 (y11.is.items.map GItem.row),.sl 3 (y11.is.tombs.map GDot.row)]) rfl ty54.choose_spec.1 xV wb (zb rfl) rfl rfl rfl rfl rfl) rfl ?_
   refine ze (zj (zk (zd ?_)))
   refine zc rfl (zf rfl yV (zb rfl)) wF ?_
   refine zc rfl (zu rfl ty54.choose_spec.1 xj rfl (zH (cs':=[.sl 1 (x1.path.map zP),.int .u8 x1.typ,.bool x1.had,.bool x1.has,.int .u8 x1.was.typ,.int .i64 x1.was.n,.int .u64 x1.was.time,.int .u8 x1.was.dot.actor.rep,.int .u32 x1.was.dot.actor.inc,.int .u64 x1.was.dot.seq,.str x1.was.text,.sl 5 (x1.was.items.map GItem.row),.sl 3 (x1.was.tombs.map GDot.row),.int .u8 x1.is.typ,.int .i64 x1.is.n,.int .u64 x1.is.time,.int .u8 x1.is.dot.actor.rep,.int .u32 x1.is.dot.actor.inc,.int .u64 x1.is.dot.seq,.str x1.is.text,.sl 5 (x1.is.items.map GItem.row),.sl 3 (x1.is.tombs.map GDot.row)]) ty54.choose_spec.2 rfl rfl) (zb rfl)) wM ?_
   refine zc rfl (zu rfl ty54.choose_spec.1 xV rfl (zH (cs':=[.sl 1 (y11.path.map zP),.int .u8 y11.typ,.bool y11.had,.bool y11.has,.int .u8 y11.was.typ,.int .i64 y11.was.n,.int .u64 y11.was.time,.int .u8 y11.was.dot.actor.rep,.int .u32 y11.was.dot.actor.inc,.int .u64 y11.was.dot.seq,.str y11.was.text,.sl 5 (y11.was.items.map GItem.row),.sl 3 (y11.was.tombs.map GDot.row),.int .u8 y11.is.typ,.int .i64 y11.is.n,.int .u64 y11.is.time,.int .u8 y11.is.dot.actor.rep,.int .u32 y11.is.dot.actor.inc,.int .u64 y11.is.dot.seq,.str y11.is.text,.sl 5 (y11.is.items.map GItem.row),.sl 3 (y11.is.tombs.map GDot.row)]) ty54.choose_spec.2 rfl rfl) (zb rfl)) wL ?_
   refine zR hF (fun v12 hv12 hF=>?_)
   refine zN rfl (s_callC rfl rfl wE (zo wN (zo wH zw)) (.cons (zb rfl) (.cons (zb rfl) .nil)) rfl) (heq2 _ _ _ _ _ hv12) wW ?_
   refine zc rfl (xR rfl w6 rfl) wV ?_
   refine ze (zj ?_)
   refine zO vg hF (fun hc13 hF=>?_) (fun hc13 hF=>?_)
   ·refine zk (zd ?_)
    refine zc rfl (zi rfl rfl (zb rfl)) xE ?_
    refine ze (zj (zL ?_))
    refine zF ?_
    refine zx ?_
    refine yd ?_
    obtain rfl:=Option.some.inj hF
    replace hF:=hK1
    refine zF ?_
    refine zx ?_
    obtain rfl:=Option.some.inj hF
    refine zA rfl (zD yU zG) (zz (leV.refl _) rfl ?_)
    exact ⟨rfl,rfl⟩
   ·refine zK (yh (zj (zd ?_)))
    refine zc rfl (zy rfl xi rfl rfl) wU ?_
    refine zc rfl (zf rfl w5 (zb rfl)) xk ?_
    refine ze (yH ?_)
    obtain rfl:=Option.some.inj hF
    exact ⟨(),hl1,hK1,wk.trans (wk.le (by exact (.drop (.eq (.eq (.d4 (.d4 (.d4 (.eq (.eq (.cons (leV.of_eq (w8 (by omega) (by omega))) (.d4 (.d4 (.d4 (.drop (.drop leL.nil)))))))))))))))) (xI (by simp [yi,AV.low,hlaeq2,hlkeq2]) rfl rfl (by simp [Blk.low,yi,AV.low,hlaeq2,hlkeq2]))⟩
  ·refine yR ?_
   refine ya ?_
   refine zV ?_
   refine zW ?_
   refine zj (zk (zd ?_))
   refine zc rfl (zi rfl rfl (zb rfl)) xE ?_
   refine ze (zj (zL ?_))
   obtain rfl:=Option.some.inj hF
   refine zA rfl (zD yU zG) (zz (leV.refl _) rfl ?_)
   exact ⟨rfl,rfl⟩
/-! slices.Equal[[]string,string] -/
theorem ok23 {s10:(List zJ)} {s21:(List zJ)} {res:Bool} {h:AH}  (hF:vm s10 s21=some res):Spec Tryz.prog 23 [.sl 1 (s10.map zP),.sl 1 (s21.map zP)] h (fun rr hh=>rr=.bool res∧hh=h):=by
 unfold vm at hF
 refine zt Tryz.func23 rfl (by kernel_rfl) (env:=[.sl 1 (s10.map zP),.sl 1 (s21.map zP),za,za,za,za,za,za,za,za,za,za,za,za,za,za,za,za,za,za,za,za,za,za,za,za]) (by rfl) ?_
 refine zk (zd ?_)
 refine zc rfl (zi rfl rfl (zb rfl)) yB ?_
 refine ze (zj (zk (zk (zd ?_))))
 refine zc rfl (zf rfl yr (zb rfl)) xE ?_
 refine yb rfl (zS rfl rfl rfl rfl wt yU yc) xO fun hn1=>?_
 replace hn1:=xl hn1
 refine zc rfl (zf rfl yF (zb rfl)) xX ?_
 refine yb rfl (zS rfl rfl rfl rfl wt xj yc) wB fun hn2=>?_
 replace hn2:=xl hn2
 refine zc rfl (zy rfl xH xV rfl) yL ?_
 refine ze (zj ?_)
 refine zO yq hF (fun hc3 hF=>?_) (fun hc3 hF=>?_)
 ·refine zk (zd ?_)
  refine zc rfl (zi rfl rfl (zb rfl)) yB ?_
  refine ze (zj (zL (zx ?_)))
  obtain rfl:=Option.some.inj hF
  refine zA rfl (zD yz zG) (zz (leV.refl _) rfl ?_)
  exact ⟨rfl,rfl⟩
 ·refine zK (zj (zk (zk (zd ?_))))
  refine zc rfl (zf rfl yr (zb rfl)) yP ?_
  refine yb rfl (zS rfl rfl rfl rfl wt yA yc) yX fun hn4=>?_
  replace hn4:=xl hn4
  refine zc rfl (zf rfl rfl (zb rfl)) yW ?_
  refine ze (zj (zQ ?_))
  refine yo (fun (n1:Nat) (s1:Unit)=>yO [2,3,4,5,6,7,8,9,10,11,14,15,16,17,18,19,20,21,22,23,24,25] [(13,.int .i64 (n1:Int))]) (fun s1=>h.ext [] []) hF (fun _ _=>by simp only [yO,upd,List.set_cons_succ,List.set_cons_zero];try rfl) (wk.le (by exact (.eq (.eq (.d4 (.d4 (.drop (.drop (.eq (.cons (leV.of_eq rfl) (.d4 (.d4 (.d4 leL.nil))))))))))))) ?_
  intro n1 s1 hi1 hF
  refine zk (zd ?_)
  refine zc rfl (zy rfl yC yM rfl) y5 ?_
  refine ze (zj (zk ?_))
  refine yJ yY hF (fun x1 o1 hl1 hx1 hF hK1=>?_) (fun hF=>?_)
  ·refine zK (zj (zk (zQ (zk (zd ?_)))))
   refine zc rfl (zf rfl yC (zb rfl)) y6 ?_
   refine zc rfl (zi rfl yT (zb rfl)) xz ?_
   refine ze (zj (zk ?_))
   refine yI [] [] trivial mixed (by kernel_rfl) ?_
   refine zq rfl rfl (zf rfl yr (zb rfl)) xg ?_
   refine zq rfl rfl (zf rfl yS (zb rfl)) xk ?_
   refine zq rfl rfl (yj rfl wt xd xi w7 (yK hx1)) xD ?_
   refine zq rfl rfl (ye rfl ty9 xB (zr rfl) (zb rfl)) xK ?_
   refine zq rfl rfl (zf rfl yF (zb rfl)) xY ?_
   refine zq rfl rfl (zf rfl yS (zb rfl)) x7 ?_
   refine zR hF (fun y10 hy10 hF=>?_)
   refine zq rfl rfl (yj rfl wt xZ x5 w7 hy10) wl ?_
   refine zq rfl rfl (ye rfl ty9 wi (zr rfl) (zb rfl)) x6 ?_
   refine zq rfl rfl (zy rfl xJ xN rfl) wh ?_
   refine ym ?_
   refine zj ?_
   refine zO wc hF (fun hc11 hF=>?_) (fun hc11 hF=>?_)
   ·refine zk (zd ?_)
    refine zc rfl (zi rfl rfl (zb rfl)) yB ?_
    refine ze (zj (zL ?_))
    refine zF ?_
    refine zx ?_
    refine yd ?_
    obtain rfl:=Option.some.inj hF
    replace hF:=hK1
    refine zF ?_
    refine zx ?_
    obtain rfl:=Option.some.inj hF
    refine zA rfl (zD yz zG) (zz (leV.refl _) rfl ?_)
    exact ⟨rfl,rfl⟩
   ·refine zK (yh (zj (zd ?_)))
    refine zc rfl (zy rfl yC rfl rfl) wj ?_
    refine zc rfl (zf rfl wb (zb rfl)) yW ?_
    refine ze (yH ?_)
    obtain rfl:=Option.some.inj hF
    exact ⟨(),hl1,hK1,wk.le (by exact (.eq (.eq (.d4 (.d4 (.drop (.drop (.eq (.cons (leV.of_eq (w8 (by omega) (by omega))) (.d4 (.d4 (.d4 leL.nil))))))))))))⟩
  ·refine yR ?_
   refine ya ?_
   refine zV ?_
   refine zW ?_
   refine zj (zk (zd ?_))
   refine zc rfl (zi rfl rfl (zb rfl)) yB ?_
   refine ze (zj (zL ?_))
   obtain rfl:=Option.some.inj hF
   refine zA rfl (zD yz zG) (zz (leV.refl _) rfl ?_)
   exact ⟨rfl,rfl⟩
/-! varve/diff.Same 1 -/
theorem ok22 {x0:GEdit} {y1:GEdit} {res:Bool} {h:AH}  (hF:diffSameC1 x0 y1=some res):Spec Tryz.prog 22 [.agg [.sl 1 (x0.path.map zP),.int .u8 x0.typ,.bool x0.had,.bool x0.has,.int .u8 x0.was.typ,.int .i64 x0.was.n,.int .u64 x0.was.time,.int .u8 x0.was.dot.actor.rep,.int .u32 x0.was.dot.actor.inc,.int .u64 x0.was.dot.seq,.str x0.was.text,.sl 5 (x0.was.items.map GItem.row),.sl 3 (x0.was.tombs.map GDot.row),.int .u8 x0.is.typ,.int .i64 x0.is.n,.int .u64 x0.is.time,.int .u8 x0.is.dot.actor.rep,.int .u32 x0.is.dot.actor.inc,.int .u64 x0.is.dot.seq,.str x0.is.text,.sl 5 (x0.is.items.map GItem.row),.sl 3 (x0.is.tombs.map GDot.row)],.agg [.sl 1 (y1.path.map zP),.int .u8 y1.typ,.bool y1.had,.bool y1.has,.int .u8 y1.was.typ,.int .i64 y1.was.n,.int .u64 y1.was.time,.int .u8 y1.was.dot.actor.rep,.int .u32 y1.was.dot.actor.inc,.int .u64 y1.was.dot.seq,.str y1.was.text,.sl 5 (y1.was.items.map GItem.row),.sl 3 (y1.was.tombs.map GDot.row),.int .u8 y1.is.typ,.int .i64 y1.is.n,.int .u64 y1.is.time,.int .u8 y1.is.dot.actor.rep,.int .u32 y1.is.dot.actor.inc,.int .u64 y1.is.dot.seq,.str y1.is.text,.sl 5 (y1.is.items.map GItem.row),.sl 3 (y1.is.tombs.map GDot.row)]] h (fun rr hh=>rr=.bool res∧hh=h):=by
 unfold diffSameC1 at hF
 refine zt Tryz.func22 rfl (by kernel_rfl) (env:=[.agg [.sl 1 (x0.path.map zP),.int .u8 x0.typ,.bool x0.had,.bool x0.has,.int .u8 x0.was.typ,.int .i64 x0.was.n,.int .u64 x0.was.time,.int .u8 x0.was.dot.actor.rep,.int .u32 x0.was.dot.actor.inc,.int .u64 x0.was.dot.seq,.str x0.was.text,.sl 5 (x0.was.items.map GItem.row),.sl 3 (x0.was.tombs.map GDot.row),.int .u8 x0.is.typ,.int .i64 x0.is.n,.int .u64 x0.is.time,.int .u8 x0.is.dot.actor.rep,.int .u32 x0.is.dot.actor.inc,.int .u64 x0.is.dot.seq,.str x0.is.text,.sl 5 (x0.is.items.map GItem.row),.sl 3 (x0.is.tombs.map GDot.row)],.agg [.sl 1 (y1.path.map zP),.int .u8 y1.typ,.bool y1.had,.bool y1.has,.int .u8 y1.was.typ,.int .i64 y1.was.n,.int .u64 y1.was.time,.int .u8 y1.was.dot.actor.rep,.int .u32 y1.was.dot.actor.inc,.int .u64 y1.was.dot.seq,.str y1.was.text,.sl 5 (y1.was.items.map GItem.row),.sl 3 (y1.was.tombs.map GDot.row),.int .u8 y1.is.typ,.int .i64 y1.is.n,.int .u64 y1.is.time,.int .u8 y1.is.dot.actor.rep,.int .u32 y1.is.dot.actor.inc,.int .u64 y1.is.dot.seq,.str y1.is.text,.sl 5 (y1.is.items.map GItem.row),.sl 3 (y1.is.tombs.map GDot.row)],za,za,za,za,za,za,za,za,za,za,za,za,za,za,za,za,za,za,za,za,za,za,za,za,za,za,za,za,za,za,za,za,za,za,za,za,za,za,za,za,za,za,za]) (by rfl) ?_
 refine zk (zd ?_)
 refine zc rfl (xw (n:=0) rfl yr (zb rfl) rfl rfl) xh ?_
 refine zc rfl (xw (n:=1) rfl yF (zb rfl) rfl rfl) wo ?_
 refine zc rfl (zi rfl rfl (zb rfl)) yB ?_
 refine ze (zj (zk (zd ?_)))
 refine zc rfl (zg rfl qX yV rfl) xz ?_
 refine zc rfl (zu rfl ty52 yS rfl (zr rfl) (zb rfl)) xE ?_
 refine zc rfl (zg rfl qX xn rfl) xO ?_
 refine zc rfl (zu rfl ty52 xH rfl (zr rfl) (zb rfl)) xX ?_
 refine zR hF (fun v1 hv1 hF=>?_)
 refine zN rfl (zC rfl rfl rfl (zo yU (zo xj zw)) (.cons (zb rfl) (.cons (zb rfl) .nil))) (ok23 hv1) wB ?_
 refine zc rfl (zf rfl xV (zb rfl)) yL ?_
 refine zp rfl (fun hb=>zg rfl fo54x1 yV rfl) yP ?_
 refine zp rfl (fun hb=>zu rfl ty5 (zn yA hb) rfl (zr rfl) (zb rfl)) yX ?_
 refine zp rfl (fun hb=>zg rfl fo54x1 xn rfl) yW ?_
 refine zp rfl (fun hb=>zu rfl ty5 (zn yC hb) rfl (zr rfl) (zb rfl)) y5 ?_
 refine zp rfl (fun hb=>zy rfl (zn yM hb) (zn yY hb) rfl) y6 ?_
 refine zc rfl (zM rfl yq yT rfl (zX (fun ht=>gT ht))) xg ?_
 refine zc rfl (zf rfl xd (zb rfl)) xk ?_
 refine zp rfl (fun hb=>zg rfl fo54x2 yV rfl) xD ?_
 refine zp rfl (fun hb=>zu rfl ty4 (zn xB hb) rfl (zr rfl) (zb rfl)) xK ?_
 refine zp rfl (fun hb=>zg rfl fo54x2 xn rfl) xY ?_
 refine zp rfl (fun hb=>zu rfl ty4 (zn xZ hb) rfl (zr rfl) (zb rfl)) x7 ?_
 refine zp rfl (fun hb=>zy rfl (zn xJ hb) (zn x5 hb) (bin_boolE ty4)) wl ?_
 refine zc rfl (zM rfl xi wi rfl (zX (fun ht=>gT ht))) x6 ?_
 refine zc rfl (zf rfl xN (zb rfl)) wh ?_
 refine zp rfl (fun hb=>zg rfl fo54x3 yV rfl) wj ?_
 refine zp rfl (fun hb=>zu rfl ty4 (zn wb hb) rfl (zr rfl) (zb rfl)) wF ?_
 refine zp rfl (fun hb=>zg rfl fo54x3 xn rfl) wM ?_
 refine zp rfl (fun hb=>zu rfl ty4 (zn wN hb) rfl (zr rfl) (zb rfl)) wL ?_
 refine zp rfl (fun hb=>zy rfl (zn wE hb) (zn wH hb) (bin_boolE ty4)) wW ?_
 refine zc rfl (zM rfl wc w6 rfl (zX (fun ht=>gT ht))) wV ?_
 refine zc rfl (zf rfl vg (zb rfl)) wU ?_
 refine zp rfl (fun hb=>zg rfl fo54x4 yV rfl) vl ?_
 refine zp rfl (fun hb=>zu rfl ty48.choose_spec.1 (zn vf hb) rfl (zH (cs':=[.int .u8 x0.was.typ,.int .i64 x0.was.n,.int .u64 x0.was.time,.int .u8 x0.was.dot.actor.rep,.int .u32 x0.was.dot.actor.inc,.int .u64 x0.was.dot.seq,.str x0.was.text,.sl 5 (x0.was.items.map GItem.row),.sl 3 (x0.was.tombs.map GDot.row)]) ty48.choose_spec.2 rfl rfl) (zb rfl)) vk ?_
 refine zp rfl (fun hb=>zg rfl fo54x4 xn rfl) vb ?_
 refine zp rfl (fun hb=>zu rfl ty48.choose_spec.1 (zn wZ hb) rfl (zH (cs':=[.int .u8 y1.was.typ,.int .i64 y1.was.n,.int .u64 y1.was.time,.int .u8 y1.was.dot.actor.rep,.int .u32 y1.was.dot.actor.inc,.int .u64 y1.was.dot.seq,.str y1.was.text,.sl 5 (y1.was.items.map GItem.row),.sl 3 (y1.was.tombs.map GDot.row)]) ty48.choose_spec.2 rfl rfl) (zb rfl)) va ?_
 refine yN hF (fun v2 hv2 hF=>?_)
 refine yk rfl (fun hb=>zC rfl rfl rfl (zo (zn vt hb) (zo (zn ve hb) zw)) (.cons (zb rfl) (.cons (zb rfl) .nil))) (fun hb=>ok20 (hv2 hb)) w9 ?_
 refine zc rfl (zM rfl w5 wY rfl (zX (fun ht=>gT ht))) vj ?_
 refine zc rfl (zf rfl wX (zb rfl)) vI ?_
 refine zp rfl (fun hb=>zg rfl fo54x5 yV rfl) vA ?_
 refine zp rfl (fun hb=>zu rfl ty48.choose_spec.1 (zn vr hb) rfl (zH (cs':=[.int .u8 x0.is.typ,.int .i64 x0.is.n,.int .u64 x0.is.time,.int .u8 x0.is.dot.actor.rep,.int .u32 x0.is.dot.actor.inc,.int .u64 x0.is.dot.seq,.str x0.is.text,.sl 5 (x0.is.items.map GItem.row),.sl 3 (x0.is.tombs.map GDot.row)]) ty48.choose_spec.2 rfl rfl) (zb rfl)) (sk st0) ?_
 refine zp rfl (fun hb=>zg rfl fo54x5 xn rfl) (sk st1) ?_
 refine zp rfl (fun hb=>zu rfl ty48.choose_spec.1 (zn (gk yF) hb) rfl (zH (cs':=[.int .u8 y1.is.typ,.int .i64 y1.is.n,.int .u64 y1.is.time,.int .u8 y1.is.dot.actor.rep,.int .u32 y1.is.dot.actor.inc,.int .u64 y1.is.dot.seq,.str y1.is.text,.sl 5 (y1.is.items.map GItem.row),.sl 3 (y1.is.tombs.map GDot.row)]) ty48.choose_spec.2 rfl rfl) (zb rfl)) (sk xh) ?_
 refine yN hF (fun v3 hv3 hF=>?_)
 refine yk rfl (fun hb=>zC rfl rfl rfl (zo (zn (gk yr) hb) (zo (zn (gk yV) hb) zw)) (.cons (zb rfl) (.cons (zb rfl) .nil))) (fun hb=>ok20 (hv3 hb)) (sk wo) ?_
 refine zc rfl (zM rfl vM (gk xn) rfl (zX (fun ht=>gT ht))) (sk yB) ?_
 refine zc rfl (zi rfl (gk yz) (zb rfl)) yB ?_
 refine ze (zj (zL ?_))
 obtain rfl:=Option.some.inj hF
 refine zA rfl (zD yz zG) (zz (leV.refl _) rfl ?_)
 exact ⟨rfl,rfl⟩
/-! varve/diff.Same -/
theorem ok9 {a0:(List GEdit)} {b1:(List GEdit)} {res:Bool} {h:AH}  (hF:diffSame a0 b1=some res):Spec Tryz.prog 9 [.sl 22 (a0.map GEdit.row),.sl 22 (b1.map GEdit.row)] h (fun rr hh=>rr=.bool res∧hh=h):=by
 unfold diffSame at hF
 refine zt Tryz.func9 rfl (by kernel_rfl) (env:=[.sl 22 (a0.map GEdit.row),.sl 22 (b1.map GEdit.row),za,za,za,za,za,za]) (by rfl) ?_
 refine zk (zd ?_)
 refine zc rfl (zi rfl rfl (zb rfl)) yB ?_
 refine ze (zj (zk (zd ?_)))
 refine zc rfl (zf rfl yr (zb rfl)) xz ?_
 refine zc rfl (zf rfl yF (zb rfl)) xE ?_
 refine zR hF (fun v1 hv1 hF=>?_)
 refine zN rfl (zC rfl rfl rfl (zo yS (zo yU (zo rfl zw))) (.cons (zb rfl) (.cons (zb rfl) (.cons (zb rfl) .nil)))) (ok21 (fun _ _ v L M hv=>ok22  hv) hv1) xO ?_
 refine zc rfl (zi rfl xH (zb rfl)) yB ?_
 refine ze (zj (zL ?_))
 obtain rfl:=Option.some.inj hF
 refine zA rfl (zD yz zG) (zz (leV.refl _) rfl ?_)
 exact ⟨rfl,rfl⟩
/-! varve/paths.parts -/
theorem ok83 {p0:(List zJ)} {res:((List zJ)×Bool)} {h:AH}  (hF:pathsXparts p0=some res):Spec Tryz.prog 83 [.sl 1 (p0.map zP)] h (fun rr hh=>rr=.tup [.sl 1 (res.1.map zP),.bool res.2]∧hh=h):=by
 unfold pathsXparts at hF
 refine zt Tryz.func83 rfl (by kernel_rfl) (env:=[.sl 1 (p0.map zP),za,za,za,za,za,za,za,za,za,za,za,za,za,za,za,za,za,za,za,za,za]) (by rfl) ?_
 refine zk (zd ?_)
 refine zc rfl (zi rfl rfl (xy wt)) xh ?_
 refine zc rfl (zi rfl rfl (zb rfl)) wo ?_
 refine ze (zj (zk (zk (zd ?_))))
 refine zc rfl (zf rfl yr (zb rfl)) xz ?_
 refine yb rfl (zS rfl rfl rfl rfl wt yS yc) xE fun hn1=>?_
 replace hn1:=xl hn1
 refine zc rfl (zi rfl yU (zb rfl)) yB ?_
 refine ze (zj (zk (zd ?_)))
 refine zc rfl (zf rfl yz (zb rfl)) xO ?_
 refine zc rfl (zy rfl xH rfl rfl) xX ?_
 refine zc rfl (zf rfl xj (zb rfl)) wB ?_
 refine zp rfl (fun hb=>zf rfl yr (zb rfl)) yL ?_
 refine zp rfl (fun hb=>zf rfl yz (zb rfl)) yP ?_
 refine zp rfl (fun hb=>zy rfl (zn yA hb) rfl rfl) yX ?_
 refine wS hF (fun hg2 hF=>?_)
 refine zp rfl (fun hb=>xT default rfl wt (zn yq hb) (zn yM hb) w7 (hg2 hb)) yW ?_
 refine zp rfl (fun hb=>ye rfl ty9 (zn yC hb) (zr rfl) (zb rfl)) y5 ?_
 refine zp rfl (fun hb=>zy rfl (zn yY hb) rfl rfl) y6 ?_
 refine zc rfl (zM rfl xV yT rfl (zX (fun ht=>gT ht))) xg ?_
 refine ze (zj ?_)
 refine zO xd hF (fun hc3 hF=>?_) (fun hc3 hF=>?_)
 ·refine zk (zd ?_)
  refine zc rfl (zf rfl yr (zb rfl)) xk ?_
  refine zc rfl (zf rfl yz (zb rfl)) xD ?_
  refine zc rfl (zy rfl xB rfl rfl) xK ?_
  refine zR hF (fun m4 hm4 hF=>?_)
  refine zc rfl (s_slcSl rfl wt xi (.inl rfl) .none (.some xJ) hm4) xY ?_
  refine zc rfl (zi rfl xZ (zb rfl)) xh ?_
  refine zc rfl (zi rfl rfl (zb rfl)) wo ?_
  refine ze (zj (zL (zx ?_)))
  obtain rfl:=Option.some.inj hF
  refine qm rfl (zD yV (zD xn zG)) (zz (leV.refl _) rfl ?_)
  exact ⟨rfl,rfl⟩
 ·refine zK (zj (zk (zd ?_)))
  refine zc rfl (zf rfl yr (zb rfl)) x7 ?_
  refine zc rfl (zi rfl x5 (zb rfl)) xh ?_
  refine zc rfl (zi rfl rfl (zb rfl)) wo ?_
  refine ze (zj (zL ?_))
  obtain rfl:=Option.some.inj hF
  refine qm rfl (zD yV (zD xn zG)) (zz (leV.refl _) rfl ?_)
  exact ⟨rfl,rfl⟩
/-! varve/paths.MayPattern 1 -/
theorem ok84 {s0:zJ} {res:Bool} {h:AH}  (hF:qh s0=some res):Spec Tryz.prog 84 [.str s0] h (fun rr hh=>rr=.bool res∧hh=h):=by
 unfold qh at hF
 refine zt Tryz.func84 rfl (by kernel_rfl) (env:=[.str s0,za,za,za,za,za,za,za,za,za]) (by rfl) ?_
 refine zk (zd ?_)
 refine zc rfl (zi rfl rfl (zb rfl)) xh ?_
 refine ze (zj (zk (zd ?_)))
 refine zc rfl (zf rfl yr (zb rfl)) wo ?_
 refine zc rfl (zy rfl xn rfl rfl) yB ?_
 refine zc rfl (zf rfl yz (zb rfl)) xz ?_
 refine zp rfl (fun hb=>zf rfl yr (zb rfl)) xE ?_
 refine yN hF (fun v1 hv1 hF=>?_)
 refine yk rfl (fun hb=>zC rfl rfl rfl (zo (zn yU hb) zw) (.cons (zb rfl) .nil)) (fun hb=>ok68 (hv1 hb)) xO ?_
 refine zp rfl (fun hb=>xR rfl (zn xH hb) rfl) xX ?_
 refine zc rfl (zM rfl yS xj rfl (zX (fun ht=>gT ht))) wB ?_
 refine zc rfl (zi rfl xV (zb rfl)) xh ?_
 refine ze (zj (zL ?_))
 obtain rfl:=Option.some.inj hF
 refine zA rfl (zD yV zG) (zz (leV.refl _) rfl ?_)
 exact ⟨rfl,rfl⟩
/-! varve/paths.MayPattern -/
theorem ok42 {p0:(List zJ)} {res:Bool} {h:AH}  (hF:vi p0=some res):Spec Tryz.prog 42 [.sl 1 (p0.map zP)] h (fun rr hh=>rr=.bool res∧hh=h):=by
 unfold vi at hF
 refine zt Tryz.func42 rfl (by kernel_rfl) (env:=[.sl 1 (p0.map zP),za,za,za,za,za,za,za,za,za,za,za,za,za,za,za,za,za,za,za,za,za,za,za,za,za,za,za]) (by rfl) ?_
 refine zk (zd ?_)
 refine zc rfl (zi rfl rfl (zb rfl)) xh ?_
 refine ze (zj (zk (zd ?_)))
 refine zc rfl (zf rfl yr (zb rfl)) xO ?_
 refine zR hF (fun v1 hv1 hF=>?_)
 refine zN rfl (zC rfl rfl rfl (zo xH zw) (.cons (zb rfl) .nil)) (ok83 hv1) xX ?_
 refine zc rfl (zf rfl xj (zb rfl)) xE ?_
 refine zc rfl (yn rfl yU rfl (zb rfl)) wB ?_
 refine zc rfl (yn rfl yU rfl (zb rfl)) yL ?_
 refine zc rfl (zi rfl xV (zb rfl)) wo ?_
 refine zc rfl (zi rfl yq (zb rfl)) yB ?_
 refine ze (zj (zk (zd ?_)))
 refine zc rfl (zi rfl rfl (zb rfl)) xz ?_
 refine ze (zj (zk (zd ?_)))
 refine zc rfl (zf rfl xn (zb rfl)) yP ?_
 refine yb rfl (zS rfl rfl rfl rfl wt yA yc) yX fun hn2=>?_
 replace hn2:=xl hn2
 refine zc rfl (zy rfl yM rfl rfl) yW ?_
 refine zc rfl (zf rfl yC (zb rfl)) y5 ?_
 refine zp rfl (fun hb=>zf rfl yz (zb rfl)) y6 ?_
 refine zc rfl (zM rfl yY rfl yT (z8 (fun ht=>gF ht))) xg ?_
 refine zc rfl (zf rfl xd (zb rfl)) xk ?_
 refine zp rfl (fun hb=>zf rfl xn (zb rfl)) xD ?_
 refine xA rfl (fun hb=>zS rfl rfl rfl rfl wt (zn xB hb) yc) xK fun hn3=>?_
 refine zp rfl (fun hb=>zy rfl (zn xJ hb) rfl rfl) xY ?_
 refine zc rfl (zM rfl xi xZ rfl (zX (fun ht=>gT ht))) x7 ?_
 refine zc rfl (zf rfl x5 (zb rfl)) wl ?_
 refine zp rfl (fun hb=>zf rfl xn (zb rfl)) x6 ?_
 refine zp rfl (fun hb=>zf rfl yS (zb rfl)) wh ?_
 refine yN hF (fun v4 hv4 hF=>?_)
 refine yk rfl (fun hb=>zC rfl rfl rfl (zo (zn xN hb) (zo (zn wc hb) zw)) (.cons (zb rfl) (.cons (zb rfl) .nil))) (fun hb=>ok81 (fun _ v L M hv=>ok84  hv) (hv4 hb)) wj ?_
 refine zp rfl (fun hb=>xR rfl (zn wb hb) rfl) wF ?_
 refine zc rfl (zM rfl wi wE rfl (zX (fun ht=>gT ht))) wM ?_
 refine zc rfl (zi rfl wN (zb rfl)) xh ?_
 refine ze (zj (zL ?_))
 obtain rfl:=Option.some.inj hF
 refine zA rfl (zD yV zG) (zz (leV.refl _) rfl ?_)
 exact ⟨rfl,rfl⟩
/-! varve/paths.kept -/
theorem ok43N (n:Nat):∀ {t0:(List GNode)} {ahead1:(List zJ)} {is2:((List zJ)→Option Bool)} {fis2:FuncId} {ais2 kis2:List AV} {res:(List GNode)} {h:AH} (his2:∀ x0 v (L:List Blk) (M:List Nat),is2 x0=some v→Spec Tryz.prog fis2 (ais2++[.sl 1 (x0.map zP)]++kis2) (h.ext L M) (fun rr hh=>rr=.bool v∧hh=h.ext L M)),qp n t0 ahead1 is2=some res→Spec Tryz.prog 43 [.sl 3 (t0.map GNode.row),.sl 1 (ahead1.map zP),.fn (.func fis2) ais2 kis2] h (fun rr hh=>rr=.sl 3 (res.map GNode.row)∧hh=h):=by
 induction n with
 | zero=>intro t0 ahead1 is2 fis2 ais2 kis2 res h his2 hF;simp [qp] at hF
 | succ n ih =>
  intro t0 ahead1 is2 fis2 ais2 kis2 res h his2 hF
  unfold qp at hF
  refine yG Tryz.func43 rfl (by kernel_rfl) (env:=[.sl 3 (t0.map GNode.row),.sl 1 (ahead1.map zP),.fn (.func fis2) ais2 kis2,za,za,za,za,za,za,za,za,za,za,za,za,za,za,za,za,za,za,za,za,za,za,za,za,za,za,za,za,za,za,za,za,za,za,za,za,za,za,za,za,za,za,za,za,za,za,za,za,za,za,za,za,za,za,za,za,za,za,za,za,za,za]) (by rfl) (fun hlow hC=>?_)
  simp only [yi,AV.low,Bool.and_eq_true,Bool.true_and,and_true] at hlow
  have hlais2:∀ n m,h.blks.length≤n→h.toks.length≤m→yi n m ais2=true:=fun n m h1 h2=>y8 h1 h2 _ (by simp [hlow])
  have hlkis2:∀ n m,h.blks.length≤n→h.toks.length≤m→yi n m kis2=true:=fun n m h1 h2=>y8 h1 h2 _ (by simp [hlow])
  refine zk (zd ?_)
  refine zc rfl (zi rfl rfl (xy xC)) xE ?_
  refine ze (zj (zk (zk (zd ?_))))
  refine zc rfl (zf rfl yr (zb rfl)) yW ?_
  refine yb rfl (zS rfl rfl rfl rfl xC yC yc) y5 fun hn1=>?_
  replace hn1:=xl hn1
  refine zc rfl (zf rfl rfl (zb rfl)) y6 ?_
  refine ze (zj (zQ ?_))
  refine yo (fun (n1:Nat) (s1:(List GNode))=>yO [0,3,4,5,7,8,9,10,11,12,16,17,18,19,20,21,22,23,24,25,26,27,28,29,30,31,32,33,34,35,36,37,38,39,40,41,42,43,44,45,46,47,48,49,50,51,52,53,54,55,56,57,58,59,60,61,62,63,64] [(6,.osl (some (h.toks.length+0)) 3 (s1.map GNode.row)),(15,.int .i64 (n1:Int))]) (fun s1=>h.ext [] [(s1).length]) hF (fun _ _=>by simp only [yO,upd,List.set_cons_succ,List.set_cons_zero];try rfl) (wk.trans (wk_tok yU rfl xE rfl) (wk.le (by exact (.drop (.eq (.eq (.drop (.drop (.drop (.cons (leV.of_eq rfl) (.d4 (.drop (.drop (.eq (.eq (.cons (leV.of_eq rfl) (.d16 (.d16 (.d16 (.drop leL.nil)))))))))))))))))))) ?_
  intro n1 s1 hi1 hF
  refine zk (zd ?_)
  refine zc rfl (zy rfl yT yY rfl) xg ?_
  refine ze (zj (zk ?_))
  refine yJ xd hF (fun x1 o1 hl1 hx1 hF hK1=>?_) (fun hF=>?_)
  ·refine zK (zj (zk (zQ (zk (zd ?_)))))
   refine zc rfl (xS rfl xC yC yT w7 (yK hx1) (GNode.row_eq _)) xk ?_
   refine zc rfl (ye rfl ty51.choose_spec.1 xi (zH (cs':=[.str x1.name,.sl 9 (x1.leaves.map GLeaf.row),.sl 3 (x1.subs.map GNode.row)]) ty51.choose_spec.2 rfl rfl) (zb rfl)) xD ?_
   refine zc rfl (y4 (n:=0) rfl ze51 rfl) xX ?_
   refine zc rfl (yg (cs':=[.str x1.name,.sl 9 (x1.leaves.map GLeaf.row),.sl 3 (x1.subs.map GNode.row)]) rfl ty51.choose_spec.1 xj xB (zb rfl) rfl rfl rfl rfl rfl) rfl ?_
   refine ze (zj (zk ?_))
   refine yI [] [] trivial mixed (by kernel_rfl) ?_
   refine zq rfl rfl (zf rfl yF (zb rfl)) xK ?_
   refine zR hF (fun v32 hv32 hF=>?_)
   refine vD rfl FOk.nil (by rfl) rfl (zC rfl rfl rfl (zo xJ zw) (.cons (zb rfl) .nil)) (own_ext (T':=[(s1).length,(v32).length]) (ok72 hv32) (m:=1) rfl rfl) xY ?_
   refine zq rfl rfl (zg rfl fo51x0 xj rfl) x7 ?_
   refine zq rfl rfl (zu rfl ty9 x5 rfl (zr rfl) (zb rfl)) wl ?_
   refine zq rfl rfl (yE (es:=([x1.name]:List zJ).map zP) rfl wt ze9 rfl rfl (yl wi yp) (.cons (zb rfl) .nil) rfl rfl rfl) x6 ?_
   refine wS hF (fun hm33 hF=>?_)
   refine draw_okH rfl FOk.nil (by rfl) rfl (e_appT (j:=1) (T':=[(s1).length,((v32++([x1.name]:List zJ))).length]) rfl rfl rfl rfl wt wt xZ xN (zb rfl) (zb rfl) news_osl hm33 rfl rfl) wh ?_
   refine zq rfl rfl (zi rfl wc (zb rfl)) wB ?_
   refine ym ?_
   refine zj (zk ?_)
   refine yI [1,3,6] [(1,[(0,.cells [.str x1.name,.sl 9 (x1.leaves.map GLeaf.row),.sl 3 (x1.subs.map GNode.row)])]),(3,[(0,.cells [.str x1.name,.sl 9 (x1.leaves.map GLeaf.row),.sl 3 (x1.subs.map GNode.row)])])] ⟨⟨rfl,trivial⟩,⟨rfl,trivial⟩,trivial⟩ mixed (by kernel_rfl) ?_
   refine zq rfl rfl (zg rfl fo51x0 xj rfl) wj ?_
   refine draw_okN rfl rfl (by rintro _ ⟨B2,T2,rfl,hk2⟩;exact zu rfl ty9 wb (keeps1 hk2) (zr rfl) (zb rfl)) wF ?_
   refine zq rfl rfl (zg rfl fo51x2 xj rfl) wM ?_
   refine draw_okN rfl rfl (by rintro _ ⟨B2,T2,rfl,hk2⟩;exact zu rfl ty23 wN (keeps1 hk2) (zr rfl) (zb rfl)) wL ?_
   refine zq rfl rfl (zf rfl xV (zb rfl)) wW ?_
   refine zq rfl rfl (zf rfl yV (zb rfl)) wV ?_
   refine zR hF (fun v34 hv34 hF=>?_)
   refine yu rfl rfl (fun _=>zC rfl rfl rfl (zo wH (zo w6 (zo vg zw))) (.cons (zb rfl) (.cons (zb rfl) (.cons (zb rfl) .nil)))) (by rintro _ ⟨B2,T2,rfl,hk2⟩;exact (ih (fun x0 v L M hv=>by rw [ww];exact his2 x0 v _ _ hv) hv34).le (.eq (.cons (leV.osl _ _ _) (.eq leL.nil)))) wU ?_
   refine zq rfl rfl (qA (cs':=[.str x1.name,.osl none 9 (([]:List GLeaf).map GLeaf.row),.sl 3 (v34.map GNode.row)]) rfl su51 ze51 pl51 (yl wE (yl w5 yp)) (.cons (zb rfl) (.cons (zb rfl) .nil)) rfl rfl) vl ?_
   refine yZ rfl (FOk.cons (.inr (xP ⟨rfl,trivial⟩)) (FOk.cons (.inr (xP ⟨rfl,trivial⟩)) (FOk.cons (.inr (xP trivial)) FOk.nil))) (by kernel_rfl) rfl (y4 (n:=1) rfl ze51 rfl) yL ?_
   refine yZ rfl (FOk.cons (.inr (xP ⟨rfl,trivial⟩)) (FOk.cons (.inr (xP ⟨rfl,trivial⟩)) (FOk.cons (.inr (xP trivial)) FOk.nil))) (by kernel_rfl) rfl (yg (cs':=[.str x1.name,.osl none 9 (([]:List GLeaf).map GLeaf.row),.sl 3 (v34.map GNode.row)]) rfl ty51.choose_spec.1 yq vf (zb rfl) rfl rfl rfl rfl rfl) rfl ?_
   refine ym ?_
   refine zj (zk (zk (zd ?_)))
   refine zc rfl (zg rfl wm xj rfl) vk ?_
   refine zc rfl (zu rfl ty49 vt rfl (zr rfl) (zb rfl)) vb ?_
   refine yb rfl (zS rfl rfl rfl rfl wu wZ yc) va fun hn35=>?_
   replace hn35:=xl hn35
   refine zc rfl (zf rfl rfl (zb rfl)) w9 ?_
   refine ze (zj (zQ ?_))
   refine yo (fun (n2:Nat) (s2:(List GLeaf))=>yO [0,3,4,5,7,8,11,12,16,17,18,19,20,21,22,23,24,25,26,27,28,29,30,31,32,33,37,38,39,40,41,42,43,44,45,46,47,48,49,50,51,52,53,54,55,56,57,58,59,60,61,62,63,64] [(36,.int .i64 (n2:Int))]) (fun s2=>h.ext [.cells [.str x1.name,.sl 9 (x1.leaves.map GLeaf.row),.sl 3 (x1.subs.map GNode.row)],.cells [.str x1.name,.osl (some (h.toks.length+2)) 9 (s2.map GLeaf.row),.sl 3 (v34.map GNode.row)]] [(s1).length,((v32++([x1.name]:List zJ))).length,(s2).length]) hF (fun _ _=>by simp only [yO,upd,List.set_cons_succ,List.set_cons_zero];try rfl) (wk.trans (wk_tokB (j:=1) rfl yF rfl st1 rfl rfl) (wk.le (by exact (.drop (.eq (.eq (.drop (.drop (.drop (.eq (.drop (.drop (.eq (.eq (.drop (.drop (.eq (.eq (.eq (.d16 (.drop (.drop (.eq (.eq (.cons (leV.of_eq rfl) (.d16 (.d4 (.d4 (.d4 leL.nil))))))))))))))))))))))))))))) ?_
   intro n2 s2 hi2 hF
   refine zk (zd ?_)
   refine zc rfl (zy rfl wY ve rfl) vj ?_
   refine ze (zj (zk ?_))
   refine yJ wX hF (fun x2 o2 hl2 hx2 hF hK2=>?_) (fun hF=>?_)
   ·refine zK (zj (zk (zQ (zk (zd ?_)))))
    refine zc rfl (yj rfl wu wZ wY w7 (yK hx2)) vI ?_
    refine zc rfl (ye rfl ty48.choose_spec.1 vM (zH (cs':=[.int .u8 x2.typ,.int .i64 x2.n,.int .u64 x2.time,.int .u8 x2.dot.actor.rep,.int .u32 x2.dot.actor.inc,.int .u64 x2.dot.seq,.str x2.text,.sl 5 (x2.items.map GItem.row),.sl 3 (x2.tombs.map GDot.row)]) ty48.choose_spec.2 rfl rfl) (zb rfl)) vA ?_
    refine zc rfl (y4 (n:=2) rfl ze48 rfl) yX ?_
    refine zc rfl (yg (cs':=[.int .u8 x2.typ,.int .i64 x2.n,.int .u64 x2.time,.int .u8 x2.dot.actor.rep,.int .u32 x2.dot.actor.inc,.int .u64 x2.dot.seq,.str x2.text,.sl 5 (x2.items.map GItem.row),.sl 3 (x2.tombs.map GDot.row)]) rfl ty48.choose_spec.1 yM vr (zb rfl) rfl rfl rfl rfl rfl) rfl ?_
    refine ze (zj (zk (zd ?_)))
    refine zc rfl (zf rfl yV (zb rfl)) (sk st0) ?_
    refine zc rfl (zf rfl xV (zb rfl)) (sk st1) ?_
    refine zR hF (fun v49 hv49 hF=>?_)
    refine zN rfl (s_callC rfl rfl (gk yr) (zo (gk yF) zw) (.cons (zb rfl) .nil) rfl) ((his2 _ _ _ _ hv49).le (leL.app (leL.pre (.cons (leV.osl _ _ _) leL.nil)))) (sk xh) ?_
    refine ze (zj ?_)
    refine zO (gk yV) hF (fun hc50 hF=>?_) (fun hc50 hF=>?_)
    ·refine yI [3] [] trivial mixed (by kernel_rfl) ?_
     refine zq rfl rfl (zg rfl wm yq rfl) (sk wo) ?_
     refine zq rfl rfl (zu rfl ty49 (gk xn) rfl (zr rfl) (zb rfl)) (sk yB) ?_
     refine zq rfl rfl (zu rfl ty48.choose_spec.1 yM rfl (zH (cs':=[.int .u8 x2.typ,.int .i64 x2.n,.int .u64 x2.time,.int .u8 x2.dot.actor.rep,.int .u32 x2.dot.actor.inc,.int .u64 x2.dot.seq,.str x2.text,.sl 5 (x2.items.map GItem.row),.sl 3 (x2.tombs.map GDot.row)]) ty48.choose_spec.2 rfl rfl) (zb rfl)) (sk xz) ?_
     refine zR hF (fun v51 hv51 hF=>?_)
     refine yu rfl rfl (fun _=>zC rfl rfl rfl (zo (gk yS) zw) (.cons (zb rfl) .nil)) (by rintro _ ⟨B2,T2,rfl,hk2⟩;exact ok73 hv51) (sk xE) ?_
     refine zq rfl rfl (yE (es:=([v51]:List GLeaf).map GLeaf.row) rfl wu ze48 rfl rfl (yl (gk yU) yp) (.cons (zb rfl) .nil) rfl rfl rfl) (sk xO) ?_
     refine wS hF (fun hm52 hF=>?_)
     refine draw_okH rfl (FOk.cons (.inr (xP trivial)) FOk.nil) (by rfl) rfl (e_appT (j:=2) (T':=[(s1).length,((v32++([x1.name]:List zJ))).length,((s2++([v51]:List GLeaf))).length]) rfl rfl rfl rfl wu wu (gk yz) (gk xH) (zb rfl) (zb rfl) news_osl hm52 rfl rfl) (sk xX) ?_
     refine zq rfl rfl (zg rfl wm yq rfl) (sk wB) ?_
     refine yZ rfl (FOk.cons (.inr (xP trivial)) FOk.nil) (by kernel_rfl) rfl (yg (cs':=[.str x1.name,.osl (some (h.toks.length+2)) 9 ((s2++([v51]:List GLeaf)).map GLeaf.row),.sl 3 (v34.map GNode.row)]) rfl ty49 (gk xV) (gk xj) (zb rfl) rfl rfl rfl rfl rfl) rfl ?_
     refine ym ?_
     refine yh (zj (zd ?_))
     refine zc rfl (zy rfl wY rfl rfl) (sk yL) ?_
     refine zc rfl (zf rfl (gk yq) (zb rfl)) w9 ?_
     refine ze (yH ?_)
     obtain rfl:=Option.some.inj hF
     exact ⟨(s2++([v51]:List GLeaf)),hl2,hK2,wk.trans (wk.le (by exact (.drop (.eq (.eq (.drop (.drop (.drop (.eq (.drop (.drop (.eq (.eq (.drop (.drop (.eq (.eq (.eq (.d16 (.drop (.drop (.eq (.eq (.cons (leV.of_eq (w8 (by omega) (by omega))) (.d16 (.d4 (.d4 (.d4 leL.nil)))))))))))))))))))))))))))) (xI (by simp [yi,AV.low,hlais2,hlkis2]) rfl rfl (by simp [Blk.low,yi,AV.low,hlais2,hlkis2]))⟩
    ·refine zK (yh (zj (zd ?_)))
     refine zc rfl (zy rfl wY rfl rfl) (sk yL) ?_
     refine zc rfl (zf rfl (gk yq) (zb rfl)) w9 ?_
     refine ze (yH ?_)
     obtain rfl:=Option.some.inj hF
     exact ⟨s2,hl2,hK2,wk.trans (wk.le (by exact (.drop (.eq (.eq (.drop (.drop (.drop (.eq (.drop (.drop (.eq (.eq (.drop (.drop (.eq (.eq (.eq (.d16 (.drop (.drop (.eq (.eq (.cons (leV.of_eq (w8 (by omega) (by omega))) (.d16 (.d4 (.d4 (.d4 leL.nil)))))))))))))))))))))))))))) (xI (by simp [yi,AV.low,hlais2,hlkis2]) rfl rfl (by simp [Blk.low,yi,AV.low,hlais2,hlkis2]))⟩
   ·refine yR ?_
    refine ya ?_
    refine zV ?_
    refine zW ?_
    refine zj (zk (zd ?_))
    refine zc rfl (zg rfl wm yq rfl) (sk yP) ?_
    refine zc rfl (zu rfl ty49 (gk yA) rfl (zr rfl) (zb rfl)) (sk yX) ?_
    refine yb rfl (zS rfl rfl rfl rfl wu (gk yM) lenMapO) (sk yW) fun hn53=>?_
    replace hn53:=xl hn53
    refine zc rfl (zg rfl fo51x2 yq rfl) (sk y5) ?_
    refine zc rfl (zu rfl ty23 (gk yY) rfl (zr rfl) (zb rfl)) (sk y6) ?_
    refine yb rfl (zS rfl rfl rfl rfl xC (gk yT) yc) (sk xg) fun hn54=>?_
    replace hn54:=xl hn54
    refine zc rfl (zy rfl (gk yC) (gk xd) rfl) (sk xk) ?_
    refine zc rfl (zy rfl (gk xi) rfl rfl) (sk xD) ?_
    refine ze (zj ?_)
    refine zO (gk xB) hF (fun hc55 hF=>?_) (fun hc55 hF=>?_)
    ·refine zd ?_
     refine zc rfl (zf rfl yU (zb rfl)) (sk xK) ?_
     refine zc rfl (zu rfl ty51.choose_spec.1 yq rfl (zH (cs':=[.str x1.name,.osl (some (h.toks.length+2)) 9 (s2.map GLeaf.row),.sl 3 (v34.map GNode.row)]) ty51.choose_spec.2 rfl rfl) (zb rfl)) (sk xY) ?_
     refine zc rfl (yE (es:=([(GNode.mk x1.name s2 v34)]:List GNode).map GNode.row) rfl xC ze51 rfl rfl (yl (gk xZ) yp) (.cons (zb rfl) .nil) rfl rfl (by simp only [List.map_cons,List.map_nil,GNode.row_eq];rfl)) (sk x7) ?_
     refine wS hF (fun hm56 hF=>?_)
     refine zc rfl (e_appT (j:=0) (T':=[((s1++([(GNode.mk x1.name s2 v34)]:List GNode))).length,((v32++([x1.name]:List zJ))).length,(s2).length]) rfl rfl rfl rfl xC xC (gk xJ) (gk x5) (zb rfl) (zb rfl) news_osl hm56 rfl rfl) (sk wl) ?_
     refine zc rfl (zi rfl (gk wi) (zb rfl)) xE ?_
     refine ze (yh (zj (zd ?_)))
     refine zc rfl (zy rfl yT rfl rfl) (sk x6) ?_
     refine zc rfl (zf rfl (gk xN) (zb rfl)) y6 ?_
     refine ze (yH ?_)
     obtain rfl:=Option.some.inj hF
     exact ⟨(s1++([(GNode.mk x1.name s2 v34)]:List GNode)),hl1,hK1,wk.trans (wk.le (by exact (.drop (.eq (.eq (.drop (.drop (.drop (.cons (leV.of_eq rfl) (.d4 (.drop (.drop (.eq (.eq (.cons (leV.of_eq (w8 (by omega) (by omega))) (.d16 (.d16 (.d16 (.drop leL.nil))))))))))))))))))) (xI (by simp [yi,AV.low,hlais2,hlkis2]) rfl rfl (by simp [Blk.low,yi,AV.low,hlais2,hlkis2]))⟩
    ·refine zK (yh (zj (zd ?_)))
     refine zc rfl (zy rfl yT rfl rfl) (sk x6) ?_
     refine zc rfl (zf rfl (gk xN) (zb rfl)) y6 ?_
     refine ze (yH ?_)
     obtain rfl:=Option.some.inj hF
     exact ⟨s1,hl1,hK1,wk.trans (wk.le (by exact (.drop (.eq (.eq (.drop (.drop (.drop (.cons (leV.of_eq rfl) (.d4 (.drop (.drop (.eq (.eq (.cons (leV.of_eq (w8 (by omega) (by omega))) (.d16 (.d16 (.d16 (.drop leL.nil))))))))))))))))))) (xI (by simp [yi,AV.low,hlais2,hlkis2]) rfl rfl (by simp [Blk.low,yi,AV.low,hlais2,hlkis2]))⟩
  ·refine yR ?_
   refine ya ?_
   refine zV ?_
   refine zW ?_
   refine zj (zk (zd ?_))
   refine zc rfl (zf rfl yU (zb rfl)) (sk wh) ?_
   refine zc rfl (zi rfl (gk wc) (zb rfl)) xE ?_
   refine ze (zj (zL ?_))
   obtain rfl:=Option.some.inj hF
   refine zA rfl (zD yU zG) (zz (leV.osl _ _ _) rfl ?_)
   exact ⟨rfl,rfl⟩
theorem ok43 {t0:(List GNode)} {ahead1:(List zJ)} {is2:((List zJ)→Option Bool)} {fis2:FuncId} {ais2 kis2:List AV} {res:(List GNode)} {h:AH} (his2:∀ x0 v (L:List Blk) (M:List Nat),is2 x0=some v→Spec Tryz.prog fis2 (ais2++[.sl 1 (x0.map zP)]++kis2) (h.ext L M) (fun rr hh=>rr=.bool v∧hh=h.ext L M)) (hF:pathsXkept t0 ahead1 is2=some res):Spec Tryz.prog 43 [.sl 3 (t0.map GNode.row),.sl 1 (ahead1.map zP),.fn (.func fis2) ais2 kis2] h (fun rr hh=>rr=.sl 3 (res.map GNode.row)∧hh=h):=by
 obtain ⟨n,hn⟩:=anyN_is hF
 exact ok43N n his2 hn
/-! varve/paths.Match -/
theorem ok45 {p0:(List zJ)} {path1:(List zJ)} {res:Bool} {h:AH}  (hF:pathsMatch p0 path1=some res):Spec Tryz.prog 45 [.sl 1 (p0.map zP),.sl 1 (path1.map zP)] h (fun rr hh=>rr=.bool res∧hh=h):=by
 unfold pathsMatch at hF
 refine zt Tryz.func45 rfl (by kernel_rfl) (env:=[.sl 1 (p0.map zP),.sl 1 (path1.map zP),za,za,za,za,za,za,za,za,za,za,za,za,za,za,za,za,za,za,za,za,za,za,za,za,za,za,za,za,za,za,za,za,za,za,za,za,za,za,za,za,za,za,za,za,za,za,za,za,za,za,za,za,za,za,za,za]) (by rfl) ?_
 refine zk (zd ?_)
 refine zc rfl (zi rfl rfl (zb rfl)) yB ?_
 refine ze (zj (zk (zd ?_)))
 refine zc rfl (zf rfl yr (zb rfl)) yL ?_
 refine zR hF (fun v1 hv1 hF=>?_)
 refine zN rfl (zC rfl rfl rfl (zo yq zw) (.cons (zb rfl) .nil)) (ok83 hv1) yP ?_
 refine zc rfl (zf rfl yA (zb rfl)) wB ?_
 refine zc rfl (yn rfl xV rfl (zb rfl)) yX ?_
 refine zc rfl (yn rfl xV rfl (zb rfl)) yW ?_
 refine zc rfl (zi rfl yM (zb rfl)) xz ?_
 refine zc rfl (zi rfl yC (zb rfl)) xE ?_
 refine ze (zj (zk (zk (zd ?_))))
 refine zc rfl (zf rfl yr (zb rfl)) y5 ?_
 refine zR hF (fun v2 hv2 hF=>?_)
 refine zN rfl (zC rfl rfl rfl (zo yY zw) (.cons (zb rfl) .nil)) (ok42 hv2) y6 ?_
 refine zc rfl (xR rfl yT rfl) xg ?_
 refine zc rfl (zf rfl xd (zb rfl)) xk ?_
 refine zp rfl (fun hb=>zf rfl yF (zb rfl)) xD ?_
 refine yN hF (fun v3 hv3 hF=>?_)
 refine yk rfl (fun hb=>zC rfl rfl rfl (zo (zn xB hb) zw) (.cons (zb rfl) .nil)) (fun hb=>ok38 (hv3 hb)) xK ?_
 refine zp rfl (fun hb=>xR rfl (zn xJ hb) rfl) xY ?_
 refine zc rfl (zM rfl xi rfl xZ (z8 (fun ht=>gF ht))) x7 ?_
 refine zc rfl (zf rfl x5 (zb rfl)) wl ?_
 refine zp rfl (fun hb=>zf rfl yF (zb rfl)) x6 ?_
 refine xA rfl (fun hb=>zS rfl rfl rfl rfl wt (zn xN hb) yc) wh fun hn4=>?_
 refine zp rfl (fun hb=>zf rfl yS (zb rfl)) wj ?_
 refine xA rfl (fun hb=>zS rfl rfl rfl rfl wt (zn wb hb) yc) wF fun hn5=>?_
 refine zp rfl (fun hb=>zy rfl (zn wc hb) (zn wE hb) rfl) wM ?_
 refine zc rfl (zM rfl wi rfl wN (z8 (fun ht=>gF ht))) wL ?_
 refine zc rfl (zf rfl wH (zb rfl)) wW ?_
 refine zp rfl (fun hb=>zf rfl yF (zb rfl)) wV ?_
 refine xA rfl (fun hb=>zS rfl rfl rfl rfl wt (zn vg hb) yc) wU fun hn6=>?_
 refine zp rfl (fun hb=>zf rfl yS (zb rfl)) vl ?_
 refine xA rfl (fun hb=>zS rfl rfl rfl rfl wt (zn vf hb) yc) vk fun hn7=>?_
 refine zp rfl (fun hb=>zy rfl (zn w5 hb) (zn vt hb) rfl) vb ?_
 refine zp rfl (fun hb=>zf rfl (zn wZ hb) (zb rfl)) va ?_
 refine zp (z7 rfl rfl rfl) (fun hb=>zf rfl yU (zb rfl)) w9 ?_
 refine zp (z7 rfl rfl rfl) (fun hb=>xR rfl (zn wY hb) rfl) vj ?_
 refine zp rfl (fun hb=>zM rfl (zn ve hb) wX rfl (zX (fun ht=>gT2 hb ht))) vI ?_
 refine zc rfl (zM rfl w6 rfl vM (z8 (fun ht=>gF ht))) vA ?_
 refine ze (zj ?_)
 refine zO vr hF (fun hc8 hF=>?_) (fun hc8 hF=>?_)
 ·refine zk (zd ?_)
  refine zc rfl (zi rfl rfl (zb rfl)) yB ?_
  refine ze (zj (zL (zx ?_)))
  obtain rfl:=Option.some.inj hF
  refine zA rfl (zD yz zG) (zz (leV.refl _) rfl ?_)
  exact ⟨rfl,rfl⟩
 ·refine zK (zj (zk (zk (zd ?_))))
  refine zc rfl (zf rfl yS (zb rfl)) (sk st0) ?_
  refine yb rfl (zS rfl rfl rfl rfl wt (gk yr) yc) (sk st1) fun hn9=>?_
  replace hn9:=xl hn9
  refine zc rfl (zf rfl rfl (zb rfl)) (sk xh) ?_
  refine ze (zj (zQ ?_))
  refine yo (fun (n1:Nat) (s1:Unit)=>yO [0,2,3,4,5,6,7,8,9,10,11,12,13,14,15,16,17,18,19,20,21,22,23,24,25,26,27,28,29,30,31,32,33,34,35,36,37,38,39,43,44,45,46,47,48,49,50,51,52,53,54,55,56,57] [(42,.int .i64 (n1:Int))]) (fun s1=>h.ext [] []) hF (fun _ _=>by simp only [yO,upd,List.set_cons_succ,List.set_cons_zero];try rfl) (wk.le (by exact (.drop (.eq (.d16 (.d16 (.d4 (.drop (.drop (.eq (.eq (.cons (leV.of_eq rfl) (.d4 (.d4 (.d4 (.drop (.drop (.drop leL.nil)))))))))))))))))) ?_
  intro n1 s1 hi1 hF
  refine zk (zd ?_)
  refine zc rfl (zy rfl (gk yV) (gk yF) rfl) (sk wo) ?_
  refine ze (zj (zk ?_))
  refine yJ (gk xn) hF (fun x1 o1 hl1 hx1 hF hK1=>?_) (fun hF=>?_)
  ·refine zK (zj (zk (zQ (zk (zd ?_)))))
   refine zc rfl (zf rfl (gk yV) (zb rfl)) (sk yB) ?_
   refine zc rfl (yj rfl wt (gk yr) (gk yV) w7 (yK hx1)) (sk xz) ?_
   refine zc rfl (ye rfl ty9 (gk yS) (zr rfl) (zb rfl)) (sk xE) ?_
   refine zc rfl (zi rfl (gk yz) (zb rfl)) xO ?_
   refine zc rfl (zi rfl (gk yU) (zb rfl)) xX ?_
   refine ze (zj (zk (zd ?_)))
   refine zc rfl (zf rfl xj (zb rfl)) (sk xO) ?_
   refine zc rfl (zy rfl (gk xH) rfl rfl) (sk xX) ?_
   refine zc rfl (zf rfl (gk xj) (zb rfl)) (sk wB) ?_
   refine zp rfl (fun hb=>zf rfl xj (zb rfl)) (sk yL) ?_
   refine zp rfl (fun hb=>zf rfl yF (zb rfl)) (sk yP) ?_
   refine zp rfl (fun hb=>zf rfl xH (zb rfl)) (sk yX) ?_
   refine wS hF (fun hg15 hF=>?_)
   refine zp rfl (fun hb=>xT default rfl wt (zn (gk yA) hb) (zn (gk yM) hb) w7 (hg15 hb)) (sk yW) ?_
   refine zp rfl (fun hb=>ye rfl ty9 (zn (gk yC) hb) (zr rfl) (zb rfl)) (sk y5) ?_
   refine zp rfl (fun hb=>zy rfl (zn (gk yq) hb) (zn (gk yY) hb) rfl) (sk y6) ?_
   refine zc rfl (zM rfl (gk xV) (gk yT) rfl (zX (fun ht=>gT ht))) (sk xg) ?_
   refine ze (zj ?_)
   refine zO (gk xd) hF (fun hc16 hF=>?_) (fun hc16 hF=>?_)
   ·refine zk (zd ?_)
    refine zc rfl (zi rfl rfl (zb rfl)) yB ?_
    refine ze (zj (zL ?_))
    refine zF ?_
    refine zx ?_
    refine yd ?_
    obtain rfl:=Option.some.inj hF
    replace hF:=hK1
    refine zF ?_
    refine zx ?_
    obtain rfl:=Option.some.inj hF
    refine zA rfl (zD yz zG) (zz (leV.refl _) rfl ?_)
    exact ⟨rfl,rfl⟩
   ·refine zK (yh (zj (zd ?_)))
    refine zc rfl (zy rfl (gk yV) rfl rfl) (sk xk) ?_
    refine zc rfl (zf rfl (gk xi) (zb rfl)) (sk xh) ?_
    refine ze (yH ?_)
    obtain rfl:=Option.some.inj hF
    exact ⟨(),hl1,hK1,wk.le (by exact (.drop (.eq (.d16 (.d16 (.d4 (.drop (.drop (.eq (.eq (.cons (leV.of_eq (w8 (by omega) (by omega))) (.d4 (.d4 (.d4 (.drop (.drop (.drop leL.nil)))))))))))))))))⟩
  ·refine yR ?_
   refine ya ?_
   refine zV ?_
   refine zW ?_
   refine zj (zk (zd ?_))
   refine zc rfl (zi rfl rfl (zb rfl)) yB ?_
   refine ze (zj (zL ?_))
   obtain rfl:=Option.some.inj hF
   refine zA rfl (zD yz zG) (zz (leV.refl _) rfl ?_)
   exact ⟨rfl,rfl⟩
/-! varve/paths.Select 1 -/
theorem ok44 {path0:(List zJ)} {c0:(List zJ)} {i0:Nat} {res:Bool} {h:AH} (hb0:h.blk i0=some (.cells [.sl 1 (c0.map zP)])) (hF:pathsSelectC1 path0 c0=some res):Spec Tryz.prog 44 [.sl 1 (path0.map zP),.ptr i0 0] h (fun rr hh=>rr=.bool res∧hh=h):=by
 unfold pathsSelectC1 at hF
 refine zt Tryz.func44 rfl (by kernel_rfl) (env:=[.sl 1 (path0.map zP),.ptr i0 0,za,za,za,za,za]) (by rfl) ?_
 refine zk (zd ?_)
 refine zc rfl (zi rfl rfl (zb rfl)) wo ?_
 refine ze (zj (zk (zd ?_)))
 refine zc rfl (b_load rfl ty52 yF hb0 (zr rfl) (zb rfl)) yB ?_
 refine zc rfl (zf rfl yr (zb rfl)) xz ?_
 refine zR hF (fun v1 hv1 hF=>?_)
 refine zN rfl (zC rfl rfl rfl (zo yz (zo yS zw)) (.cons (zb rfl) (.cons (zb rfl) .nil))) (ok45 hv1) xE ?_
 refine zc rfl (zi rfl yU (zb rfl)) wo ?_
 refine ze (zj (zL ?_))
 obtain rfl:=Option.some.inj hF
 refine zA rfl (zD xn zG) (zz (leV.refl _) rfl ?_)
 exact ⟨rfl,rfl⟩
/-! varve/paths.Select -/
theorem ok24 {t0:(List GNode)} {p1:(List zJ)} {res:((List GNode)×Int)} {h:AH}  (hF:qq t0 p1=some res):Spec Tryz.prog 24 [.sl 3 (t0.map GNode.row),.sl 1 (p1.map zP)] h (fun rr hh=>rr=.tup [.sl 3 (res.1.map GNode.row),.int .i64 res.2]∧hh=h):=by
 unfold qq at hF
 refine zt Tryz.func24 rfl (by kernel_rfl) (env:=[.sl 3 (t0.map GNode.row),.sl 1 (p1.map zP),za,za,za,za,za,za,za,za,za,za,za,za,za,za,za]) (by rfl) ?_
 refine zk (zd ?_)
 refine zc rfl (xw (n:=0) rfl yF (zb rfl) rfl rfl) wo ?_
 refine zc rfl (zi rfl rfl (xy xC)) yB ?_
 refine zc rfl (zi rfl rfl (zb rfl)) xz ?_
 refine ze (zj (zk (zk (zd ?_))))
 refine zc rfl (zf rfl yr (zb rfl)) xE ?_
 refine zR hF (fun v1 hv1 hF=>?_)
 refine zN rfl (zC rfl rfl rfl (zo yU zw) (.cons (zb rfl) .nil)) (ok15 hv1) xO ?_
 refine zc rfl (xR rfl xH rfl) xX ?_
 refine zc rfl (zf rfl xj (zb rfl)) wB ?_
 refine zp rfl (fun hb=>zu rfl ty52 xn rfl (zr rfl) (zb rfl)) yL ?_
 refine yN hF (fun v2 hv2 hF=>?_)
 refine yk rfl (fun hb=>zC rfl rfl rfl (zo (zn yq hb) zw) (.cons (zb rfl) .nil)) (fun hb=>ok42 (hv2 hb)) yP ?_
 refine zp rfl (fun hb=>xR rfl (zn yA hb) rfl) yX ?_
 refine zc rfl (zM rfl xV rfl yM (z8 (fun ht=>gF ht))) yW ?_
 refine ze (zj ?_)
 refine zO yC hF (fun hc3 hF=>?_) (fun hc3 hF=>?_)
 ·refine zk (zd ?_)
  refine zc rfl (zi rfl rfl (xy xC)) yB ?_
  refine zc rfl (zi rfl rfl (zb rfl)) xz ?_
  refine ze (zj (zL (zx ?_)))
  obtain rfl:=Option.some.inj hF
  refine qm rfl (zD yz (zD yS zG)) (zz (leV.tup (.cons (leV.osl _ _ _) (.eq leL.nil))) rfl ?_)
  exact ⟨rfl,rfl⟩
 ·refine zK (zj (zk (zd ?_)))
  refine zc rfl (zf rfl yr (zb rfl)) y5 ?_
  refine zc rfl (s_makeFunc rfl rfl rfl) y6 ?_
  refine zR hF (fun v4 hv4 hF=>?_)
  refine zN rfl (zC rfl rfl rfl (zo yY (zo rfl (zo yT zw))) (.cons (zb rfl) (.cons (xy wt) (.cons (zb rfl) .nil)))) ((ok43 (fun _ v L M hv=>ok44 (blk_ext2 (j:=0) rfl) hv) hv4).le (.eq (.cons (leV.osl _ _ _) (.eq leL.nil)))) xg ?_
  refine zc rfl (zi rfl xd (zb rfl)) yB ?_
  refine zc rfl (zi rfl rfl (zb rfl)) xz ?_
  refine ze (zj (zL ?_))
  obtain rfl:=Option.some.inj hF
  refine qm rfl (zD yz (zD yS zG)) (zz (leV.refl _) rfl ?_)
  exact ⟨rfl,rfl⟩
end Go.Vv
