/- Each function that the law reaches computes what its reading says; printed by a program. -/
import Derived.Test.YtfikkifcjpphiaaGreatW2
namespace Go.Vv
open Go Go.Proofs
set_option maxRecDepth 100000
set_option maxHeartbeats 1000000
set_option linter.unusedSimpArgs false
set_option linter.unusedVariables false
/-! cmp.Compare[string] -/
theorem ok110 {x0 : Str} {y1 : Str} {res : Int} {h : AH}  (hF : cmpCompareString x0 y1 = some res) : Spec Tryz.prog 110 [.str x0, .str y1] h (fun rr hh => rr = .int .i64 res ∧ hh = h) := by
 unfold cmpCompareString at hF
 refine ye Tryz.func110 rfl (by kernel_rfl) (env := [.str x0, .str y1, za, za, za, za, za, za, za, za, za, za, za, za, za, za, za, za, za, za]) (by rfl) ?_
 refine zk (zd ?_)
 refine zc rfl (zg rfl rfl (zb rfl)) st4 ?_
 refine ze (zj (zk (zd ?_)))
 refine zc rfl (zf rfl gt0 (zb rfl)) st7 ?_
 refine bindF hF (fun v1 hv1 hF => ?_)
 refine yf rfl (yg rfl rfl rfl (zo gt7 zw) (.cons (zb rfl) .nil)) (ok128 hv1) st8 ?_
 refine zc rfl (zg rfl gt8 (zb rfl)) st5 ?_
 refine ze (zj (zk (zd ?_)))
 refine zc rfl (zf rfl gt1 (zb rfl)) st9 ?_
 refine bindF hF (fun v2 hv2 hF => ?_)
 refine yf rfl (yg rfl rfl rfl (zo gt9 zw) (.cons (zb rfl) .nil)) (ok128 hv2) st10 ?_
 refine zc rfl (zg rfl gt10 (zb rfl)) st6 ?_
 refine ze (zj (zk (zk (zd ?_))))
 refine zc rfl (zf rfl gt5 (zb rfl)) st11 ?_
 refine ze (zj ?_)
 refine r_condF gt11 hF (fun hc3 hF => ?_) (fun hc3 hF => ?_)
 ·skip
  refine zk (zk (zd ?_))
  refine zc rfl (zf rfl gt6 (zb rfl)) st12 ?_
  refine ze (zj ?_)
  refine r_condF gt12 hF (fun hc4 hF => ?_) (fun hc4 hF => ?_)
  ·skip
   refine zk (zd ?_)
   refine zc rfl (zg rfl rfl (zb rfl)) st4 ?_
   refine ze (zj (r_ret (zx (zx ?_))))
   obtain rfl := Option.some.inj hF
   refine zz rfl (yc gt4 yb) (zy (leV.refl _) rfl ?_)
   exact ⟨rfl, rfl⟩
  ·skip
   refine r_skip (zj (zk (zd ?_)))
   refine zc rfl (zg rfl rfl (zb rfl)) st4 ?_
   refine ze (zj (r_ret (zx ?_)))
   obtain rfl := Option.some.inj hF
   refine zz rfl (yc gt4 yb) (zy (leV.refl _) rfl ?_)
   exact ⟨rfl, rfl⟩
 ·skip
  refine r_skip (zj (zk (zk (zd ?_))))
  refine zc rfl (zf rfl gt6 (zb rfl)) st13 ?_
  refine ze (zj ?_)
  refine r_condF gt13 hF (fun hc5 hF => ?_) (fun hc5 hF => ?_)
  ·skip
   refine zk (zd ?_)
   refine zc rfl (zg rfl rfl (zb rfl)) st4 ?_
   refine ze (zj (r_ret (zx ?_)))
   obtain rfl := Option.some.inj hF
   refine zz rfl (yc gt4 yb) (zy (leV.refl _) rfl ?_)
   exact ⟨rfl, rfl⟩
  ·skip
   refine r_skip (zj (zk (zk (zd ?_))))
   refine zc rfl (zf rfl gt0 (zb rfl)) st14 ?_
   refine zc rfl (zf rfl gt1 (zb rfl)) st15 ?_
   refine zc rfl (zu rfl gt14 gt15 rfl) st16 ?_
   refine ze (zj ?_)
   refine r_condF gt16 hF (fun hc6 hF => ?_) (fun hc6 hF => ?_)
   ·skip
    refine zk (zd ?_)
    refine zc rfl (zg rfl rfl (zb rfl)) st4 ?_
    refine ze (zj (r_ret (zx ?_)))
    obtain rfl := Option.some.inj hF
    refine zz rfl (yc gt4 yb) (zy (leV.refl _) rfl ?_)
    exact ⟨rfl, rfl⟩
   ·skip
    refine r_skip (zj (zk (zk (zd ?_))))
    refine zc rfl (zf rfl gt0 (zb rfl)) st17 ?_
    refine zc rfl (zf rfl gt1 (zb rfl)) st18 ?_
    refine zc rfl (zu rfl gt17 gt18 rfl) st19 ?_
    refine ze (zj ?_)
    refine r_condF gt19 hF (fun hc7 hF => ?_) (fun hc7 hF => ?_)
    ·skip
     refine zk (zd ?_)
     refine zc rfl (zg rfl rfl (zb rfl)) st4 ?_
     refine ze (zj (r_ret (zx ?_)))
     obtain rfl := Option.some.inj hF
     refine zz rfl (yc gt4 yb) (zy (leV.refl _) rfl ?_)
     exact ⟨rfl, rfl⟩
    ·skip
     refine r_skip (zj (zk (zd ?_)))
     refine zc rfl (zg rfl rfl (zb rfl)) st4 ?_
     refine ze (zj (r_ret ?_))
     obtain rfl := Option.some.inj hF
     refine zz rfl (yc gt4 yb) (zy (leV.refl _) rfl ?_)
     exact ⟨rfl, rfl⟩
/-! slices.Compare[[]string,string] -/
theorem ok97 {s10 : (List Str)} {s21 : (List Str)} {res : Int} {h : AH}  (hF : slicesCompareString s10 s21 = some res) : Spec Tryz.prog 97 [.sl 1 (s10.map strRow), .sl 1 (s21.map strRow)] h (fun rr hh => rr = .int .i64 res ∧ hh = h) := by
 unfold slicesCompareString at hF
 refine ye Tryz.func97 rfl (by kernel_rfl) (env := [.sl 1 (s10.map strRow), .sl 1 (s21.map strRow), za, za, za, za, za, za, za, za, za, za, za, za, za, za, za, za, za, za, za, za, za, za, za, za, za, za, za, za, za, za, za, za, za, za]) (by rfl) ?_
 refine zk (zd ?_)
 refine zc rfl (zg rfl rfl (zb rfl)) st4 ?_
 refine ze (zj (zk (zk (zd ?_))))
 refine zc rfl (zf rfl gt0 (zb rfl)) st9 ?_
 refine ops_len rfl (yh rfl rfl rfl rfl el26 gt9 lenMap) st10 fun hn1 => ?_
 replace hn1 := lenN hn1
 refine zc rfl (zf rfl rfl (zb rfl)) st11 ?_
 refine ze (zj (r_block ?_))
 refine yk (fun (n1 : Nat) (s1 : Unit) => anys [2, 3, 4, 5, 6, 7, 8, 12, 13, 14, 15, 16, 17, 18, 19, 20, 21, 22, 23, 24, 25, 26, 27, 28, 29, 30, 31, 32, 33, 34, 35] [(11, .int .i64 (n1 : Int))]) (fun s1 => h.ext [] []) hF (fun _ _ => by simp only [anys, upd, List.set_cons_succ, List.set_cons_zero]; try rfl) (wk.le (by exact (.eq (.eq (.d4 (.drop (.drop (.drop (.eq (.eq (.cons (leV.of_eq rfl) (.d16 (.d4 (.d4 leL.nil)))))))))))))) ?_
 intro n1 s1 hi1 hF
 refine zk (zd ?_)
 refine zc rfl (zu rfl gt11 gt10 rfl) st12 ?_
 refine ze (zj (zk ?_))
 refine r_condL gt12 hF (fun x1 o1 hl1 hx1 hF hK1 => ?_) (fun hF => ?_)
 ·skip
  refine r_skip (zj (zk (r_block (zk (zd ?_)))))
  refine zc rfl (zf rfl gt11 (zb rfl)) st13 ?_
  refine zc rfl (s_idxRow rfl el26 gt9 gt11 isl (idx_of hx1)) st14 ?_
  refine zc rfl (yi rfl ty9 gt14 (zr rfl) (zb rfl)) st15 ?_
  refine zc rfl (zg rfl gt13 (zb rfl)) st5 ?_
  refine zc rfl (zg rfl gt15 (zb rfl)) st6 ?_
  refine ze (zj (zk (zk (zd ?_))))
  refine zc rfl (zf rfl gt5 (zb rfl)) st16 ?_
  refine zc rfl (zf rfl gt1 (zb rfl)) st17 ?_
  refine ops_len rfl (yh rfl rfl rfl rfl el26 gt17 lenMap) st18 fun hn10 => ?_
  replace hn10 := lenN hn10
  refine zc rfl (zu rfl gt16 gt18 rfl) st19 ?_
  refine ze (zj ?_)
  refine r_condF gt19 hF (fun hc11 hF => ?_) (fun hc11 hF => ?_)
  ·skip
   refine zk (zd ?_)
   refine zc rfl (zg rfl rfl (zb rfl)) st4 ?_
   refine ze (zj (r_ret (zx ?_)))
   refine yd ?_
   refine zx ?_
   refine q_loop_ret ?_
   obtain rfl := Option.some.inj hF
   replace hF := hK1
   refine yd ?_
   refine zx ?_
   obtain rfl := Option.some.inj hF
   refine zz rfl (yc gt4 yb) (zy (leV.refl _) rfl ?_)
   exact ⟨rfl, rfl⟩
  ·skip
   refine r_skip (zj (zk (zd ?_)))
   refine zc rfl (zf rfl gt1 (zb rfl)) st20 ?_
   refine zc rfl (zf rfl gt5 (zb rfl)) st21 ?_
   refine bindF hF (fun y12 hy12 hF => ?_)
   refine zc rfl (s_idxRow rfl el26 gt20 gt21 isl hy12) st22 ?_
   refine zc rfl (yi rfl ty9 gt22 (zr rfl) (zb rfl)) st23 ?_
   refine zc rfl (zg rfl gt23 (zb rfl)) st7 ?_
   refine ze (zj (zk (zd ?_)))
   refine zc rfl (zf rfl gt6 (zb rfl)) st24 ?_
   refine zc rfl (zf rfl gt7 (zb rfl)) st25 ?_
   refine bindF hF (fun v13 hv13 hF => ?_)
   refine yf rfl (yg rfl rfl rfl (zo gt24 (zo gt25 zw)) (.cons (zb rfl) (.cons (zb rfl) .nil))) (ok110 hv13) st26 ?_
   refine zc rfl (zg rfl gt26 (zb rfl)) st8 ?_
   refine ze (zj (zk (zd ?_)))
   refine zc rfl (zf rfl gt8 (zb rfl)) st27 ?_
   refine zc rfl (zu rfl gt27 rfl rfl) st28 ?_
   refine ze (zj ?_)
   refine r_condF gt28 hF (fun hc14 hF => ?_) (fun hc14 hF => ?_)
   ·skip
    refine zk (zd ?_)
    refine zc rfl (zf rfl gt8 (zb rfl)) st29 ?_
    refine zc rfl (zg rfl gt29 (zb rfl)) st4 ?_
    refine ze (zj (r_ret ?_))
    refine yd ?_
    refine zx ?_
    refine q_loop_ret ?_
    obtain rfl := Option.some.inj hF
    replace hF := hK1
    refine yd ?_
    refine zx ?_
    obtain rfl := Option.some.inj hF
    refine zz rfl (yc gt4 yb) (zy (leV.refl _) rfl ?_)
    exact ⟨rfl, rfl⟩
   ·skip
    refine r_skip (q_block (zj (zd ?_)))
    refine zc rfl (zu rfl gt11 rfl rfl) st30 ?_
    refine zc rfl (zf rfl gt30 (zb rfl)) st11 ?_
    refine ze (q_loop ?_)
    obtain rfl := Option.some.inj hF
    exact ⟨(), hl1, hK1, wk.le (by exact (.eq (.eq (.d4 (.drop (.drop (.drop (.eq (.eq (.cons (leV.of_eq (w64e (by omega) (by omega))) (.d16 (.d4 (.d4 leL.nil)))))))))))))⟩
 ·skip
  refine r_exit ?_
  refine q_seq_exit ?_
  refine yj ?_
  refine q_block_hit ?_
  refine zj (zk (zk (zd ?_)))
  refine zc rfl (zf rfl gt0 (zb rfl)) st31 ?_
  refine ops_len rfl (yh rfl rfl rfl rfl el26 gt31 lenMap) st32 fun hn15 => ?_
  replace hn15 := lenN hn15
  refine zc rfl (zf rfl gt1 (zb rfl)) st33 ?_
  refine ops_len rfl (yh rfl rfl rfl rfl el26 gt33 lenMap) st34 fun hn16 => ?_
  replace hn16 := lenN hn16
  refine zc rfl (zu rfl gt32 gt34 rfl) st35 ?_
  refine ze (zj ?_)
  refine r_condF gt35 hF (fun hc17 hF => ?_) (fun hc17 hF => ?_)
  ·skip
   refine zk (zd ?_)
   refine zc rfl (zg rfl rfl (zb rfl)) st4 ?_
   refine ze (zj (r_ret (zx ?_)))
   obtain rfl := Option.some.inj hF
   refine zz rfl (yc gt4 yb) (zy (leV.refl _) rfl ?_)
   exact ⟨rfl, rfl⟩
  ·skip
   refine r_skip (zj (zk (zd ?_)))
   refine zc rfl (zg rfl rfl (zb rfl)) st4 ?_
   refine ze (zj (r_ret ?_))
   obtain rfl := Option.some.inj hF
   refine zz rfl (yc gt4 yb) (zy (leV.refl _) rfl ?_)
   exact ⟨rfl, rfl⟩
/-! varve/diff.order -/
theorem ok61 {a0 : GEdit} {b1 : GEdit} {res : Int} {h : AH}  (hF : diffXorder a0 b1 = some res) : Spec Tryz.prog 61 [.agg [.sl 1 (a0.path.map strRow), .int .u8 a0.typ, .bool a0.had, .bool a0.has, .int .u8 a0.was.typ, .int .i64 a0.was.n, .int .u64 a0.was.time, .int .u8 a0.was.dot.actor.rep, .int .u32 a0.was.dot.actor.inc, .int .u64 a0.was.dot.seq, .str a0.was.text, .sl 5 (a0.was.items.map GItem.row), .sl 3 (a0.was.tombs.map GDot.row), .int .u8 a0.is.typ, .int .i64 a0.is.n, .int .u64 a0.is.time, .int .u8 a0.is.dot.actor.rep, .int .u32 a0.is.dot.actor.inc, .int .u64 a0.is.dot.seq, .str a0.is.text, .sl 5 (a0.is.items.map GItem.row), .sl 3 (a0.is.tombs.map GDot.row)], .agg [.sl 1 (b1.path.map strRow), .int .u8 b1.typ, .bool b1.had, .bool b1.has, .int .u8 b1.was.typ, .int .i64 b1.was.n, .int .u64 b1.was.time, .int .u8 b1.was.dot.actor.rep, .int .u32 b1.was.dot.actor.inc, .int .u64 b1.was.dot.seq, .str b1.was.text, .sl 5 (b1.was.items.map GItem.row), .sl 3 (b1.was.tombs.map GDot.row), .int .u8 b1.is.typ, .int .i64 b1.is.n, .int .u64 b1.is.time, .int .u8 b1.is.dot.actor.rep, .int .u32 b1.is.dot.actor.inc, .int .u64 b1.is.dot.seq, .str b1.is.text, .sl 5 (b1.is.items.map GItem.row), .sl 3 (b1.is.tombs.map GDot.row)]] h (fun rr hh => rr = .int .i64 res ∧ hh = h) := by
 unfold diffXorder at hF
 refine ye Tryz.func61 rfl (by kernel_rfl) (env := [.agg [.sl 1 (a0.path.map strRow), .int .u8 a0.typ, .bool a0.had, .bool a0.has, .int .u8 a0.was.typ, .int .i64 a0.was.n, .int .u64 a0.was.time, .int .u8 a0.was.dot.actor.rep, .int .u32 a0.was.dot.actor.inc, .int .u64 a0.was.dot.seq, .str a0.was.text, .sl 5 (a0.was.items.map GItem.row), .sl 3 (a0.was.tombs.map GDot.row), .int .u8 a0.is.typ, .int .i64 a0.is.n, .int .u64 a0.is.time, .int .u8 a0.is.dot.actor.rep, .int .u32 a0.is.dot.actor.inc, .int .u64 a0.is.dot.seq, .str a0.is.text, .sl 5 (a0.is.items.map GItem.row), .sl 3 (a0.is.tombs.map GDot.row)], .agg [.sl 1 (b1.path.map strRow), .int .u8 b1.typ, .bool b1.had, .bool b1.has, .int .u8 b1.was.typ, .int .i64 b1.was.n, .int .u64 b1.was.time, .int .u8 b1.was.dot.actor.rep, .int .u32 b1.was.dot.actor.inc, .int .u64 b1.was.dot.seq, .str b1.was.text, .sl 5 (b1.was.items.map GItem.row), .sl 3 (b1.was.tombs.map GDot.row), .int .u8 b1.is.typ, .int .i64 b1.is.n, .int .u64 b1.is.time, .int .u8 b1.is.dot.actor.rep, .int .u32 b1.is.dot.actor.inc, .int .u64 b1.is.dot.seq, .str b1.is.text, .sl 5 (b1.is.items.map GItem.row), .sl 3 (b1.is.tombs.map GDot.row)], za, za, za, za, za, za, za, za, za, za, za, za, za, za, za]) (by rfl) ?_
 refine zk (zd ?_)
 refine zc rfl (e_box (n := 0) rfl gt0 (zb rfl) rfl rfl) st2 ?_
 refine zc rfl (e_box (n := 1) rfl gt1 (zb rfl) rfl rfl) st3 ?_
 refine zc rfl (zg rfl rfl (zb rfl)) st4 ?_
 refine ze (zj (zk ?_))
 refine r_drawn [4, 9, 11] [] trivial mixed (by kernel_rfl) ?_
 refine zq rfl rfl (zi rfl fo64x0 gt2 rfl) st5 ?_
 refine zq rfl rfl (zt rfl ty26 gt5 rfl (zr rfl) (zb rfl)) st6 ?_
 refine zq rfl rfl (zi rfl fo64x0 gt3 rfl) st7 ?_
 refine zq rfl rfl (zt rfl ty26 gt7 rfl (zr rfl) (zb rfl)) st8 ?_
 refine bindF hF (fun v1 hv1 hF => ?_)
 refine draw_callN rfl rfl (fun _ => yg rfl rfl rfl (zo gt6 (zo gt8 zw)) (.cons (zb rfl) (.cons (zb rfl) .nil))) (by rintro _ ⟨B2, T2, rfl, hk2⟩; exact ok97 hv1) st9 ?_
 refine zq rfl rfl (zi rfl fo64x1 gt2 rfl) st10 ?_
 refine zq rfl rfl (zt rfl ty5 gt10 rfl (zr rfl) (zb rfl)) st11 ?_
 refine zq rfl rfl (zi rfl fo64x1 gt3 rfl) st12 ?_
 refine zq rfl rfl (zt rfl ty5 gt12 rfl (zr rfl) (zb rfl)) st13 ?_
 refine bindF hF (fun v2 hv2 hF => ?_)
 refine draw_callN rfl rfl (fun _ => yg rfl rfl rfl (zo gt11 (zo gt13 zw)) (.cons (zb rfl) (.cons (zb rfl) .nil))) (by rintro _ ⟨B2, T2, rfl, hk2⟩; exact ok81 hv2) st14 ?_
 refine zq rfl rfl (s_buildSlice (es := ([v1, v2] : List Int).map (intRow .i64)) rfl el142 ze3 rfl rfl (parto_cons gt9 (parto_cons gt14 parto_nil)) (.cons (zb rfl) (.cons (zb rfl) .nil)) rfl rfl rfl) st15 ?_
 refine bindF hF (fun v3 hv3 hF => ?_)
 refine draw_callN rfl rfl (fun _ => yg rfl rfl rfl (zo gt15 zw) (.cons (zb rfl) .nil)) (by rintro _ ⟨B2, T2, rfl, hk2⟩; exact (ok96 hv3).le (.cons (leV.osl _ _ _) leL.nil)) st16 ?_
 refine zq rfl rfl (zg rfl gt16 (zb rfl)) st4 ?_
 refine draw_nil ?_
 refine zj (r_ret ?_)
 obtain rfl := Option.some.inj hF
 refine zz rfl (yc gt4 yb) (zy (leV.refl _) rfl ?_)
 exact ⟨rfl, rfl⟩
/-! varve/diff.May -/
theorem ok38 {l0 : (List GEdit)} {res : Bool} {h : AH}  (hF : diffMay l0 = some res) : Spec Tryz.prog 38 [.sl 22 (l0.map GEdit.row)] h (fun rr hh => rr = .bool res ∧ hh = h) := by
 unfold diffMay at hF
 refine ye Tryz.func38 rfl (by kernel_rfl) (env := [.sl 22 (l0.map GEdit.row), za, za, za, za, za, za, za, za, za, za, za, za, za, za, za, za, za, za, za, za, za, za, za, za, za, za, za, za, za, za, za, za, za, za, za, za, za, za, za, za, za, za, za, za, za, za, za, za, za, za, za, za, za, za, za, za, za, za, za, za, za, za, za, za, za, za, za, za, za, za, za, za, za, za, za, za, za, za, za, za, za, za, za, za, za, za, za, za]) (by rfl) ?_
 refine zk (zd ?_)
 refine zc rfl (zg rfl rfl (zb rfl)) st2 ?_
 refine ze (zj (zk (zk (zd ?_))))
 refine zc rfl (zf rfl gt0 (zb rfl)) st7 ?_
 refine ops_len rfl (yh rfl rfl rfl rfl el62 gt7 lenMap) st8 fun hn1 => ?_
 replace hn1 := lenN hn1
 refine zc rfl (zf rfl rfl (zb rfl)) st9 ?_
 refine ze (zj (r_block ?_))
 refine yk (fun (n1 : Nat) (s1 : Unit) => anys [1, 2, 3, 4, 5, 6, 10, 11, 12, 13, 14, 15, 16, 17, 18, 19, 20, 21, 22, 23, 24, 25, 26, 27, 28, 29, 30, 31, 32, 33, 34, 35, 36, 37, 38, 39, 40, 41, 42, 43, 44, 45, 46, 47, 48, 49, 50, 51, 52, 53, 54, 55, 56, 57, 58, 59, 60, 61, 62, 63, 64, 65, 66, 67, 68, 69, 70, 71, 72, 73, 74, 75, 76, 77, 78, 79, 80, 81, 82, 83, 84, 85, 86, 87, 88] [(9, .int .i64 (n1 : Int))]) (fun s1 => h.ext [] []) hF (fun _ _ => by simp only [anys, upd, List.set_cons_succ, List.set_cons_zero]; try rfl) (wk.le (by exact (.eq (.d4 (.drop (.drop (.eq (.eq (.cons (leV.of_eq rfl) (.d16 (.d16 (.d16 (.d16 (.d4 (.d4 (.d4 (.drop (.drop (.drop leL.nil))))))))))))))))))) ?_
 intro n1 s1 hi1 hF
 refine zk (zd ?_)
 refine zc rfl (zu rfl gt9 gt8 rfl) st10 ?_
 refine ze (zj (zk ?_))
 refine r_condL gt10 hF (fun x1 o1 hl1 hx1 hF hK1 => ?_) (fun hF => ?_)
 ·skip
  refine r_skip (zj (zk (r_block (zk (zd ?_)))))
  refine zc rfl (zf rfl gt9 (zb rfl)) st11 ?_
  refine zc rfl (s_idxRow rfl el62 gt7 gt9 isl (idx_of hx1)) st12 ?_
  refine zc rfl (yi rfl ty64.choose_spec.1 gt12 (ldC_agX (cs' := [.sl 1 (x1.path.map strRow), .int .u8 x1.typ, .bool x1.had, .bool x1.has, .int .u8 x1.was.typ, .int .i64 x1.was.n, .int .u64 x1.was.time, .int .u8 x1.was.dot.actor.rep, .int .u32 x1.was.dot.actor.inc, .int .u64 x1.was.dot.seq, .str x1.was.text, .sl 5 (x1.was.items.map GItem.row), .sl 3 (x1.was.tombs.map GDot.row), .int .u8 x1.is.typ, .int .i64 x1.is.n, .int .u64 x1.is.time, .int .u8 x1.is.dot.actor.rep, .int .u32 x1.is.dot.actor.inc, .int .u64 x1.is.dot.seq, .str x1.is.text, .sl 5 (x1.is.items.map GItem.row), .sl 3 (x1.is.tombs.map GDot.row)]) ty64.choose_spec.2 rfl rfl) (zb rfl)) st13 ?_
  refine zc rfl (e_alloc (n := 0) rfl ze64 rfl) st4 ?_
  refine zc rfl (zg rfl gt11 (zb rfl)) st3 ?_
  refine zc rfl (e_store (cs' := [.sl 1 (x1.path.map strRow), .int .u8 x1.typ, .bool x1.had, .bool x1.has, .int .u8 x1.was.typ, .int .i64 x1.was.n, .int .u64 x1.was.time, .int .u8 x1.was.dot.actor.rep, .int .u32 x1.was.dot.actor.inc, .int .u64 x1.was.dot.seq, .str x1.was.text, .sl 5 (x1.was.items.map GItem.row), .sl 3 (x1.was.tombs.map GDot.row), .int .u8 x1.is.typ, .int .i64 x1.is.n, .int .u64 x1.is.time, .int .u8 x1.is.dot.actor.rep, .int .u32 x1.is.dot.actor.inc, .int .u64 x1.is.dot.seq, .str x1.is.text, .sl 5 (x1.is.items.map GItem.row), .sl 3 (x1.is.tombs.map GDot.row)]) rfl ty64.choose_spec.1 gt4 gt13 (zb rfl) rfl rfl rfl rfl rfl) rfl ?_
  refine ze (zj (zk (zd ?_)))
  refine zc rfl (zi rfl fo64x1 gt4 rfl) st14 ?_
  refine zc rfl (zt rfl ty5 gt14 rfl (zr rfl) (zb rfl)) st15 ?_
  refine zc rfl (zu rfl gt15 rfl rfl) st16 ?_
  refine zc rfl (zf rfl gt16 (zb rfl)) st17 ?_
  refine zp rfl (fun hb => zi rfl fo64x1 gt4 rfl) st18 ?_
  refine zp rfl (fun hb => zt rfl ty5 (zn gt18 hb) rfl (zr rfl) (zb rfl)) st19 ?_
  refine zp rfl (fun hb => zu rfl (zn gt19 hb) rfl rfl) st20 ?_
  refine zc rfl (s_pick rfl gt17 gt20 rfl (pick_and (fun ht => gT ht))) st21 ?_
  refine zc rfl (zg rfl gt21 (zb rfl)) st5 ?_
  refine ze (zj (zk (zd ?_)))
  refine zc rfl (zi rfl fo64x2 gt4 rfl) st22 ?_
  refine zc rfl (zt rfl ty4 gt22 rfl (zr rfl) (zb rfl)) st23 ?_
  refine zc rfl (zf rfl gt23 (zb rfl)) st24 ?_
  refine zp rfl (fun hb => zi rfl fo64x3 gt4 rfl) st25 ?_
  refine zp rfl (fun hb => zt rfl ty4 (zn gt25 hb) rfl (zr rfl) (zb rfl)) st26 ?_
  refine zc rfl (s_pick rfl gt24 gt26 rfl (pick_and (fun ht => gT ht))) st27 ?_
  refine zc rfl (zf rfl gt27 (zb rfl)) st28 ?_
  refine zp rfl (fun hb => zi rfl fo64x4 gt4 rfl) st29 ?_
  refine zp rfl (fun hb => zt rfl ty47.choose_spec.1 (zn gt29 hb) rfl (ldC_agX (cs' := [.int .u8 x1.was.typ, .int .i64 x1.was.n, .int .u64 x1.was.time, .int .u8 x1.was.dot.actor.rep, .int .u32 x1.was.dot.actor.inc, .int .u64 x1.was.dot.seq, .str x1.was.text, .sl 5 (x1.was.items.map GItem.row), .sl 3 (x1.was.tombs.map GDot.row)]) ty47.choose_spec.2 rfl rfl) (zb rfl)) st30 ?_
  refine zp rfl (fun hb => zi rfl fo64x5 gt4 rfl) st31 ?_
  refine zp rfl (fun hb => zt rfl ty47.choose_spec.1 (zn gt31 hb) rfl (ldC_agX (cs' := [.int .u8 x1.is.typ, .int .i64 x1.is.n, .int .u64 x1.is.time, .int .u8 x1.is.dot.actor.rep, .int .u32 x1.is.dot.actor.inc, .int .u64 x1.is.dot.seq, .str x1.is.text, .sl 5 (x1.is.items.map GItem.row), .sl 3 (x1.is.tombs.map GDot.row)]) ty47.choose_spec.2 rfl rfl) (zb rfl)) st32 ?_
  refine gbindF hF (fun v13 hv13 hF => ?_)
  refine ops_gcall rfl (fun hb => yg rfl rfl rfl (zo (zn gt30 hb) (zo (zn gt32 hb) zw)) (.cons (zb rfl) (.cons (zb rfl) .nil))) (fun hb => ok41 (hv13 hb)) st33 ?_
  refine zc rfl (s_pick rfl gt28 gt33 rfl (pick_and (fun ht => gT ht))) st34 ?_
  refine zc rfl (zg rfl gt34 (zb rfl)) st6 ?_
  refine ze (zj (zk (zk (zd ?_))))
  refine zc rfl (zi rfl fo64x0 gt4 rfl) st35 ?_
  refine zc rfl (zt rfl ty26 gt35 rfl (zr rfl) (zb rfl)) st36 ?_
  refine bindF hF (fun v14 hv14 hF => ?_)
  refine yf rfl (yg rfl rfl rfl (zo gt36 zw) (.cons (zb rfl) .nil)) (ok58 hv14) st37 ?_
  refine zc rfl (s_un rfl gt37 rfl) st38 ?_
  refine zc rfl (zf rfl gt38 (zb rfl)) st39 ?_
  refine zp rfl (fun hb => zf rfl gt5 (zb rfl)) (sk st0) ?_
  refine zp rfl (fun hb => s_un rfl (zn (gk gt0) hb) rfl) (sk st1) ?_
  refine zc rfl (s_pick rfl gt39 rfl (gk gt1) (pick_or (fun ht => gF ht))) (sk st2) ?_
  refine zc rfl (zf rfl (gk gt2) (zb rfl)) (sk st3) ?_
  refine zp rfl (fun hb => zi rfl fo64x2 gt4 rfl) (sk st4) ?_
  refine zp rfl (fun hb => zt rfl ty4 (zn (gk gt4) hb) rfl (zr rfl) (zb rfl)) (sk st5) ?_
  refine zp rfl (fun hb => s_un rfl (zn (gk gt5) hb) rfl) (sk st6) ?_
  refine zp rfl (fun hb => zf rfl (zn (gk gt6) hb) (zb rfl)) (sk st7) ?_
  refine zp (aG_gv rfl rfl rfl) (fun hb => zi rfl fo64x3 gt4 rfl) (sk st8) ?_
  refine zp (aG_gv rfl rfl rfl) (fun hb => zt rfl ty4 (zn (gk gt8) hb) rfl (zr rfl) (zb rfl)) (sk st9) ?_
  refine zp (aG_gv rfl rfl rfl) (fun hb => s_un rfl (zn (gk gt9) hb) rfl) (sk st10) ?_
  refine zp rfl (fun hb => s_pick rfl (zn (gk gt7) hb) (gk gt10) rfl (pick_and (fun ht => gT2 hb ht))) (sk st11) ?_
  refine zc rfl (s_pick rfl (gk gt3) rfl (gk gt11) (pick_or (fun ht => gF ht))) (sk st12) ?_
  refine zc rfl (zf rfl (gk gt12) (zb rfl)) (sk st13) ?_
  refine zp rfl (fun hb => zf rfl gt6 (zb rfl)) (sk st14) ?_
  refine zc rfl (s_pick rfl (gk gt13) rfl (gk gt14) (pick_or (fun ht => gF ht))) (sk st15) ?_
  refine zc rfl (zf rfl (gk gt15) (zb rfl)) (sk st16) ?_
  refine zp rfl (fun hb => zi rfl fo64x2 gt4 rfl) (sk st17) ?_
  refine zp rfl (fun hb => zt rfl ty4 (zn (gk gt17) hb) rfl (zr rfl) (zb rfl)) (sk st18) ?_
  refine zp rfl (fun hb => zi rfl fo64x4 gt4 rfl) (sk st19) ?_
  refine zp rfl (fun hb => zt rfl ty47.choose_spec.1 (zn (gk gt19) hb) rfl (ldC_agX (cs' := [.int .u8 x1.was.typ, .int .i64 x1.was.n, .int .u64 x1.was.time, .int .u8 x1.was.dot.actor.rep, .int .u32 x1.was.dot.actor.inc, .int .u64 x1.was.dot.seq, .str x1.was.text, .sl 5 (x1.was.items.map GItem.row), .sl 3 (x1.was.tombs.map GDot.row)]) ty47.choose_spec.2 rfl rfl) (zb rfl)) (sk st20) ?_
  refine zp rfl (fun hb => zi rfl fo64x1 gt4 rfl) (sk st21) ?_
  refine zp rfl (fun hb => zt rfl ty5 (zn (gk gt21) hb) rfl (zr rfl) (zb rfl)) (sk st22) ?_
  refine gbindF hF (fun v15 hv15 hF => ?_)
  refine ops_gcall rfl (fun hb => yg rfl rfl rfl (zo (zn (gk gt18) hb) (zo (zn (gk gt20) hb) (zo (zn (gk gt22) hb) zw))) (.cons (zb rfl) (.cons (zb rfl) (.cons (zb rfl) .nil)))) (fun hb => ok60 (hv15 hb)) (sk st23) ?_
  refine zp rfl (fun hb => s_un rfl (zn (gk gt23) hb) rfl) (sk st24) ?_
  refine zc rfl (s_pick rfl (gk gt16) rfl (gk gt24) (pick_or (fun ht => gF ht))) (sk st25) ?_
  refine zc rfl (zf rfl (gk gt25) (zb rfl)) (sk st26) ?_
  refine zp rfl (fun hb => zi rfl fo64x3 gt4 rfl) (sk st27) ?_
  refine zp rfl (fun hb => zt rfl ty4 (zn (gk gt27) hb) rfl (zr rfl) (zb rfl)) (sk st28) ?_
  refine zp rfl (fun hb => zi rfl fo64x5 gt4 rfl) (sk st29) ?_
  refine zp rfl (fun hb => zt rfl ty47.choose_spec.1 (zn (gk gt29) hb) rfl (ldC_agX (cs' := [.int .u8 x1.is.typ, .int .i64 x1.is.n, .int .u64 x1.is.time, .int .u8 x1.is.dot.actor.rep, .int .u32 x1.is.dot.actor.inc, .int .u64 x1.is.dot.seq, .str x1.is.text, .sl 5 (x1.is.items.map GItem.row), .sl 3 (x1.is.tombs.map GDot.row)]) ty47.choose_spec.2 rfl rfl) (zb rfl)) (sk st30) ?_
  refine zp rfl (fun hb => zi rfl fo64x1 gt4 rfl) (sk st31) ?_
  refine zp rfl (fun hb => zt rfl ty5 (zn (gk gt31) hb) rfl (zr rfl) (zb rfl)) (sk st32) ?_
  refine gbindF hF (fun v16 hv16 hF => ?_)
  refine ops_gcall rfl (fun hb => yg rfl rfl rfl (zo (zn (gk gt28) hb) (zo (zn (gk gt30) hb) (zo (zn (gk gt32) hb) zw))) (.cons (zb rfl) (.cons (zb rfl) (.cons (zb rfl) .nil)))) (fun hb => ok60 (hv16 hb)) (sk st33) ?_
  refine zp rfl (fun hb => s_un rfl (zn (gk gt33) hb) rfl) (sk st34) ?_
  refine zc rfl (s_pick rfl (gk gt26) rfl (gk gt34) (pick_or (fun ht => gF ht))) (sk st35) ?_
  refine ze (zj ?_)
  refine r_condF (gk gt35) hF (fun hc17 hF => ?_) (fun hc17 hF => ?_)
  ·skip
   refine zk (zd ?_)
   refine zc rfl (zg rfl rfl (zb rfl)) st2 ?_
   refine ze (zj (r_ret (zx ?_)))
   refine yd ?_
   refine zx ?_
   refine q_loop_ret ?_
   obtain rfl := Option.some.inj hF
   replace hF := hK1
   refine yd ?_
   refine zx ?_
   obtain rfl := Option.some.inj hF
   refine zz rfl (yc gt2 yb) (zy (leV.refl _) rfl ?_)
   exact ⟨rfl, rfl⟩
  ·skip
   refine r_skip (zj (zk ?_))
   refine r_drawn [] [] trivial mixed (by kernel_rfl) ?_
   refine zq rfl rfl (zf rfl gt3 (zb rfl)) (sk st36) ?_
   refine zq rfl rfl (zu rfl (gk gt36) rfl rfl) (sk st37) ?_
   refine zq rfl rfl (zf rfl (gk gt37) (zb rfl)) (sk st38) ?_
   refine ya rfl rfl (fun hb => zf rfl gt0 (zb rfl)) (sk st39) ?_
   refine ya rfl rfl (fun hb => zf rfl gt3 (zb rfl)) (sk (sk st0)) ?_
   refine ya rfl rfl (fun hb => zu rfl (zn (gk (gk gt0)) hb) rfl rfl) (sk (sk st1)) ?_
   refine chkF hF (fun hg18 hF => ?_)
   refine ya rfl rfl (fun hb => s_gidxRow default rfl el62 (zn (gk gt39) hb) (zn (gk (gk gt1)) hb) isl (hg18 hb)) (sk (sk st2)) ?_
   refine ya rfl rfl (fun hb => yi rfl ty64.choose_spec.1 (zn (gk (gk gt2)) hb) (ldC_agX (cs' := [.sl 1 ((((l0).getD (IntKind.wrap .i64 ((n1 : Int) - (1 : Int))).toNat default).path).map strRow), .int .u8 (((l0).getD (IntKind.wrap .i64 ((n1 : Int) - (1 : Int))).toNat default).typ), .bool (((l0).getD (IntKind.wrap .i64 ((n1 : Int) - (1 : Int))).toNat default).had), .bool (((l0).getD (IntKind.wrap .i64 ((n1 : Int) - (1 : Int))).toNat default).has), .int .u8 (((l0).getD (IntKind.wrap .i64 ((n1 : Int) - (1 : Int))).toNat default).was.typ), .int .i64 (((l0).getD (IntKind.wrap .i64 ((n1 : Int) - (1 : Int))).toNat default).was.n), .int .u64 (((l0).getD (IntKind.wrap .i64 ((n1 : Int) - (1 : Int))).toNat default).was.time), .int .u8 (((l0).getD (IntKind.wrap .i64 ((n1 : Int) - (1 : Int))).toNat default).was.dot.actor.rep), .int .u32 (((l0).getD (IntKind.wrap .i64 ((n1 : Int) - (1 : Int))).toNat default).was.dot.actor.inc), .int .u64 (((l0).getD (IntKind.wrap .i64 ((n1 : Int) - (1 : Int))).toNat default).was.dot.seq), .str (((l0).getD (IntKind.wrap .i64 ((n1 : Int) - (1 : Int))).toNat default).was.text), .sl 5 ((((l0).getD (IntKind.wrap .i64 ((n1 : Int) - (1 : Int))).toNat default).was.items).map GItem.row), .sl 3 ((((l0).getD (IntKind.wrap .i64 ((n1 : Int) - (1 : Int))).toNat default).was.tombs).map GDot.row), .int .u8 (((l0).getD (IntKind.wrap .i64 ((n1 : Int) - (1 : Int))).toNat default).is.typ), .int .i64 (((l0).getD (IntKind.wrap .i64 ((n1 : Int) - (1 : Int))).toNat default).is.n), .int .u64 (((l0).getD (IntKind.wrap .i64 ((n1 : Int) - (1 : Int))).toNat default).is.time), .int .u8 (((l0).getD (IntKind.wrap .i64 ((n1 : Int) - (1 : Int))).toNat default).is.dot.actor.rep), .int .u32 (((l0).getD (IntKind.wrap .i64 ((n1 : Int) - (1 : Int))).toNat default).is.dot.actor.inc), .int .u64 (((l0).getD (IntKind.wrap .i64 ((n1 : Int) - (1 : Int))).toNat default).is.dot.seq), .str (((l0).getD (IntKind.wrap .i64 ((n1 : Int) - (1 : Int))).toNat default).is.text), .sl 5 ((((l0).getD (IntKind.wrap .i64 ((n1 : Int) - (1 : Int))).toNat default).is.items).map GItem.row), .sl 3 ((((l0).getD (IntKind.wrap .i64 ((n1 : Int) - (1 : Int))).toNat default).is.tombs).map GDot.row)]) ty64.choose_spec.2 rfl rfl) (zb rfl)) (sk (sk st3)) ?_
   refine ya rfl rfl (fun hb => zt rfl ty64.choose_spec.1 gt4 rfl (ldC_agX (cs' := [.sl 1 (x1.path.map strRow), .int .u8 x1.typ, .bool x1.had, .bool x1.has, .int .u8 x1.was.typ, .int .i64 x1.was.n, .int .u64 x1.was.time, .int .u8 x1.was.dot.actor.rep, .int .u32 x1.was.dot.actor.inc, .int .u64 x1.was.dot.seq, .str x1.was.text, .sl 5 (x1.was.items.map GItem.row), .sl 3 (x1.was.tombs.map GDot.row), .int .u8 x1.is.typ, .int .i64 x1.is.n, .int .u64 x1.is.time, .int .u8 x1.is.dot.actor.rep, .int .u32 x1.is.dot.actor.inc, .int .u64 x1.is.dot.seq, .str x1.is.text, .sl 5 (x1.is.items.map GItem.row), .sl 3 (x1.is.tombs.map GDot.row)]) ty64.choose_spec.2 rfl rfl) (zb rfl)) (sk (sk st4)) ?_
   refine gbindF hF (fun v19 hv19 hF => ?_)
   refine draw_gcall rfl rfl (fun hb => yg rfl rfl rfl (zo (zn (gk (gk gt3)) hb) (zo (zn (gk (gk gt4)) hb) zw)) (.cons (zb rfl) (.cons (zb rfl) .nil))) (fun hb => ok61 (hv19 hb)) (sk (sk st5)) ?_
   refine ya rfl rfl (fun hb => zu rfl (zn (gk (gk gt5)) hb) rfl rfl) (sk (sk st6)) ?_
   refine zq rfl rfl (s_pick rfl (gk gt38) (gk (gk gt6)) rfl (pick_and (fun ht => gT ht))) (sk (sk st7)) ?_
   refine draw_nil ?_
   refine zj ?_
   refine r_condF (gk (gk gt7)) hF (fun hc20 hF => ?_) (fun hc20 hF => ?_)
   ·skip
    refine zk (zd ?_)
    refine zc rfl (zg rfl rfl (zb rfl)) st2 ?_
    refine ze (zj (r_ret ?_))
    refine yd ?_
    refine zx ?_
    refine q_loop_ret ?_
    obtain rfl := Option.some.inj hF
    replace hF := hK1
    refine yd ?_
    refine zx ?_
    obtain rfl := Option.some.inj hF
    refine zz rfl (yc gt2 yb) (zy (leV.refl _) rfl ?_)
    exact ⟨rfl, rfl⟩
   ·skip
    refine r_skip (q_block (zj (zd ?_)))
    refine zc rfl (zu rfl gt9 rfl rfl) (sk (sk st8)) ?_
    refine zc rfl (zf rfl (gk (gk gt8)) (zb rfl)) st9 ?_
    refine ze (q_loop ?_)
    obtain rfl := Option.some.inj hF
    exact ⟨(), hl1, hK1, wk.trans (wk.le (by exact (.eq (.d4 (.drop (.drop (.eq (.eq (.cons (leV.of_eq (w64e (by omega) (by omega))) (.d16 (.d16 (.d16 (.d16 (.d4 (.d4 (.d4 (.drop (.drop (.drop leL.nil))))))))))))))))))) (wk_ext3 (by simp [lowL, AV.low]) rfl rfl (by simp [Blk.low, lowL, AV.low]))⟩
 ·skip
  refine r_exit ?_
  refine q_seq_exit ?_
  refine yj ?_
  refine q_block_hit ?_
  refine zj (zk (zd ?_))
  refine zc rfl (zg rfl rfl (zb rfl)) st2 ?_
  refine ze (zj (r_ret ?_))
  obtain rfl := Option.some.inj hF
  refine zz rfl (yc gt2 yb) (zy (leV.refl _) rfl ?_)
  exact ⟨rfl, rfl⟩
/-! varve/paths.kept -/
theorem ok62N (n : Nat) : ∀ {t0 : (List GNode)} {ahead1 : (List Str)} {is2 : ((List Str) → Option Bool)} {fis2 : FuncId} {ais2 kis2 : List AV} {res : (List GNode)} {h : AH} (his2 : ∀ x0 v (L : List Blk) (M : List Nat), is2 x0 = some v → Spec Tryz.prog fis2 (ais2 ++ [.sl 1 (x0.map strRow)] ++ kis2) (h.ext L M) (fun rr hh => rr = .bool v ∧ hh = h.ext L M)), pathsXkeptN n t0 ahead1 is2 = some res → Spec Tryz.prog 62 [.sl 3 (t0.map GNode.row), .sl 1 (ahead1.map strRow), .fn (.func fis2) ais2 kis2] h (fun rr hh => rr = .sl 3 (res.map GNode.row) ∧ hh = h) := by
 induction n with
 | zero => intro t0 ahead1 is2 fis2 ais2 kis2 res h his2 hF; simp [pathsXkeptN] at hF
 | succ n ih =>
  intro t0 ahead1 is2 fis2 ais2 kis2 res h his2 hF
  unfold pathsXkeptN at hF
  refine spec_of_body_extC Tryz.func62 rfl (by kernel_rfl) (env := [.sl 3 (t0.map GNode.row), .sl 1 (ahead1.map strRow), .fn (.func fis2) ais2 kis2, za, za, za, za, za, za, za, za, za, za, za, za, za, za, za, za, za, za, za, za, za, za, za, za, za, za, za, za, za, za, za, za, za, za, za, za, za, za, za, za, za, za, za, za, za, za, za, za, za, za, za, za, za, za, za, za, za, za, za, za, za, za]) (by rfl) (fun hlow hC => ?_)
  simp only [lowL, AV.low, Bool.and_eq_true, Bool.true_and, and_true] at hlow
  have hlais2 : ∀ n m, h.blks.length ≤ n → h.toks.length ≤ m → lowL n m ais2 = true := fun n m h1 h2 => lowL_up h1 h2 _ (by simp [hlow])
  have hlkis2 : ∀ n m, h.blks.length ≤ n → h.toks.length ≤ m → lowL n m kis2 = true := fun n m h1 h2 => lowL_up h1 h2 _ (by simp [hlow])
  refine zk (zd ?_)
  refine zc rfl (zg rfl rfl (ty_nil el24)) st6 ?_
  refine ze (zj (zk (zk (zd ?_))))
  refine zc rfl (zf rfl gt0 (zb rfl)) st13 ?_
  refine ops_len rfl (yh rfl rfl rfl rfl el24 gt13 lenMap) st14 fun hn1 => ?_
  replace hn1 := lenN hn1
  refine zc rfl (zf rfl rfl (zb rfl)) st15 ?_
  refine ze (zj (r_block ?_))
  refine yk (fun (n1 : Nat) (s1 : (List GNode)) => anys [0, 3, 4, 5, 7, 8, 9, 10, 11, 12, 16, 17, 18, 19, 20, 21, 22, 23, 24, 25, 26, 27, 28, 29, 30, 31, 32, 33, 34, 35, 36, 37, 38, 39, 40, 41, 42, 43, 44, 45, 46, 47, 48, 49, 50, 51, 52, 53, 54, 55, 56, 57, 58, 59, 60, 61, 62, 63, 64] [(6, .osl (some (h.toks.length + 0)) 3 (s1.map GNode.row)), (15, .int .i64 (n1 : Int))]) (fun s1 => h.ext [] [(s1).length]) hF (fun _ _ => by simp only [anys, upd, List.set_cons_succ, List.set_cons_zero]; try rfl) (wk.trans (wk_tok gt6 rfl st6 rfl) (wk.le (by exact (.drop (.eq (.eq (.drop (.drop (.drop (.cons (leV.of_eq rfl) (.d4 (.drop (.drop (.eq (.eq (.cons (leV.of_eq rfl) (.d16 (.d16 (.d16 (.drop leL.nil)))))))))))))))))))) ?_
  intro n1 s1 hi1 hF
  refine zk (zd ?_)
  refine zc rfl (zu rfl gt15 gt14 rfl) st16 ?_
  refine ze (zj (zk ?_))
  refine r_condL gt16 hF (fun x1 o1 hl1 hx1 hF hK1 => ?_) (fun hF => ?_)
  ·skip
   refine r_skip (zj (zk (r_block (zk (zd ?_)))))
   refine zc rfl (s_idxRowE rfl el24 gt13 gt15 isl (idx_of hx1) (GNode.row_eq _)) st17 ?_
   refine zc rfl (yi rfl ty68.choose_spec.1 gt17 (ldC_agX (cs' := [.str x1.name, .sl 9 (x1.leaves.map GLeaf.row), .sl 3 (x1.subs.map GNode.row)]) ty68.choose_spec.2 rfl rfl) (zb rfl)) st18 ?_
   refine zc rfl (e_alloc (n := 0) rfl ze68 rfl) st8 ?_
   refine zc rfl (e_store (cs' := [.str x1.name, .sl 9 (x1.leaves.map GLeaf.row), .sl 3 (x1.subs.map GNode.row)]) rfl ty68.choose_spec.1 gt8 gt18 (zb rfl) rfl rfl rfl rfl rfl) rfl ?_
   refine ze (zj (zk ?_))
   refine r_drawn [] [] trivial mixed (by kernel_rfl) ?_
   refine zq rfl rfl (zf rfl gt1 (zb rfl)) st19 ?_
   refine bindF hF (fun v32 hv32 hF => ?_)
   refine draw_callH rfl FOk.nil (by rfl) rfl (yg rfl rfl rfl (zo gt19 zw) (.cons (zb rfl) .nil)) (own_ext (T' := [(s1).length, (v32).length]) (ok45 hv32) (m := 1) rfl rfl) st20 ?_
   refine zq rfl rfl (zi rfl fo68x0 gt8 rfl) st21 ?_
   refine zq rfl rfl (zt rfl ty9 gt21 rfl (zr rfl) (zb rfl)) st22 ?_
   refine zq rfl rfl (s_buildSlice (es := ([x1.name] : List Str).map strRow) rfl el26 ze9 rfl rfl (parto_cons gt22 parto_nil) (.cons (zb rfl) .nil) rfl rfl rfl) st23 ?_
   refine chkF hF (fun hm33 hF => ?_)
   refine draw_okH rfl FOk.nil (by rfl) rfl (e_appT (j := 1) (T' := [(s1).length, ((v32 ++ ([x1.name] : List Str))).length]) rfl rfl rfl rfl el26 el26 gt20 gt23 (zb rfl) (zb rfl) news_osl hm33 rfl rfl) st24 ?_
   refine zq rfl rfl (zg rfl gt24 (zb rfl)) st9 ?_
   refine draw_nil ?_
   refine zj (zk ?_)
   refine r_drawn [1, 3, 6] [(1, [(0, .cells [.str x1.name, .sl 9 (x1.leaves.map GLeaf.row), .sl 3 (x1.subs.map GNode.row)])]), (3, [(0, .cells [.str x1.name, .sl 9 (x1.leaves.map GLeaf.row), .sl 3 (x1.subs.map GNode.row)])])] ⟨⟨rfl, trivial⟩, ⟨rfl, trivial⟩, trivial⟩ mixed (by kernel_rfl) ?_
   refine zq rfl rfl (zi rfl fo68x0 gt8 rfl) st25 ?_
   refine draw_okN rfl rfl (by rintro _ ⟨B2, T2, rfl, hk2⟩; exact zt rfl ty9 gt25 (keeps1 hk2) (zr rfl) (zb rfl)) st26 ?_
   refine zq rfl rfl (zi rfl fo68x2 gt8 rfl) st27 ?_
   refine draw_okN rfl rfl (by rintro _ ⟨B2, T2, rfl, hk2⟩; exact zt rfl ty24 gt27 (keeps1 hk2) (zr rfl) (zb rfl)) st28 ?_
   refine zq rfl rfl (zf rfl gt9 (zb rfl)) st29 ?_
   refine zq rfl rfl (zf rfl gt2 (zb rfl)) st30 ?_
   refine bindF hF (fun v34 hv34 hF => ?_)
   refine draw_callN rfl rfl (fun _ => yg rfl rfl rfl (zo gt28 (zo gt29 (zo gt30 zw))) (.cons (zb rfl) (.cons (zb rfl) (.cons (zb rfl) .nil)))) (by rintro _ ⟨B2, T2, rfl, hk2⟩; exact (ih (fun x0 v L M hv => by rw [ext_ext]; exact his2 x0 v _ _ hv) hv34).le (.eq (.cons (leV.osl _ _ _) (.eq leL.nil)))) st31 ?_
   refine zq rfl rfl (s_build (cs' := [.str x1.name, .osl none 9 (([] : List GLeaf).map GLeaf.row), .sl 3 (v34.map GNode.row)]) rfl su68 ze68 pl68 (parto_cons gt26 (parto_cons gt31 parto_nil)) (.cons (zb rfl) (.cons (zb rfl) .nil)) rfl rfl) st32 ?_
   refine draw_eff rfl (FOk.cons (.inr (keepB ⟨rfl, trivial⟩)) (FOk.cons (.inr (keepB ⟨rfl, trivial⟩)) (FOk.cons (.inr (keepB trivial)) FOk.nil))) (by kernel_rfl) rfl (e_alloc (n := 1) rfl ze68 rfl) st10 ?_
   refine draw_eff rfl (FOk.cons (.inr (keepB ⟨rfl, trivial⟩)) (FOk.cons (.inr (keepB ⟨rfl, trivial⟩)) (FOk.cons (.inr (keepB trivial)) FOk.nil))) (by kernel_rfl) rfl (e_store (cs' := [.str x1.name, .osl none 9 (([] : List GLeaf).map GLeaf.row), .sl 3 (v34.map GNode.row)]) rfl ty68.choose_spec.1 gt10 gt32 (zb rfl) rfl rfl rfl rfl rfl) rfl ?_
   refine draw_nil ?_
   refine zj (zk (zk (zd ?_)))
   refine zc rfl (zi rfl fo68x1 gt8 rfl) st33 ?_
   refine zc rfl (zt rfl ty66 gt33 rfl (zr rfl) (zb rfl)) st34 ?_
   refine ops_len rfl (yh rfl rfl rfl rfl el66 gt34 lenMap) st35 fun hn35 => ?_
   replace hn35 := lenN hn35
   refine zc rfl (zf rfl rfl (zb rfl)) st36 ?_
   refine ze (zj (r_block ?_))
   refine yk (fun (n2 : Nat) (s2 : (List GLeaf)) => anys [0, 3, 4, 5, 7, 8, 11, 12, 16, 17, 18, 19, 20, 21, 22, 23, 24, 25, 26, 27, 28, 29, 30, 31, 32, 33, 37, 38, 39, 40, 41, 42, 43, 44, 45, 46, 47, 48, 49, 50, 51, 52, 53, 54, 55, 56, 57, 58, 59, 60, 61, 62, 63, 64] [(36, .int .i64 (n2 : Int))]) (fun s2 => h.ext [.cells [.str x1.name, .sl 9 (x1.leaves.map GLeaf.row), .sl 3 (x1.subs.map GNode.row)], .cells [.str x1.name, .osl (some (h.toks.length + 2)) 9 (s2.map GLeaf.row), .sl 3 (v34.map GNode.row)]] [(s1).length, ((v32 ++ ([x1.name] : List Str))).length, (s2).length]) hF (fun _ _ => by simp only [anys, upd, List.set_cons_succ, List.set_cons_zero]; try rfl) (wk.trans (wk_tokB (j := 1) rfl gt1 rfl st1 rfl rfl) (wk.le (by exact (.drop (.eq (.eq (.drop (.drop (.drop (.eq (.drop (.drop (.eq (.eq (.drop (.drop (.eq (.eq (.eq (.d16 (.drop (.drop (.eq (.eq (.cons (leV.of_eq rfl) (.d16 (.d4 (.d4 (.d4 leL.nil))))))))))))))))))))))))))))) ?_
   intro n2 s2 hi2 hF
   refine zk (zd ?_)
   refine zc rfl (zu rfl gt36 gt35 rfl) st37 ?_
   refine ze (zj (zk ?_))
   refine r_condL gt37 hF (fun x2 o2 hl2 hx2 hF hK2 => ?_) (fun hF => ?_)
   ·skip
    refine r_skip (zj (zk (r_block (zk (zd ?_)))))
    refine zc rfl (s_idxRow rfl el66 gt34 gt36 isl (idx_of hx2)) st38 ?_
    refine zc rfl (yi rfl ty47.choose_spec.1 gt38 (ldC_agX (cs' := [.int .u8 x2.typ, .int .i64 x2.n, .int .u64 x2.time, .int .u8 x2.dot.actor.rep, .int .u32 x2.dot.actor.inc, .int .u64 x2.dot.seq, .str x2.text, .sl 5 (x2.items.map GItem.row), .sl 3 (x2.tombs.map GDot.row)]) ty47.choose_spec.2 rfl rfl) (zb rfl)) st39 ?_
    refine zc rfl (e_alloc (n := 2) rfl ze47 rfl) st12 ?_
    refine zc rfl (e_store (cs' := [.int .u8 x2.typ, .int .i64 x2.n, .int .u64 x2.time, .int .u8 x2.dot.actor.rep, .int .u32 x2.dot.actor.inc, .int .u64 x2.dot.seq, .str x2.text, .sl 5 (x2.items.map GItem.row), .sl 3 (x2.tombs.map GDot.row)]) rfl ty47.choose_spec.1 gt12 gt39 (zb rfl) rfl rfl rfl rfl rfl) rfl ?_
    refine ze (zj (zk (zd ?_)))
    refine zc rfl (zf rfl gt2 (zb rfl)) (sk st0) ?_
    refine zc rfl (zf rfl gt9 (zb rfl)) (sk st1) ?_
    refine bindF hF (fun v49 hv49 hF => ?_)
    refine yf rfl (s_callC rfl rfl (gk gt0) (zo (gk gt1) zw) (.cons (zb rfl) .nil) rfl) ((his2 _ _ _ _ hv49).le (leL.app (leL.pre (.cons (leV.osl _ _ _) leL.nil)))) (sk st2) ?_
    refine ze (zj ?_)
    refine r_condF (gk gt2) hF (fun hc50 hF => ?_) (fun hc50 hF => ?_)
    ·skip
     refine r_drawn [3] [] trivial mixed (by kernel_rfl) ?_
     refine zq rfl rfl (zi rfl fo68x1 gt10 rfl) (sk st3) ?_
     refine zq rfl rfl (zt rfl ty66 (gk gt3) rfl (zr rfl) (zb rfl)) (sk st4) ?_
     refine zq rfl rfl (zt rfl ty47.choose_spec.1 gt12 rfl (ldC_agX (cs' := [.int .u8 x2.typ, .int .i64 x2.n, .int .u64 x2.time, .int .u8 x2.dot.actor.rep, .int .u32 x2.dot.actor.inc, .int .u64 x2.dot.seq, .str x2.text, .sl 5 (x2.items.map GItem.row), .sl 3 (x2.tombs.map GDot.row)]) ty47.choose_spec.2 rfl rfl) (zb rfl)) (sk st5) ?_
     refine bindF hF (fun v51 hv51 hF => ?_)
     refine draw_callN rfl rfl (fun _ => yg rfl rfl rfl (zo (gk gt5) zw) (.cons (zb rfl) .nil)) (by rintro _ ⟨B2, T2, rfl, hk2⟩; exact ok46 hv51) (sk st6) ?_
     refine zq rfl rfl (s_buildSlice (es := ([v51] : List GLeaf).map GLeaf.row) rfl el66 ze47 rfl rfl (parto_cons (gk gt6) parto_nil) (.cons (zb rfl) .nil) rfl rfl rfl) (sk st7) ?_
     refine chkF hF (fun hm52 hF => ?_)
     refine draw_okH rfl (FOk.cons (.inr (keepB trivial)) FOk.nil) (by rfl) rfl (e_appT (j := 2) (T' := [(s1).length, ((v32 ++ ([x1.name] : List Str))).length, ((s2 ++ ([v51] : List GLeaf))).length]) rfl rfl rfl rfl el66 el66 (gk gt4) (gk gt7) (zb rfl) (zb rfl) news_osl hm52 rfl rfl) (sk st8) ?_
     refine zq rfl rfl (zi rfl fo68x1 gt10 rfl) (sk st9) ?_
     refine draw_eff rfl (FOk.cons (.inr (keepB trivial)) FOk.nil) (by kernel_rfl) rfl (e_store (cs' := [.str x1.name, .osl (some (h.toks.length + 2)) 9 ((s2 ++ ([v51] : List GLeaf)).map GLeaf.row), .sl 3 (v34.map GNode.row)]) rfl ty66 (gk gt9) (gk gt8) (zb rfl) rfl rfl rfl rfl rfl) rfl ?_
     refine draw_nil ?_
     refine q_block (zj (zd ?_))
     refine zc rfl (zu rfl gt36 rfl rfl) (sk st10) ?_
     refine zc rfl (zf rfl (gk gt10) (zb rfl)) st36 ?_
     refine ze (q_loop ?_)
     obtain rfl := Option.some.inj hF
     exact ⟨(s2 ++ ([v51] : List GLeaf)), hl2, hK2, wk.trans (wk.le (by exact (.drop (.eq (.eq (.drop (.drop (.drop (.eq (.drop (.drop (.eq (.eq (.drop (.drop (.eq (.eq (.eq (.d16 (.drop (.drop (.eq (.eq (.cons (leV.of_eq (w64e (by omega) (by omega))) (.d16 (.d4 (.d4 (.d4 leL.nil)))))))))))))))))))))))))))) (wk_ext3 (by simp [lowL, AV.low, hlais2, hlkis2]) rfl rfl (by simp [Blk.low, lowL, AV.low, hlais2, hlkis2]))⟩
    ·skip
     refine r_skip (q_block (zj (zd ?_)))
     refine zc rfl (zu rfl gt36 rfl rfl) (sk st10) ?_
     refine zc rfl (zf rfl (gk gt10) (zb rfl)) st36 ?_
     refine ze (q_loop ?_)
     obtain rfl := Option.some.inj hF
     exact ⟨s2, hl2, hK2, wk.trans (wk.le (by exact (.drop (.eq (.eq (.drop (.drop (.drop (.eq (.drop (.drop (.eq (.eq (.drop (.drop (.eq (.eq (.eq (.d16 (.drop (.drop (.eq (.eq (.cons (leV.of_eq (w64e (by omega) (by omega))) (.d16 (.d4 (.d4 (.d4 leL.nil)))))))))))))))))))))))))))) (wk_ext3 (by simp [lowL, AV.low, hlais2, hlkis2]) rfl rfl (by simp [Blk.low, lowL, AV.low, hlais2, hlkis2]))⟩
   ·skip
    refine r_exit ?_
    refine q_seq_exit ?_
    refine yj ?_
    refine q_block_hit ?_
    refine zj (zk (zd ?_))
    refine zc rfl (zi rfl fo68x1 gt10 rfl) (sk st11) ?_
    refine zc rfl (zt rfl ty66 (gk gt11) rfl (zr rfl) (zb rfl)) (sk st12) ?_
    refine ops_len rfl (yh rfl rfl rfl rfl el66 (gk gt12) lenMapO) (sk st13) fun hn53 => ?_
    replace hn53 := lenN hn53
    refine zc rfl (zi rfl fo68x2 gt10 rfl) (sk st14) ?_
    refine zc rfl (zt rfl ty24 (gk gt14) rfl (zr rfl) (zb rfl)) (sk st15) ?_
    refine ops_len rfl (yh rfl rfl rfl rfl el24 (gk gt15) lenMap) (sk st16) fun hn54 => ?_
    replace hn54 := lenN hn54
    refine zc rfl (zu rfl (gk gt13) (gk gt16) rfl) (sk st17) ?_
    refine zc rfl (zu rfl (gk gt17) rfl rfl) (sk st18) ?_
    refine ze (zj ?_)
    refine r_condF (gk gt18) hF (fun hc55 hF => ?_) (fun hc55 hF => ?_)
    ·skip
     refine zd ?_
     refine zc rfl (zf rfl gt6 (zb rfl)) (sk st19) ?_
     refine zc rfl (zt rfl ty68.choose_spec.1 gt10 rfl (ldC_agX (cs' := [.str x1.name, .osl (some (h.toks.length + 2)) 9 (s2.map GLeaf.row), .sl 3 (v34.map GNode.row)]) ty68.choose_spec.2 rfl rfl) (zb rfl)) (sk st20) ?_
     refine zc rfl (s_buildSlice (es := ([(GNode.mk x1.name s2 v34)] : List GNode).map GNode.row) rfl el24 ze68 rfl rfl (parto_cons (gk gt20) parto_nil) (.cons (zb rfl) .nil) rfl rfl (by simp only [List.map_cons, List.map_nil, GNode.row_eq]; rfl)) (sk st21) ?_
     refine chkF hF (fun hm56 hF => ?_)
     refine zc rfl (e_appT (j := 0) (T' := [((s1 ++ ([(GNode.mk x1.name s2 v34)] : List GNode))).length, ((v32 ++ ([x1.name] : List Str))).length, (s2).length]) rfl rfl rfl rfl el24 el24 (gk gt19) (gk gt21) (zb rfl) (zb rfl) news_osl hm56 rfl rfl) (sk st22) ?_
     refine zc rfl (zg rfl (gk gt22) (zb rfl)) st6 ?_
     refine ze (q_block (zj (zd ?_)))
     refine zc rfl (zu rfl gt15 rfl rfl) (sk st23) ?_
     refine zc rfl (zf rfl (gk gt23) (zb rfl)) st15 ?_
     refine ze (q_loop ?_)
     obtain rfl := Option.some.inj hF
     exact ⟨(s1 ++ ([(GNode.mk x1.name s2 v34)] : List GNode)), hl1, hK1, wk.trans (wk.le (by exact (.drop (.eq (.eq (.drop (.drop (.drop (.cons (leV.of_eq rfl) (.d4 (.drop (.drop (.eq (.eq (.cons (leV.of_eq (w64e (by omega) (by omega))) (.d16 (.d16 (.d16 (.drop leL.nil))))))))))))))))))) (wk_ext3 (by simp [lowL, AV.low, hlais2, hlkis2]) rfl rfl (by simp [Blk.low, lowL, AV.low, hlais2, hlkis2]))⟩
    ·skip
     refine r_skip (q_block (zj (zd ?_)))
     refine zc rfl (zu rfl gt15 rfl rfl) (sk st23) ?_
     refine zc rfl (zf rfl (gk gt23) (zb rfl)) st15 ?_
     refine ze (q_loop ?_)
     obtain rfl := Option.some.inj hF
     exact ⟨s1, hl1, hK1, wk.trans (wk.le (by exact (.drop (.eq (.eq (.drop (.drop (.drop (.cons (leV.of_eq rfl) (.d4 (.drop (.drop (.eq (.eq (.cons (leV.of_eq (w64e (by omega) (by omega))) (.d16 (.d16 (.d16 (.drop leL.nil))))))))))))))))))) (wk_ext3 (by simp [lowL, AV.low, hlais2, hlkis2]) rfl rfl (by simp [Blk.low, lowL, AV.low, hlais2, hlkis2]))⟩
  ·skip
   refine r_exit ?_
   refine q_seq_exit ?_
   refine yj ?_
   refine q_block_hit ?_
   refine zj (zk (zd ?_))
   refine zc rfl (zf rfl gt6 (zb rfl)) (sk st24) ?_
   refine zc rfl (zg rfl (gk gt24) (zb rfl)) st6 ?_
   refine ze (zj (r_ret ?_))
   obtain rfl := Option.some.inj hF
   refine zz rfl (yc gt6 yb) (zy (leV.osl _ _ _) rfl ?_)
   exact ⟨rfl, rfl⟩
theorem ok62 {t0 : (List GNode)} {ahead1 : (List Str)} {is2 : ((List Str) → Option Bool)} {fis2 : FuncId} {ais2 kis2 : List AV} {res : (List GNode)} {h : AH} (his2 : ∀ x0 v (L : List Blk) (M : List Nat), is2 x0 = some v → Spec Tryz.prog fis2 (ais2 ++ [.sl 1 (x0.map strRow)] ++ kis2) (h.ext L M) (fun rr hh => rr = .bool v ∧ hh = h.ext L M)) (hF : pathsXkept t0 ahead1 is2 = some res) : Spec Tryz.prog 62 [.sl 3 (t0.map GNode.row), .sl 1 (ahead1.map strRow), .fn (.func fis2) ais2 kis2] h (fun rr hh => rr = .sl 3 (res.map GNode.row) ∧ hh = h) := by
 obtain ⟨n, hn⟩ := anyN_is hF
 exact ok62N n his2 hn
/-! varve/paths.Select 1 -/
theorem ok63 {path0 : (List Str)} {c0 : (List Str)} {i0 : Nat} {res : Bool} {h : AH} (hb0 : h.blk i0 = some (.cells [.sl 1 (c0.map strRow)])) (hF : pathsSelectC1 path0 c0 = some res) : Spec Tryz.prog 63 [.sl 1 (path0.map strRow), .ptr i0 0] h (fun rr hh => rr = .bool res ∧ hh = h) := by
 unfold pathsSelectC1 at hF
 refine ye Tryz.func63 rfl (by kernel_rfl) (env := [.sl 1 (path0.map strRow), .ptr i0 0, za, za, za, za, za]) (by rfl) ?_
 refine zk (zd ?_)
 refine zc rfl (zg rfl rfl (zb rfl)) st3 ?_
 refine ze (zj (zk (zd ?_)))
 refine zc rfl (b_load rfl ty26 gt1 hb0 (zr rfl) (zb rfl)) st4 ?_
 refine zc rfl (zf rfl gt0 (zb rfl)) st5 ?_
 refine bindF hF (fun v1 hv1 hF => ?_)
 refine yf rfl (yg rfl rfl rfl (zo gt4 (zo gt5 zw)) (.cons (zb rfl) (.cons (zb rfl) .nil))) (ok47 hv1) st6 ?_
 refine zc rfl (zg rfl gt6 (zb rfl)) st3 ?_
 refine ze (zj (r_ret ?_))
 obtain rfl := Option.some.inj hF
 refine zz rfl (yc gt3 yb) (zy (leV.refl _) rfl ?_)
 exact ⟨rfl, rfl⟩
/-! varve/paths.Select -/
theorem ok39 {t0 : (List GNode)} {p1 : (List Str)} {res : ((List GNode) × Int)} {h : AH}  (hF : pathsSelect t0 p1 = some res) : Spec Tryz.prog 39 [.sl 3 (t0.map GNode.row), .sl 1 (p1.map strRow)] h (fun rr hh => rr = .tup [.sl 3 (res.1.map GNode.row), .int .i64 res.2] ∧ hh = h) := by
 unfold pathsSelect at hF
 refine ye Tryz.func39 rfl (by kernel_rfl) (env := [.sl 3 (t0.map GNode.row), .sl 1 (p1.map strRow), za, za, za, za, za, za, za, za, za, za, za, za, za, za, za]) (by rfl) ?_
 refine zk (zd ?_)
 refine zc rfl (e_box (n := 0) rfl gt1 (zb rfl) rfl rfl) st3 ?_
 refine zc rfl (zg rfl rfl (ty_nil el24)) st4 ?_
 refine zc rfl (zg rfl rfl (zb rfl)) st5 ?_
 refine ze (zj (zk (zk (zd ?_))))
 refine zc rfl (zf rfl gt0 (zb rfl)) st6 ?_
 refine bindF hF (fun v1 hv1 hF => ?_)
 refine yf rfl (yg rfl rfl rfl (zo gt6 zw) (.cons (zb rfl) .nil)) (ok22 hv1) st7 ?_
 refine zc rfl (s_un rfl gt7 rfl) st8 ?_
 refine zc rfl (zf rfl gt8 (zb rfl)) st9 ?_
 refine zp rfl (fun hb => zt rfl ty26 gt3 rfl (zr rfl) (zb rfl)) st10 ?_
 refine gbindF hF (fun v2 hv2 hF => ?_)
 refine ops_gcall rfl (fun hb => yg rfl rfl rfl (zo (zn gt10 hb) zw) (.cons (zb rfl) .nil)) (fun hb => ok32 (hv2 hb)) st11 ?_
 refine zp rfl (fun hb => s_un rfl (zn gt11 hb) rfl) st12 ?_
 refine zc rfl (s_pick rfl gt9 rfl gt12 (pick_or (fun ht => gF ht))) st13 ?_
 refine ze (zj ?_)
 refine r_condF gt13 hF (fun hc3 hF => ?_) (fun hc3 hF => ?_)
 ·skip
  refine zk (zd ?_)
  refine zc rfl (zg rfl rfl (ty_nil el24)) st4 ?_
  refine zc rfl (zg rfl rfl (zb rfl)) st5 ?_
  refine ze (zj (r_ret (zx ?_)))
  obtain rfl := Option.some.inj hF
  refine q_retL rfl (yc gt4 (yc gt5 yb)) (zy (leV.tup (.cons (leV.osl _ _ _) (.eq leL.nil))) rfl ?_)
  exact ⟨rfl, rfl⟩
 ·skip
  refine r_skip (zj (zk (zd ?_)))
  refine zc rfl (zf rfl gt0 (zb rfl)) st14 ?_
  refine zc rfl (s_makeFunc rfl rfl rfl) st15 ?_
  refine bindF hF (fun v4 hv4 hF => ?_)
  refine yf rfl (yg rfl rfl rfl (zo gt14 (zo rfl (zo gt15 zw))) (.cons (zb rfl) (.cons (ty_nil el26) (.cons (zb rfl) .nil)))) ((ok62 (fun _ v L M hv => ok63 (blk_ext2 (j := 0) rfl) hv) hv4).le (.eq (.cons (leV.osl _ _ _) (.eq leL.nil)))) st16 ?_
  refine zc rfl (zg rfl gt16 (zb rfl)) st4 ?_
  refine zc rfl (zg rfl rfl (zb rfl)) st5 ?_
  refine ze (zj (r_ret ?_))
  obtain rfl := Option.some.inj hF
  refine q_retL rfl (yc gt4 (yc gt5 yb)) (zy (leV.refl _) rfl ?_)
  exact ⟨rfl, rfl⟩
/-! slices.IndexFunc[varve/api.Tree,varve/api.Node] -/
theorem ok98 {s0 : (List GNode)} {f1 : (GNode → Option Bool)} {ff1 : FuncId} {af1 kf1 : List AV} {res : Int} {h : AH} (hf1 : ∀ x0 v (L : List Blk) (M : List Nat), f1 x0 = some v → Spec Tryz.prog ff1 (af1 ++ [.agg [.str x0.name, .sl 9 (x0.leaves.map GLeaf.row), .sl 3 (x0.subs.map GNode.row)]] ++ kf1) (h.ext L M) (fun rr hh => rr = .bool v ∧ hh = h.ext L M)) (hF : slicesIndexFuncTreeNode s0 f1 = some res) : Spec Tryz.prog 98 [.sl 3 (s0.map GNode.row), .fn (.func ff1) af1 kf1] h (fun rr hh => rr = .int .i64 res ∧ hh = h) := by
 unfold slicesIndexFuncTreeNode at hF
 refine spec_of_body_extC Tryz.func98 rfl (by kernel_rfl) (env := [.sl 3 (s0.map GNode.row), .fn (.func ff1) af1 kf1, za, za, za, za, za, za, za, za, za, za, za, za, za, za, za, za, za]) (by rfl) (fun hlow hC => ?_)
 simp only [lowL, AV.low, Bool.and_eq_true, Bool.true_and, and_true] at hlow
 have hlaf1 : ∀ n m, h.blks.length ≤ n → h.toks.length ≤ m → lowL n m af1 = true := fun n m h1 h2 => lowL_up h1 h2 _ (by simp [hlow])
 have hlkf1 : ∀ n m, h.blks.length ≤ n → h.toks.length ≤ m → lowL n m kf1 = true := fun n m h1 h2 => lowL_up h1 h2 _ (by simp [hlow])
 refine zk (zd ?_)
 refine zc rfl (zg rfl rfl (zb rfl)) st4 ?_
 refine ze (zj (zk (zk (zd ?_))))
 refine zc rfl (zf rfl gt0 (zb rfl)) st6 ?_
 refine ops_len rfl (yh rfl rfl rfl rfl el24 gt6 lenMap) st7 fun hn1 => ?_
 replace hn1 := lenN hn1
 refine zc rfl (zf rfl rfl (zb rfl)) st8 ?_
 refine ze (zj (r_block ?_))
 refine yk (fun (n1 : Nat) (s1 : Unit) => anys [2, 3, 4, 5, 6, 9, 10, 11, 12, 13, 14, 15, 16, 17, 18] [(8, .int .i64 (n1 : Int))]) (fun s1 => h.ext [] []) hF (fun _ _ => by simp only [anys, upd, List.set_cons_succ, List.set_cons_zero]; try rfl) (wk.le (by exact (.eq (.eq (.d4 (.drop (.eq (.cons (leV.of_eq rfl) (.d4 (.d4 (.drop (.drop leL.nil)))))))))))) ?_
 intro n1 s1 hi1 hF
 refine zk (zd ?_)
 refine zc rfl (zu rfl gt8 gt7 rfl) st9 ?_
 refine ze (zj (zk ?_))
 refine r_condL gt9 hF (fun x1 o1 hl1 hx1 hF hK1 => ?_) (fun hF => ?_)
 ·skip
  refine r_skip (zj (zk (r_block (zk (zd ?_)))))
  refine zc rfl (zf rfl gt8 (zb rfl)) st10 ?_
  refine zc rfl (zg rfl gt10 (zb rfl)) st5 ?_
  refine ze (zj (zk (zd ?_)))
  refine zc rfl (zf rfl gt1 (zb rfl)) st11 ?_
  refine zc rfl (zf rfl gt0 (zb rfl)) st12 ?_
  refine zc rfl (zf rfl gt5 (zb rfl)) st13 ?_
  refine zc rfl (s_idxRowE rfl el24 gt12 gt13 isl (idx_of hx1) (GNode.row_eq _)) st14 ?_
  refine zc rfl (yi rfl ty68.choose_spec.1 gt14 (ldC_agX (cs' := [.str x1.name, .sl 9 (x1.leaves.map GLeaf.row), .sl 3 (x1.subs.map GNode.row)]) ty68.choose_spec.2 rfl rfl) (zb rfl)) st15 ?_
  refine bindF hF (fun v7 hv7 hF => ?_)
  refine yf rfl (s_callC rfl rfl gt11 (zo gt15 zw) (.cons (zb rfl) .nil) rfl) (hf1 _ _ _ _ hv7) st16 ?_
  refine ze (zj ?_)
  refine r_condF gt16 hF (fun hc8 hF => ?_) (fun hc8 hF => ?_)
  ·skip
   refine zk (zd ?_)
   refine zc rfl (zf rfl gt5 (zb rfl)) st17 ?_
   refine zc rfl (zg rfl gt17 (zb rfl)) st4 ?_
   refine ze (zj (r_ret ?_))
   refine yd ?_
   refine zx ?_
   refine q_loop_ret ?_
   obtain rfl := Option.some.inj hF
   replace hF := hK1
   refine yd ?_
   refine zx ?_
   obtain rfl := Option.some.inj hF
   refine zz rfl (yc gt4 yb) (zy (leV.refl _) rfl ?_)
   exact ⟨rfl, rfl⟩
  ·skip
   refine r_skip (q_block (zj (zd ?_)))
   refine zc rfl (zu rfl gt8 rfl rfl) st18 ?_
   refine zc rfl (zf rfl gt18 (zb rfl)) st8 ?_
   refine ze (q_loop ?_)
   obtain rfl := Option.some.inj hF
   exact ⟨(), hl1, hK1, wk.le (by exact (.eq (.eq (.d4 (.drop (.eq (.cons (leV.of_eq (w64e (by omega) (by omega))) (.d4 (.d4 (.drop (.drop leL.nil)))))))))))⟩
 ·skip
  refine r_exit ?_
  refine q_seq_exit ?_
  refine yj ?_
  refine q_block_hit ?_
  refine zj (zk (zd ?_))
  refine zc rfl (zg rfl rfl (zb rfl)) st4 ?_
  refine ze (zj (r_ret ?_))
  obtain rfl := Option.some.inj hF
  refine zz rfl (yc gt4 yb) (zy (leV.refl _) rfl ?_)
  exact ⟨rfl, rfl⟩
/-! varve/tree.linear 1 -/
theorem ok99 {n0 : GNode} {c0 : Str} {i0 : Nat} {res : Bool} {h : AH} (hb0 : h.blk i0 = some (.cells [.str c0])) (hF : treeXlinearC1 n0 c0 = some res) : Spec Tryz.prog 99 [.agg [.str n0.name, .sl 9 (n0.leaves.map GLeaf.row), .sl 3 (n0.subs.map GNode.row)], .ptr i0 0] h (fun rr hh => rr = .bool res ∧ hh = h) := by
 unfold treeXlinearC1 at hF
 refine ye Tryz.func99 rfl (by kernel_rfl) (env := [.agg [.str n0.name, .sl 9 (n0.leaves.map GLeaf.row), .sl 3 (n0.subs.map GNode.row)], .ptr i0 0, za, za, za, za, za, za]) (by rfl) ?_
 refine zk (zd ?_)
 refine zc rfl (e_box (n := 0) rfl gt0 (zb rfl) rfl rfl) st2 ?_
 refine zc rfl (zg rfl rfl (zb rfl)) st3 ?_
 refine ze (zj (zk (zd ?_)))
 refine zc rfl (zi rfl fo68x0 gt2 rfl) st4 ?_
 refine zc rfl (zt rfl ty9 gt4 rfl (zr rfl) (zb rfl)) st5 ?_
 refine zc rfl (b_load rfl ty9 gt1 hb0 (zr rfl) (zb rfl)) st6 ?_
 refine zc rfl (zu rfl gt5 gt6 rfl) st7 ?_
 refine zc rfl (zg rfl gt7 (zb rfl)) st3 ?_
 refine ze (zj (r_ret ?_))
 obtain rfl := Option.some.inj hF
 refine zz rfl (yc gt3 yb) (zy (leV.refl _) rfl ?_)
 exact ⟨rfl, rfl⟩
/-! varve/tree.linear -/
theorem ok64 {t0 : (List GNode)} {name1 : Str} {res : (GNode × Bool)} {h : AH}  (hF : treeXlinear t0 name1 = some res) : Spec Tryz.prog 64 [.sl 3 (t0.map GNode.row), .str name1] h (fun rr hh => rr = .tup [.agg [.str res.1.name, .sl 9 (res.1.leaves.map GLeaf.row), .sl 3 (res.1.subs.map GNode.row)], .bool res.2] ∧ hh = h) := by
 unfold treeXlinear at hF
 refine ye Tryz.func64 rfl (by kernel_rfl) (env := [.sl 3 (t0.map GNode.row), .str name1, za, za, za, za, za, za, za, za, za, za, za, za, za, za, za]) (by rfl) ?_
 refine zk (zd ?_)
 refine zc rfl (e_box (n := 0) rfl gt1 (zb rfl) rfl rfl) st3 ?_
 refine zc rfl (e_alloc (n := 1) rfl ze68 rfl) st4 ?_
 refine zc rfl (zg rfl rfl (zb rfl)) st5 ?_
 refine ze (zj (zk (zd ?_)))
 refine zc rfl (zf rfl gt0 (zb rfl)) st7 ?_
 refine zc rfl (s_makeFunc rfl rfl rfl) st8 ?_
 refine bindF hF (fun v1 hv1 hF => ?_)
 refine yf rfl (yg rfl rfl rfl (zo gt7 (zo gt8 zw)) (.cons (zb rfl) (.cons (zb rfl) .nil))) (ok98 (fun _ v L M hv => ok99 (blk_ext2 (j := 0) rfl) hv) hv1) st9 ?_
 refine zc rfl (zg rfl gt9 (zb rfl)) st6 ?_
 refine ze (zj (zk (zk (zd ?_))))
 refine zc rfl (zf rfl gt6 (zb rfl)) st10 ?_
 refine zc rfl (zu rfl gt10 rfl rfl) st11 ?_
 refine ze (zj ?_)
 refine r_condF gt11 hF (fun hc2 hF => ?_) (fun hc2 hF => ?_)
 ·skip
  refine zk (zd ?_)
  refine zc rfl (s_build (cs' := [.str ([] : Str), .osl none 9 (([] : List GLeaf).map GLeaf.row), .osl none 3 (([] : List GNode).map GNode.row)]) rfl su68 ze68 pl68 parto_nil .nil rfl rfl) st12 ?_
  refine zc rfl (e_store (cs' := [.str ([] : Str), .osl none 9 (([] : List GLeaf).map GLeaf.row), .osl none 3 (([] : List GNode).map GNode.row)]) rfl ty68.choose_spec.1 gt4 gt12 (zb rfl) rfl rfl rfl rfl rfl) rfl ?_
  refine zc rfl (zg rfl rfl (zb rfl)) st5 ?_
  refine ze (zj (r_ret (zx ?_)))
  obtain rfl := Option.some.inj hF
  refine q_retL rfl (rl_cell ty68.choose_spec.1 gt4 rfl (ldC_agX (cs' := [.str ([] : Str), .osl none 9 (([] : List GLeaf).map GLeaf.row), .osl none 3 (([] : List GNode).map GNode.row)]) ty68.choose_spec.2 rfl rfl) (zb rfl) (yc gt5 yb)) (zy (leV.tup (.cons (leV.agg (.eq (.cons (leV.osl _ _ _) (.cons (leV.osl _ _ _) leL.nil))) rfl) (.eq leL.nil))) rfl ?_)
  exact ⟨rfl, rfl⟩
 ·skip
  refine r_skip (zj (zk (zd ?_)))
  refine zc rfl (zf rfl gt0 (zb rfl)) st13 ?_
  refine zc rfl (zf rfl gt6 (zb rfl)) st14 ?_
  refine bindF hF (fun y3 hy3 hF => ?_)
  refine zc rfl (s_idxRowE rfl el24 gt13 gt14 isl hy3 (GNode.row_eq _)) st15 ?_
  refine zc rfl (yi rfl ty68.choose_spec.1 gt15 (ldC_agX (cs' := [.str y3.name, .sl 9 (y3.leaves.map GLeaf.row), .sl 3 (y3.subs.map GNode.row)]) ty68.choose_spec.2 rfl rfl) (zb rfl)) st16 ?_
  refine zc rfl (e_store (cs' := [.str y3.name, .sl 9 (y3.leaves.map GLeaf.row), .sl 3 (y3.subs.map GNode.row)]) rfl ty68.choose_spec.1 gt4 gt16 (zb rfl) rfl rfl rfl rfl rfl) rfl ?_
  refine zc rfl (zg rfl rfl (zb rfl)) st5 ?_
  refine ze (zj (r_ret ?_))
  obtain rfl := Option.some.inj hF
  refine q_retL rfl (rl_cell ty68.choose_spec.1 gt4 rfl (ldC_agX (cs' := [.str y3.name, .sl 9 (y3.leaves.map GLeaf.row), .sl 3 (y3.subs.map GNode.row)]) ty68.choose_spec.2 rfl rfl) (zb rfl) (yc gt5 yb)) (zy (leV.refl _) rfl ?_)
  exact ⟨rfl, rfl⟩
/-! slices.IndexFunc[[]varve/api.Leaf,varve/api.Leaf] -/
theorem ok65 {s0 : (List GLeaf)} {f1 : (GLeaf → Option Bool)} {ff1 : FuncId} {af1 kf1 : List AV} {res : Int} {h : AH} (hf1 : ∀ x0 v (L : List Blk) (M : List Nat), f1 x0 = some v → Spec Tryz.prog ff1 (af1 ++ [.agg [.int .u8 x0.typ, .int .i64 x0.n, .int .u64 x0.time, .int .u8 x0.dot.actor.rep, .int .u32 x0.dot.actor.inc, .int .u64 x0.dot.seq, .str x0.text, .sl 5 (x0.items.map GItem.row), .sl 3 (x0.tombs.map GDot.row)]] ++ kf1) (h.ext L M) (fun rr hh => rr = .bool v ∧ hh = h.ext L M)) (hF : slicesIndexFuncLeaf s0 f1 = some res) : Spec Tryz.prog 65 [.sl 9 (s0.map GLeaf.row), .fn (.func ff1) af1 kf1] h (fun rr hh => rr = .int .i64 res ∧ hh = h) := by
 unfold slicesIndexFuncLeaf at hF
 refine spec_of_body_extC Tryz.func65 rfl (by kernel_rfl) (env := [.sl 9 (s0.map GLeaf.row), .fn (.func ff1) af1 kf1, za, za, za, za, za, za, za, za, za, za, za, za, za, za, za, za, za]) (by rfl) (fun hlow hC => ?_)
 simp only [lowL, AV.low, Bool.and_eq_true, Bool.true_and, and_true] at hlow
 have hlaf1 : ∀ n m, h.blks.length ≤ n → h.toks.length ≤ m → lowL n m af1 = true := fun n m h1 h2 => lowL_up h1 h2 _ (by simp [hlow])
 have hlkf1 : ∀ n m, h.blks.length ≤ n → h.toks.length ≤ m → lowL n m kf1 = true := fun n m h1 h2 => lowL_up h1 h2 _ (by simp [hlow])
 refine zk (zd ?_)
 refine zc rfl (zg rfl rfl (zb rfl)) st4 ?_
 refine ze (zj (zk (zk (zd ?_))))
 refine zc rfl (zf rfl gt0 (zb rfl)) st6 ?_
 refine ops_len rfl (yh rfl rfl rfl rfl el66 gt6 lenMap) st7 fun hn1 => ?_
 replace hn1 := lenN hn1
 refine zc rfl (zf rfl rfl (zb rfl)) st8 ?_
 refine ze (zj (r_block ?_))
 refine yk (fun (n1 : Nat) (s1 : Unit) => anys [2, 3, 4, 5, 6, 9, 10, 11, 12, 13, 14, 15, 16, 17, 18] [(8, .int .i64 (n1 : Int))]) (fun s1 => h.ext [] []) hF (fun _ _ => by simp only [anys, upd, List.set_cons_succ, List.set_cons_zero]; try rfl) (wk.le (by exact (.eq (.eq (.d4 (.drop (.eq (.cons (leV.of_eq rfl) (.d4 (.d4 (.drop (.drop leL.nil)))))))))))) ?_
 intro n1 s1 hi1 hF
 refine zk (zd ?_)
 refine zc rfl (zu rfl gt8 gt7 rfl) st9 ?_
 refine ze (zj (zk ?_))
 refine r_condL gt9 hF (fun x1 o1 hl1 hx1 hF hK1 => ?_) (fun hF => ?_)
 ·skip
  refine r_skip (zj (zk (r_block (zk (zd ?_)))))
  refine zc rfl (zf rfl gt8 (zb rfl)) st10 ?_
  refine zc rfl (zg rfl gt10 (zb rfl)) st5 ?_
  refine ze (zj (zk (zd ?_)))
  refine zc rfl (zf rfl gt1 (zb rfl)) st11 ?_
  refine zc rfl (zf rfl gt0 (zb rfl)) st12 ?_
  refine zc rfl (zf rfl gt5 (zb rfl)) st13 ?_
  refine zc rfl (s_idxRow rfl el66 gt12 gt13 isl (idx_of hx1)) st14 ?_
  refine zc rfl (yi rfl ty47.choose_spec.1 gt14 (ldC_agX (cs' := [.int .u8 x1.typ, .int .i64 x1.n, .int .u64 x1.time, .int .u8 x1.dot.actor.rep, .int .u32 x1.dot.actor.inc, .int .u64 x1.dot.seq, .str x1.text, .sl 5 (x1.items.map GItem.row), .sl 3 (x1.tombs.map GDot.row)]) ty47.choose_spec.2 rfl rfl) (zb rfl)) st15 ?_
  refine bindF hF (fun v7 hv7 hF => ?_)
  refine yf rfl (s_callC rfl rfl gt11 (zo gt15 zw) (.cons (zb rfl) .nil) rfl) (hf1 _ _ _ _ hv7) st16 ?_
  refine ze (zj ?_)
  refine r_condF gt16 hF (fun hc8 hF => ?_) (fun hc8 hF => ?_)
  ·skip
   refine zk (zd ?_)
   refine zc rfl (zf rfl gt5 (zb rfl)) st17 ?_
   refine zc rfl (zg rfl gt17 (zb rfl)) st4 ?_
   refine ze (zj (r_ret ?_))
   refine yd ?_
   refine zx ?_
   refine q_loop_ret ?_
   obtain rfl := Option.some.inj hF
   replace hF := hK1
   refine yd ?_
   refine zx ?_
   obtain rfl := Option.some.inj hF
   refine zz rfl (yc gt4 yb) (zy (leV.refl _) rfl ?_)
   exact ⟨rfl, rfl⟩
  ·skip
   refine r_skip (q_block (zj (zd ?_)))
   refine zc rfl (zu rfl gt8 rfl rfl) st18 ?_
   refine zc rfl (zf rfl gt18 (zb rfl)) st8 ?_
   refine ze (q_loop ?_)
   obtain rfl := Option.some.inj hF
   exact ⟨(), hl1, hK1, wk.le (by exact (.eq (.eq (.d4 (.drop (.eq (.cons (leV.of_eq (w64e (by omega) (by omega))) (.d4 (.d4 (.drop (.drop leL.nil)))))))))))⟩
 ·skip
  refine r_exit ?_
  refine q_seq_exit ?_
  refine yj ?_
  refine q_block_hit ?_
  refine zj (zk (zd ?_))
  refine zc rfl (zg rfl rfl (zb rfl)) st4 ?_
  refine ze (zj (r_ret ?_))
  obtain rfl := Option.some.inj hF
  refine zz rfl (yc gt4 yb) (zy (leV.refl _) rfl ?_)
  exact ⟨rfl, rfl⟩
/-! varve/tree.Leaf 1 -/
theorem ok66 {l0 : GLeaf} {c0 : Int} {i0 : Nat} {res : Bool} {h : AH} (hb0 : h.blk i0 = some (.cells [.int .u8 c0])) (hF : treeLeafC1 l0 c0 = some res) : Spec Tryz.prog 66 [.agg [.int .u8 l0.typ, .int .i64 l0.n, .int .u64 l0.time, .int .u8 l0.dot.actor.rep, .int .u32 l0.dot.actor.inc, .int .u64 l0.dot.seq, .str l0.text, .sl 5 (l0.items.map GItem.row), .sl 3 (l0.tombs.map GDot.row)], .ptr i0 0] h (fun rr hh => rr = .bool res ∧ hh = h) := by
 unfold treeLeafC1 at hF
 refine ye Tryz.func66 rfl (by kernel_rfl) (env := [.agg [.int .u8 l0.typ, .int .i64 l0.n, .int .u64 l0.time, .int .u8 l0.dot.actor.rep, .int .u32 l0.dot.actor.inc, .int .u64 l0.dot.seq, .str l0.text, .sl 5 (l0.items.map GItem.row), .sl 3 (l0.tombs.map GDot.row)], .ptr i0 0, za, za, za, za, za, za]) (by rfl) ?_
 refine zk (zd ?_)
 refine zc rfl (e_box (n := 0) rfl gt0 (zb rfl) rfl rfl) st2 ?_
 refine zc rfl (zg rfl rfl (zb rfl)) st3 ?_
 refine ze (zj (zk (zd ?_)))
 refine zc rfl (zi rfl fo47x0 gt2 rfl) st4 ?_
 refine zc rfl (zt rfl ty5 gt4 rfl (zr rfl) (zb rfl)) st5 ?_
 refine zc rfl (b_load rfl ty5 gt1 hb0 (zr rfl) (zb rfl)) st6 ?_
 refine zc rfl (zu rfl gt5 gt6 rfl) st7 ?_
 refine zc rfl (zg rfl gt7 (zb rfl)) st3 ?_
 refine ze (zj (r_ret ?_))
 obtain rfl := Option.some.inj hF
 refine zz rfl (yc gt3 yb) (zy (leV.refl _) rfl ?_)
 exact ⟨rfl, rfl⟩
/-! varve/leaf.New -/
theorem ok67 {kind0 : Int} {res : GLeaf} {h : AH}  (hF : leafNew kind0 = some res) : Spec Tryz.prog 67 [.int .u8 kind0] h (fun rr hh => rr = .agg [.int .u8 res.typ, .int .i64 res.n, .int .u64 res.time, .int .u8 res.dot.actor.rep, .int .u32 res.dot.actor.inc, .int .u64 res.dot.seq, .str res.text, .sl 5 (res.items.map GItem.row), .sl 3 (res.tombs.map GDot.row)] ∧ hh = h) := by
 unfold leafNew at hF
 refine ye Tryz.func67 rfl (by kernel_rfl) (env := [.int .u8 kind0, za, za, za, za, za, za, za, za, za, za, za]) (by rfl) ?_
 refine zk (zd ?_)
 refine zc rfl (e_alloc (n := 0) rfl ze47 rfl) st2 ?_
 refine ze (zj (zk (zk (zd ?_))))
 refine zc rfl (zf rfl gt0 (zb rfl)) st3 ?_
 refine zc rfl (zu rfl gt3 rfl rfl) st4 ?_
 refine zc rfl (zf rfl gt4 (zb rfl)) st5 ?_
 refine zp rfl (fun hb => zf rfl gt0 (zb rfl)) st6 ?_
 refine zp rfl (fun hb => zu rfl (zn gt6 hb) rfl rfl) st7 ?_
 refine zc rfl (s_pick rfl gt5 rfl gt7 (pick_or (fun ht => gF ht))) st8 ?_
 refine ze (zj ?_)
 refine r_condF gt8 hF (fun hc1 hF => ?_) (fun hc1 hF => ?_)
 ·skip
  refine zk (zd ?_)
  refine zc rfl (s_build (cs' := [.int .u8 (0 : Int), .int .i64 (0 : Int), .int .u64 (0 : Int), .int .u8 (0 : Int), .int .u32 (0 : Int), .int .u64 (0 : Int), .str ([] : Str), .osl none 5 (([] : List GItem).map GItem.row), .osl none 3 (([] : List GDot).map GDot.row)]) rfl su47 ze47 pl47 parto_nil .nil rfl rfl) st9 ?_
  refine zc rfl (e_store (cs' := [.int .u8 (0 : Int), .int .i64 (0 : Int), .int .u64 (0 : Int), .int .u8 (0 : Int), .int .u32 (0 : Int), .int .u64 (0 : Int), .str ([] : Str), .osl none 5 (([] : List GItem).map GItem.row), .osl none 3 (([] : List GDot).map GDot.row)]) rfl ty47.choose_spec.1 gt2 gt9 (zb rfl) rfl rfl rfl rfl rfl) rfl ?_
  refine ze (zj (r_ret (zx ?_)))
  obtain rfl := Option.some.inj hF
  refine zz rfl (rl_cell ty47.choose_spec.1 gt2 rfl (ldC_agX (cs' := [.int .u8 (0 : Int), .int .i64 (0 : Int), .int .u64 (0 : Int), .int .u8 (0 : Int), .int .u32 (0 : Int), .int .u64 (0 : Int), .str ([] : Str), .osl none 5 (([] : List GItem).map GItem.row), .osl none 3 (([] : List GDot).map GDot.row)]) ty47.choose_spec.2 rfl rfl) (zb rfl) yb) (zy (leV.agg (.eq (.eq (.eq (.eq (.eq (.eq (.eq (.cons (leV.osl _ _ _) (.cons (leV.osl _ _ _) leL.nil))))))))) rfl) rfl ?_)
  exact ⟨rfl, rfl⟩
 ·skip
  refine r_skip (zj (zk (zd ?_)))
  refine zc rfl (zf rfl gt0 (zb rfl)) st10 ?_
  refine zc rfl (s_build (cs' := [.int .u8 kind0, .int .i64 (0 : Int), .int .u64 (0 : Int), .int .u8 (0 : Int), .int .u32 (0 : Int), .int .u64 (0 : Int), .str ([] : Str), .osl none 5 (([] : List GItem).map GItem.row), .osl none 3 (([] : List GDot).map GDot.row)]) rfl su47 ze47 pl47 (parto_cons gt10 parto_nil) (.cons (zb rfl) .nil) rfl rfl) st11 ?_
  refine zc rfl (e_store (cs' := [.int .u8 kind0, .int .i64 (0 : Int), .int .u64 (0 : Int), .int .u8 (0 : Int), .int .u32 (0 : Int), .int .u64 (0 : Int), .str ([] : Str), .osl none 5 (([] : List GItem).map GItem.row), .osl none 3 (([] : List GDot).map GDot.row)]) rfl ty47.choose_spec.1 gt2 gt11 (zb rfl) rfl rfl rfl rfl rfl) rfl ?_
  refine ze (zj (r_ret ?_))
  obtain rfl := Option.some.inj hF
  refine zz rfl (rl_cell ty47.choose_spec.1 gt2 rfl (ldC_agX (cs' := [.int .u8 kind0, .int .i64 (0 : Int), .int .u64 (0 : Int), .int .u8 (0 : Int), .int .u32 (0 : Int), .int .u64 (0 : Int), .str ([] : Str), .osl none 5 (([] : List GItem).map GItem.row), .osl none 3 (([] : List GDot).map GDot.row)]) ty47.choose_spec.2 rfl rfl) (zb rfl) yb) (zy (leV.agg (.eq (.eq (.eq (.eq (.eq (.eq (.eq (.cons (leV.osl _ _ _) (.cons (leV.osl _ _ _) leL.nil))))))))) rfl) rfl ?_)
  exact ⟨rfl, rfl⟩
/-! varve/tree.Leaf -/
theorem ok40 {t0 : (List GNode)} {path1 : (List Str)} {kind2 : Int} {res : (GLeaf × Bool)} {h : AH}  (hF : treeLeaf t0 path1 kind2 = some res) : Spec Tryz.prog 40 [.sl 3 (t0.map GNode.row), .sl 1 (path1.map strRow), .int .u8 kind2] h (fun rr hh => rr = .tup [.agg [.int .u8 res.1.typ, .int .i64 res.1.n, .int .u64 res.1.time, .int .u8 res.1.dot.actor.rep, .int .u32 res.1.dot.actor.inc, .int .u64 res.1.dot.seq, .str res.1.text, .sl 5 (res.1.items.map GItem.row), .sl 3 (res.1.tombs.map GDot.row)], .bool res.2] ∧ hh = h) := by
 unfold treeLeaf at hF
 refine ye Tryz.func40 rfl (by kernel_rfl) (env := [.sl 3 (t0.map GNode.row), .sl 1 (path1.map strRow), .int .u8 kind2, za, za, za, za, za, za, za, za, za, za, za, za, za, za, za, za, za, za, za, za, za, za, za, za, za, za, za, za, za, za, za, za, za, za, za, za, za, za, za, za, za, za, za, za, za, za, za, za, za, za, za, za, za, za, za, za, za, za, za, za, za, za, za]) (by rfl) ?_
 refine zk (zd ?_)
 refine zc rfl (e_box (n := 0) rfl gt2 (zb rfl) rfl rfl) st5 ?_
 refine zc rfl (e_alloc (n := 1) rfl ze47 rfl) st6 ?_
 refine zc rfl (zg rfl rfl (zb rfl)) st7 ?_
 refine ze (zj (zk (zd ?_)))
 refine zc rfl (e_alloc (n := 2) rfl ze68 rfl) st8 ?_
 refine ze (zj (zk (zd ?_)))
 refine zc rfl (zf rfl gt1 (zb rfl)) st14 ?_
 refine ops_len rfl (yh rfl rfl rfl rfl el26 gt14 lenMap) st15 fun hn1 => ?_
 replace hn1 := lenN hn1
 refine zc rfl (zu rfl gt15 rfl rfl) st16 ?_
 refine zc rfl (zg rfl gt16 (zb rfl)) st9 ?_
 refine ze (zj ?_)
 refine r_join (fun (s1 : Bool × Str × (List GLeaf) × (List GNode)) => anys [0, 1, 2, 3, 4, 7, 10, 11, 12, 13, 14, 15, 16, 17, 18, 19, 20, 21, 22, 23, 24, 25, 26, 27, 28, 29, 30, 31, 32, 33, 34, 35, 36, 37, 38, 39, 40, 41, 42, 43, 44, 45, 46, 47, 48, 49, 50, 51, 52, 53, 54, 55, 56, 57, 58, 59, 60, 61, 62, 63, 64, 65] [(9, .bool s1.1)]) (fun s1 => h.ext [.cells [.int .u8 kind2], .cells [.int .u8 (0 : Int), .int .i64 (0 : Int), .int .u64 (0 : Int), .int .u8 (0 : Int), .int .u32 (0 : Int), .int .u64 (0 : Int), .str ([] : Str), .osl none 5 (([] : List GItem).map GItem.row), .osl none 3 (([] : List GDot).map GDot.row)], .cells [.str s1.2.1, .sl 9 (s1.2.2.1.map GLeaf.row), .sl 3 (s1.2.2.2.map GNode.row)]] []) hF (fun _ => by simp only [anys, upd, List.set_cons_succ, List.set_cons_zero]; try rfl) (fun o1 hF hK1 => ?_) (fun s1 hF => ?_)
 ·skip
  refine zk (zd ?_)
  refine zc rfl (zf rfl gt1 (zb rfl)) st17 ?_
  refine ops_len rfl (yh rfl rfl rfl rfl el26 gt17 lenMap) st18 fun hn26 => ?_
  replace hn26 := lenN hn26
  refine zc rfl (zf rfl rfl (zb rfl)) st19 ?_
  refine ze (zj (r_block ?_))
  refine yk (fun (n2 : Nat) (s2 : (List GNode) × Bool × Str × (List GLeaf) × (List GNode)) => anys [1, 2, 3, 4, 7, 10, 11, 12, 13, 14, 15, 16, 20, 21, 22, 23, 24, 25, 26, 27, 28, 29, 30, 31, 32, 33, 34, 35, 36, 37, 38, 39, 40, 41, 42, 43, 44, 45, 46, 47, 48, 49, 50, 51, 52, 53, 54, 55, 56, 57, 58, 59, 60, 61, 62, 63, 64, 65] [(0, .sl 3 (s2.1.map GNode.row)), (9, .bool s2.2.1), (19, .int .i64 (n2 : Int))]) (fun s2 => h.ext [.cells [.int .u8 kind2], .cells [.int .u8 (0 : Int), .int .i64 (0 : Int), .int .u64 (0 : Int), .int .u8 (0 : Int), .int .u32 (0 : Int), .int .u64 (0 : Int), .str ([] : Str), .osl none 5 (([] : List GItem).map GItem.row), .osl none 3 (([] : List GDot).map GDot.row)], .cells [.str s2.2.2.1, .sl 9 (s2.2.2.2.1.map GLeaf.row), .sl 3 (s2.2.2.2.2.map GNode.row)]] []) hF (fun _ _ => by simp only [anys, upd, List.set_cons_succ, List.set_cons_zero]; try rfl) (wk.trans (wk_leB (j := 2) rfl (by exact (.eq (.cons (leV.osl _ _ _) (.cons (leV.osl _ _ _) leL.nil)))) rfl rfl) (wk.le (by exact (.cons (leV.of_eq rfl) (.d4 (.eq (.eq (.drop (.eq (.cons (leV.of_eq rfl) (.d4 (.drop (.drop (.drop (.eq (.eq (.cons (leV.of_eq rfl) (.d16 (.d16 (.d4 (.d4 (.d4 (.drop (.drop leL.nil)))))))))))))))))))))))) ?_
  intro n2 s2 hi2 hF
  refine zk (zd ?_)
  refine zc rfl (zu rfl gt19 gt18 rfl) st20 ?_
  refine ze (zj (zk ?_))
  refine r_condL gt20 hF (fun x2 o2 hl2 hx2 hF hK2 => ?_) (fun hF => ?_)
  ·skip
   refine r_skip (zj (zk (r_block (zk (zd ?_)))))
   refine zc rfl (s_idxRow rfl el26 gt17 gt19 isl (idx_of hx2)) st21 ?_
   refine zc rfl (yi rfl ty9 gt21 (zr rfl) (zb rfl)) st22 ?_
   refine zc rfl (zg rfl gt22 (zb rfl)) st11 ?_
   refine ze (zj (zk (zk (zd ?_))))
   refine zc rfl (zf rfl gt0 (zb rfl)) st24 ?_
   refine zc rfl (zf rfl gt11 (zb rfl)) st25 ?_
   refine bindF hF (fun v47 hv47 hF => ?_)
   refine yf rfl (yg rfl rfl rfl (zo gt24 (zo gt25 zw)) (.cons (zb rfl) (.cons (zb rfl) .nil))) (ok64 hv47) st26 ?_
   refine zc rfl (zf rfl gt26 (zb rfl)) st23 ?_
   refine zc rfl (s_extract rfl gt23 rfl (zb rfl)) st27 ?_
   refine zc rfl (s_extract rfl gt23 rfl (zb rfl)) st28 ?_
   refine zc rfl (e_store (cs' := [.str v47.1.name, .sl 9 (v47.1.leaves.map GLeaf.row), .sl 3 (v47.1.subs.map GNode.row)]) rfl ty68.choose_spec.1 gt8 gt27 (zb rfl) rfl rfl rfl rfl rfl) rfl ?_
   refine zc rfl (zg rfl gt28 (zb rfl)) st9 ?_
   refine ze (zj (zk (zd ?_)))
   refine zc rfl (zf rfl gt9 (zb rfl)) st29 ?_
   refine zc rfl (s_un rfl gt29 rfl) st30 ?_
   refine ze (zj ?_)
   refine r_condF gt30 hF (fun hc48 hF => ?_) (fun hc48 hF => ?_)
   ·skip
    refine r_exit ?_
    refine q_seq_exit ?_
    refine q_block_miss (by decide) ?_
    refine q_seq_exit ?_
    refine yj ?_
    obtain rfl := Option.some.inj hF
    replace hF := hK2
    refine q_block_hit ?_
    refine q_join ?_
    obtain rfl := Option.some.inj hF
    exact ⟨(v47.2, v47.1.name, v47.1.leaves, v47.1.subs), hK1, wk.le (by exact (.d4 (.drop (.eq (.eq (.drop (.eq (.cons (leV.of_eq rfl) (.d16 (.d16 (.d16 (.d4 (.d4 leL.nil)))))))))))))⟩
   ·skip
    refine r_skip (zj (zd ?_))
    refine zc rfl (zi rfl fo68x2 gt8 rfl) st31 ?_
    refine zc rfl (zt rfl ty24 gt31 rfl (zr rfl) (zb rfl)) st32 ?_
    refine zc rfl (zg rfl gt32 (zb rfl)) st0 ?_
    refine ze (q_block (zj (zd ?_)))
    refine zc rfl (zu rfl gt19 rfl rfl) st33 ?_
    refine zc rfl (zf rfl gt33 (zb rfl)) st19 ?_
    refine ze (q_loop ?_)
    obtain rfl := Option.some.inj hF
    exact ⟨(v47.1.subs, v47.2, v47.1.name, v47.1.leaves, v47.1.subs), hl2, hK2, wk.le (by exact (.cons (leV.of_eq rfl) (.d4 (.eq (.eq (.drop (.eq (.cons (leV.of_eq rfl) (.d4 (.drop (.drop (.drop (.eq (.eq (.cons (leV.of_eq (w64e (by omega) (by omega))) (.d16 (.d16 (.d4 (.d4 (.d4 (.drop (.drop leL.nil))))))))))))))))))))))⟩
  ·skip
   refine r_exit ?_
   refine q_seq_exit ?_
   refine yj ?_
   refine q_block_hit ?_
   refine q_join ?_
   obtain rfl := Option.some.inj hF
   exact ⟨(s2.2.1, s2.2.2.1, s2.2.2.2.1, s2.2.2.2.2), hK1, wk.le (by exact (.d4 (.drop (.eq (.eq (.drop (.eq (.cons (leV.of_eq rfl) (.d16 (.d16 (.d16 (.d4 (.d4 leL.nil)))))))))))))⟩
 ·skip
  refine zk (zd ?_)
  refine zc rfl (zi rfl fo68x1 gt8 rfl) st34 ?_
  refine zc rfl (zt rfl ty66 gt34 rfl (zr rfl) (zb rfl)) st35 ?_
  refine zc rfl (s_makeFunc rfl rfl rfl) st36 ?_
  refine bindF hF (fun v49 hv49 hF => ?_)
  refine yf rfl (yg rfl rfl rfl (zo gt35 (zo gt36 zw)) (.cons (zb rfl) (.cons (zb rfl) .nil))) (ok65 (fun _ v L M hv => ok66 (blk_ext2 (j := 0) rfl) hv) hv49) st37 ?_
  refine zc rfl (zg rfl gt37 (zb rfl)) st12 ?_
  refine ze (zj (zk (zk (zd ?_))))
  refine zc rfl (zf rfl gt9 (zb rfl)) st38 ?_
  refine zc rfl (s_un rfl gt38 rfl) st39 ?_
  refine zc rfl (zf rfl gt39 (zb rfl)) (sk st0) ?_
  refine zp rfl (fun hb => zf rfl gt12 (zb rfl)) (sk st1) ?_
  refine zp rfl (fun hb => zu rfl (zn (gk gt1) hb) rfl rfl) (sk st2) ?_
  refine zc rfl (s_pick rfl (gk gt0) rfl (gk gt2) (pick_or (fun ht => gF ht))) (sk st3) ?_
  refine zc rfl (zf rfl (gk gt3) (zb rfl)) (sk st4) ?_
  refine zp rfl (fun hb => zt rfl ty5 gt5 rfl (zr rfl) (zb rfl)) (sk st5) ?_
  refine gbindF hF (fun v50 hv50 hF => ?_)
  refine ops_gcall rfl (fun hb => yg rfl rfl rfl (zo (zn (gk gt5) hb) zw) (.cons (zb rfl) .nil)) (fun hb => ok67 (hv50 hb)) (sk st6) ?_
  refine zp rfl (fun hb => s_field rfl fo47x0 ty5 (zn (gk gt6) hb) rfl (zb rfl)) (sk st7) ?_
  refine zp rfl (fun hb => zu rfl (zn (gk gt7) hb) rfl rfl) (sk st8) ?_
  refine zc rfl (s_pick rfl (gk gt4) rfl (gk gt8) (pick_or (fun ht => gF ht))) (sk st9) ?_
  refine ze (zj ?_)
  refine r_condF (gk gt9) hF (fun hc51 hF => ?_) (fun hc51 hF => ?_)
  ·skip
   refine zk (zd ?_)
   refine zc rfl (zt rfl ty5 gt5 rfl (zr rfl) (zb rfl)) (sk st10) ?_
   refine bindF hF (fun v52 hv52 hF => ?_)
   refine yf rfl (yg rfl rfl rfl (zo (gk gt10) zw) (.cons (zb rfl) .nil)) (ok67 hv52) (sk st11) ?_
   refine zc rfl (e_store (cs' := [.int .u8 v52.typ, .int .i64 v52.n, .int .u64 v52.time, .int .u8 v52.dot.actor.rep, .int .u32 v52.dot.actor.inc, .int .u64 v52.dot.seq, .str v52.text, .sl 5 (v52.items.map GItem.row), .sl 3 (v52.tombs.map GDot.row)]) rfl ty47.choose_spec.1 gt6 (gk gt11) (zb rfl) rfl rfl rfl rfl rfl) rfl ?_
   refine zc rfl (zg rfl rfl (zb rfl)) st7 ?_
   refine ze (zj (r_ret (zx ?_)))
   obtain rfl := Option.some.inj hF
   refine q_retL rfl (rl_cell ty47.choose_spec.1 gt6 rfl (ldC_agX (cs' := [.int .u8 v52.typ, .int .i64 v52.n, .int .u64 v52.time, .int .u8 v52.dot.actor.rep, .int .u32 v52.dot.actor.inc, .int .u64 v52.dot.seq, .str v52.text, .sl 5 (v52.items.map GItem.row), .sl 3 (v52.tombs.map GDot.row)]) ty47.choose_spec.2 rfl rfl) (zb rfl) (yc gt7 yb)) (zy (leV.refl _) rfl ?_)
   exact ⟨rfl, rfl⟩
  ·skip
   refine r_skip (zj (zk (zd ?_)))
   refine zc rfl (zi rfl fo68x1 gt8 rfl) (sk st12) ?_
   refine zc rfl (zt rfl ty66 (gk gt12) rfl (zr rfl) (zb rfl)) (sk st13) ?_
   refine zc rfl (zf rfl gt12 (zb rfl)) (sk st14) ?_
   refine bindF hF (fun y53 hy53 hF => ?_)
   refine zc rfl (s_idxRow rfl el66 (gk gt13) (gk gt14) isl hy53) (sk st15) ?_
   refine zc rfl (yi rfl ty47.choose_spec.1 (gk gt15) (ldC_agX (cs' := [.int .u8 y53.typ, .int .i64 y53.n, .int .u64 y53.time, .int .u8 y53.dot.actor.rep, .int .u32 y53.dot.actor.inc, .int .u64 y53.dot.seq, .str y53.text, .sl 5 (y53.items.map GItem.row), .sl 3 (y53.tombs.map GDot.row)]) ty47.choose_spec.2 rfl rfl) (zb rfl)) (sk st16) ?_
   refine zc rfl (e_alloc (n := 3) rfl ze47 rfl) st13 ?_
   refine zc rfl (e_store (cs' := [.int .u8 y53.typ, .int .i64 y53.n, .int .u64 y53.time, .int .u8 y53.dot.actor.rep, .int .u32 y53.dot.actor.inc, .int .u64 y53.dot.seq, .str y53.text, .sl 5 (y53.items.map GItem.row), .sl 3 (y53.tombs.map GDot.row)]) rfl ty47.choose_spec.1 gt13 (gk gt16) (zb rfl) rfl rfl rfl rfl rfl) rfl ?_
   refine ze (zj (zk ?_))
   refine r_drawn [] [] trivial mixed (by kernel_rfl) ?_
   refine zq rfl rfl (zi rfl fo47x5 gt13 rfl) (sk st17) ?_
   refine zq rfl rfl (zt rfl ty45 (gk gt17) rfl (zr rfl) (zb rfl)) (sk st18) ?_
   refine bindF hF (fun v54 hv54 hF => ?_)
   refine draw_callH rfl FOk.nil (by rfl) rfl (yg rfl rfl rfl (zo (gk gt18) zw) (.cons (zb rfl) .nil)) (own_ext (T' := [(v54).length]) (ok68 hv54) (m := 0) rfl rfl) (sk st19) ?_
   refine zq rfl rfl (zi rfl fo47x6 gt13 rfl) (sk st20) ?_
   refine zq rfl rfl (zt rfl ty27 (gk gt20) rfl (zr rfl) (zb rfl)) (sk st21) ?_
   refine bindF hF (fun v55 hv55 hF => ?_)
   refine draw_callH rfl FOk.nil (by rfl) rfl (yg rfl rfl rfl (zo (gk gt21) zw) (.cons (zb rfl) .nil)) (own_ext (T' := [(v54).length, (v55).length]) (ok69 hv55) (m := 1) rfl rfl) (sk st22) ?_
   refine zq rfl rfl (zi rfl fo47x5 gt13 rfl) (sk st23) ?_
   refine draw_eff rfl FOk.nil (by kernel_rfl) rfl (e_store (cs' := [.int .u8 y53.typ, .int .i64 y53.n, .int .u64 y53.time, .int .u8 y53.dot.actor.rep, .int .u32 y53.dot.actor.inc, .int .u64 y53.dot.seq, .str y53.text, .osl (some (h.toks.length + 0)) 5 (v54.map GItem.row), .sl 3 (y53.tombs.map GDot.row)]) rfl ty45 (gk gt23) (gk gt19) (zb rfl) rfl rfl rfl rfl rfl) rfl ?_
   refine zq rfl rfl (zi rfl fo47x6 gt13 rfl) (sk st24) ?_
   refine draw_eff rfl FOk.nil (by kernel_rfl) rfl (e_store (cs' := [.int .u8 y53.typ, .int .i64 y53.n, .int .u64 y53.time, .int .u8 y53.dot.actor.rep, .int .u32 y53.dot.actor.inc, .int .u64 y53.dot.seq, .str y53.text, .osl (some (h.toks.length + 0)) 5 (v54.map GItem.row), .osl (some (h.toks.length + 1)) 3 (v55.map GDot.row)]) rfl ty27 (gk gt24) (gk gt22) (zb rfl) rfl rfl rfl rfl rfl) rfl ?_
   refine draw_nil ?_
   refine zj (zk (zd ?_))
   refine zc rfl (zt rfl ty47.choose_spec.1 gt13 rfl (ldC_agX (cs' := [.int .u8 y53.typ, .int .i64 y53.n, .int .u64 y53.time, .int .u8 y53.dot.actor.rep, .int .u32 y53.dot.actor.inc, .int .u64 y53.dot.seq, .str y53.text, .osl (some (h.toks.length + 0)) 5 (v54.map GItem.row), .osl (some (h.toks.length + 1)) 3 (v55.map GDot.row)]) ty47.choose_spec.2 rfl rfl) (zb rfl)) (sk st25) ?_
   refine zc rfl (e_store (cs' := [.int .u8 y53.typ, .int .i64 y53.n, .int .u64 y53.time, .int .u8 y53.dot.actor.rep, .int .u32 y53.dot.actor.inc, .int .u64 y53.dot.seq, .str y53.text, .osl (some (h.toks.length + 0)) 5 (v54.map GItem.row), .osl (some (h.toks.length + 1)) 3 (v55.map GDot.row)]) rfl ty47.choose_spec.1 gt6 (gk gt25) (zb rfl) rfl rfl rfl rfl rfl) rfl ?_
   refine zc rfl (zg rfl rfl (zb rfl)) st7 ?_
   refine ze (zj (r_ret ?_))
   obtain rfl := Option.some.inj hF
   refine q_retL rfl (rl_cell ty47.choose_spec.1 gt6 rfl (ldC_agX (cs' := [.int .u8 y53.typ, .int .i64 y53.n, .int .u64 y53.time, .int .u8 y53.dot.actor.rep, .int .u32 y53.dot.actor.inc, .int .u64 y53.dot.seq, .str y53.text, .osl (some (h.toks.length + 0)) 5 (v54.map GItem.row), .osl (some (h.toks.length + 1)) 3 (v55.map GDot.row)]) ty47.choose_spec.2 rfl rfl) (zb rfl) (yc gt7 yb)) (zy (leV.tup (.cons (leV.agg (.eq (.eq (.eq (.eq (.eq (.eq (.eq (.cons (leV.osl _ _ _) (.cons (leV.osl _ _ _) leL.nil))))))))) rfl) (.eq leL.nil))) rfl ?_)
   exact ⟨rfl, rfl⟩
/-! slices.BinarySearchFunc[varve/api.Tree,varve/api.Node,string] -/
theorem ok72 {x0 : (List GNode)} {target1 : Str} {cmp2 : (GNode → Str → Option Int)} {fcmp2 : FuncId} {acmp2 kcmp2 : List AV} {res : (Int × Bool)} {h : AH} (hcmp2 : ∀ x0 x1 v (L : List Blk) (M : List Nat), cmp2 x0 x1 = some v → Spec Tryz.prog fcmp2 (acmp2 ++ [.agg [.str x0.name, .sl 9 (x0.leaves.map GLeaf.row), .sl 3 (x0.subs.map GNode.row)], .str x1] ++ kcmp2) (h.ext L M) (fun rr hh => rr = .int .i64 v ∧ hh = h.ext L M)) (hF : slicesBinarySearchFuncTreeNodeString x0 target1 cmp2 = some res) : Spec Tryz.prog 72 [.sl 3 (x0.map GNode.row), .str target1, .fn (.func fcmp2) acmp2 kcmp2] h (fun rr hh => rr = .tup [.int .i64 res.1, .bool res.2] ∧ hh = h) := by
 unfold slicesBinarySearchFuncTreeNodeString at hF
 refine spec_of_body_extC Tryz.func72 rfl (by kernel_rfl) (env := [.sl 3 (x0.map GNode.row), .str target1, .fn (.func fcmp2) acmp2 kcmp2, za, za, za, za, za, za, za, za, za, za, za, za, za, za, za, za, za, za, za, za, za, za, za, za, za, za, za, za, za, za, za, za, za, za, za, za, za, za, za, za, za, za, za, za, za, za]) (by rfl) (fun hlow hC => ?_)
 simp only [lowL, AV.low, Bool.and_eq_true, Bool.true_and, and_true] at hlow
 have hlacmp2 : ∀ n m, h.blks.length ≤ n → h.toks.length ≤ m → lowL n m acmp2 = true := fun n m h1 h2 => lowL_up h1 h2 _ (by simp [hlow])
 have hlkcmp2 : ∀ n m, h.blks.length ≤ n → h.toks.length ≤ m → lowL n m kcmp2 = true := fun n m h1 h2 => lowL_up h1 h2 _ (by simp [hlow])
 refine zk (zd ?_)
 refine zc rfl (zg rfl rfl (zb rfl)) st6 ?_
 refine zc rfl (zg rfl rfl (zb rfl)) st7 ?_
 refine ze (zj (zk (zd ?_)))
 refine zc rfl (zf rfl gt0 (zb rfl)) st12 ?_
 refine ops_len rfl (yh rfl rfl rfl rfl el24 gt12 lenMap) st13 fun hn1 => ?_
 replace hn1 := lenN hn1
 refine zc rfl (zg rfl gt13 (zb rfl)) st8 ?_
 refine ze (zj (zk (zd ?_)))
 refine zc rfl (zf rfl gt8 (zb rfl)) st14 ?_
 refine zc rfl (zg rfl rfl (zb rfl)) st9 ?_
 refine zc rfl (zg rfl gt14 (zb rfl)) st10 ?_
 refine ze (zj (zk (r_block ?_)))
 refine r_loopWF (fun (s1 : Int × Int) => anys [3, 4, 5, 6, 7, 11, 12, 13, 14, 15, 16, 17, 18, 19, 20, 21, 22, 23, 24, 25, 26, 27, 28, 29, 30, 31, 32, 33, 34, 35, 36, 37, 38, 39, 40, 41, 42, 43, 44, 45, 46, 47, 48] [(9, .int .i64 s1.1), (10, .int .i64 s1.2)]) (fun s1 => h.ext [] []) hF (fun _ => by simp only [anys, upd, List.set_cons_succ, List.set_cons_zero]; try rfl) (wk.le (by exact (.eq (.eq (.eq (.d4 (.drop (.eq (.cons (leV.of_eq rfl) (.cons (leV.of_eq rfl) (.d16 (.d16 (.d4 (.drop (.drop leL.nil))))))))))))))) ?_
 intro n1 s1 o1 hF hK1
 refine zk (zk (zd ?_))
 refine zc rfl (zf rfl gt9 (zb rfl)) st15 ?_
 refine zc rfl (zf rfl gt10 (zb rfl)) st16 ?_
 refine zc rfl (zu rfl gt15 gt16 rfl) st17 ?_
 refine ze (zj ?_)
 refine r_condF gt17 hF (fun hc8 hF => ?_) (fun hc8 hF => ?_)
 ·skip
  refine r_skip (zj (r_block (zk (zd ?_))))
  refine zc rfl (zf rfl gt9 (zb rfl)) st18 ?_
  refine zc rfl (zf rfl gt10 (zb rfl)) st19 ?_
  refine zc rfl (zu rfl gt18 gt19 rfl) st20 ?_
  refine zc rfl (s_convert rfl ty3 ty134 gt20 rfl) st21 ?_
  refine zc rfl (zu rfl gt21 rfl rfl) st22 ?_
  refine zc rfl (s_convert rfl ty134 ty3 gt22 rfl) st23 ?_
  refine zc rfl (zg rfl gt23 (zb rfl)) st11 ?_
  refine ze (zj (zk (zd ?_)))
  refine zc rfl (zf rfl gt2 (zb rfl)) st24 ?_
  refine zc rfl (zf rfl gt0 (zb rfl)) st25 ?_
  refine zc rfl (zf rfl gt11 (zb rfl)) st26 ?_
  refine bindF hF (fun y9 hy9 hF => ?_)
  refine zc rfl (s_idxRowE rfl el24 gt25 gt26 isl hy9 (GNode.row_eq _)) st27 ?_
  refine zc rfl (yi rfl ty68.choose_spec.1 gt27 (ldC_agX (cs' := [.str y9.name, .sl 9 (y9.leaves.map GLeaf.row), .sl 3 (y9.subs.map GNode.row)]) ty68.choose_spec.2 rfl rfl) (zb rfl)) st28 ?_
  refine zc rfl (zf rfl gt1 (zb rfl)) st29 ?_
  refine bindF hF (fun v10 hv10 hF => ?_)
  refine yf rfl (s_callC rfl rfl gt24 (zo gt28 (zo gt29 zw)) (.cons (zb rfl) (.cons (zb rfl) .nil)) rfl) (hcmp2 _ _ _ _ _ hv10) st30 ?_
  refine zc rfl (zu rfl gt30 rfl rfl) st31 ?_
  refine ze (zj ?_)
  refine r_condF gt31 hF (fun hc11 hF => ?_) (fun hc11 hF => ?_)
  ·skip
   refine zd ?_
   refine zc rfl (zf rfl gt11 (zb rfl)) st32 ?_
   refine zc rfl (zu rfl gt32 rfl rfl) st33 ?_
   refine zc rfl (zg rfl gt33 (zb rfl)) st9 ?_
   refine ze (q_block (q_loop ?_))
   obtain rfl := Option.some.inj hF
   exact ⟨((IntKind.wrap .i64 ((IntKind.wrap .i64 ((Int.fdiv (IntKind.wrap .u64 ((IntKind.wrap .i64 (s1.1 + s1.2)))) (2 ^ (min (1 : Int).toNat (IntKind.bits .u64)))))) + (1 : Int))), s1.2), hK1, wk.le (by exact (.eq (.eq (.eq (.d4 (.drop (.eq (.cons (leV.of_eq rfl) (.cons (leV.of_eq rfl) (.d16 (.d16 (.d4 (.drop (.drop leL.nil))))))))))))))⟩
  ·skip
   refine zd ?_
   refine zc rfl (zf rfl gt11 (zb rfl)) st34 ?_
   refine zc rfl (zg rfl gt34 (zb rfl)) st10 ?_
   refine ze (q_block (q_loop ?_))
   obtain rfl := Option.some.inj hF
   exact ⟨(s1.1, (IntKind.wrap .i64 ((Int.fdiv (IntKind.wrap .u64 ((IntKind.wrap .i64 (s1.1 + s1.2)))) (2 ^ (min (1 : Int).toNat (IntKind.bits .u64))))))), hK1, wk.le (by exact (.eq (.eq (.eq (.d4 (.drop (.eq (.cons (leV.of_eq rfl) (.cons (leV.of_eq rfl) (.d16 (.d16 (.d4 (.drop (.drop leL.nil))))))))))))))⟩
 ·skip
  refine r_exit ?_
  refine q_seq_exit ?_
  refine yj ?_
  obtain rfl := Option.some.inj hF
  replace hF := hK1
  refine q_block_hit ?_
  refine zj (zk (zd ?_))
  refine zc rfl (zf rfl gt9 (zb rfl)) st35 ?_
  refine zc rfl (zf rfl gt9 (zb rfl)) st36 ?_
  refine zc rfl (zf rfl gt8 (zb rfl)) st37 ?_
  refine zc rfl (zu rfl gt36 gt37 rfl) st38 ?_
  refine zc rfl (zf rfl gt38 (zb rfl)) st39 ?_
  refine zp rfl (fun hb => zf rfl gt2 (zb rfl)) (sk st0) ?_
  refine zp rfl (fun hb => zf rfl gt0 (zb rfl)) (sk st1) ?_
  refine zp rfl (fun hb => zf rfl gt9 (zb rfl)) (sk st2) ?_
  refine chkF hF (fun hg14 hF => ?_)
  refine zp rfl (fun hb => s_gidxRowE default rfl el24 (zn (gk gt1) hb) (zn (gk gt2) hb) isl (hg14 hb) (GNode.row_eq _)) (sk st3) ?_
  refine zp rfl (fun hb => yi rfl ty68.choose_spec.1 (zn (gk gt3) hb) (ldC_agX (cs' := [.str (((x0).getD s1.1.toNat default).name), .sl 9 ((((x0).getD s1.1.toNat default).leaves).map GLeaf.row), .sl 3 ((((x0).getD s1.1.toNat default).subs).map GNode.row)]) ty68.choose_spec.2 rfl rfl) (zb rfl)) (sk st4) ?_
  refine zp rfl (fun hb => zf rfl gt1 (zb rfl)) (sk st5) ?_
  refine gbindF hF (fun v15 hv15 hF => ?_)
  refine ops_gcall rfl (fun hb => s_callC rfl rfl (zn (gk gt0) hb) (zo (zn (gk gt4) hb) (zo (zn (gk gt5) hb) zw)) (.cons (zb rfl) (.cons (zb rfl) .nil)) rfl) (fun hb => hcmp2 _ _ _ _ _ (hv15 hb)) (sk st6) ?_
  refine zp rfl (fun hb => zu rfl (zn (gk gt6) hb) rfl rfl) (sk st7) ?_
  refine zc rfl (s_pick rfl gt39 (gk gt7) rfl (pick_and (fun ht => gT ht))) (sk st8) ?_
  refine zc rfl (zg rfl gt35 (zb rfl)) st6 ?_
  refine zc rfl (zg rfl (gk gt8) (zb rfl)) st7 ?_
  refine ze (zj (r_ret ?_))
  obtain rfl := Option.some.inj hF
  refine q_retL rfl (yc gt6 (yc gt7 yb)) (zy (leV.refl _) rfl ?_)
  exact ⟨rfl, rfl⟩
/-! strings.Compare -/
def scmpTryzRen : Go.Shelf.Ren :=
  { f := fun x => match x with
      | 106 => 74
      | 213 => 100
      | 265 => 111
      | n => n
    t := fun x => match x with
      | 3 => 3
      | 9 => 9
      | n => n
    g := fun n => n }
theorem scmpTryzLays : Go.Proofs.Lays.n106 Tryz.prog scmpTryzRen where
  mixed := mixed
  f106 := Tryz.func74.trans (by kernel_rfl)
  f213 := Tryz.func100.trans (by kernel_rfl)
  f265 := Tryz.func111.trans (by kernel_rfl)
  t3 := Tryz.underlying3
  a3 := Tryz.isAgg3
  z3 := Tryz.sizeOf3
  v3 := Tryz.zeroValue3
  t9 := Tryz.underlying9
  a9 := Tryz.isAgg9
  z9 := Tryz.sizeOf9
  v9 := Tryz.zeroValue9
theorem ok74 {p0 : Str} {p1 : Str} {res : Int} {h : AH} (hF : stringsCompare p0 p1 = some res) : Spec Tryz.prog 74 [.str p0, .str p1] h (fun rr hh => rr = .int .i64 res ∧ hh = h) := by
 obtain rfl := Option.some.inj hF
 exact spec_scompare scmpTryzLays
/-! varve/diff.lay 1 -/
theorem ok73 {n0 : GNode} {name1 : Str} {res : Int} {h : AH}  (hF : diffXlayC1 n0 name1 = some res) : Spec Tryz.prog 73 [.agg [.str n0.name, .sl 9 (n0.leaves.map GLeaf.row), .sl 3 (n0.subs.map GNode.row)], .str name1] h (fun rr hh => rr = .int .i64 res ∧ hh = h) := by
 unfold diffXlayC1 at hF
 refine ye Tryz.func73 rfl (by kernel_rfl) (env := [.agg [.str n0.name, .sl 9 (n0.leaves.map GLeaf.row), .sl 3 (n0.subs.map GNode.row)], .str name1, za, za, za, za, za, za, za]) (by rfl) ?_
 refine zk (zd ?_)
 refine zc rfl (e_box (n := 0) rfl gt0 (zb rfl) rfl rfl) st2 ?_
 refine zc rfl (zg rfl rfl (zb rfl)) st4 ?_
 refine ze (zj (zk (zd ?_)))
 refine zc rfl (zi rfl fo68x0 gt2 rfl) st5 ?_
 refine zc rfl (zt rfl ty9 gt5 rfl (zr rfl) (zb rfl)) st6 ?_
 refine zc rfl (zf rfl gt1 (zb rfl)) st7 ?_
 refine bindF hF (fun v1 hv1 hF => ?_)
 refine yf rfl (yg rfl rfl rfl (zo gt6 (zo gt7 zw)) (.cons (zb rfl) (.cons (zb rfl) .nil))) (ok74 hv1) st8 ?_
 refine zc rfl (zg rfl gt8 (zb rfl)) st4 ?_
 refine ze (zj (r_ret ?_))
 obtain rfl := Option.some.inj hF
 refine zz rfl (yc gt4 yb) (zy (leV.refl _) rfl ?_)
 exact ⟨rfl, rfl⟩
/-! slices.DeleteFunc[[]varve/api.Leaf,varve/api.Leaf] -/
theorem ok75 {qs0 : Option Nat} {s0 : (List GLeaf)} {del1 : (GLeaf → Option Bool)} {fdel1 : FuncId} {adel1 kdel1 : List AV} {res : (List GLeaf)} {h : AH} (hdel1 : ∀ x0 v (L : List Blk) (M : List Nat), del1 x0 = some v → Spec Tryz.prog fdel1 (adel1 ++ [.agg [.int .u8 x0.typ, .int .i64 x0.n, .int .u64 x0.time, .int .u8 x0.dot.actor.rep, .int .u32 x0.dot.actor.inc, .int .u64 x0.dot.seq, .str x0.text, .sl 5 (x0.items.map GItem.row), .sl 3 (x0.tombs.map GDot.row)]] ++ kdel1) (h.ext L M) (fun rr hh => rr = .bool v ∧ hh = h.ext L M)) (hF : slicesDeleteFuncLeaf s0 del1 = some res) : Spec Tryz.prog 75 [.osl qs0 9 (s0.map GLeaf.row), .fn (.func fdel1) adel1 kdel1] h (fun rr hh => rr = .osl qs0 9 (res.map GLeaf.row) ∧ hh = h) := by
 unfold slicesDeleteFuncLeaf at hF
 refine spec_of_body_extC Tryz.func75 rfl (by kernel_rfl) (env := [.osl qs0 9 (s0.map GLeaf.row), .fn (.func fdel1) adel1 kdel1, za, za, za, za, za, za, za, za, za, za, za, za, za, za, za, za, za, za, za, za, za, za, za, za, za, za, za, za, za, za, za, za, za, za, za, za, za, za, za, za]) (by rfl) (fun hlow hC => ?_)
 have hlowq := osl_low (lowL_get 0 hlow rfl)
 simp only [lowL, AV.low, Bool.and_eq_true, Bool.true_and, and_true] at hlow
 have hladel1 : ∀ n m, h.blks.length ≤ n → h.toks.length ≤ m → lowL n m adel1 = true := fun n m h1 h2 => lowL_up h1 h2 _ (by simp [hlow])
 have hlkdel1 : ∀ n m, h.blks.length ≤ n → h.toks.length ≤ m → lowL n m kdel1 = true := fun n m h1 h2 => lowL_up h1 h2 _ (by simp [hlow])
 refine zk (zd ?_)
 refine zc rfl (zg rfl rfl (ty_nil el66)) st4 ?_
 refine ze (zj (zk (zd ?_)))
 refine zc rfl (zf rfl gt0 (zb rfl)) st8 ?_
 refine zc rfl (zf rfl gt1 (zb rfl)) st9 ?_
 refine bindF hF (fun v1 hv1 hF => ?_)
 refine yf rfl (yg rfl rfl rfl (zo gt8 (zo gt9 zw)) (.cons (zb rfl) (.cons (zb rfl) .nil))) ((ok65 (fun x0 v L M hv => by rw [ext_ext]; exact hdel1 x0 v _ _ hv) hv1).le (.cons (leV.osl _ _ _) (.eq leL.nil))) st10 ?_
 refine zc rfl (zg rfl gt10 (zb rfl)) st5 ?_
 refine ze (zj (zk (zk (zd ?_))))
 refine zc rfl (zf rfl gt5 (zb rfl)) st11 ?_
 refine zc rfl (zu rfl gt11 rfl rfl) st12 ?_
 refine ze (zj ?_)
 refine r_condF gt12 hF (fun hc2 hF => ?_) (fun hc2 hF => ?_)
 ·skip
  refine zk (zd ?_)
  refine zc rfl (zf rfl gt0 (zb rfl)) st13 ?_
  refine zc rfl (zg rfl gt13 (zb rfl)) st4 ?_
  refine ze (zj (r_ret (zx ?_)))
  obtain rfl := Option.some.inj hF
  refine zz rfl (yc gt4 yb) (zy (leV.refl _) (hlowq _ _) ?_)
  exact ⟨rfl, rfl⟩
 ·skip
  cases hF
theorem same75 {s0 : (List GLeaf)} {del1 : (GLeaf → Option Bool)} {res : (List GLeaf)} (hF : slicesDeleteFuncLeaf s0 del1 = some res) : s0 = res := by
  unfold slicesDeleteFuncLeaf at hF
  refine bindF hF (fun _ _ hF => ?_)
  split at hF
  · exact Option.some.inj hF
  · cases hF
/-! slices.Clone[[]varve/api.Leaf,varve/api.Leaf] -/
theorem ok76 {s0 : (List GLeaf)} {res : (List GLeaf)} {h : AH}  (hF : slicesCloneLeaf s0 = some res) : Spec Tryz.prog 76 [.sl 9 (s0.map GLeaf.row)] h (OwnK h 9 res.length (res.map GLeaf.row)) := by
 unfold slicesCloneLeaf at hF
 refine ye Tryz.func76 rfl (by kernel_rfl) (env := [.sl 9 (s0.map GLeaf.row), za, za, za, za, za, za, za]) (by rfl) ?_
 refine zk (zd ?_)
 refine zc rfl (zg rfl rfl (ty_nil el66)) st2 ?_
 refine ze (zj (zk (zk (zd ?_))))
 refine zc rfl (zf rfl gt0 (zb rfl)) st3 ?_
 refine ops_nilqE rfl rfl el66 gt3 isl rfl (fun _ => st4) hF (fun b1 hb1 hF => ?_)
 refine ze (zj ?_)
 refine r_condF gt4 hF (fun hc2 hF => ?_) (fun hc2 hF => ?_)
 ·skip
  refine zk (zd ?_)
  refine zc rfl (zg rfl rfl (ty_nil el66)) st2 ?_
  refine ze (zj (r_ret (zx ?_)))
  obtain rfl := Option.some.inj hF
  refine zz rfl (yc gt2 yb) (fin_own0 (row := GLeaf.row) (L := ([] : List GLeaf)) ?_)
  exact ⟨rfl, rfl⟩
 ·skip
  refine r_skip (zj (zk (zd ?_)))
  refine zc rfl (s_buildSlice (es := ([] : List GLeaf).map GLeaf.row) rfl el66 ze47 rfl rfl parto_nil .nil rfl rfl rfl) st5 ?_
  refine zc rfl (zf rfl gt0 (zb rfl)) st6 ?_
  refine chkF hF (fun hm3 hF => ?_)
  refine zc rfl (e_appN (m := 0) (T' := [((([] : List GLeaf) ++ s0)).length]) rfl rfl rfl rfl el66 el66 gt5 gt6 (zb rfl) (zb rfl) news_sl hm3 rfl rfl) st7 ?_
  refine zc rfl (zg rfl gt7 (zb rfl)) st2 ?_
  refine ze (zj (r_ret ?_))
  obtain rfl := Option.some.inj hF
  refine zz rfl (yc gt2 yb) (fin_own ?_)
  exact ⟨rfl, rfl⟩
/-! varve/diff.lay 2 -/
theorem ok77 {x0 : GLeaf} {c0 : Int} {i0 : Nat} {res : Bool} {h : AH} (hb0 : h.blk i0 = some (.cells [.int .u8 c0])) (hF : diffXlayC2 x0 c0 = some res) : Spec Tryz.prog 77 [.agg [.int .u8 x0.typ, .int .i64 x0.n, .int .u64 x0.time, .int .u8 x0.dot.actor.rep, .int .u32 x0.dot.actor.inc, .int .u64 x0.dot.seq, .str x0.text, .sl 5 (x0.items.map GItem.row), .sl 3 (x0.tombs.map GDot.row)], .ptr i0 0] h (fun rr hh => rr = .bool res ∧ hh = h) := by
 unfold diffXlayC2 at hF
 refine ye Tryz.func77 rfl (by kernel_rfl) (env := [.agg [.int .u8 x0.typ, .int .i64 x0.n, .int .u64 x0.time, .int .u8 x0.dot.actor.rep, .int .u32 x0.dot.actor.inc, .int .u64 x0.dot.seq, .str x0.text, .sl 5 (x0.items.map GItem.row), .sl 3 (x0.tombs.map GDot.row)], .ptr i0 0, za, za, za, za, za, za]) (by rfl) ?_
 refine zk (zd ?_)
 refine zc rfl (e_box (n := 0) rfl gt0 (zb rfl) rfl rfl) st2 ?_
 refine zc rfl (zg rfl rfl (zb rfl)) st3 ?_
 refine ze (zj (zk (zd ?_)))
 refine zc rfl (zi rfl fo47x0 gt2 rfl) st4 ?_
 refine zc rfl (zt rfl ty5 gt4 rfl (zr rfl) (zb rfl)) st5 ?_
 refine zc rfl (b_load rfl ty5 gt1 hb0 (zr rfl) (zb rfl)) st6 ?_
 refine zc rfl (zu rfl gt5 gt6 rfl) st7 ?_
 refine zc rfl (zg rfl gt7 (zb rfl)) st3 ?_
 refine ze (zj (r_ret ?_))
 obtain rfl := Option.some.inj hF
 refine zz rfl (yc gt3 yb) (zy (leV.refl _) rfl ?_)
 exact ⟨rfl, rfl⟩
/-! varve/diff.own -/
theorem ok78 {l0 : GLeaf} {res : GLeaf} {h : AH}  (hF : diffXown l0 = some res) : Spec Tryz.prog 78 [.agg [.int .u8 l0.typ, .int .i64 l0.n, .int .u64 l0.time, .int .u8 l0.dot.actor.rep, .int .u32 l0.dot.actor.inc, .int .u64 l0.dot.seq, .str l0.text, .sl 5 (l0.items.map GItem.row), .sl 3 (l0.tombs.map GDot.row)]] h (fun rr hh => rr = .agg [.int .u8 res.typ, .int .i64 res.n, .int .u64 res.time, .int .u8 res.dot.actor.rep, .int .u32 res.dot.actor.inc, .int .u64 res.dot.seq, .str res.text, .sl 5 (res.items.map GItem.row), .sl 3 (res.tombs.map GDot.row)] ∧ hh = h) := by
 unfold diffXown at hF
 refine ye Tryz.func78 rfl (by kernel_rfl) (env := [.agg [.int .u8 l0.typ, .int .i64 l0.n, .int .u64 l0.time, .int .u8 l0.dot.actor.rep, .int .u32 l0.dot.actor.inc, .int .u64 l0.dot.seq, .str l0.text, .sl 5 (l0.items.map GItem.row), .sl 3 (l0.tombs.map GDot.row)], za, za, za, za, za, za, za, za, za, za, za]) (by rfl) ?_
 refine zk (zd ?_)
 refine zc rfl (e_box (n := 0) rfl gt0 (zb rfl) rfl rfl) st1 ?_
 refine zc rfl (e_alloc (n := 1) rfl ze47 rfl) st2 ?_
 refine ze (zj (zk ?_))
 refine r_drawn [] [] trivial mixed (by kernel_rfl) ?_
 refine zq rfl rfl (zi rfl fo47x5 gt1 rfl) st3 ?_
 refine zq rfl rfl (zt rfl ty45 gt3 rfl (zr rfl) (zb rfl)) st4 ?_
 refine bindF hF (fun v1 hv1 hF => ?_)
 refine draw_callH rfl FOk.nil (by rfl) rfl (yg rfl rfl rfl (zo gt4 zw) (.cons (zb rfl) .nil)) (own_ext (T' := [(v1).length]) (ok68 hv1) (m := 0) rfl rfl) st5 ?_
 refine zq rfl rfl (zi rfl fo47x6 gt1 rfl) st6 ?_
 refine zq rfl rfl (zt rfl ty27 gt6 rfl (zr rfl) (zb rfl)) st7 ?_
 refine bindF hF (fun v2 hv2 hF => ?_)
 refine draw_callH rfl FOk.nil (by rfl) rfl (yg rfl rfl rfl (zo gt7 zw) (.cons (zb rfl) .nil)) (own_ext (T' := [(v1).length, (v2).length]) (ok69 hv2) (m := 1) rfl rfl) st8 ?_
 refine zq rfl rfl (zi rfl fo47x5 gt1 rfl) st9 ?_
 refine draw_eff rfl FOk.nil (by kernel_rfl) rfl (e_store (cs' := [.int .u8 l0.typ, .int .i64 l0.n, .int .u64 l0.time, .int .u8 l0.dot.actor.rep, .int .u32 l0.dot.actor.inc, .int .u64 l0.dot.seq, .str l0.text, .osl (some (h.toks.length + 0)) 5 (v1.map GItem.row), .sl 3 (l0.tombs.map GDot.row)]) rfl ty45 gt9 gt5 (zb rfl) rfl rfl rfl rfl rfl) rfl ?_
 refine zq rfl rfl (zi rfl fo47x6 gt1 rfl) st10 ?_
 refine draw_eff rfl FOk.nil (by kernel_rfl) rfl (e_store (cs' := [.int .u8 l0.typ, .int .i64 l0.n, .int .u64 l0.time, .int .u8 l0.dot.actor.rep, .int .u32 l0.dot.actor.inc, .int .u64 l0.dot.seq, .str l0.text, .osl (some (h.toks.length + 0)) 5 (v1.map GItem.row), .osl (some (h.toks.length + 1)) 3 (v2.map GDot.row)]) rfl ty27 gt10 gt8 (zb rfl) rfl rfl rfl rfl rfl) rfl ?_
 refine draw_nil ?_
 refine zj (zk (zd ?_))
 refine zc rfl (zt rfl ty47.choose_spec.1 gt1 rfl (ldC_agX (cs' := [.int .u8 l0.typ, .int .i64 l0.n, .int .u64 l0.time, .int .u8 l0.dot.actor.rep, .int .u32 l0.dot.actor.inc, .int .u64 l0.dot.seq, .str l0.text, .osl (some (h.toks.length + 0)) 5 (v1.map GItem.row), .osl (some (h.toks.length + 1)) 3 (v2.map GDot.row)]) ty47.choose_spec.2 rfl rfl) (zb rfl)) st11 ?_
 refine zc rfl (e_store (cs' := [.int .u8 l0.typ, .int .i64 l0.n, .int .u64 l0.time, .int .u8 l0.dot.actor.rep, .int .u32 l0.dot.actor.inc, .int .u64 l0.dot.seq, .str l0.text, .osl (some (h.toks.length + 0)) 5 (v1.map GItem.row), .osl (some (h.toks.length + 1)) 3 (v2.map GDot.row)]) rfl ty47.choose_spec.1 gt2 gt11 (zb rfl) rfl rfl rfl rfl rfl) rfl ?_
 refine ze (zj (r_ret ?_))
 obtain rfl := Option.some.inj hF
 refine zz rfl (rl_cell ty47.choose_spec.1 gt2 rfl (ldC_agX (cs' := [.int .u8 l0.typ, .int .i64 l0.n, .int .u64 l0.time, .int .u8 l0.dot.actor.rep, .int .u32 l0.dot.actor.inc, .int .u64 l0.dot.seq, .str l0.text, .osl (some (h.toks.length + 0)) 5 (v1.map GItem.row), .osl (some (h.toks.length + 1)) 3 (v2.map GDot.row)]) ty47.choose_spec.2 rfl rfl) (zb rfl) yb) (zy (leV.agg (.eq (.eq (.eq (.eq (.eq (.eq (.eq (.cons (leV.osl _ _ _) (.cons (leV.osl _ _ _) leL.nil))))))))) rfl) rfl ?_)
 exact ⟨rfl, rfl⟩
/-! slices.insertionSortCmpFunc[varve/api.Leaf] -/
theorem ok112 {data0 : (List GLeaf)} {a1 : Int} {b2 : Int} {cmp3 : (GLeaf → GLeaf → Option Int)} {fcmp3 : FuncId} {acmp3 kcmp3 : List AV} {res : Unit} {h : AH} (hcmp3 : ∀ x0 x1 v (L : List Blk) (M : List Nat), cmp3 x0 x1 = some v → Spec Tryz.prog fcmp3 (acmp3 ++ [.agg [.int .u8 x0.typ, .int .i64 x0.n, .int .u64 x0.time, .int .u8 x0.dot.actor.rep, .int .u32 x0.dot.actor.inc, .int .u64 x0.dot.seq, .str x0.text, .sl 5 (x0.items.map GItem.row), .sl 3 (x0.tombs.map GDot.row)], .agg [.int .u8 x1.typ, .int .i64 x1.n, .int .u64 x1.time, .int .u8 x1.dot.actor.rep, .int .u32 x1.dot.actor.inc, .int .u64 x1.dot.seq, .str x1.text, .sl 5 (x1.items.map GItem.row), .sl 3 (x1.tombs.map GDot.row)]] ++ kcmp3) (h.ext L M) (fun rr hh => rr = .int .i64 v ∧ hh = h.ext L M)) (hF : slicesXinsertionSortCmpFuncLeaf data0 a1 b2 cmp3 = some res) : Spec Tryz.prog 112 [.sl 9 (data0.map GLeaf.row), .int .i64 a1, .int .i64 b2, .fn (.func fcmp3) acmp3 kcmp3] h (fun rr hh => rr = .tup [] ∧ hh = h) := by
 unfold slicesXinsertionSortCmpFuncLeaf at hF
 refine spec_of_body_extC Tryz.func112 rfl (by kernel_rfl) (env := [.sl 9 (data0.map GLeaf.row), .int .i64 a1, .int .i64 b2, .fn (.func fcmp3) acmp3 kcmp3, za, za, za, za, za, za, za, za, za, za, za, za, za, za, za, za, za, za, za, za, za, za, za, za, za, za, za, za, za, za, za, za, za, za, za, za, za, za, za, za, za, za, za, za, za, za, za, za, za]) (by rfl) (fun hlow hC => ?_)
 simp only [lowL, AV.low, Bool.and_eq_true, Bool.true_and, and_true] at hlow
 have hlacmp3 : ∀ n m, h.blks.length ≤ n → h.toks.length ≤ m → lowL n m acmp3 = true := fun n m h1 h2 => lowL_up h1 h2 _ (by simp [hlow])
 have hlkcmp3 : ∀ n m, h.blks.length ≤ n → h.toks.length ≤ m → lowL n m kcmp3 = true := fun n m h1 h2 => lowL_up h1 h2 _ (by simp [hlow])
 refine zk (zd ?_)
 refine zc rfl (zf rfl gt1 (zb rfl)) st10 ?_
 refine zc rfl (zu rfl gt10 rfl rfl) st11 ?_
 refine zc rfl (zg rfl gt11 (zb rfl)) st8 ?_
 refine ze (zj (r_block ?_))
 refine r_loopWF (fun (s1 : Int) => anys [4, 5, 6, 7, 9, 10, 11, 12, 13, 14, 15, 16, 17, 18, 19, 20, 21, 22, 23, 24, 25, 26, 27, 28, 29, 30, 31, 32, 33, 34, 35, 36, 37, 38, 39, 40, 41, 42, 43, 44, 45, 46, 47, 48, 49, 50, 51, 52] [(8, .int .i64 s1)]) (fun s1 => h.ext [] []) hF (fun _ => by simp only [anys, upd, List.set_cons_succ, List.set_cons_zero]; try rfl) (wk.le (by exact (.eq (.eq (.eq (.eq (.d4 (.cons (leV.of_eq rfl) (.d16 (.d16 (.d4 (.d4 (.d4 leL.nil))))))))))))) ?_
 intro n1 s1 o1 hF hK1
 refine zk (zk (zd ?_))
 refine zc rfl (zf rfl gt8 (zb rfl)) st12 ?_
 refine zc rfl (zf rfl gt2 (zb rfl)) st13 ?_
 refine zc rfl (zu rfl gt12 gt13 rfl) st14 ?_
 refine ze (zj ?_)
 refine r_condF gt14 hF (fun hc19 hF => ?_) (fun hc19 hF => ?_)
 ·skip
  refine r_skip (zj (zk (r_block (zk (zd ?_)))))
  refine zc rfl (zf rfl gt8 (zb rfl)) st17 ?_
  refine zc rfl (zg rfl gt17 (zb rfl)) st9 ?_
  refine ze (zj (r_block ?_))
  refine r_loopWF (fun (s2 : Unit) => anys [4, 5, 6, 7, 10, 11, 12, 13, 14, 15, 16, 17, 18, 19, 20, 21, 22, 23, 24, 25, 26, 27, 28, 29, 30, 31, 32, 33, 34, 35, 36, 37, 38, 39, 40, 41, 42, 43, 44, 45, 46, 47, 48, 49, 50, 51, 52] []) (fun s2 => h.ext [] []) hF (fun _ => by simp only [anys, upd, List.set_cons_succ, List.set_cons_zero]; try rfl) (wk.le (by exact (.eq (.eq (.eq (.eq (.d4 (.eq (.eq (.d16 (.d16 (.d4 (.d4 (.drop (.drop (.drop leL.nil)))))))))))))))) ?_
  intro n2 s2 o2 hF hK2
  refine zk (zk ?_)
  refine r_drawn [] [] trivial mixed (by kernel_rfl) ?_
  refine zq rfl rfl (zf rfl gt9 (zb rfl)) st18 ?_
  refine zq rfl rfl (zf rfl gt1 (zb rfl)) st19 ?_
  refine zq rfl rfl (zu rfl gt18 gt19 rfl) st20 ?_
  refine zq rfl rfl (zf rfl gt20 (zb rfl)) st21 ?_
  refine ya rfl rfl (fun hb => zf rfl gt3 (zb rfl)) st22 ?_
  refine ya rfl rfl (fun hb => zf rfl gt0 (zb rfl)) st23 ?_
  refine ya rfl rfl (fun hb => zf rfl gt9 (zb rfl)) st24 ?_
  refine chkF hF (fun hg28 hF => ?_)
  refine ya rfl rfl (fun hb => s_gidxRow default rfl el66 (zn gt23 hb) (zn gt24 hb) isl (hg28 hb)) st25 ?_
  refine ya rfl rfl (fun hb => yi rfl ty47.choose_spec.1 (zn gt25 hb) (ldC_agX (cs' := [.int .u8 (((data0).getD s1.toNat default).typ), .int .i64 (((data0).getD s1.toNat default).n), .int .u64 (((data0).getD s1.toNat default).time), .int .u8 (((data0).getD s1.toNat default).dot.actor.rep), .int .u32 (((data0).getD s1.toNat default).dot.actor.inc), .int .u64 (((data0).getD s1.toNat default).dot.seq), .str (((data0).getD s1.toNat default).text), .sl 5 ((((data0).getD s1.toNat default).items).map GItem.row), .sl 3 ((((data0).getD s1.toNat default).tombs).map GDot.row)]) ty47.choose_spec.2 rfl rfl) (zb rfl)) st26 ?_
  refine ya rfl rfl (fun hb => zf rfl gt0 (zb rfl)) st27 ?_
  refine ya rfl rfl (fun hb => zf rfl gt9 (zb rfl)) st28 ?_
  refine ya rfl rfl (fun hb => zu rfl (zn gt28 hb) rfl rfl) st29 ?_
  refine chkF hF (fun hg29 hF => ?_)
  refine ya rfl rfl (fun hb => s_gidxRow default rfl el66 (zn gt27 hb) (zn gt29 hb) isl (hg29 hb)) st30 ?_
  refine ya rfl rfl (fun hb => yi rfl ty47.choose_spec.1 (zn gt30 hb) (ldC_agX (cs' := [.int .u8 (((data0).getD (IntKind.wrap .i64 (s1 - (1 : Int))).toNat default).typ), .int .i64 (((data0).getD (IntKind.wrap .i64 (s1 - (1 : Int))).toNat default).n), .int .u64 (((data0).getD (IntKind.wrap .i64 (s1 - (1 : Int))).toNat default).time), .int .u8 (((data0).getD (IntKind.wrap .i64 (s1 - (1 : Int))).toNat default).dot.actor.rep), .int .u32 (((data0).getD (IntKind.wrap .i64 (s1 - (1 : Int))).toNat default).dot.actor.inc), .int .u64 (((data0).getD (IntKind.wrap .i64 (s1 - (1 : Int))).toNat default).dot.seq), .str (((data0).getD (IntKind.wrap .i64 (s1 - (1 : Int))).toNat default).text), .sl 5 ((((data0).getD (IntKind.wrap .i64 (s1 - (1 : Int))).toNat default).items).map GItem.row), .sl 3 ((((data0).getD (IntKind.wrap .i64 (s1 - (1 : Int))).toNat default).tombs).map GDot.row)]) ty47.choose_spec.2 rfl rfl) (zb rfl)) st31 ?_
  refine gbindF hF (fun v30 hv30 hF => ?_)
  refine draw_gcall rfl rfl (fun hb => s_callC rfl rfl (zn gt22 hb) (zo (zn gt26 hb) (zo (zn gt31 hb) zw)) (.cons (zb rfl) (.cons (zb rfl) .nil)) rfl) (fun hb => hcmp3 _ _ _ _ _ (hv30 hb)) st32 ?_
  refine ya rfl rfl (fun hb => zu rfl (zn gt32 hb) rfl rfl) st33 ?_
  refine zq rfl rfl (s_pick rfl gt21 gt33 rfl (pick_and (fun ht => gT ht))) st34 ?_
  refine draw_nil ?_
  refine zj ?_
  refine r_condF gt34 hF (fun hc31 hF => ?_) (fun hc31 hF => ?_)
  ·skip
   cases hF
  ·skip
   refine r_exit ?_
   refine q_seq_exit ?_
   refine yj ?_
   obtain rfl := Option.some.inj hF
   replace hF := hK2
   refine q_block_hit ?_
   refine q_block (zj (zd ?_))
   refine zc rfl (zf rfl gt8 (zb rfl)) st15 ?_
   refine zc rfl (zu rfl gt15 rfl rfl) st16 ?_
   refine zc rfl (zg rfl gt16 (zb rfl)) st8 ?_
   refine ze (q_loop ?_)
   obtain rfl := Option.some.inj hF
   exact ⟨(IntKind.wrap .i64 (s1 + (1 : Int))), hK1, wk.le (by exact (.eq (.eq (.eq (.eq (.d4 (.cons (leV.of_eq rfl) (.d16 (.d16 (.d4 (.d4 (.d4 leL.nil))))))))))))⟩
 ·skip
  refine r_exit ?_
  refine q_seq_exit ?_
  refine yj ?_
  obtain rfl := Option.some.inj hF
  replace hF := hK1
  refine q_block_hit ?_
  refine q_end ?_
  obtain rfl := Option.some.inj hF
  refine q_retL0 rfl yb (zy (leV.refl _) rfl ?_)
  exact ⟨rfl, rfl⟩
/-! math/bits.Len32 -/
theorem ok120 {x0 : Int} {res : Int} {h : AH}  (hF : mathXbitsLen32 x0 = some res) : Spec Tryz.prog 120 [.int .u32 x0] h (fun rr hh => rr = .int .i64 res ∧ hh = h) := by
 unfold mathXbitsLen32 at hF
 refine ye Tryz.func120 rfl (by kernel_rfl) (env := [.int .u32 x0, za, za, za, za, za, za, za, za, za, za, za, za, za, za, za, za, za, za]) (by rfl) ?_
 refine zk (zd ?_)
 refine zc rfl (zg rfl rfl (zb rfl)) st2 ?_
 refine ze (zj (zk (zk (zd ?_))))
 refine zc rfl (zf rfl gt0 (zb rfl)) st3 ?_
 refine zc rfl (zu rfl gt3 rfl rfl) st4 ?_
 refine ze (zj ?_)
 refine r_condF gt4 hF (fun hc1 hF => ?_) (fun hc1 hF => ?_)
 ·skip
  refine zk (zd ?_)
  refine zc rfl (zf rfl gt0 (zb rfl)) st5 ?_
  refine zc rfl (zu rfl gt5 rfl rfl) st6 ?_
  refine zc rfl (zg rfl gt6 (zb rfl)) st0 ?_
  refine ze (zj (zd ?_))
  refine zc rfl (zg rfl rfl (zb rfl)) st2 ?_
  refine ze (zj (zk (zk (zd ?_))))
  refine zc rfl (zf rfl gt0 (zb rfl)) st7 ?_
  refine zc rfl (zu rfl gt7 rfl rfl) st8 ?_
  refine ze (zj ?_)
  refine r_condF gt8 hF (fun hc2 hF => ?_) (fun hc2 hF => ?_)
  ·skip
   refine zk (zd ?_)
   refine zc rfl (zf rfl gt0 (zb rfl)) st9 ?_
   refine zc rfl (zu rfl gt9 rfl rfl) st10 ?_
   refine zc rfl (zg rfl gt10 (zb rfl)) st0 ?_
   refine ze (zj (zd ?_))
   refine zc rfl (zf rfl gt2 (zb rfl)) st11 ?_
   refine zc rfl (zu rfl gt11 rfl rfl) st12 ?_
   refine zc rfl (zg rfl gt12 (zb rfl)) st2 ?_
   refine ze (zj (zk (zd ?_)))
   refine zc rfl (zf rfl gt2 (zb rfl)) st13 ?_
   refine zc rfl (zf rfl gt0 (zb rfl)) st14 ?_
   refine zc rfl (s_convert rfl ty40 ty5 gt14 rfl) st15 ?_
   refine bindF hF (fun y3 hy3 hF => ?_)
   refine zc rfl (s_idxStr rfl ty9 rfl gt15 hy3) st16 ?_
   refine zc rfl (s_convert rfl ty5 ty3 gt16 rfl) st17 ?_
   refine zc rfl (zu rfl gt13 gt17 rfl) st18 ?_
   refine zc rfl (zg rfl gt18 (zb rfl)) st2 ?_
   refine ze (zj (r_ret ?_))
   obtain rfl := Option.some.inj hF
   refine zz rfl (yc gt2 yb) (zy (leV.refl _) rfl ?_)
   exact ⟨rfl, rfl⟩
  ·skip
   refine r_skip (zj (zk (zd ?_)))
   refine zc rfl (zf rfl gt2 (zb rfl)) st13 ?_
   refine zc rfl (zf rfl gt0 (zb rfl)) st14 ?_
   refine zc rfl (s_convert rfl ty40 ty5 gt14 rfl) st15 ?_
   refine bindF hF (fun y4 hy4 hF => ?_)
   refine zc rfl (s_idxStr rfl ty9 rfl gt15 hy4) st16 ?_
   refine zc rfl (s_convert rfl ty5 ty3 gt16 rfl) st17 ?_
   refine zc rfl (zu rfl gt13 gt17 rfl) st18 ?_
   refine zc rfl (zg rfl gt18 (zb rfl)) st2 ?_
   refine ze (zj (r_ret ?_))
   obtain rfl := Option.some.inj hF
   refine zz rfl (yc gt2 yb) (zy (leV.refl _) rfl ?_)
   exact ⟨rfl, rfl⟩
 ·skip
  refine r_skip (zj (zk (zk (zd ?_))))
  refine zc rfl (zf rfl gt0 (zb rfl)) st7 ?_
  refine zc rfl (zu rfl gt7 rfl rfl) st8 ?_
  refine ze (zj ?_)
  refine r_condF gt8 hF (fun hc5 hF => ?_) (fun hc5 hF => ?_)
  ·skip
   refine zk (zd ?_)
   refine zc rfl (zf rfl gt0 (zb rfl)) st9 ?_
   refine zc rfl (zu rfl gt9 rfl rfl) st10 ?_
   refine zc rfl (zg rfl gt10 (zb rfl)) st0 ?_
   refine ze (zj (zd ?_))
   refine zc rfl (zf rfl gt2 (zb rfl)) st11 ?_
   refine zc rfl (zu rfl gt11 rfl rfl) st12 ?_
   refine zc rfl (zg rfl gt12 (zb rfl)) st2 ?_
   refine ze (zj (zk (zd ?_)))
   refine zc rfl (zf rfl gt2 (zb rfl)) st13 ?_
   refine zc rfl (zf rfl gt0 (zb rfl)) st14 ?_
   refine zc rfl (s_convert rfl ty40 ty5 gt14 rfl) st15 ?_
   refine bindF hF (fun y6 hy6 hF => ?_)
   refine zc rfl (s_idxStr rfl ty9 rfl gt15 hy6) st16 ?_
   refine zc rfl (s_convert rfl ty5 ty3 gt16 rfl) st17 ?_
   refine zc rfl (zu rfl gt13 gt17 rfl) st18 ?_
   refine zc rfl (zg rfl gt18 (zb rfl)) st2 ?_
   refine ze (zj (r_ret ?_))
   obtain rfl := Option.some.inj hF
   refine zz rfl (yc gt2 yb) (zy (leV.refl _) rfl ?_)
   exact ⟨rfl, rfl⟩
  ·skip
   refine r_skip (zj (zk (zd ?_)))
   refine zc rfl (zf rfl gt2 (zb rfl)) st13 ?_
   refine zc rfl (zf rfl gt0 (zb rfl)) st14 ?_
   refine zc rfl (s_convert rfl ty40 ty5 gt14 rfl) st15 ?_
   refine bindF hF (fun y7 hy7 hF => ?_)
   refine zc rfl (s_idxStr rfl ty9 rfl gt15 hy7) st16 ?_
   refine zc rfl (s_convert rfl ty5 ty3 gt16 rfl) st17 ?_
   refine zc rfl (zu rfl gt13 gt17 rfl) st18 ?_
   refine zc rfl (zg rfl gt18 (zb rfl)) st2 ?_
   refine ze (zj (r_ret ?_))
   obtain rfl := Option.some.inj hF
   refine zz rfl (yc gt2 yb) (zy (leV.refl _) rfl ?_)
   exact ⟨rfl, rfl⟩
/-! math/bits.Len64 -/
theorem ok121 {x0 : Int} {res : Int} {h : AH}  (hF : mathXbitsLen64 x0 = some res) : Spec Tryz.prog 121 [.int .u64 x0] h (fun rr hh => rr = .int .i64 res ∧ hh = h) := by
 unfold mathXbitsLen64 at hF
 refine ye Tryz.func121 rfl (by kernel_rfl) (env := [.int .u64 x0, za, za, za, za, za, za, za, za, za, za, za, za, za, za, za, za, za, za, za, za, za, za, za, za]) (by rfl) ?_
 refine zk (zd ?_)
 refine zc rfl (zg rfl rfl (zb rfl)) st2 ?_
 refine ze (zj (zk (zk (zd ?_))))
 refine zc rfl (zf rfl gt0 (zb rfl)) st3 ?_
 refine zc rfl (zu rfl gt3 rfl rfl) st4 ?_
 refine ze (zj ?_)
 refine r_condF gt4 hF (fun hc1 hF => ?_) (fun hc1 hF => ?_)
 ·skip
  refine zk (zd ?_)
  refine zc rfl (zf rfl gt0 (zb rfl)) st5 ?_
  refine zc rfl (zu rfl gt5 rfl rfl) st6 ?_
  refine zc rfl (zg rfl gt6 (zb rfl)) st0 ?_
  refine ze (zj (zd ?_))
  refine zc rfl (zg rfl rfl (zb rfl)) st2 ?_
  refine ze (zj (zk (zk (zd ?_))))
  refine zc rfl (zf rfl gt0 (zb rfl)) st7 ?_
  refine zc rfl (zu rfl gt7 rfl rfl) st8 ?_
  refine ze (zj ?_)
  refine r_condF gt8 hF (fun hc2 hF => ?_) (fun hc2 hF => ?_)
  ·skip
   refine zk (zd ?_)
   refine zc rfl (zf rfl gt0 (zb rfl)) st9 ?_
   refine zc rfl (zu rfl gt9 rfl rfl) st10 ?_
   refine zc rfl (zg rfl gt10 (zb rfl)) st0 ?_
   refine ze (zj (zd ?_))
   refine zc rfl (zf rfl gt2 (zb rfl)) st11 ?_
   refine zc rfl (zu rfl gt11 rfl rfl) st12 ?_
   refine zc rfl (zg rfl gt12 (zb rfl)) st2 ?_
   refine ze (zj (zk (zk (zd ?_))))
   refine zc rfl (zf rfl gt0 (zb rfl)) st13 ?_
   refine zc rfl (zu rfl gt13 rfl rfl) st14 ?_
   refine ze (zj ?_)
   refine r_condF gt14 hF (fun hc3 hF => ?_) (fun hc3 hF => ?_)
   ·skip
    refine zk (zd ?_)
    refine zc rfl (zf rfl gt0 (zb rfl)) st15 ?_
    refine zc rfl (zu rfl gt15 rfl rfl) st16 ?_
    refine zc rfl (zg rfl gt16 (zb rfl)) st0 ?_
    refine ze (zj (zd ?_))
    refine zc rfl (zf rfl gt2 (zb rfl)) st17 ?_
    refine zc rfl (zu rfl gt17 rfl rfl) st18 ?_
    refine zc rfl (zg rfl gt18 (zb rfl)) st2 ?_
    refine ze (zj (zk (zd ?_)))
    refine zc rfl (zf rfl gt2 (zb rfl)) st19 ?_
    refine zc rfl (zf rfl gt0 (zb rfl)) st20 ?_
    refine zc rfl (s_convert rfl ty39 ty5 gt20 rfl) st21 ?_
    refine bindF hF (fun y4 hy4 hF => ?_)
    refine zc rfl (s_idxStr rfl ty9 rfl gt21 hy4) st22 ?_
    refine zc rfl (s_convert rfl ty5 ty3 gt22 rfl) st23 ?_
    refine zc rfl (zu rfl gt19 gt23 rfl) st24 ?_
    refine zc rfl (zg rfl gt24 (zb rfl)) st2 ?_
    refine ze (zj (r_ret ?_))
    obtain rfl := Option.some.inj hF
    refine zz rfl (yc gt2 yb) (zy (leV.refl _) rfl ?_)
    exact ⟨rfl, rfl⟩
   ·skip
    refine r_skip (zj (zk (zd ?_)))
    refine zc rfl (zf rfl gt2 (zb rfl)) st19 ?_
    refine zc rfl (zf rfl gt0 (zb rfl)) st20 ?_
    refine zc rfl (s_convert rfl ty39 ty5 gt20 rfl) st21 ?_
    refine bindF hF (fun y5 hy5 hF => ?_)
    refine zc rfl (s_idxStr rfl ty9 rfl gt21 hy5) st22 ?_
    refine zc rfl (s_convert rfl ty5 ty3 gt22 rfl) st23 ?_
    refine zc rfl (zu rfl gt19 gt23 rfl) st24 ?_
    refine zc rfl (zg rfl gt24 (zb rfl)) st2 ?_
    refine ze (zj (r_ret ?_))
    obtain rfl := Option.some.inj hF
    refine zz rfl (yc gt2 yb) (zy (leV.refl _) rfl ?_)
    exact ⟨rfl, rfl⟩
  ·skip
   refine r_skip (zj (zk (zk (zd ?_))))
   refine zc rfl (zf rfl gt0 (zb rfl)) st13 ?_
   refine zc rfl (zu rfl gt13 rfl rfl) st14 ?_
   refine ze (zj ?_)
   refine r_condF gt14 hF (fun hc6 hF => ?_) (fun hc6 hF => ?_)
   ·skip
    refine zk (zd ?_)
    refine zc rfl (zf rfl gt0 (zb rfl)) st15 ?_
    refine zc rfl (zu rfl gt15 rfl rfl) st16 ?_
    refine zc rfl (zg rfl gt16 (zb rfl)) st0 ?_
    refine ze (zj (zd ?_))
    refine zc rfl (zf rfl gt2 (zb rfl)) st17 ?_
    refine zc rfl (zu rfl gt17 rfl rfl) st18 ?_
    refine zc rfl (zg rfl gt18 (zb rfl)) st2 ?_
    refine ze (zj (zk (zd ?_)))
    refine zc rfl (zf rfl gt2 (zb rfl)) st19 ?_
    refine zc rfl (zf rfl gt0 (zb rfl)) st20 ?_
    refine zc rfl (s_convert rfl ty39 ty5 gt20 rfl) st21 ?_
    refine bindF hF (fun y7 hy7 hF => ?_)
    refine zc rfl (s_idxStr rfl ty9 rfl gt21 hy7) st22 ?_
    refine zc rfl (s_convert rfl ty5 ty3 gt22 rfl) st23 ?_
    refine zc rfl (zu rfl gt19 gt23 rfl) st24 ?_
    refine zc rfl (zg rfl gt24 (zb rfl)) st2 ?_
    refine ze (zj (r_ret ?_))
    obtain rfl := Option.some.inj hF
    refine zz rfl (yc gt2 yb) (zy (leV.refl _) rfl ?_)
    exact ⟨rfl, rfl⟩
   ·skip
    refine r_skip (zj (zk (zd ?_)))
    refine zc rfl (zf rfl gt2 (zb rfl)) st19 ?_
    refine zc rfl (zf rfl gt0 (zb rfl)) st20 ?_
    refine zc rfl (s_convert rfl ty39 ty5 gt20 rfl) st21 ?_
    refine bindF hF (fun y8 hy8 hF => ?_)
    refine zc rfl (s_idxStr rfl ty9 rfl gt21 hy8) st22 ?_
    refine zc rfl (s_convert rfl ty5 ty3 gt22 rfl) st23 ?_
    refine zc rfl (zu rfl gt19 gt23 rfl) st24 ?_
    refine zc rfl (zg rfl gt24 (zb rfl)) st2 ?_
    refine ze (zj (r_ret ?_))
    obtain rfl := Option.some.inj hF
    refine zz rfl (yc gt2 yb) (zy (leV.refl _) rfl ?_)
    exact ⟨rfl, rfl⟩
 ·skip
  refine r_skip (zj (zk (zk (zd ?_))))
  refine zc rfl (zf rfl gt0 (zb rfl)) st7 ?_
  refine zc rfl (zu rfl gt7 rfl rfl) st8 ?_
  refine ze (zj ?_)
  refine r_condF gt8 hF (fun hc9 hF => ?_) (fun hc9 hF => ?_)
  ·skip
   refine zk (zd ?_)
   refine zc rfl (zf rfl gt0 (zb rfl)) st9 ?_
   refine zc rfl (zu rfl gt9 rfl rfl) st10 ?_
   refine zc rfl (zg rfl gt10 (zb rfl)) st0 ?_
   refine ze (zj (zd ?_))
   refine zc rfl (zf rfl gt2 (zb rfl)) st11 ?_
   refine zc rfl (zu rfl gt11 rfl rfl) st12 ?_
   refine zc rfl (zg rfl gt12 (zb rfl)) st2 ?_
   refine ze (zj (zk (zk (zd ?_))))
   refine zc rfl (zf rfl gt0 (zb rfl)) st13 ?_
   refine zc rfl (zu rfl gt13 rfl rfl) st14 ?_
   refine ze (zj ?_)
   refine r_condF gt14 hF (fun hc10 hF => ?_) (fun hc10 hF => ?_)
   ·skip
    refine zk (zd ?_)
    refine zc rfl (zf rfl gt0 (zb rfl)) st15 ?_
    refine zc rfl (zu rfl gt15 rfl rfl) st16 ?_
    refine zc rfl (zg rfl gt16 (zb rfl)) st0 ?_
    refine ze (zj (zd ?_))
    refine zc rfl (zf rfl gt2 (zb rfl)) st17 ?_
    refine zc rfl (zu rfl gt17 rfl rfl) st18 ?_
    refine zc rfl (zg rfl gt18 (zb rfl)) st2 ?_
    refine ze (zj (zk (zd ?_)))
    refine zc rfl (zf rfl gt2 (zb rfl)) st19 ?_
    refine zc rfl (zf rfl gt0 (zb rfl)) st20 ?_
    refine zc rfl (s_convert rfl ty39 ty5 gt20 rfl) st21 ?_
    refine bindF hF (fun y11 hy11 hF => ?_)
    refine zc rfl (s_idxStr rfl ty9 rfl gt21 hy11) st22 ?_
    refine zc rfl (s_convert rfl ty5 ty3 gt22 rfl) st23 ?_
    refine zc rfl (zu rfl gt19 gt23 rfl) st24 ?_
    refine zc rfl (zg rfl gt24 (zb rfl)) st2 ?_
    refine ze (zj (r_ret ?_))
    obtain rfl := Option.some.inj hF
    refine zz rfl (yc gt2 yb) (zy (leV.refl _) rfl ?_)
    exact ⟨rfl, rfl⟩
   ·skip
    refine r_skip (zj (zk (zd ?_)))
    refine zc rfl (zf rfl gt2 (zb rfl)) st19 ?_
    refine zc rfl (zf rfl gt0 (zb rfl)) st20 ?_
    refine zc rfl (s_convert rfl ty39 ty5 gt20 rfl) st21 ?_
    refine bindF hF (fun y12 hy12 hF => ?_)
    refine zc rfl (s_idxStr rfl ty9 rfl gt21 hy12) st22 ?_
    refine zc rfl (s_convert rfl ty5 ty3 gt22 rfl) st23 ?_
    refine zc rfl (zu rfl gt19 gt23 rfl) st24 ?_
    refine zc rfl (zg rfl gt24 (zb rfl)) st2 ?_
    refine ze (zj (r_ret ?_))
    obtain rfl := Option.some.inj hF
    refine zz rfl (yc gt2 yb) (zy (leV.refl _) rfl ?_)
    exact ⟨rfl, rfl⟩
  ·skip
   refine r_skip (zj (zk (zk (zd ?_))))
   refine zc rfl (zf rfl gt0 (zb rfl)) st13 ?_
   refine zc rfl (zu rfl gt13 rfl rfl) st14 ?_
   refine ze (zj ?_)
   refine r_condF gt14 hF (fun hc13 hF => ?_) (fun hc13 hF => ?_)
   ·skip
    refine zk (zd ?_)
    refine zc rfl (zf rfl gt0 (zb rfl)) st15 ?_
    refine zc rfl (zu rfl gt15 rfl rfl) st16 ?_
    refine zc rfl (zg rfl gt16 (zb rfl)) st0 ?_
    refine ze (zj (zd ?_))
    refine zc rfl (zf rfl gt2 (zb rfl)) st17 ?_
    refine zc rfl (zu rfl gt17 rfl rfl) st18 ?_
    refine zc rfl (zg rfl gt18 (zb rfl)) st2 ?_
    refine ze (zj (zk (zd ?_)))
    refine zc rfl (zf rfl gt2 (zb rfl)) st19 ?_
    refine zc rfl (zf rfl gt0 (zb rfl)) st20 ?_
    refine zc rfl (s_convert rfl ty39 ty5 gt20 rfl) st21 ?_
    refine bindF hF (fun y14 hy14 hF => ?_)
    refine zc rfl (s_idxStr rfl ty9 rfl gt21 hy14) st22 ?_
    refine zc rfl (s_convert rfl ty5 ty3 gt22 rfl) st23 ?_
    refine zc rfl (zu rfl gt19 gt23 rfl) st24 ?_
    refine zc rfl (zg rfl gt24 (zb rfl)) st2 ?_
    refine ze (zj (r_ret ?_))
    obtain rfl := Option.some.inj hF
    refine zz rfl (yc gt2 yb) (zy (leV.refl _) rfl ?_)
    exact ⟨rfl, rfl⟩
   ·skip
    refine r_skip (zj (zk (zd ?_)))
    refine zc rfl (zf rfl gt2 (zb rfl)) st19 ?_
    refine zc rfl (zf rfl gt0 (zb rfl)) st20 ?_
    refine zc rfl (s_convert rfl ty39 ty5 gt20 rfl) st21 ?_
    refine bindF hF (fun y15 hy15 hF => ?_)
    refine zc rfl (s_idxStr rfl ty9 rfl gt21 hy15) st22 ?_
    refine zc rfl (s_convert rfl ty5 ty3 gt22 rfl) st23 ?_
    refine zc rfl (zu rfl gt19 gt23 rfl) st24 ?_
    refine zc rfl (zg rfl gt24 (zb rfl)) st2 ?_
    refine ze (zj (r_ret ?_))
    obtain rfl := Option.some.inj hF
    refine zz rfl (yc gt2 yb) (zy (leV.refl _) rfl ?_)
    exact ⟨rfl, rfl⟩
/-! math/bits.Len -/
theorem ok102 {x0 : Int} {res : Int} {h : AH}  (hF : mathXbitsLen x0 = some res) : Spec Tryz.prog 102 [.int .u64 x0] h (fun rr hh => rr = .int .i64 res ∧ hh = h) := by
 unfold mathXbitsLen at hF
 refine ye Tryz.func102 rfl (by kernel_rfl) (env := [.int .u64 x0, za, za, za, za, za, za, za]) (by rfl) ?_
 refine zk (zd ?_)
 refine zc rfl (zg rfl rfl (zb rfl)) st2 ?_
 refine ze (zj (zk ?_))
 refine r_cond rfl (fun hh => by cases hh) (fun _ => ?_)
 refine r_skip (zj (zk (zd ?_)))
 refine zc rfl (zf rfl gt0 (zb rfl)) st6 ?_
 refine bindF hF (fun v1 hv1 hF => ?_)
 refine yf rfl (yg rfl rfl rfl (zo gt6 zw) (.cons (zb rfl) .nil)) (ok121 hv1) st7 ?_
 refine zc rfl (zg rfl gt7 (zb rfl)) st2 ?_
 refine ze (zj (r_ret ?_))
 obtain rfl := Option.some.inj hF
 refine zz rfl (yc gt2 yb) (zy (leV.refl _) rfl ?_)
 exact ⟨rfl, rfl⟩
/-! slices.nextPowerOfTwo -/
theorem ok130 {length0 : Int} {res : Int} {h : AH}  (hF : slicesXnextPowerOfTwo length0 = some res) : Spec Tryz.prog 130 [.int .i64 length0] h (fun rr hh => rr = .int .u64 res ∧ hh = h) := by
 unfold slicesXnextPowerOfTwo at hF
 refine ye Tryz.func130 rfl (by kernel_rfl) (env := [.int .i64 length0, za, za, za, za, za, za]) (by rfl) ?_
 refine zk (zd ?_)
 refine zc rfl (zg rfl rfl (zb rfl)) st2 ?_
 refine ze (zj (zk (zd ?_)))
 refine zc rfl (zf rfl gt0 (zb rfl)) st3 ?_
 refine zc rfl (s_convert rfl ty3 ty134 gt3 rfl) st4 ?_
 refine bindF hF (fun v1 hv1 hF => ?_)
 refine yf rfl (yg rfl rfl rfl (zo gt4 zw) (.cons (zb rfl) .nil)) (ok102 hv1) st5 ?_
 refine chkF hF (fun hm2 hF => ?_)
 refine zc rfl (zu rfl rfl gt5 (if_neg hm2)) st6 ?_
 refine zc rfl (zg rfl gt6 (zb rfl)) st2 ?_
 refine ze (zj (r_ret ?_))
 obtain rfl := Option.some.inj hF
 refine zz rfl (yc gt2 yb) (zy (leV.refl _) rfl ?_)
 exact ⟨rfl, rfl⟩
/-! slices.pdqsortCmpFunc[varve/api.Leaf] -/
theorem ok101N (n : Nat) : ∀ {data0 : (List GLeaf)} {a1 : Int} {b2 : Int} {limit3 : Int} {cmp4 : (GLeaf → GLeaf → Option Int)} {fcmp4 : FuncId} {acmp4 kcmp4 : List AV} {res : Unit} {h : AH} (hcmp4 : ∀ x0 x1 v (L : List Blk) (M : List Nat), cmp4 x0 x1 = some v → Spec Tryz.prog fcmp4 (acmp4 ++ [.agg [.int .u8 x0.typ, .int .i64 x0.n, .int .u64 x0.time, .int .u8 x0.dot.actor.rep, .int .u32 x0.dot.actor.inc, .int .u64 x0.dot.seq, .str x0.text, .sl 5 (x0.items.map GItem.row), .sl 3 (x0.tombs.map GDot.row)], .agg [.int .u8 x1.typ, .int .i64 x1.n, .int .u64 x1.time, .int .u8 x1.dot.actor.rep, .int .u32 x1.dot.actor.inc, .int .u64 x1.dot.seq, .str x1.text, .sl 5 (x1.items.map GItem.row), .sl 3 (x1.tombs.map GDot.row)]] ++ kcmp4) (h.ext L M) (fun rr hh => rr = .int .i64 v ∧ hh = h.ext L M)), slicesXpdqsortCmpFuncLeafN n data0 a1 b2 limit3 cmp4 = some res → Spec Tryz.prog 101 [.sl 9 (data0.map GLeaf.row), .int .i64 a1, .int .i64 b2, .int .i64 limit3, .fn (.func fcmp4) acmp4 kcmp4] h (fun rr hh => rr = .tup [] ∧ hh = h) := by
 induction n with
 | zero => intro data0 a1 b2 limit3 cmp4 fcmp4 acmp4 kcmp4 res h hcmp4 hF; simp [slicesXpdqsortCmpFuncLeafN] at hF
 | succ n ih =>
  intro data0 a1 b2 limit3 cmp4 fcmp4 acmp4 kcmp4 res h hcmp4 hF
  unfold slicesXpdqsortCmpFuncLeafN at hF
  refine spec_of_body_extC Tryz.func101 rfl (by kernel_rfl) (env := [.sl 9 (data0.map GLeaf.row), .int .i64 a1, .int .i64 b2, .int .i64 limit3, .fn (.func fcmp4) acmp4 kcmp4, za, za, za, za, za, za, za, za, za, za, za, za, za, za, za, za, za, za, za, za, za, za, za, za, za, za, za, za, za, za, za, za, za, za, za, za, za, za, za, za, za, za, za, za, za, za, za, za, za, za, za, za, za, za, za, za, za, za, za, za, za, za, za, za, za, za, za, za, za, za, za, za, za, za, za, za, za, za, za, za, za, za, za, za, za, za, za, za, za, za, za, za, za, za, za, za, za, za, za, za, za, za, za, za, za, za, za, za, za, za, za, za, za, za, za, za, za, za, za, za, za, za, za, za, za, za, za, za, za, za, za, za, za, za, za, za, za, za, za, za, za, za, za]) (by rfl) (fun hlow hC => ?_)
  simp only [lowL, AV.low, Bool.and_eq_true, Bool.true_and, and_true] at hlow
  have hlacmp4 : ∀ n m, h.blks.length ≤ n → h.toks.length ≤ m → lowL n m acmp4 = true := fun n m h1 h2 => lowL_up h1 h2 _ (by simp [hlow])
  have hlkcmp4 : ∀ n m, h.blks.length ≤ n → h.toks.length ≤ m → lowL n m kcmp4 = true := fun n m h1 h2 => lowL_up h1 h2 _ (by simp [hlow])
  refine zk (zd ?_)
  refine zc rfl (zg rfl rfl (zb rfl)) st10 ?_
  refine ze (zj (zk (zd ?_)))
  refine zc rfl (zg rfl rfl (zb rfl)) st11 ?_
  refine ze (zj (r_block ?_))
  refine r_loopWF (fun (s1 : Unit) => anys [5, 6, 7, 8, 9, 12, 13, 14, 15, 16, 17, 18, 19, 20, 21, 22, 23, 24, 25, 26, 27, 28, 29, 30, 31, 32, 33, 34, 35, 36, 37, 38, 39, 40, 41, 42, 43, 44, 45, 46, 47, 48, 49, 50, 51, 52, 53, 54, 55, 56, 57, 58, 59, 60, 61, 62, 63, 64, 65, 66, 67, 68, 69, 70, 71, 72, 73, 74, 75, 76, 77, 78, 79, 80, 81, 82, 83, 84, 85, 86, 87, 88, 89, 90, 91, 92, 93, 94, 95, 96, 97, 98, 99, 100, 101, 102, 103, 104, 105, 106, 107, 108, 109, 110, 111, 112, 113, 114, 115, 116, 117, 118, 119, 120, 121, 122, 123, 124, 125, 126, 127, 128, 129, 130, 131, 132, 133, 134, 135, 136, 137, 138, 139, 140, 141, 142, 143, 144, 145, 146, 147] []) (fun s1 => h.ext [] []) hF (fun _ => by simp only [anys, upd, List.set_cons_succ, List.set_cons_zero]; try rfl) (wk.le (by exact (.eq (.eq (.eq (.eq (.eq (.d4 (.drop (.eq (.eq (.d16 (.d16 (.d16 (.d16 (.d16 (.d16 (.d16 (.d16 (.d4 (.d4 leL.nil))))))))))))))))))))) ?_
  intro n1 s1 o1 hF hK1
  refine r_block (zk (zd ?_))
  refine zc rfl (zf rfl gt2 (zb rfl)) st21 ?_
  refine zc rfl (zf rfl gt1 (zb rfl)) st22 ?_
  refine zc rfl (zu rfl gt21 gt22 rfl) st23 ?_
  refine zc rfl (zg rfl gt23 (zb rfl)) st12 ?_
  refine ze (zj (zk (zk (zd ?_))))
  refine zc rfl (zf rfl gt12 (zb rfl)) st24 ?_
  refine zc rfl (zu rfl gt24 rfl rfl) st25 ?_
  refine ze (zj ?_)
  refine r_condF gt25 hF (fun hc15 hF => ?_) (fun hc15 hF => ?_)
  ·skip
   refine zk (zd ?_)
   refine zc rfl (zf rfl gt0 (zb rfl)) st26 ?_
   refine zc rfl (zf rfl gt1 (zb rfl)) st27 ?_
   refine zc rfl (zf rfl gt2 (zb rfl)) st28 ?_
   refine zc rfl (zf rfl gt4 (zb rfl)) st29 ?_
   refine bindF hF (fun v16 hv16 hF => ?_)
   refine yf rfl (yg rfl rfl rfl (zo gt26 (zo gt27 (zo gt28 (zo gt29 zw)))) (.cons (zb rfl) (.cons (zb rfl) (.cons (zb rfl) (.cons (zb rfl) .nil))))) (ok112 (fun x0 x1 v L M hv => by rw [ext_ext]; exact hcmp4 x0 x1 v _ _ hv) hv16) st30 ?_
   refine ze (zj (r_ret (zx ?_)))
   refine yd ?_
   refine q_loop_ret ?_
   obtain rfl := Option.some.inj hF
   replace hF := hK1
   refine yd ?_
   obtain rfl := Option.some.inj hF
   refine q_retL0 rfl yb (zy (leV.refl _) rfl ?_)
   exact ⟨rfl, rfl⟩
  ·skip
   cases hF
theorem ok101 {data0 : (List GLeaf)} {a1 : Int} {b2 : Int} {limit3 : Int} {cmp4 : (GLeaf → GLeaf → Option Int)} {fcmp4 : FuncId} {acmp4 kcmp4 : List AV} {res : Unit} {h : AH} (hcmp4 : ∀ x0 x1 v (L : List Blk) (M : List Nat), cmp4 x0 x1 = some v → Spec Tryz.prog fcmp4 (acmp4 ++ [.agg [.int .u8 x0.typ, .int .i64 x0.n, .int .u64 x0.time, .int .u8 x0.dot.actor.rep, .int .u32 x0.dot.actor.inc, .int .u64 x0.dot.seq, .str x0.text, .sl 5 (x0.items.map GItem.row), .sl 3 (x0.tombs.map GDot.row)], .agg [.int .u8 x1.typ, .int .i64 x1.n, .int .u64 x1.time, .int .u8 x1.dot.actor.rep, .int .u32 x1.dot.actor.inc, .int .u64 x1.dot.seq, .str x1.text, .sl 5 (x1.items.map GItem.row), .sl 3 (x1.tombs.map GDot.row)]] ++ kcmp4) (h.ext L M) (fun rr hh => rr = .int .i64 v ∧ hh = h.ext L M)) (hF : slicesXpdqsortCmpFuncLeaf data0 a1 b2 limit3 cmp4 = some res) : Spec Tryz.prog 101 [.sl 9 (data0.map GLeaf.row), .int .i64 a1, .int .i64 b2, .int .i64 limit3, .fn (.func fcmp4) acmp4 kcmp4] h (fun rr hh => rr = .tup [] ∧ hh = h) := by
 obtain ⟨n, hn⟩ := anyN_is hF
 exact ok101N n hcmp4 hn
/-! slices.SortFunc[[]varve/api.Leaf,varve/api.Leaf] -/
theorem ok79 {x0 : (List GLeaf)} {cmp1 : (GLeaf → GLeaf → Option Int)} {fcmp1 : FuncId} {acmp1 kcmp1 : List AV} {res : Unit} {h : AH} (hcmp1 : ∀ x0 x1 v (L : List Blk) (M : List Nat), cmp1 x0 x1 = some v → Spec Tryz.prog fcmp1 (acmp1 ++ [.agg [.int .u8 x0.typ, .int .i64 x0.n, .int .u64 x0.time, .int .u8 x0.dot.actor.rep, .int .u32 x0.dot.actor.inc, .int .u64 x0.dot.seq, .str x0.text, .sl 5 (x0.items.map GItem.row), .sl 3 (x0.tombs.map GDot.row)], .agg [.int .u8 x1.typ, .int .i64 x1.n, .int .u64 x1.time, .int .u8 x1.dot.actor.rep, .int .u32 x1.dot.actor.inc, .int .u64 x1.dot.seq, .str x1.text, .sl 5 (x1.items.map GItem.row), .sl 3 (x1.tombs.map GDot.row)]] ++ kcmp1) (h.ext L M) (fun rr hh => rr = .int .i64 v ∧ hh = h.ext L M)) (hF : slicesSortFuncLeaf x0 cmp1 = some res) : Spec Tryz.prog 79 [.sl 9 (x0.map GLeaf.row), .fn (.func fcmp1) acmp1 kcmp1] h (fun rr hh => rr = .tup [] ∧ hh = h) := by
 unfold slicesSortFuncLeaf at hF
 refine spec_of_body_extC Tryz.func79 rfl (by kernel_rfl) (env := [.sl 9 (x0.map GLeaf.row), .fn (.func fcmp1) acmp1 kcmp1, za, za, za, za, za, za, za, za, za, za, za, za]) (by rfl) (fun hlow hC => ?_)
 simp only [lowL, AV.low, Bool.and_eq_true, Bool.true_and, and_true] at hlow
 have hlacmp1 : ∀ n m, h.blks.length ≤ n → h.toks.length ≤ m → lowL n m acmp1 = true := fun n m h1 h2 => lowL_up h1 h2 _ (by simp [hlow])
 have hlkcmp1 : ∀ n m, h.blks.length ≤ n → h.toks.length ≤ m → lowL n m kcmp1 = true := fun n m h1 h2 => lowL_up h1 h2 _ (by simp [hlow])
 refine zk (zd ?_)
 refine zc rfl (zf rfl gt0 (zb rfl)) st5 ?_
 refine ops_len rfl (yh rfl rfl rfl rfl el66 gt5 lenMap) st6 fun hn1 => ?_
 replace hn1 := lenN hn1
 refine zc rfl (zg rfl gt6 (zb rfl)) st4 ?_
 refine ze (zj (zd ?_))
 refine zc rfl (zf rfl gt0 (zb rfl)) st7 ?_
 refine zc rfl (zf rfl gt4 (zb rfl)) st8 ?_
 refine zc rfl (zf rfl gt4 (zb rfl)) st9 ?_
 refine zc rfl (s_convert rfl ty3 ty134 gt9 rfl) st10 ?_
 refine bindF hF (fun v2 hv2 hF => ?_)
 refine yf rfl (yg rfl rfl rfl (zo gt10 zw) (.cons (zb rfl) .nil)) (ok102 hv2) st11 ?_
 refine zc rfl (zf rfl gt1 (zb rfl)) st12 ?_
 refine bindF hF (fun v3 hv3 hF => ?_)
 refine yf rfl (yg rfl rfl rfl (zo gt7 (zo rfl (zo gt8 (zo gt11 (zo gt12 zw))))) (.cons (zb rfl) (.cons (zb rfl) (.cons (zb rfl) (.cons (zb rfl) (.cons (zb rfl) .nil)))))) (ok101 (fun x0 x1 v L M hv => by rw [ext_ext]; exact hcmp1 x0 x1 v _ _ hv) hv3) st13 ?_
 refine ze (q_end ?_)
 obtain rfl := Option.some.inj hF
 refine q_retL0 rfl yb (zy (leV.refl _) rfl ?_)
 exact ⟨rfl, rfl⟩
/-! varve/diff.lay 3 -/
theorem ok80 {x0 : GLeaf} {y1 : GLeaf} {res : Int} {h : AH}  (hF : diffXlayC3 x0 y1 = some res) : Spec Tryz.prog 80 [.agg [.int .u8 x0.typ, .int .i64 x0.n, .int .u64 x0.time, .int .u8 x0.dot.actor.rep, .int .u32 x0.dot.actor.inc, .int .u64 x0.dot.seq, .str x0.text, .sl 5 (x0.items.map GItem.row), .sl 3 (x0.tombs.map GDot.row)], .agg [.int .u8 y1.typ, .int .i64 y1.n, .int .u64 y1.time, .int .u8 y1.dot.actor.rep, .int .u32 y1.dot.actor.inc, .int .u64 y1.dot.seq, .str y1.text, .sl 5 (y1.items.map GItem.row), .sl 3 (y1.tombs.map GDot.row)]] h (fun rr hh => rr = .int .i64 res ∧ hh = h) := by
 unfold diffXlayC3 at hF
 refine ye Tryz.func80 rfl (by kernel_rfl) (env := [.agg [.int .u8 x0.typ, .int .i64 x0.n, .int .u64 x0.time, .int .u8 x0.dot.actor.rep, .int .u32 x0.dot.actor.inc, .int .u64 x0.dot.seq, .str x0.text, .sl 5 (x0.items.map GItem.row), .sl 3 (x0.tombs.map GDot.row)], .agg [.int .u8 y1.typ, .int .i64 y1.n, .int .u64 y1.time, .int .u8 y1.dot.actor.rep, .int .u32 y1.dot.actor.inc, .int .u64 y1.dot.seq, .str y1.text, .sl 5 (y1.items.map GItem.row), .sl 3 (y1.tombs.map GDot.row)], za, za, za, za, za, za, za, za]) (by rfl) ?_
 refine zk (zd ?_)
 refine zc rfl (e_box (n := 0) rfl gt0 (zb rfl) rfl rfl) st2 ?_
 refine zc rfl (e_box (n := 1) rfl gt1 (zb rfl) rfl rfl) st3 ?_
 refine zc rfl (zg rfl rfl (zb rfl)) st4 ?_
 refine ze (zj (zk (zd ?_)))
 refine zc rfl (zi rfl fo47x0 gt2 rfl) st5 ?_
 refine zc rfl (zt rfl ty5 gt5 rfl (zr rfl) (zb rfl)) st6 ?_
 refine zc rfl (zi rfl fo47x0 gt3 rfl) st7 ?_
 refine zc rfl (zt rfl ty5 gt7 rfl (zr rfl) (zb rfl)) st8 ?_
 refine bindF hF (fun v1 hv1 hF => ?_)
 refine yf rfl (yg rfl rfl rfl (zo gt6 (zo gt8 zw)) (.cons (zb rfl) (.cons (zb rfl) .nil))) (ok81 hv1) st9 ?_
 refine zc rfl (zg rfl gt9 (zb rfl)) st4 ?_
 refine ze (zj (r_ret ?_))
 obtain rfl := Option.some.inj hF
 refine zz rfl (yc gt4 yb) (zy (leV.refl _) rfl ?_)
 exact ⟨rfl, rfl⟩
/-! slices.Clone[varve/api.Tree,varve/api.Node] -/
theorem ok82 {s0 : (List GNode)} {res : (List GNode)} {h : AH}  (hF : slicesCloneTreeNode s0 = some res) : Spec Tryz.prog 82 [.sl 3 (s0.map GNode.row)] h (OwnK h 3 res.length (res.map GNode.row)) := by
 unfold slicesCloneTreeNode at hF
 refine ye Tryz.func82 rfl (by kernel_rfl) (env := [.sl 3 (s0.map GNode.row), za, za, za, za, za, za, za]) (by rfl) ?_
 refine zk (zd ?_)
 refine zc rfl (zg rfl rfl (ty_nil el24)) st2 ?_
 refine ze (zj (zk (zk (zd ?_))))
 refine zc rfl (zf rfl gt0 (zb rfl)) st3 ?_
 refine ops_nilqE rfl rfl el24 gt3 isl rfl (fun _ => st4) hF (fun b1 hb1 hF => ?_)
 refine ze (zj ?_)
 refine r_condF gt4 hF (fun hc2 hF => ?_) (fun hc2 hF => ?_)
 ·skip
  refine zk (zd ?_)
  refine zc rfl (zg rfl rfl (ty_nil el24)) st2 ?_
  refine ze (zj (r_ret (zx ?_)))
  obtain rfl := Option.some.inj hF
  refine zz rfl (yc gt2 yb) (fin_own0 (row := GNode.row) (L := ([] : List GNode)) ?_)
  exact ⟨rfl, rfl⟩
 ·skip
  refine r_skip (zj (zk (zd ?_)))
  refine zc rfl (s_buildSlice (es := ([] : List GNode).map GNode.row) rfl el24 ze68 rfl rfl parto_nil .nil rfl rfl (by simp only [List.map_cons, List.map_nil, GNode.row_eq]; rfl)) st5 ?_
  refine zc rfl (zf rfl gt0 (zb rfl)) st6 ?_
  refine chkF hF (fun hm3 hF => ?_)
  refine zc rfl (e_appN (m := 0) (T' := [((([] : List GNode) ++ s0)).length]) rfl rfl rfl rfl el24 el24 gt5 gt6 (zb rfl) (zb rfl) news_sl hm3 rfl rfl) st7 ?_
  refine zc rfl (zg rfl gt7 (zb rfl)) st2 ?_
  refine ze (zj (r_ret ?_))
  obtain rfl := Option.some.inj hF
  refine zz rfl (yc gt2 yb) (fin_own ?_)
  exact ⟨rfl, rfl⟩
/-! varve/diff.lay -/
theorem ok42N (n : Nat) : ∀ {t0 : (List GNode)} {path1 : (List Str)} {kind2 : Int} {l3 : GLeaf} {there4 : Bool} {res : (List GNode)} {h : AH} , diffXlayN n t0 path1 kind2 l3 there4 = some res → Spec Tryz.prog 42 [.sl 3 (t0.map GNode.row), .sl 1 (path1.map strRow), .int .u8 kind2, .agg [.int .u8 l3.typ, .int .i64 l3.n, .int .u64 l3.time, .int .u8 l3.dot.actor.rep, .int .u32 l3.dot.actor.inc, .int .u64 l3.dot.seq, .str l3.text, .sl 5 (l3.items.map GItem.row), .sl 3 (l3.tombs.map GDot.row)], .bool there4] h (fun rr hh => rr = .sl 3 (res.map GNode.row) ∧ hh = h) := by
 induction n with
 | zero => intro t0 path1 kind2 l3 there4 res h  hF; simp [diffXlayN] at hF
 | succ n ih =>
  intro t0 path1 kind2 l3 there4 res h  hF
  unfold diffXlayN at hF
  refine ye Tryz.func42 rfl (by kernel_rfl) (env := [.sl 3 (t0.map GNode.row), .sl 1 (path1.map strRow), .int .u8 kind2, .agg [.int .u8 l3.typ, .int .i64 l3.n, .int .u64 l3.time, .int .u8 l3.dot.actor.rep, .int .u32 l3.dot.actor.inc, .int .u64 l3.dot.seq, .str l3.text, .sl 5 (l3.items.map GItem.row), .sl 3 (l3.tombs.map GDot.row)], .bool there4, za, za, za, za, za, za, za, za, za, za, za, za, za, za, za, za, za, za, za, za, za, za, za, za, za, za, za, za, za, za, za, za, za, za, za, za, za, za, za, za, za, za, za, za, za, za, za, za, za, za, za, za, za, za, za, za, za, za, za, za, za, za, za, za, za, za, za, za, za, za, za, za, za, za, za, za, za, za, za, za]) (by rfl) ?_
  refine zk (zd ?_)
  refine zc rfl (e_box (n := 0) rfl gt2 (zb rfl) rfl rfl) st7 ?_
  refine zc rfl (e_box (n := 1) rfl gt3 (zb rfl) rfl rfl) st8 ?_
  refine zc rfl (zg rfl rfl (ty_nil el24)) st10 ?_
  refine ze (zj (zk (zd ?_)))
  refine zc rfl (zf rfl gt0 (zb rfl)) st16 ?_
  refine zc rfl (zf rfl gt1 (zb rfl)) st17 ?_
  refine bindF hF (fun y1 hy1 hF => ?_)
  refine zc rfl (s_idxRow rfl el26 gt17 rfl isl hy1) st18 ?_
  refine zc rfl (yi rfl ty9 gt18 (zr rfl) (zb rfl)) st19 ?_
  refine bindF hF (fun v2 hv2 hF => ?_)
  refine yf rfl (yg rfl rfl rfl (zo gt16 (zo gt19 (zo rfl zw))) (.cons (zb rfl) (.cons (zb rfl) (.cons (zb rfl) .nil)))) (ok72 (fun _ _ v L M hv => ok73  hv) hv2) st20 ?_
  refine zc rfl (zf rfl gt20 (zb rfl)) st15 ?_
  refine zc rfl (s_extract rfl gt15 rfl (zb rfl)) st21 ?_
  refine zc rfl (s_extract rfl gt15 rfl (zb rfl)) st22 ?_
  refine zc rfl (zg rfl gt21 (zb rfl)) st11 ?_
  refine zc rfl (zg rfl gt22 (zb rfl)) st12 ?_
  refine ze (zj (zk (zd ?_)))
  refine zc rfl (zf rfl gt1 (zb rfl)) st23 ?_
  refine bindF hF (fun y3 hy3 hF => ?_)
  refine zc rfl (s_idxRow rfl el26 gt23 rfl isl hy3) st24 ?_
  refine zc rfl (yi rfl ty9 gt24 (zr rfl) (zb rfl)) st25 ?_
  refine zc rfl (s_build (cs' := [.str y3, .osl none 9 (([] : List GLeaf).map GLeaf.row), .osl none 3 (([] : List GNode).map GNode.row)]) rfl su68 ze68 pl68 (parto_cons gt25 parto_nil) (.cons (zb rfl) .nil) rfl rfl) st26 ?_
  refine zc rfl (e_alloc (n := 2) rfl ze68 rfl) st13 ?_
  refine zc rfl (e_store (cs' := [.str y3, .osl none 9 (([] : List GLeaf).map GLeaf.row), .osl none 3 (([] : List GNode).map GNode.row)]) rfl ty68.choose_spec.1 gt13 gt26 (zb rfl) rfl rfl rfl rfl rfl) rfl ?_
  refine ze (zj ?_)
  refine r_join (fun (s1 : Str × (List GLeaf) × (List GNode)) => anys [2, 3, 5, 6, 9, 10, 14, 15, 16, 17, 18, 19, 20, 21, 22, 23, 24, 25, 26, 27, 28, 29, 30, 31, 32, 33, 34, 35, 36, 37, 38, 39, 40, 41, 42, 43, 44, 45, 46, 47, 48, 49, 50, 51, 52, 53, 54, 55, 56, 57, 58, 59, 60, 61, 62, 63, 64, 65, 66, 67, 68, 69, 70, 71, 72, 73, 74, 75, 76, 77, 78, 79, 80, 81, 82, 83, 84] []) (fun s1 => h.ext [.cells [.int .u8 kind2], .cells [.int .u8 l3.typ, .int .i64 l3.n, .int .u64 l3.time, .int .u8 l3.dot.actor.rep, .int .u32 l3.dot.actor.inc, .int .u64 l3.dot.seq, .str l3.text, .sl 5 (l3.items.map GItem.row), .sl 3 (l3.tombs.map GDot.row)], .cells [.str s1.1, .sl 9 (s1.2.1.map GLeaf.row), .sl 3 (s1.2.2.map GNode.row)]] []) hF (fun _ => by simp only [anys, upd, List.set_cons_succ, List.set_cons_zero]; try rfl) (fun o1 hF hK1 => ?_) (fun s1 hF => ?_)
  ·skip
   refine zk (zd ?_)
   refine zc rfl (zf rfl gt12 (zb rfl)) st27 ?_
   refine ze (zj ?_)
   refine r_condF gt27 hF (fun hc6 hF => ?_) (fun hc6 hF => ?_)
   ·skip
    refine zd ?_
    refine zc rfl (zf rfl gt0 (zb rfl)) st28 ?_
    refine zc rfl (zf rfl gt11 (zb rfl)) st29 ?_
    refine bindF hF (fun y7 hy7 hF => ?_)
    refine zc rfl (s_idxRowE rfl el24 gt28 gt29 isl hy7 (GNode.row_eq _)) st30 ?_
    refine zc rfl (yi rfl ty68.choose_spec.1 gt30 (ldC_agX (cs' := [.str y7.name, .sl 9 (y7.leaves.map GLeaf.row), .sl 3 (y7.subs.map GNode.row)]) ty68.choose_spec.2 rfl rfl) (zb rfl)) st31 ?_
    refine zc rfl (e_store (cs' := [.str y7.name, .sl 9 (y7.leaves.map GLeaf.row), .sl 3 (y7.subs.map GNode.row)]) rfl ty68.choose_spec.1 gt13 gt31 (zb rfl) rfl rfl rfl rfl rfl) rfl ?_
    refine ze (q_join ?_)
    obtain rfl := Option.some.inj hF
    exact ⟨(y7.name, y7.leaves, y7.subs), hK1, wk.le (by exact (.eq (.eq (.drop (.drop (.eq (.drop (.drop (.eq (.eq (.drop (.drop (.eq (.eq (.eq (.d16 (.d16 (.d16 (.d16 (.d4 (.drop (.drop (.drop leL.nil)))))))))))))))))))))))⟩
   ·skip
    refine r_skip (q_join ?_)
    obtain rfl := Option.some.inj hF
    exact ⟨(y3, ([] : List GLeaf), ([] : List GNode)), hK1, wk.trans (wk_leB (j := 2) rfl (by exact (.eq (.cons (leV.osl _ _ _) (.cons (leV.osl _ _ _) leL.nil)))) rfl rfl) (wk.le (by exact (.eq (.eq (.drop (.drop (.eq (.drop (.drop (.eq (.eq (.drop (.drop (.eq (.eq (.eq (.d16 (.d16 (.d16 (.d16 (.d4 (.drop (.drop (.drop leL.nil))))))))))))))))))))))))⟩
  ·skip
   refine r_join (fun (s2 : (List GLeaf) × (List GNode)) => anys [1, 2, 3, 4, 5, 6, 7, 8, 9, 10, 14, 15, 16, 17, 18, 19, 20, 21, 22, 23, 24, 25, 26, 27, 28, 29, 30, 31, 32, 33, 34, 35, 36, 37, 38, 39, 40, 41, 42, 43, 44, 45, 46, 47, 48, 49, 50, 51, 52, 53, 54, 55, 56, 57, 58, 59, 60, 61, 62, 63, 64, 65, 66, 67, 68, 69, 70, 71, 72, 73, 74, 75, 76, 77, 78, 79, 80, 81, 82, 83, 84] []) (fun s2 => h.ext [.cells [.int .u8 kind2], .cells [.int .u8 l3.typ, .int .i64 l3.n, .int .u64 l3.time, .int .u8 l3.dot.actor.rep, .int .u32 l3.dot.actor.inc, .int .u64 l3.dot.seq, .str l3.text, .sl 5 (l3.items.map GItem.row), .sl 3 (l3.tombs.map GDot.row)], .cells [.str s1.1, .sl 9 (s2.1.map GLeaf.row), .sl 3 (s2.2.map GNode.row)]] []) hF (fun _ => by simp only [anys, upd, List.set_cons_succ, List.set_cons_zero]; try rfl) (fun o2 hF hK2 => ?_) (fun s2 hF => ?_)
   ·skip
    refine zk (zd ?_)
    refine zc rfl (zf rfl gt1 (zb rfl)) st32 ?_
    refine ops_len rfl (yh rfl rfl rfl rfl el26 gt32 lenMap) st33 fun hn18 => ?_
    replace hn18 := lenN hn18
    refine zc rfl (zu rfl gt33 rfl rfl) st34 ?_
    refine ze (zj ?_)
    refine r_condF gt34 hF (fun hc19 hF => ?_) (fun hc19 hF => ?_)
    ·skip
     refine r_drawn [7] [] trivial mixed (by kernel_rfl) ?_
     refine zq rfl rfl (zi rfl fo68x2 gt13 rfl) st35 ?_
     refine zq rfl rfl (zt rfl ty24 gt35 rfl (zr rfl) (zb rfl)) st36 ?_
     refine zq rfl rfl (zf rfl gt1 (zb rfl)) st37 ?_
     refine bindF hF (fun m20 hm20 hF => ?_)
     refine zq rfl rfl (s_slcSl rfl el26 gt37 (.inl rfl) (.some rfl) .none hm20) st38 ?_
     refine zq rfl rfl (zt rfl ty5 gt7 rfl (zr rfl) (zb rfl)) st39 ?_
     refine zq rfl rfl (zt rfl ty47.choose_spec.1 gt8 rfl (ldC_agX (cs' := [.int .u8 l3.typ, .int .i64 l3.n, .int .u64 l3.time, .int .u8 l3.dot.actor.rep, .int .u32 l3.dot.actor.inc, .int .u64 l3.dot.seq, .str l3.text, .sl 5 (l3.items.map GItem.row), .sl 3 (l3.tombs.map GDot.row)]) ty47.choose_spec.2 rfl rfl) (zb rfl)) (sk st0) ?_
     refine zq rfl rfl (zf rfl gt4 (zb rfl)) (sk st1) ?_
     refine bindF hF (fun v21 hv21 hF => ?_)
     refine draw_callN rfl rfl (fun _ => yg rfl rfl rfl (zo gt36 (zo gt38 (zo gt39 (zo (gk gt0) (zo (gk gt1) zw))))) (.cons (zb rfl) (.cons (zb rfl) (.cons (zb rfl) (.cons (zb rfl) (.cons (zb rfl) .nil)))))) (by rintro _ ⟨B2, T2, rfl, hk2⟩; exact ih hv21) (sk st2) ?_
     refine zq rfl rfl (zi rfl fo68x2 gt13 rfl) (sk st3) ?_
     refine draw_eff rfl (FOk.cons (.inr (keepB trivial)) FOk.nil) (by kernel_rfl) rfl (e_store (cs' := [.str s1.1, .sl 9 (s1.2.1.map GLeaf.row), .sl 3 (v21.map GNode.row)]) rfl ty24 (gk gt3) (gk gt2) (zb rfl) rfl rfl rfl rfl rfl) rfl ?_
     refine draw_nil ?_
     refine q_join ?_
     obtain rfl := Option.some.inj hF
     exact ⟨(s1.2.1, v21), hK2, wk.le (by exact (.eq (.d4 (.d4 (.drop (.drop (.eq (.eq (.eq (.d16 (.d16 (.d16 (.d16 (.d4 (.drop (.drop (.drop leL.nil)))))))))))))))))⟩
    ·skip
     refine zk (zd ?_)
     refine zc rfl (zi rfl fo68x1 gt13 rfl) (sk st4) ?_
     refine zc rfl (zt rfl ty66 (gk gt4) rfl (zr rfl) (zb rfl)) (sk st5) ?_
     refine bindF hF (fun v22 hv22 hF => ?_)
     refine ops_callH rfl (yg rfl rfl rfl (zo (gk gt5) zw) (.cons (zb rfl) .nil)) (own_ext (T' := [(v22).length]) (ok76 hv22) (m := 0) rfl rfl) (sk st6) ?_
     refine zc rfl (s_makeFunc rfl rfl rfl) (sk st7) ?_
     refine bindF hF (fun v23 hv23 hF => ?_)
     have hv23m := same75 hv23
     subst hv23m
     refine yf rfl (yg rfl rfl rfl (zo (gk gt6) (zo (gk gt7) zw)) (.cons (zb rfl) (.cons (zb rfl) .nil))) (ok75 (fun _ v L M hv => ok77 (blk_ext2 (j := 0) rfl) hv) hv23) (sk st8) ?_
     refine zc rfl (zi rfl fo68x1 gt13 rfl) (sk st9) ?_
     refine zc rfl (e_store (cs' := [.str s1.1, .osl (some (h.toks.length + 0)) 9 (v22.map GLeaf.row), .sl 3 (s1.2.2.map GNode.row)]) rfl ty66 (gk gt9) (gk gt8) (zb rfl) rfl rfl rfl rfl rfl) rfl ?_
     refine ze (zj (zk (zd ?_)))
     refine zc rfl (zf rfl gt4 (zb rfl)) (sk st10) ?_
     refine ze (zj ?_)
     refine r_condF (gk gt10) hF (fun hc24 hF => ?_) (fun hc24 hF => ?_)
     ·skip
      refine zk ?_
      refine r_drawn [3] [] trivial mixed (by kernel_rfl) ?_
      refine zq rfl rfl (zi rfl fo68x1 gt13 rfl) (sk st11) ?_
      refine zq rfl rfl (zt rfl ty66 (gk gt11) rfl (zr rfl) (zb rfl)) (sk st12) ?_
      refine zq rfl rfl (zt rfl ty47.choose_spec.1 gt8 rfl (ldC_agX (cs' := [.int .u8 l3.typ, .int .i64 l3.n, .int .u64 l3.time, .int .u8 l3.dot.actor.rep, .int .u32 l3.dot.actor.inc, .int .u64 l3.dot.seq, .str l3.text, .sl 5 (l3.items.map GItem.row), .sl 3 (l3.tombs.map GDot.row)]) ty47.choose_spec.2 rfl rfl) (zb rfl)) (sk st13) ?_
      refine bindF hF (fun v25 hv25 hF => ?_)
      refine draw_callN rfl rfl (fun _ => yg rfl rfl rfl (zo (gk gt13) zw) (.cons (zb rfl) .nil)) (by rintro _ ⟨B2, T2, rfl, hk2⟩; exact ok78 hv25) (sk st14) ?_
      refine zq rfl rfl (s_buildSlice (es := ([v25] : List GLeaf).map GLeaf.row) rfl el66 ze47 rfl rfl (parto_cons (gk gt14) parto_nil) (.cons (zb rfl) .nil) rfl rfl rfl) (sk st15) ?_
      refine chkF hF (fun hm26 hF => ?_)
      refine draw_okH rfl (FOk.cons (.inr (keepB trivial)) FOk.nil) (by rfl) rfl (e_appT (j := 0) (T' := [((v22 ++ ([v25] : List GLeaf))).length]) rfl rfl rfl rfl el66 el66 (gk gt12) (gk gt15) (zb rfl) (zb rfl) news_osl hm26 rfl rfl) (sk st16) ?_
      refine zq rfl rfl (zi rfl fo68x1 gt13 rfl) (sk st17) ?_
      refine draw_eff rfl (FOk.cons (.inr (keepB trivial)) FOk.nil) (by kernel_rfl) rfl (e_store (cs' := [.str s1.1, .osl (some (h.toks.length + 0)) 9 ((v22 ++ ([v25] : List GLeaf)).map GLeaf.row), .sl 3 (s1.2.2.map GNode.row)]) rfl ty66 (gk gt17) (gk gt16) (zb rfl) rfl rfl rfl rfl rfl) rfl ?_
      refine draw_nil ?_
      refine zj (zd ?_)
      refine zc rfl (zi rfl fo68x1 gt13 rfl) (sk st18) ?_
      refine zc rfl (zt rfl ty66 (gk gt18) rfl (zr rfl) (zb rfl)) (sk st19) ?_
      refine bindF hF (fun v27 hv27 hF => ?_)
      refine yf rfl (yg rfl rfl rfl (zo (gk gt19) (zo rfl zw)) (.cons (zb rfl) (.cons (zb rfl) .nil))) ((ok79 (fun _ _ v L M hv => ok80  hv) hv27).le (.cons (leV.osl _ _ _) (.eq leL.nil))) (sk st20) ?_
      refine ze (q_join ?_)
      obtain rfl := Option.some.inj hF
      exact ⟨((v22 ++ ([v25] : List GLeaf)), s1.2.2), hK2, wk.trans (wk.trans (wk_leB (j := 2) rfl (by exact (.eq (.cons (leV.osl _ _ _) (.eq leL.nil)))) rfl rfl) (wk.le (by exact (.eq (.d4 (.d4 (.drop (.drop (.eq (.eq (.eq (.d16 (.d16 (.d16 (.d16 (.d4 (.drop (.drop (.drop leL.nil))))))))))))))))))) (wk_ext3 (by simp [lowL, AV.low]) rfl rfl (by simp [Blk.low, lowL, AV.low]))⟩
     ·skip
      refine r_skip (q_join ?_)
      obtain rfl := Option.some.inj hF
      exact ⟨(v22, s1.2.2), hK2, wk.trans (wk.trans (wk_leB (j := 2) rfl (by exact (.eq (.cons (leV.osl _ _ _) (.eq leL.nil)))) rfl rfl) (wk.le (by exact (.eq (.d4 (.d4 (.drop (.drop (.eq (.eq (.eq (.d16 (.d16 (.d16 (.d16 (.d4 (.drop (.drop (.drop leL.nil))))))))))))))))))) (wk_ext3 (by simp [lowL, AV.low]) rfl rfl (by simp [Blk.low, lowL, AV.low]))⟩
   ·skip
    refine zk (zd ?_)
    refine zc rfl (zf rfl gt0 (zb rfl)) (sk st21) ?_
    refine zc rfl (zf rfl gt11 (zb rfl)) (sk st22) ?_
    refine bindF hF (fun m28 hm28 hF => ?_)
    refine zc rfl (s_slcSl rfl el24 (gk gt21) (.inl rfl) .none (.some (gk gt22)) hm28) (sk st23) ?_
    refine bindF hF (fun v29 hv29 hF => ?_)
    refine ops_callH rfl (yg rfl rfl rfl (zo (gk gt23) zw) (.cons (zb rfl) .nil)) (own_ext (T' := [(v29).length]) (ok82 hv29) (m := 0) rfl rfl) (sk st24) ?_
    refine zc rfl (zg rfl (gk gt24) (zb rfl)) st14 ?_
    refine ze (zj (zk (zk (zd ?_))))
    refine zc rfl (zi rfl fo68x1 gt13 rfl) (sk st25) ?_
    refine zc rfl (zt rfl ty66 (gk gt25) rfl (zr rfl) (zb rfl)) (sk st26) ?_
    refine ops_len rfl (yh rfl rfl rfl rfl el66 (gk gt26) lenMap) (sk st27) fun hn30 => ?_
    replace hn30 := lenN hn30
    refine zc rfl (zi rfl fo68x2 gt13 rfl) (sk st28) ?_
    refine zc rfl (zt rfl ty24 (gk gt28) rfl (zr rfl) (zb rfl)) (sk st29) ?_
    refine ops_len rfl (yh rfl rfl rfl rfl el24 (gk gt29) lenMap) (sk st30) fun hn31 => ?_
    replace hn31 := lenN hn31
    refine zc rfl (zu rfl (gk gt27) (gk gt30) rfl) (sk st31) ?_
    refine zc rfl (zu rfl (gk gt31) rfl rfl) (sk st32) ?_
    refine ze (zj ?_)
    refine r_condF (gk gt32) hF (fun hc32 hF => ?_) (fun hc32 hF => ?_)
    ·skip
     refine zd ?_
     refine zc rfl (zf rfl gt14 (zb rfl)) (sk st33) ?_
     refine zc rfl (zt rfl ty68.choose_spec.1 gt13 rfl (ldC_agX (cs' := [.str s1.1, .sl 9 (s2.1.map GLeaf.row), .sl 3 (s2.2.map GNode.row)]) ty68.choose_spec.2 rfl rfl) (zb rfl)) (sk st34) ?_
     refine zc rfl (s_buildSlice (es := ([(GNode.mk s1.1 s2.1 s2.2)] : List GNode).map GNode.row) rfl el24 ze68 rfl rfl (parto_cons (gk gt34) parto_nil) (.cons (zb rfl) .nil) rfl rfl (by simp only [List.map_cons, List.map_nil, GNode.row_eq]; rfl)) (sk st35) ?_
     refine chkF hF (fun hm33 hF => ?_)
     refine zc rfl (e_appT (j := 0) (T' := [((v29 ++ ([(GNode.mk s1.1 s2.1 s2.2)] : List GNode))).length]) rfl rfl rfl rfl el24 el24 (gk gt33) (gk gt35) (zb rfl) (zb rfl) news_osl hm33 rfl rfl) (sk st36) ?_
     refine zc rfl (zg rfl (gk gt36) (zb rfl)) st14 ?_
     refine ze (zj (zk (zk (zd ?_))))
     refine zc rfl (zf rfl gt12 (zb rfl)) (sk st37) ?_
     refine ze (zj ?_)
     refine r_condF (gk gt37) hF (fun hc34 hF => ?_) (fun hc34 hF => ?_)
     ·skip
      refine zd ?_
      refine zc rfl (zf rfl gt11 (zb rfl)) (sk st38) ?_
      refine zc rfl (zu rfl (gk gt38) rfl rfl) (sk st39) ?_
      refine zc rfl (zg rfl (gk gt39) (zb rfl)) st11 ?_
      refine ze (zj (zk (zd ?_)))
      refine zc rfl (zf rfl gt14 (zb rfl)) (sk (sk st0)) ?_
      refine zc rfl (zf rfl gt0 (zb rfl)) (sk (sk st1)) ?_
      refine zc rfl (zf rfl gt11 (zb rfl)) (sk (sk st2)) ?_
      refine bindF hF (fun m35 hm35 hF => ?_)
      refine zc rfl (s_slcSl rfl el24 (gk (gk gt1)) (.inl rfl) (.some (gk (gk gt2))) .none hm35) (sk (sk st3)) ?_
      refine chkF hF (fun hm36 hF => ?_)
      refine zc rfl (e_appT (j := 0) (T' := [(((v29 ++ ([(GNode.mk s1.1 s2.1 s2.2)] : List GNode)) ++ m35)).length]) rfl rfl rfl rfl el24 el24 (gk (gk gt0)) (gk (gk gt3)) (zb rfl) (zb rfl) news_sl hm36 rfl rfl) (sk (sk st4)) ?_
      refine zc rfl (zg rfl (gk (gk gt4)) (zb rfl)) st10 ?_
      refine ze (zj (r_ret ?_))
      obtain rfl := Option.some.inj hF
      refine zz rfl (yc gt10 yb) (zy (leV.osl _ _ _) rfl ?_)
      exact ⟨rfl, rfl⟩
     ·skip
      refine r_skip (zj (zk (zd ?_)))
      refine zc rfl (zf rfl gt14 (zb rfl)) (sk (sk st0)) ?_
      refine zc rfl (zf rfl gt0 (zb rfl)) (sk (sk st1)) ?_
      refine zc rfl (zf rfl gt11 (zb rfl)) (sk (sk st2)) ?_
      refine bindF hF (fun m37 hm37 hF => ?_)
      refine zc rfl (s_slcSl rfl el24 (gk (gk gt1)) (.inl rfl) (.some (gk (gk gt2))) .none hm37) (sk (sk st3)) ?_
      refine chkF hF (fun hm38 hF => ?_)
      refine zc rfl (e_appT (j := 0) (T' := [(((v29 ++ ([(GNode.mk s1.1 s2.1 s2.2)] : List GNode)) ++ m37)).length]) rfl rfl rfl rfl el24 el24 (gk (gk gt0)) (gk (gk gt3)) (zb rfl) (zb rfl) news_sl hm38 rfl rfl) (sk (sk st4)) ?_
      refine zc rfl (zg rfl (gk (gk gt4)) (zb rfl)) st10 ?_
      refine ze (zj (r_ret ?_))
      obtain rfl := Option.some.inj hF
      refine zz rfl (yc gt10 yb) (zy (leV.osl _ _ _) rfl ?_)
      exact ⟨rfl, rfl⟩
    ·skip
     refine r_skip (zj (zk (zk (zd ?_))))
     refine zc rfl (zf rfl gt12 (zb rfl)) (sk st37) ?_
     refine ze (zj ?_)
     refine r_condF (gk gt37) hF (fun hc39 hF => ?_) (fun hc39 hF => ?_)
     ·skip
      refine zd ?_
      refine zc rfl (zf rfl gt11 (zb rfl)) (sk st38) ?_
      refine zc rfl (zu rfl (gk gt38) rfl rfl) (sk st39) ?_
      refine zc rfl (zg rfl (gk gt39) (zb rfl)) st11 ?_
      refine ze (zj (zk (zd ?_)))
      refine zc rfl (zf rfl gt14 (zb rfl)) (sk (sk st0)) ?_
      refine zc rfl (zf rfl gt0 (zb rfl)) (sk (sk st1)) ?_
      refine zc rfl (zf rfl gt11 (zb rfl)) (sk (sk st2)) ?_
      refine bindF hF (fun m40 hm40 hF => ?_)
      refine zc rfl (s_slcSl rfl el24 (gk (gk gt1)) (.inl rfl) (.some (gk (gk gt2))) .none hm40) (sk (sk st3)) ?_
      refine chkF hF (fun hm41 hF => ?_)
      refine zc rfl (e_appT (j := 0) (T' := [((v29 ++ m40)).length]) rfl rfl rfl rfl el24 el24 (gk (gk gt0)) (gk (gk gt3)) (zb rfl) (zb rfl) news_sl hm41 rfl rfl) (sk (sk st4)) ?_
      refine zc rfl (zg rfl (gk (gk gt4)) (zb rfl)) st10 ?_
      refine ze (zj (r_ret ?_))
      obtain rfl := Option.some.inj hF
      refine zz rfl (yc gt10 yb) (zy (leV.osl _ _ _) rfl ?_)
      exact ⟨rfl, rfl⟩
     ·skip
      refine r_skip (zj (zk (zd ?_)))
      refine zc rfl (zf rfl gt14 (zb rfl)) (sk (sk st0)) ?_
      refine zc rfl (zf rfl gt0 (zb rfl)) (sk (sk st1)) ?_
      refine zc rfl (zf rfl gt11 (zb rfl)) (sk (sk st2)) ?_
      refine bindF hF (fun m42 hm42 hF => ?_)
      refine zc rfl (s_slcSl rfl el24 (gk (gk gt1)) (.inl rfl) (.some (gk (gk gt2))) .none hm42) (sk (sk st3)) ?_
      refine chkF hF (fun hm43 hF => ?_)
      refine zc rfl (e_appT (j := 0) (T' := [((v29 ++ m42)).length]) rfl rfl rfl rfl el24 el24 (gk (gk gt0)) (gk (gk gt3)) (zb rfl) (zb rfl) news_sl hm43 rfl rfl) (sk (sk st4)) ?_
      refine zc rfl (zg rfl (gk (gk gt4)) (zb rfl)) st10 ?_
      refine ze (zj (r_ret ?_))
      obtain rfl := Option.some.inj hF
      refine zz rfl (yc gt10 yb) (zy (leV.osl _ _ _) rfl ?_)
      exact ⟨rfl, rfl⟩
theorem ok42 {t0 : (List GNode)} {path1 : (List Str)} {kind2 : Int} {l3 : GLeaf} {there4 : Bool} {res : (List GNode)} {h : AH}  (hF : diffXlay t0 path1 kind2 l3 there4 = some res) : Spec Tryz.prog 42 [.sl 3 (t0.map GNode.row), .sl 1 (path1.map strRow), .int .u8 kind2, .agg [.int .u8 l3.typ, .int .i64 l3.n, .int .u64 l3.time, .int .u8 l3.dot.actor.rep, .int .u32 l3.dot.actor.inc, .int .u64 l3.dot.seq, .str l3.text, .sl 5 (l3.items.map GItem.row), .sl 3 (l3.tombs.map GDot.row)], .bool there4] h (fun rr hh => rr = .sl 3 (res.map GNode.row) ∧ hh = h) := by
 obtain ⟨n, hn⟩ := anyN_is hF
 exact ok42N n  hn
/-! varve/diff.Patch -/
theorem ok23 {t0 : (List GNode)} {l1 : (List GEdit)} {res : ((List GNode) × Int)} {h : AH}  (hF : diffPatch t0 l1 = some res) : Spec Tryz.prog 23 [.sl 3 (t0.map GNode.row), .sl 22 (l1.map GEdit.row)] h (fun rr hh => rr = .tup [.sl 3 (res.1.map GNode.row), .int .i64 res.2] ∧ hh = h) := by
 unfold diffPatch at hF
 refine ye Tryz.func23 rfl (by kernel_rfl) (env := [.sl 3 (t0.map GNode.row), .sl 22 (l1.map GEdit.row), za, za, za, za, za, za, za, za, za, za, za, za, za, za, za, za, za, za, za, za, za, za, za, za, za, za, za, za, za, za, za, za, za, za, za, za, za, za, za, za, za, za, za, za, za, za, za, za, za, za, za, za, za, za, za, za, za, za, za, za, za, za, za, za, za]) (by rfl) ?_
 refine zk (zd ?_)
 refine zc rfl (zg rfl rfl (ty_nil el24)) st4 ?_
 refine zc rfl (zg rfl rfl (zb rfl)) st5 ?_
 refine ze (zj (zk (zk (zd ?_))))
 refine zc rfl (zf rfl gt0 (zb rfl)) st12 ?_
 refine bindF hF (fun v1 hv1 hF => ?_)
 refine yf rfl (yg rfl rfl rfl (zo gt12 zw) (.cons (zb rfl) .nil)) (ok22 hv1) st13 ?_
 refine zc rfl (s_un rfl gt13 rfl) st14 ?_
 refine zc rfl (zf rfl gt14 (zb rfl)) st15 ?_
 refine zp rfl (fun hb => zf rfl gt1 (zb rfl)) st16 ?_
 refine gbindF hF (fun v2 hv2 hF => ?_)
 refine ops_gcall rfl (fun hb => yg rfl rfl rfl (zo (zn gt16 hb) zw) (.cons (zb rfl) .nil)) (fun hb => ok38 (hv2 hb)) st17 ?_
 refine zp rfl (fun hb => s_un rfl (zn gt17 hb) rfl) st18 ?_
 refine zc rfl (s_pick rfl gt15 rfl gt18 (pick_or (fun ht => gF ht))) st19 ?_
 refine ze (zj ?_)
 refine r_condF gt19 hF (fun hc3 hF => ?_) (fun hc3 hF => ?_)
 ·skip
  refine zk (zd ?_)
  refine zc rfl (zg rfl rfl (ty_nil el24)) st4 ?_
  refine zc rfl (zg rfl rfl (zb rfl)) st5 ?_
  refine ze (zj (r_ret (zx ?_)))
  obtain rfl := Option.some.inj hF
  refine q_retL rfl (yc gt4 (yc gt5 yb)) (zy (leV.tup (.cons (leV.osl _ _ _) (.eq leL.nil))) rfl ?_)
  exact ⟨rfl, rfl⟩
 ·skip
  refine r_skip (zj (zk (zd ?_)))
  refine zc rfl (zf rfl gt0 (zb rfl)) st21 ?_
  refine zc rfl (s_buildSlice (es := ([([42, 42] : Str)] : List Str).map strRow) rfl el26 ze9 rfl rfl (parto_cons rfl parto_nil) (.cons (zb rfl) .nil) rfl rfl rfl) st22 ?_
  refine bindF hF (fun v4 hv4 hF => ?_)
  refine yf rfl (yg rfl rfl rfl (zo gt21 (zo gt22 zw)) (.cons (zb rfl) (.cons (zb rfl) .nil))) ((ok39 hv4).le (.eq (.cons (leV.osl _ _ _) leL.nil))) st23 ?_
  refine zc rfl (zf rfl gt23 (zb rfl)) st20 ?_
  refine zc rfl (s_extract rfl gt20 rfl (zb rfl)) st24 ?_
  refine zc rfl (s_extract rfl gt20 rfl (zb rfl)) st25 ?_
  refine zc rfl (zg rfl gt24 (zb rfl)) st6 ?_
  refine zc rfl (zg rfl gt25 (zb rfl)) st7 ?_
  refine ze (zj (zk (zk (zd ?_))))
  refine zc rfl (zf rfl gt1 (zb rfl)) st26 ?_
  refine ops_len rfl (yh rfl rfl rfl rfl el62 gt26 lenMap) st27 fun hn5 => ?_
  replace hn5 := lenN hn5
  refine zc rfl (zf rfl rfl (zb rfl)) st28 ?_
  refine ze (zj (r_block ?_))
  refine yk (fun (n1 : Nat) (s1 : (List GNode)) => anys [1, 2, 3, 4, 5, 7, 8, 9, 10, 11, 12, 13, 14, 15, 16, 17, 18, 19, 20, 21, 22, 23, 24, 25, 29, 30, 31, 32, 33, 34, 35, 36, 37, 38, 39, 40, 41, 42, 43, 44, 45, 46, 47, 48, 49, 50, 51, 52, 53, 54, 55, 56, 57, 58, 59, 60, 61, 62, 63, 64, 65, 66] [(6, .sl 3 (s1.map GNode.row)), (28, .int .i64 (n1 : Int))]) (fun s1 => h.ext [] []) hF (fun _ _ => by simp only [anys, upd, List.set_cons_succ, List.set_cons_zero]; try rfl) (wk.le (by exact (.eq (.d4 (.drop (.cons (leV.of_eq rfl) (.d16 (.drop (.drop (.drop (.eq (.eq (.cons (leV.of_eq rfl) (.d16 (.d16 (.d4 (.drop (.drop leL.nil)))))))))))))))))) ?_
  intro n1 s1 hi1 hF
  refine zk (zd ?_)
  refine zc rfl (zu rfl gt28 gt27 rfl) st29 ?_
  refine ze (zj (zk ?_))
  refine r_condL gt29 hF (fun x1 o1 hl1 hx1 hF hK1 => ?_) (fun hF => ?_)
  ·skip
   refine r_skip (zj (zk (r_block (zk (zd ?_)))))
   refine zc rfl (s_idxRow rfl el62 gt26 gt28 isl (idx_of hx1)) st30 ?_
   refine zc rfl (yi rfl ty64.choose_spec.1 gt30 (ldC_agX (cs' := [.sl 1 (x1.path.map strRow), .int .u8 x1.typ, .bool x1.had, .bool x1.has, .int .u8 x1.was.typ, .int .i64 x1.was.n, .int .u64 x1.was.time, .int .u8 x1.was.dot.actor.rep, .int .u32 x1.was.dot.actor.inc, .int .u64 x1.was.dot.seq, .str x1.was.text, .sl 5 (x1.was.items.map GItem.row), .sl 3 (x1.was.tombs.map GDot.row), .int .u8 x1.is.typ, .int .i64 x1.is.n, .int .u64 x1.is.time, .int .u8 x1.is.dot.actor.rep, .int .u32 x1.is.dot.actor.inc, .int .u64 x1.is.dot.seq, .str x1.is.text, .sl 5 (x1.is.items.map GItem.row), .sl 3 (x1.is.tombs.map GDot.row)]) ty64.choose_spec.2 rfl rfl) (zb rfl)) st31 ?_
   refine zc rfl (e_alloc (n := 0) rfl ze64 rfl) st9 ?_
   refine zc rfl (e_store (cs' := [.sl 1 (x1.path.map strRow), .int .u8 x1.typ, .bool x1.had, .bool x1.has, .int .u8 x1.was.typ, .int .i64 x1.was.n, .int .u64 x1.was.time, .int .u8 x1.was.dot.actor.rep, .int .u32 x1.was.dot.actor.inc, .int .u64 x1.was.dot.seq, .str x1.was.text, .sl 5 (x1.was.items.map GItem.row), .sl 3 (x1.was.tombs.map GDot.row), .int .u8 x1.is.typ, .int .i64 x1.is.n, .int .u64 x1.is.time, .int .u8 x1.is.dot.actor.rep, .int .u32 x1.is.dot.actor.inc, .int .u64 x1.is.dot.seq, .str x1.is.text, .sl 5 (x1.is.items.map GItem.row), .sl 3 (x1.is.tombs.map GDot.row)]) rfl ty64.choose_spec.1 gt9 gt31 (zb rfl) rfl rfl rfl rfl rfl) rfl ?_
   refine ze (zj (zk (zd ?_)))
   refine zc rfl (zf rfl gt0 (zb rfl)) st33 ?_
   refine zc rfl (zi rfl fo64x0 gt9 rfl) st34 ?_
   refine zc rfl (zt rfl ty26 gt34 rfl (zr rfl) (zb rfl)) st35 ?_
   refine zc rfl (zi rfl fo64x1 gt9 rfl) st36 ?_
   refine zc rfl (zt rfl ty5 gt36 rfl (zr rfl) (zb rfl)) st37 ?_
   refine bindF hF (fun v14 hv14 hF => ?_)
   refine yf rfl (yg rfl rfl rfl (zo gt33 (zo gt35 (zo gt37 zw))) (.cons (zb rfl) (.cons (zb rfl) (.cons (zb rfl) .nil)))) (ok40 hv14) st38 ?_
   refine zc rfl (zf rfl gt38 (zb rfl)) st32 ?_
   refine zc rfl (s_extract rfl gt32 rfl (zb rfl)) st39 ?_
   refine zc rfl (s_extract rfl gt32 rfl (zb rfl)) (sk st0) ?_
   refine zc rfl (e_alloc (n := 1) rfl ze47 rfl) st10 ?_
   refine zc rfl (e_store (cs' := [.int .u8 v14.1.typ, .int .i64 v14.1.n, .int .u64 v14.1.time, .int .u8 v14.1.dot.actor.rep, .int .u32 v14.1.dot.actor.inc, .int .u64 v14.1.dot.seq, .str v14.1.text, .sl 5 (v14.1.items.map GItem.row), .sl 3 (v14.1.tombs.map GDot.row)]) rfl ty47.choose_spec.1 gt10 gt39 (zb rfl) rfl rfl rfl rfl rfl) rfl ?_
   refine zc rfl (zg rfl (gk gt0) (zb rfl)) st11 ?_
   refine ze (zj (zk (zk (zd ?_))))
   refine zc rfl (zf rfl gt11 (zb rfl)) (sk st1) ?_
   refine zc rfl (zi rfl fo64x2 gt9 rfl) (sk st2) ?_
   refine zc rfl (zt rfl ty4 (gk gt2) rfl (zr rfl) (zb rfl)) (sk st3) ?_
   refine zc rfl (zu rfl (gk gt1) (gk gt3) (bin_boolN ty4)) (sk st4) ?_
   refine zc rfl (zf rfl (gk gt4) (zb rfl)) (sk st5) ?_
   refine zp rfl (fun hb => zf rfl gt11 (zb rfl)) (sk st6) ?_
   refine zp rfl (fun hb => zf rfl (zn (gk gt6) hb) (zb rfl)) (sk st7) ?_
   refine zp (aG_gv rfl rfl rfl) (fun hb => zt rfl ty47.choose_spec.1 gt10 rfl (ldC_agX (cs' := [.int .u8 v14.1.typ, .int .i64 v14.1.n, .int .u64 v14.1.time, .int .u8 v14.1.dot.actor.rep, .int .u32 v14.1.dot.actor.inc, .int .u64 v14.1.dot.seq, .str v14.1.text, .sl 5 (v14.1.items.map GItem.row), .sl 3 (v14.1.tombs.map GDot.row)]) ty47.choose_spec.2 rfl rfl) (zb rfl)) (sk st8) ?_
   refine zp (aG_gv rfl rfl rfl) (fun hb => zi rfl fo64x4 gt9 rfl) (sk st9) ?_
   refine zp (aG_gv rfl rfl rfl) (fun hb => zt rfl ty47.choose_spec.1 (zn (gk gt9) hb) rfl (ldC_agX (cs' := [.int .u8 x1.was.typ, .int .i64 x1.was.n, .int .u64 x1.was.time, .int .u8 x1.was.dot.actor.rep, .int .u32 x1.was.dot.actor.inc, .int .u64 x1.was.dot.seq, .str x1.was.text, .sl 5 (x1.was.items.map GItem.row), .sl 3 (x1.was.tombs.map GDot.row)]) ty47.choose_spec.2 rfl rfl) (zb rfl)) (sk st10) ?_
   refine gbindF hF (fun v15 hv15 hF => ?_)
   refine ops_gcall (aG_gv rfl rfl rfl) (fun hb => yg rfl rfl rfl (zo (zn (gk gt8) hb) (zo (zn (gk gt10) hb) zw)) (.cons (zb rfl) (.cons (zb rfl) .nil))) (fun hb => ok41 (hv15 hb)) (sk st11) ?_
   refine zp (aG_gv rfl rfl rfl) (fun hb => s_un rfl (zn (gk gt11) hb) rfl) (sk st12) ?_
   refine zp rfl (fun hb => s_pick rfl (zn (gk gt7) hb) (gk gt12) rfl (pick_and (fun ht => gT2 hb ht))) (sk st13) ?_
   refine zc rfl (s_pick rfl (gk gt5) rfl (gk gt13) (pick_or (fun ht => gF ht))) (sk st14) ?_
   refine ze (zj ?_)
   refine r_condF (gk gt14) hF (fun hc16 hF => ?_) (fun hc16 hF => ?_)
   ·skip
    refine zk (zd ?_)
    refine zc rfl (zg rfl rfl (ty_nil el24)) st4 ?_
    refine zc rfl (zg rfl rfl (zb rfl)) st5 ?_
    refine ze (zj (r_ret (zx ?_)))
    refine yd ?_
    refine zx ?_
    refine q_loop_ret ?_
    obtain rfl := Option.some.inj hF
    replace hF := hK1
    refine yd ?_
    refine zx ?_
    obtain rfl := Option.some.inj hF
    refine q_retL rfl (yc gt4 (yc gt5 yb)) (zy (leV.tup (.cons (leV.osl _ _ _) (.eq leL.nil))) rfl ?_)
    exact ⟨rfl, rfl⟩
   ·skip
    refine r_skip (zj (zd ?_))
    refine zc rfl (zf rfl gt6 (zb rfl)) (sk st15) ?_
    refine zc rfl (zi rfl fo64x0 gt9 rfl) (sk st16) ?_
    refine zc rfl (zt rfl ty26 (gk gt16) rfl (zr rfl) (zb rfl)) (sk st17) ?_
    refine zc rfl (zi rfl fo64x1 gt9 rfl) (sk st18) ?_
    refine zc rfl (zt rfl ty5 (gk gt18) rfl (zr rfl) (zb rfl)) (sk st19) ?_
    refine zc rfl (zi rfl fo64x5 gt9 rfl) (sk st20) ?_
    refine zc rfl (zt rfl ty47.choose_spec.1 (gk gt20) rfl (ldC_agX (cs' := [.int .u8 x1.is.typ, .int .i64 x1.is.n, .int .u64 x1.is.time, .int .u8 x1.is.dot.actor.rep, .int .u32 x1.is.dot.actor.inc, .int .u64 x1.is.dot.seq, .str x1.is.text, .sl 5 (x1.is.items.map GItem.row), .sl 3 (x1.is.tombs.map GDot.row)]) ty47.choose_spec.2 rfl rfl) (zb rfl)) (sk st21) ?_
    refine zc rfl (zi rfl fo64x3 gt9 rfl) (sk st22) ?_
    refine zc rfl (zt rfl ty4 (gk gt22) rfl (zr rfl) (zb rfl)) (sk st23) ?_
    refine bindF hF (fun v17 hv17 hF => ?_)
    refine yf rfl (yg rfl rfl rfl (zo (gk gt15) (zo (gk gt17) (zo (gk gt19) (zo (gk gt21) (zo (gk gt23) zw))))) (.cons (zb rfl) (.cons (zb rfl) (.cons (zb rfl) (.cons (zb rfl) (.cons (zb rfl) .nil)))))) (ok42 hv17) (sk st24) ?_
    refine zc rfl (zg rfl (gk gt24) (zb rfl)) st6 ?_
    refine ze (q_block (zj (zd ?_)))
    refine zc rfl (zu rfl gt28 rfl rfl) (sk st25) ?_
    refine zc rfl (zf rfl (gk gt25) (zb rfl)) st28 ?_
    refine ze (q_loop ?_)
    obtain rfl := Option.some.inj hF
    exact ⟨v17, hl1, hK1, wk.trans (wk.le (by exact (.eq (.d4 (.drop (.cons (leV.of_eq rfl) (.d16 (.drop (.drop (.drop (.eq (.eq (.cons (leV.of_eq (w64e (by omega) (by omega))) (.d16 (.d16 (.d4 (.drop (.drop leL.nil)))))))))))))))))) (wk_ext3 (by simp [lowL, AV.low]) rfl rfl (by simp [Blk.low, lowL, AV.low]))⟩
  ·skip
   refine r_exit ?_
   refine q_seq_exit ?_
   refine yj ?_
   refine q_block_hit ?_
   refine zj (zk (zd ?_))
   refine zc rfl (zf rfl gt6 (zb rfl)) (sk st26) ?_
   refine zc rfl (zg rfl (gk gt26) (zb rfl)) st4 ?_
   refine zc rfl (zg rfl rfl (zb rfl)) st5 ?_
   refine ze (zj (r_ret ?_))
   obtain rfl := Option.some.inj hF
   refine q_retL rfl (yc gt4 (yc gt5 yb)) (zy (leV.refl _) rfl ?_)
   exact ⟨rfl, rfl⟩
/-! varve/rights.View -/
theorem ok9 {l0 : (List GRule)} {rep1 : Int} {t2 : (List GNode)} {res : ((List GNode) × Int)} {h : AH}  (hF : rightsView l0 rep1 t2 = some res) : Spec Tryz.prog 9 [.sl 5 (l0.map GRule.row), .int .u8 rep1, .sl 3 (t2.map GNode.row)] h (fun rr hh => rr = .tup [.sl 3 (res.1.map GNode.row), .int .i64 res.2] ∧ hh = h) := by
 unfold rightsView at hF
 refine ye Tryz.func9 rfl (by kernel_rfl) (env := [.sl 5 (l0.map GRule.row), .int .u8 rep1, .sl 3 (t2.map GNode.row), za, za, za, za, za, za, za, za, za, za, za, za, za, za, za, za, za, za, za, za, za, za, za, za, za, za, za, za, za, za, za, za, za, za, za, za, za, za, za, za, za, za, za, za]) (by rfl) ?_
 refine zk (zd ?_)
 refine zc rfl (zg rfl rfl (ty_nil el24)) st6 ?_
 refine zc rfl (zg rfl rfl (zb rfl)) st7 ?_
 refine ze (zj (zk (zk (zd ?_))))
 refine zc rfl (zf rfl gt0 (zb rfl)) st11 ?_
 refine bindF hF (fun v1 hv1 hF => ?_)
 refine yf rfl (yg rfl rfl rfl (zo gt11 zw) (.cons (zb rfl) .nil)) (ok6 hv1) st12 ?_
 refine zc rfl (s_un rfl gt12 rfl) st13 ?_
 refine zc rfl (zf rfl gt13 (zb rfl)) st14 ?_
 refine zp rfl (fun hb => zf rfl gt2 (zb rfl)) st15 ?_
 refine gbindF hF (fun v2 hv2 hF => ?_)
 refine ops_gcall rfl (fun hb => yg rfl rfl rfl (zo (zn gt15 hb) zw) (.cons (zb rfl) .nil)) (fun hb => ok22 (hv2 hb)) st16 ?_
 refine zp rfl (fun hb => s_un rfl (zn gt16 hb) rfl) st17 ?_
 refine zc rfl (s_pick rfl gt14 rfl gt17 (pick_or (fun ht => gF ht))) st18 ?_
 refine ze (zj ?_)
 refine r_condF gt18 hF (fun hc3 hF => ?_) (fun hc3 hF => ?_)
 ·skip
  refine zk (zd ?_)
  refine zc rfl (zg rfl rfl (ty_nil el24)) st6 ?_
  refine zc rfl (zg rfl rfl (zb rfl)) st7 ?_
  refine ze (zj (r_ret (zx ?_)))
  obtain rfl := Option.some.inj hF
  refine q_retL rfl (yc gt6 (yc gt7 yb)) (zy (leV.tup (.cons (leV.osl _ _ _) (.eq leL.nil))) rfl ?_)
  exact ⟨rfl, rfl⟩
 ·skip
  refine r_skip (zj (zk (zd ?_)))
  refine zc rfl (zg rfl rfl (ty_nil el62)) st8 ?_
  refine ze (zj (zk (zk (zd ?_))))
  refine zc rfl (zf rfl gt2 (zb rfl)) st19 ?_
  refine bindF hF (fun v4 hv4 hF => ?_)
  refine yf rfl (yg rfl rfl rfl (zo gt19 zw) (.cons (zb rfl) .nil)) (ok11 hv4) st20 ?_
  refine ops_len rfl (yh rfl rfl rfl rfl el37 gt20 lenMap) st21 fun hn5 => ?_
  replace hn5 := lenN hn5
  refine zc rfl (zf rfl rfl (zb rfl)) st22 ?_
  refine ze (zj (r_block ?_))
  refine yk (fun (n1 : Nat) (s1 : (List GEdit)) => anys [2, 3, 4, 5, 6, 7, 9, 10, 11, 12, 13, 14, 15, 16, 17, 18, 19, 23, 24, 25, 26, 27, 28, 29, 30, 31, 32, 33, 34, 35, 36, 37, 38, 39, 40, 41, 42, 43, 44, 45, 46] [(8, .osl (some (h.toks.length + 0)) 22 (s1.map GEdit.row)), (22, .int .i64 (n1 : Int))]) (fun s1 => h.ext [] [(s1).length]) hF (fun _ _ => by simp only [anys, upd, List.set_cons_succ, List.set_cons_zero]; try rfl) (wk.trans (wk_tok gt8 rfl st8 rfl) (wk.le (by exact (.eq (.eq (.d4 (.drop (.drop (.cons (leV.of_eq rfl) (.d4 (.d4 (.drop (.drop (.drop (.eq (.eq (.cons (leV.of_eq rfl) (.d16 (.d4 (.d4 leL.nil)))))))))))))))))))) ?_
  intro n1 s1 hi1 hF
  refine zk (zd ?_)
  refine zc rfl (zu rfl gt22 gt21 rfl) st23 ?_
  refine ze (zj (zk ?_))
  refine r_condL gt23 hF (fun x1 o1 hl1 hx1 hF hK1 => ?_) (fun hF => ?_)
  ·skip
   refine r_skip (zj (zk (r_block (zk (zd ?_)))))
   refine zc rfl (s_idxRow rfl el37 gt20 gt22 isl (idx_of hx1)) st24 ?_
   refine zc rfl (yi rfl ty49.choose_spec.1 gt24 (ldC_agX (cs' := [.sl 1 (x1.path.map strRow), .int .u8 x1.leaf.typ, .int .i64 x1.leaf.n, .int .u64 x1.leaf.time, .int .u8 x1.leaf.dot.actor.rep, .int .u32 x1.leaf.dot.actor.inc, .int .u64 x1.leaf.dot.seq, .str x1.leaf.text, .sl 5 (x1.leaf.items.map GItem.row), .sl 3 (x1.leaf.tombs.map GDot.row)]) ty49.choose_spec.2 rfl rfl) (zb rfl)) st25 ?_
   refine zc rfl (e_alloc (n := 0) rfl ze49 rfl) st10 ?_
   refine zc rfl (e_store (cs' := [.sl 1 (x1.path.map strRow), .int .u8 x1.leaf.typ, .int .i64 x1.leaf.n, .int .u64 x1.leaf.time, .int .u8 x1.leaf.dot.actor.rep, .int .u32 x1.leaf.dot.actor.inc, .int .u64 x1.leaf.dot.seq, .str x1.leaf.text, .sl 5 (x1.leaf.items.map GItem.row), .sl 3 (x1.leaf.tombs.map GDot.row)]) rfl ty49.choose_spec.1 gt10 gt25 (zb rfl) rfl rfl rfl rfl rfl) rfl ?_
   refine ze (zj (zk (zd ?_)))
   refine zc rfl (zf rfl gt0 (zb rfl)) st26 ?_
   refine zc rfl (zf rfl gt1 (zb rfl)) st27 ?_
   refine zc rfl (zi rfl fo49x0 gt10 rfl) st28 ?_
   refine zc rfl (zt rfl ty26 gt28 rfl (zr rfl) (zb rfl)) st29 ?_
   refine bindF hF (fun v13 hv13 hF => ?_)
   refine yf rfl (yg rfl rfl rfl (zo gt26 (zo gt27 (zo gt29 zw))) (.cons (zb rfl) (.cons (zb rfl) (.cons (zb rfl) .nil)))) (ok12 hv13) st30 ?_
   refine ze (zj ?_)
   refine r_condF gt30 hF (fun hc14 hF => ?_) (fun hc14 hF => ?_)
   ·skip
    refine zd ?_
    refine zc rfl (zf rfl gt8 (zb rfl)) st31 ?_
    refine zc rfl (zi rfl fo49x0 gt10 rfl) st32 ?_
    refine zc rfl (zt rfl ty26 gt32 rfl (zr rfl) (zb rfl)) st33 ?_
    refine zc rfl (zi rfl fo49x1 gt10 rfl) st34 ?_
    refine zc rfl (zi rfl fo47x0 gt34 rfl) st35 ?_
    refine zc rfl (zt rfl ty5 gt35 rfl (zr rfl) (zb rfl)) st36 ?_
    refine zc rfl (zi rfl fo49x1 gt10 rfl) st37 ?_
    refine zc rfl (zt rfl ty47.choose_spec.1 gt37 rfl (ldC_agX (cs' := [.int .u8 x1.leaf.typ, .int .i64 x1.leaf.n, .int .u64 x1.leaf.time, .int .u8 x1.leaf.dot.actor.rep, .int .u32 x1.leaf.dot.actor.inc, .int .u64 x1.leaf.dot.seq, .str x1.leaf.text, .sl 5 (x1.leaf.items.map GItem.row), .sl 3 (x1.leaf.tombs.map GDot.row)]) ty47.choose_spec.2 rfl rfl) (zb rfl)) st38 ?_
    refine zc rfl (s_build (cs' := [.sl 1 (x1.path.map strRow), .int .u8 x1.leaf.typ, .bool false, .bool true, .int .u8 (0 : Int), .int .i64 (0 : Int), .int .u64 (0 : Int), .int .u8 (0 : Int), .int .u32 (0 : Int), .int .u64 (0 : Int), .str ([] : Str), .osl none 5 (([] : List GItem).map GItem.row), .osl none 3 (([] : List GDot).map GDot.row), .int .u8 x1.leaf.typ, .int .i64 x1.leaf.n, .int .u64 x1.leaf.time, .int .u8 x1.leaf.dot.actor.rep, .int .u32 x1.leaf.dot.actor.inc, .int .u64 x1.leaf.dot.seq, .str x1.leaf.text, .sl 5 (x1.leaf.items.map GItem.row), .sl 3 (x1.leaf.tombs.map GDot.row)]) rfl su64 ze64 pl64 (parto_cons gt33 (parto_cons gt36 (parto_cons rfl (parto_cons gt38 parto_nil)))) (.cons (zb rfl) (.cons (zb rfl) (.cons (zb rfl) (.cons (zb rfl) .nil)))) rfl rfl) st39 ?_
    refine zc rfl (s_buildSlice (es := ([(GEdit.mk x1.path x1.leaf.typ false true (GLeaf.mk (0 : Int) (0 : Int) (0 : Int) (GDot.mk (GActor.mk (0 : Int) (0 : Int)) (0 : Int)) ([] : Str) ([] : List GItem) ([] : List GDot)) x1.leaf)] : List GEdit).map GEdit.row) rfl el62 ze64 rfl rfl (parto_cons gt39 parto_nil) (.cons (zb rfl) .nil) rfl rfl rfl) (sk st0) ?_
    refine chkF hF (fun hm15 hF => ?_)
    refine zc rfl (e_appT (j := 0) (T' := [((s1 ++ ([(GEdit.mk x1.path x1.leaf.typ false true (GLeaf.mk (0 : Int) (0 : Int) (0 : Int) (GDot.mk (GActor.mk (0 : Int) (0 : Int)) (0 : Int)) ([] : Str) ([] : List GItem) ([] : List GDot)) x1.leaf)] : List GEdit))).length]) rfl rfl rfl rfl el62 el62 gt31 (gk gt0) (zb rfl) (zb rfl) news_osl hm15 rfl rfl) (sk st1) ?_
    refine zc rfl (zg rfl (gk gt1) (zb rfl)) st8 ?_
    refine ze (q_block (zj (zd ?_)))
    refine zc rfl (zu rfl gt22 rfl rfl) (sk st2) ?_
    refine zc rfl (zf rfl (gk gt2) (zb rfl)) st22 ?_
    refine ze (q_loop ?_)
    obtain rfl := Option.some.inj hF
    exact ⟨(s1 ++ ([(GEdit.mk x1.path x1.leaf.typ false true (GLeaf.mk (0 : Int) (0 : Int) (0 : Int) (GDot.mk (GActor.mk (0 : Int) (0 : Int)) (0 : Int)) ([] : Str) ([] : List GItem) ([] : List GDot)) x1.leaf)] : List GEdit)), hl1, hK1, wk.trans (wk.le (by exact (.eq (.eq (.d4 (.drop (.drop (.cons (leV.of_eq rfl) (.d4 (.d4 (.drop (.drop (.drop (.eq (.eq (.cons (leV.of_eq (w64e (by omega) (by omega))) (.d16 (.d4 (.d4 leL.nil))))))))))))))))))) (wk_ext3 (by simp [lowL, AV.low]) rfl rfl (by simp [Blk.low, lowL, AV.low]))⟩
   ·skip
    refine r_skip (q_block (zj (zd ?_)))
    refine zc rfl (zu rfl gt22 rfl rfl) (sk st2) ?_
    refine zc rfl (zf rfl (gk gt2) (zb rfl)) st22 ?_
    refine ze (q_loop ?_)
    obtain rfl := Option.some.inj hF
    exact ⟨s1, hl1, hK1, wk.trans (wk.le (by exact (.eq (.eq (.d4 (.drop (.drop (.cons (leV.of_eq rfl) (.d4 (.d4 (.drop (.drop (.drop (.eq (.eq (.cons (leV.of_eq (w64e (by omega) (by omega))) (.d16 (.d4 (.d4 leL.nil))))))))))))))))))) (wk_ext3 (by simp [lowL, AV.low]) rfl rfl (by simp [Blk.low, lowL, AV.low]))⟩
  ·skip
   refine r_exit ?_
   refine q_seq_exit ?_
   refine yj ?_
   refine q_block_hit ?_
   refine zj (zk (zd ?_))
   refine zc rfl (zf rfl gt8 (zb rfl)) (sk st3) ?_
   refine bindF hF (fun v16 hv16 hF => ?_)
   refine yf rfl (yg rfl rfl rfl (zo rfl (zo (gk gt3) zw)) (.cons (ty_nil el24) (.cons (zb rfl) .nil))) ((ok23 hv16).le (.cons (leV.osl _ _ _) (.cons (leV.osl _ _ _) leL.nil))) (sk st4) ?_
   refine zc rfl (s_extract rfl (gk gt4) rfl (zb rfl)) (sk st5) ?_
   refine zc rfl (s_extract rfl (gk gt4) rfl (zb rfl)) (sk st6) ?_
   refine zc rfl (zg rfl (gk gt5) (zb rfl)) st6 ?_
   refine zc rfl (zg rfl (gk gt6) (zb rfl)) st7 ?_
   refine ze (zj (r_ret ?_))
   obtain rfl := Option.some.inj hF
   refine q_retL rfl (yc gt6 (yc gt7 yb)) (zy (leV.refl _) rfl ?_)
   exact ⟨rfl, rfl⟩
end Go.Vv
