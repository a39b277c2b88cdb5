/- Each function that the law reaches computes what its reading says; printed by a program. -/
import Derived.Test.YtfikkifcjpphiaaGreatW1
namespace Go.Vv
open Go Go.Proofs
set_option maxRecDepth 100000
set_option maxHeartbeats 1000000
set_option linter.unusedSimpArgs false
set_option linter.unusedVariables false
/-! cmp.Or[int] -/
theorem ok96 {vals0 : (List Int)} {res : Int} {h : AH}  (hF : cmpOrInt vals0 = some res) : Spec Tryz.prog 96 [.sl 1 (vals0.map (intRow .i64))] h (fun rr hh => rr = .int .i64 res ∧ hh = h) := by
 unfold cmpOrInt at hF
 refine ye Tryz.func96 rfl (by kernel_rfl) (env := [.sl 1 (vals0.map (intRow .i64)), za, za, za, za, za, za, za, za, za, za, za, za, za, za, za, za, za]) (by rfl) ?_
 refine zk (zd ?_)
 refine zc rfl (zg rfl rfl (zb rfl)) st2 ?_
 refine ze (zj (zk (zd ?_)))
 refine zc rfl (zg rfl rfl (zb rfl)) st3 ?_
 refine ze (zj (zk (zk (zd ?_))))
 refine zc rfl (zf rfl gt0 (zb rfl)) st6 ?_
 refine ops_len rfl (yh rfl rfl rfl rfl el142 gt6 lenMap) st7 fun hn1 => ?_
 replace hn1 := lenN hn1
 refine zc rfl (zf rfl rfl (zb rfl)) st8 ?_
 refine ze (zj (r_block ?_))
 refine yk (fun (n1 : Nat) (s1 : Unit) => anys [0, 1, 2, 4, 5, 9, 10, 11, 12, 13, 14, 15, 16, 17] [(8, .int .i64 (n1 : Int))]) (fun s1 => h.ext [] []) hF (fun _ _ => by simp only [anys, upd, List.set_cons_succ, List.set_cons_zero]; try rfl) (wk.le (by exact (.drop (.drop (.drop (.eq (.drop (.drop (.eq (.eq (.cons (leV.of_eq rfl) (.d4 (.d4 (.drop leL.nil)))))))))))))) ?_
 intro n1 s1 hi1 hF
 refine zk (zd ?_)
 refine zc rfl (zu rfl gt8 gt7 rfl) st9 ?_
 refine ze (zj (zk ?_))
 refine r_condL gt9 hF (fun x1 o1 hl1 hx1 hF hK1 => ?_) (fun hF => ?_)
 ·skip
  refine r_skip (zj (zk (r_block (zk (zd ?_)))))
  refine zc rfl (s_idxRow rfl el142 gt6 gt8 isl (idx_of hx1)) st10 ?_
  refine zc rfl (yi rfl ty3 gt10 (zr rfl) (zb rfl)) st11 ?_
  refine zc rfl (zg rfl gt11 (zb rfl)) st5 ?_
  refine ze (zj (zk (zd ?_)))
  refine zc rfl (zf rfl gt5 (zb rfl)) st12 ?_
  refine zc rfl (zf rfl gt3 (zb rfl)) st13 ?_
  refine zc rfl (zu rfl gt12 gt13 rfl) st14 ?_
  refine ze (zj ?_)
  refine r_condF gt14 hF (fun hc6 hF => ?_) (fun hc6 hF => ?_)
  ·skip
   refine zk (zd ?_)
   refine zc rfl (zf rfl gt5 (zb rfl)) st15 ?_
   refine zc rfl (zg rfl gt15 (zb rfl)) st2 ?_
   refine ze (zj (r_ret ?_))
   refine yd ?_
   refine zx ?_
   refine q_loop_ret ?_
   obtain rfl := Option.some.inj hF
   replace hF := hK1
   refine yd ?_
   refine zx ?_
   obtain rfl := Option.some.inj hF
   refine zz rfl (yc gt2 yb) (zy (leV.refl _) rfl ?_)
   exact ⟨rfl, rfl⟩
  ·skip
   refine r_skip (q_block (zj (zd ?_)))
   refine zc rfl (zu rfl gt8 rfl rfl) st16 ?_
   refine zc rfl (zf rfl gt16 (zb rfl)) st8 ?_
   refine ze (q_loop ?_)
   obtain rfl := Option.some.inj hF
   exact ⟨(), hl1, hK1, wk.le (by exact (.drop (.drop (.drop (.eq (.drop (.drop (.eq (.eq (.cons (leV.of_eq (w64e (by omega) (by omega))) (.d4 (.d4 (.drop leL.nil)))))))))))))⟩
 ·skip
  refine r_exit ?_
  refine q_seq_exit ?_
  refine yj ?_
  refine q_block_hit ?_
  refine zj (zk (zd ?_))
  refine zc rfl (zf rfl gt3 (zb rfl)) st17 ?_
  refine zc rfl (zg rfl gt17 (zb rfl)) st2 ?_
  refine ze (zj (r_ret ?_))
  obtain rfl := Option.some.inj hF
  refine zz rfl (yc gt2 yb) (zy (leV.refl _) rfl ?_)
  exact ⟨rfl, rfl⟩
/-! cmp.isNaN[uint8] -/
theorem ok103 {x0 : Int} {res : Bool} {h : AH}  (hF : cmpXisNaNUint8 x0 = some res) : Spec Tryz.prog 103 [.int .u8 x0] h (fun rr hh => rr = .bool res ∧ hh = h) := by
 unfold cmpXisNaNUint8 at hF
 refine ye Tryz.func103 rfl (by kernel_rfl) (env := [.int .u8 x0, za, za, za, za, za]) (by rfl) ?_
 refine zk (zd ?_)
 refine zc rfl (zg rfl rfl (zb rfl)) st2 ?_
 refine ze (zj (zk (zd ?_)))
 refine zc rfl (zf rfl gt0 (zb rfl)) st3 ?_
 refine zc rfl (zf rfl gt0 (zb rfl)) st4 ?_
 refine zc rfl (zu rfl gt3 gt4 rfl) st5 ?_
 refine zc rfl (zg rfl gt5 (zb rfl)) st2 ?_
 refine ze (zj (r_ret ?_))
 obtain rfl := Option.some.inj hF
 refine zz rfl (yc gt2 yb) (zy (leV.refl _) rfl ?_)
 exact ⟨rfl, rfl⟩
/-! cmp.Compare[uint8] -/
theorem ok81 {x0 : Int} {y1 : Int} {res : Int} {h : AH}  (hF : cmpCompareUint8 x0 y1 = some res) : Spec Tryz.prog 81 [.int .u8 x0, .int .u8 y1] h (fun rr hh => rr = .int .i64 res ∧ hh = h) := by
 unfold cmpCompareUint8 at hF
 refine ye Tryz.func81 rfl (by kernel_rfl) (env := [.int .u8 x0, .int .u8 y1, za, za, za, za, za, za, za, za, za, za, za, za, za, za, za, za, za, za]) (by rfl) ?_
 refine zk (zd ?_)
 refine zc rfl (zg rfl rfl (zb rfl)) st4 ?_
 refine ze (zj (zk (zd ?_)))
 refine zc rfl (zf rfl gt0 (zb rfl)) st7 ?_
 refine bindF hF (fun v1 hv1 hF => ?_)
 refine yf rfl (yg rfl rfl rfl (zo gt7 zw) (.cons (zb rfl) .nil)) (ok103 hv1) st8 ?_
 refine zc rfl (zg rfl gt8 (zb rfl)) st5 ?_
 refine ze (zj (zk (zd ?_)))
 refine zc rfl (zf rfl gt1 (zb rfl)) st9 ?_
 refine bindF hF (fun v2 hv2 hF => ?_)
 refine yf rfl (yg rfl rfl rfl (zo gt9 zw) (.cons (zb rfl) .nil)) (ok103 hv2) st10 ?_
 refine zc rfl (zg rfl gt10 (zb rfl)) st6 ?_
 refine ze (zj (zk (zk (zd ?_))))
 refine zc rfl (zf rfl gt5 (zb rfl)) st11 ?_
 refine ze (zj ?_)
 refine r_condF gt11 hF (fun hc3 hF => ?_) (fun hc3 hF => ?_)
 ·skip
  refine zk (zk (zd ?_))
  refine zc rfl (zf rfl gt6 (zb rfl)) st12 ?_
  refine ze (zj ?_)
  refine r_condF gt12 hF (fun hc4 hF => ?_) (fun hc4 hF => ?_)
  ·skip
   refine zk (zd ?_)
   refine zc rfl (zg rfl rfl (zb rfl)) st4 ?_
   refine ze (zj (r_ret (zx (zx ?_))))
   obtain rfl := Option.some.inj hF
   refine zz rfl (yc gt4 yb) (zy (leV.refl _) rfl ?_)
   exact ⟨rfl, rfl⟩
  ·skip
   refine r_skip (zj (zk (zd ?_)))
   refine zc rfl (zg rfl rfl (zb rfl)) st4 ?_
   refine ze (zj (r_ret (zx ?_)))
   obtain rfl := Option.some.inj hF
   refine zz rfl (yc gt4 yb) (zy (leV.refl _) rfl ?_)
   exact ⟨rfl, rfl⟩
 ·skip
  refine r_skip (zj (zk (zk (zd ?_))))
  refine zc rfl (zf rfl gt6 (zb rfl)) st13 ?_
  refine ze (zj ?_)
  refine r_condF gt13 hF (fun hc5 hF => ?_) (fun hc5 hF => ?_)
  ·skip
   refine zk (zd ?_)
   refine zc rfl (zg rfl rfl (zb rfl)) st4 ?_
   refine ze (zj (r_ret (zx ?_)))
   obtain rfl := Option.some.inj hF
   refine zz rfl (yc gt4 yb) (zy (leV.refl _) rfl ?_)
   exact ⟨rfl, rfl⟩
  ·skip
   refine r_skip (zj (zk (zk (zd ?_))))
   refine zc rfl (zf rfl gt0 (zb rfl)) st14 ?_
   refine zc rfl (zf rfl gt1 (zb rfl)) st15 ?_
   refine zc rfl (zu rfl gt14 gt15 rfl) st16 ?_
   refine ze (zj ?_)
   refine r_condF gt16 hF (fun hc6 hF => ?_) (fun hc6 hF => ?_)
   ·skip
    refine zk (zd ?_)
    refine zc rfl (zg rfl rfl (zb rfl)) st4 ?_
    refine ze (zj (r_ret (zx ?_)))
    obtain rfl := Option.some.inj hF
    refine zz rfl (yc gt4 yb) (zy (leV.refl _) rfl ?_)
    exact ⟨rfl, rfl⟩
   ·skip
    refine r_skip (zj (zk (zk (zd ?_))))
    refine zc rfl (zf rfl gt0 (zb rfl)) st17 ?_
    refine zc rfl (zf rfl gt1 (zb rfl)) st18 ?_
    refine zc rfl (zu rfl gt17 gt18 rfl) st19 ?_
    refine ze (zj ?_)
    refine r_condF gt19 hF (fun hc7 hF => ?_) (fun hc7 hF => ?_)
    ·skip
     refine zk (zd ?_)
     refine zc rfl (zg rfl rfl (zb rfl)) st4 ?_
     refine ze (zj (r_ret (zx ?_)))
     obtain rfl := Option.some.inj hF
     refine zz rfl (yc gt4 yb) (zy (leV.refl _) rfl ?_)
     exact ⟨rfl, rfl⟩
    ·skip
     refine r_skip (zj (zk (zd ?_)))
     refine zc rfl (zg rfl rfl (zb rfl)) st4 ?_
     refine ze (zj (r_ret ?_))
     obtain rfl := Option.some.inj hF
     refine zz rfl (yc gt4 yb) (zy (leV.refl _) rfl ?_)
     exact ⟨rfl, rfl⟩
/-! cmp.isNaN[uint32] -/
theorem ok138 {x0 : Int} {res : Bool} {h : AH}  (hF : cmpXisNaNUint32 x0 = some res) : Spec Tryz.prog 138 [.int .u32 x0] h (fun rr hh => rr = .bool res ∧ hh = h) := by
 unfold cmpXisNaNUint32 at hF
 refine ye Tryz.func138 rfl (by kernel_rfl) (env := [.int .u32 x0, za, za, za, za, za]) (by rfl) ?_
 refine zk (zd ?_)
 refine zc rfl (zg rfl rfl (zb rfl)) st2 ?_
 refine ze (zj (zk (zd ?_)))
 refine zc rfl (zf rfl gt0 (zb rfl)) st3 ?_
 refine zc rfl (zf rfl gt0 (zb rfl)) st4 ?_
 refine zc rfl (zu rfl gt3 gt4 rfl) st5 ?_
 refine zc rfl (zg rfl gt5 (zb rfl)) st2 ?_
 refine ze (zj (r_ret ?_))
 obtain rfl := Option.some.inj hF
 refine zz rfl (yc gt2 yb) (zy (leV.refl _) rfl ?_)
 exact ⟨rfl, rfl⟩
/-! cmp.Compare[uint32] -/
theorem ok134 {x0 : Int} {y1 : Int} {res : Int} {h : AH}  (hF : cmpCompareUint32 x0 y1 = some res) : Spec Tryz.prog 134 [.int .u32 x0, .int .u32 y1] h (fun rr hh => rr = .int .i64 res ∧ hh = h) := by
 unfold cmpCompareUint32 at hF
 refine ye Tryz.func134 rfl (by kernel_rfl) (env := [.int .u32 x0, .int .u32 y1, za, za, za, za, za, za, za, za, za, za, za, za, za, za, za, za, za, za]) (by rfl) ?_
 refine zk (zd ?_)
 refine zc rfl (zg rfl rfl (zb rfl)) st4 ?_
 refine ze (zj (zk (zd ?_)))
 refine zc rfl (zf rfl gt0 (zb rfl)) st7 ?_
 refine bindF hF (fun v1 hv1 hF => ?_)
 refine yf rfl (yg rfl rfl rfl (zo gt7 zw) (.cons (zb rfl) .nil)) (ok138 hv1) st8 ?_
 refine zc rfl (zg rfl gt8 (zb rfl)) st5 ?_
 refine ze (zj (zk (zd ?_)))
 refine zc rfl (zf rfl gt1 (zb rfl)) st9 ?_
 refine bindF hF (fun v2 hv2 hF => ?_)
 refine yf rfl (yg rfl rfl rfl (zo gt9 zw) (.cons (zb rfl) .nil)) (ok138 hv2) st10 ?_
 refine zc rfl (zg rfl gt10 (zb rfl)) st6 ?_
 refine ze (zj (zk (zk (zd ?_))))
 refine zc rfl (zf rfl gt5 (zb rfl)) st11 ?_
 refine ze (zj ?_)
 refine r_condF gt11 hF (fun hc3 hF => ?_) (fun hc3 hF => ?_)
 ·skip
  refine zk (zk (zd ?_))
  refine zc rfl (zf rfl gt6 (zb rfl)) st12 ?_
  refine ze (zj ?_)
  refine r_condF gt12 hF (fun hc4 hF => ?_) (fun hc4 hF => ?_)
  ·skip
   refine zk (zd ?_)
   refine zc rfl (zg rfl rfl (zb rfl)) st4 ?_
   refine ze (zj (r_ret (zx (zx ?_))))
   obtain rfl := Option.some.inj hF
   refine zz rfl (yc gt4 yb) (zy (leV.refl _) rfl ?_)
   exact ⟨rfl, rfl⟩
  ·skip
   refine r_skip (zj (zk (zd ?_)))
   refine zc rfl (zg rfl rfl (zb rfl)) st4 ?_
   refine ze (zj (r_ret (zx ?_)))
   obtain rfl := Option.some.inj hF
   refine zz rfl (yc gt4 yb) (zy (leV.refl _) rfl ?_)
   exact ⟨rfl, rfl⟩
 ·skip
  refine r_skip (zj (zk (zk (zd ?_))))
  refine zc rfl (zf rfl gt6 (zb rfl)) st13 ?_
  refine ze (zj ?_)
  refine r_condF gt13 hF (fun hc5 hF => ?_) (fun hc5 hF => ?_)
  ·skip
   refine zk (zd ?_)
   refine zc rfl (zg rfl rfl (zb rfl)) st4 ?_
   refine ze (zj (r_ret (zx ?_)))
   obtain rfl := Option.some.inj hF
   refine zz rfl (yc gt4 yb) (zy (leV.refl _) rfl ?_)
   exact ⟨rfl, rfl⟩
  ·skip
   refine r_skip (zj (zk (zk (zd ?_))))
   refine zc rfl (zf rfl gt0 (zb rfl)) st14 ?_
   refine zc rfl (zf rfl gt1 (zb rfl)) st15 ?_
   refine zc rfl (zu rfl gt14 gt15 rfl) st16 ?_
   refine ze (zj ?_)
   refine r_condF gt16 hF (fun hc6 hF => ?_) (fun hc6 hF => ?_)
   ·skip
    refine zk (zd ?_)
    refine zc rfl (zg rfl rfl (zb rfl)) st4 ?_
    refine ze (zj (r_ret (zx ?_)))
    obtain rfl := Option.some.inj hF
    refine zz rfl (yc gt4 yb) (zy (leV.refl _) rfl ?_)
    exact ⟨rfl, rfl⟩
   ·skip
    refine r_skip (zj (zk (zk (zd ?_))))
    refine zc rfl (zf rfl gt0 (zb rfl)) st17 ?_
    refine zc rfl (zf rfl gt1 (zb rfl)) st18 ?_
    refine zc rfl (zu rfl gt17 gt18 rfl) st19 ?_
    refine ze (zj ?_)
    refine r_condF gt19 hF (fun hc7 hF => ?_) (fun hc7 hF => ?_)
    ·skip
     refine zk (zd ?_)
     refine zc rfl (zg rfl rfl (zb rfl)) st4 ?_
     refine ze (zj (r_ret (zx ?_)))
     obtain rfl := Option.some.inj hF
     refine zz rfl (yc gt4 yb) (zy (leV.refl _) rfl ?_)
     exact ⟨rfl, rfl⟩
    ·skip
     refine r_skip (zj (zk (zd ?_)))
     refine zc rfl (zg rfl rfl (zb rfl)) st4 ?_
     refine ze (zj (r_ret ?_))
     obtain rfl := Option.some.inj hF
     refine zz rfl (yc gt4 yb) (zy (leV.refl _) rfl ?_)
     exact ⟨rfl, rfl⟩
/-! varve/dot.compare -/
theorem ok123 {a0 : GActor} {b1 : GActor} {res : Int} {h : AH}  (hF : dotXcompare a0 b1 = some res) : Spec Tryz.prog 123 [.agg [.int .u8 a0.rep, .int .u32 a0.inc], .agg [.int .u8 b1.rep, .int .u32 b1.inc]] h (fun rr hh => rr = .int .i64 res ∧ hh = h) := by
 unfold dotXcompare at hF
 refine ye Tryz.func123 rfl (by kernel_rfl) (env := [.agg [.int .u8 a0.rep, .int .u32 a0.inc], .agg [.int .u8 b1.rep, .int .u32 b1.inc], za, za, za, za, za, za, za, za, za, za, za, za, za, za, za]) (by rfl) ?_
 refine zk (zd ?_)
 refine zc rfl (e_box (n := 0) rfl gt0 (zb rfl) rfl rfl) st2 ?_
 refine zc rfl (e_box (n := 1) rfl gt1 (zb rfl) rfl rfl) st3 ?_
 refine zc rfl (zg rfl rfl (zb rfl)) st4 ?_
 refine ze (zj (zk ?_))
 refine r_drawn [4, 9, 11] [] trivial mixed (by kernel_rfl) ?_
 refine zq rfl rfl (zi rfl fo42x0 gt2 rfl) st5 ?_
 refine zq rfl rfl (zt rfl ty5 gt5 rfl (zr rfl) (zb rfl)) st6 ?_
 refine zq rfl rfl (zi rfl fo42x0 gt3 rfl) st7 ?_
 refine zq rfl rfl (zt rfl ty5 gt7 rfl (zr rfl) (zb rfl)) st8 ?_
 refine bindF hF (fun v1 hv1 hF => ?_)
 refine draw_callN rfl rfl (fun _ => yg rfl rfl rfl (zo gt6 (zo gt8 zw)) (.cons (zb rfl) (.cons (zb rfl) .nil))) (by rintro _ ⟨B2, T2, rfl, hk2⟩; exact ok81 hv1) st9 ?_
 refine zq rfl rfl (zi rfl fo42x1 gt2 rfl) st10 ?_
 refine zq rfl rfl (zt rfl ty40 gt10 rfl (zr rfl) (zb rfl)) st11 ?_
 refine zq rfl rfl (zi rfl fo42x1 gt3 rfl) st12 ?_
 refine zq rfl rfl (zt rfl ty40 gt12 rfl (zr rfl) (zb rfl)) st13 ?_
 refine bindF hF (fun v2 hv2 hF => ?_)
 refine draw_callN rfl rfl (fun _ => yg rfl rfl rfl (zo gt11 (zo gt13 zw)) (.cons (zb rfl) (.cons (zb rfl) .nil))) (by rintro _ ⟨B2, T2, rfl, hk2⟩; exact ok134 hv2) st14 ?_
 refine zq rfl rfl (s_buildSlice (es := ([v1, v2] : List Int).map (intRow .i64)) rfl el142 ze3 rfl rfl (parto_cons gt9 (parto_cons gt14 parto_nil)) (.cons (zb rfl) (.cons (zb rfl) .nil)) rfl rfl rfl) st15 ?_
 refine bindF hF (fun v3 hv3 hF => ?_)
 refine draw_callN rfl rfl (fun _ => yg rfl rfl rfl (zo gt15 zw) (.cons (zb rfl) .nil)) (by rintro _ ⟨B2, T2, rfl, hk2⟩; exact (ok96 hv3).le (.cons (leV.osl _ _ _) leL.nil)) st16 ?_
 refine zq rfl rfl (zg rfl gt16 (zb rfl)) st4 ?_
 refine draw_nil ?_
 refine zj (r_ret ?_)
 obtain rfl := Option.some.inj hF
 refine zz rfl (yc gt4 yb) (zy (leV.refl _) rfl ?_)
 exact ⟨rfl, rfl⟩
/-! cmp.isNaN[uint64] -/
theorem ok135 {x0 : Int} {res : Bool} {h : AH}  (hF : cmpXisNaNUint64 x0 = some res) : Spec Tryz.prog 135 [.int .u64 x0] h (fun rr hh => rr = .bool res ∧ hh = h) := by
 unfold cmpXisNaNUint64 at hF
 refine ye Tryz.func135 rfl (by kernel_rfl) (env := [.int .u64 x0, za, za, za, za, za]) (by rfl) ?_
 refine zk (zd ?_)
 refine zc rfl (zg rfl rfl (zb rfl)) st2 ?_
 refine ze (zj (zk (zd ?_)))
 refine zc rfl (zf rfl gt0 (zb rfl)) st3 ?_
 refine zc rfl (zf rfl gt0 (zb rfl)) st4 ?_
 refine zc rfl (zu rfl gt3 gt4 rfl) st5 ?_
 refine zc rfl (zg rfl gt5 (zb rfl)) st2 ?_
 refine ze (zj (r_ret ?_))
 obtain rfl := Option.some.inj hF
 refine zz rfl (yc gt2 yb) (zy (leV.refl _) rfl ?_)
 exact ⟨rfl, rfl⟩
/-! cmp.Compare[uint64] -/
theorem ok124 {x0 : Int} {y1 : Int} {res : Int} {h : AH}  (hF : cmpCompareUint64 x0 y1 = some res) : Spec Tryz.prog 124 [.int .u64 x0, .int .u64 y1] h (fun rr hh => rr = .int .i64 res ∧ hh = h) := by
 unfold cmpCompareUint64 at hF
 refine ye Tryz.func124 rfl (by kernel_rfl) (env := [.int .u64 x0, .int .u64 y1, za, za, za, za, za, za, za, za, za, za, za, za, za, za, za, za, za, za]) (by rfl) ?_
 refine zk (zd ?_)
 refine zc rfl (zg rfl rfl (zb rfl)) st4 ?_
 refine ze (zj (zk (zd ?_)))
 refine zc rfl (zf rfl gt0 (zb rfl)) st7 ?_
 refine bindF hF (fun v1 hv1 hF => ?_)
 refine yf rfl (yg rfl rfl rfl (zo gt7 zw) (.cons (zb rfl) .nil)) (ok135 hv1) st8 ?_
 refine zc rfl (zg rfl gt8 (zb rfl)) st5 ?_
 refine ze (zj (zk (zd ?_)))
 refine zc rfl (zf rfl gt1 (zb rfl)) st9 ?_
 refine bindF hF (fun v2 hv2 hF => ?_)
 refine yf rfl (yg rfl rfl rfl (zo gt9 zw) (.cons (zb rfl) .nil)) (ok135 hv2) st10 ?_
 refine zc rfl (zg rfl gt10 (zb rfl)) st6 ?_
 refine ze (zj (zk (zk (zd ?_))))
 refine zc rfl (zf rfl gt5 (zb rfl)) st11 ?_
 refine ze (zj ?_)
 refine r_condF gt11 hF (fun hc3 hF => ?_) (fun hc3 hF => ?_)
 ·skip
  refine zk (zk (zd ?_))
  refine zc rfl (zf rfl gt6 (zb rfl)) st12 ?_
  refine ze (zj ?_)
  refine r_condF gt12 hF (fun hc4 hF => ?_) (fun hc4 hF => ?_)
  ·skip
   refine zk (zd ?_)
   refine zc rfl (zg rfl rfl (zb rfl)) st4 ?_
   refine ze (zj (r_ret (zx (zx ?_))))
   obtain rfl := Option.some.inj hF
   refine zz rfl (yc gt4 yb) (zy (leV.refl _) rfl ?_)
   exact ⟨rfl, rfl⟩
  ·skip
   refine r_skip (zj (zk (zd ?_)))
   refine zc rfl (zg rfl rfl (zb rfl)) st4 ?_
   refine ze (zj (r_ret (zx ?_)))
   obtain rfl := Option.some.inj hF
   refine zz rfl (yc gt4 yb) (zy (leV.refl _) rfl ?_)
   exact ⟨rfl, rfl⟩
 ·skip
  refine r_skip (zj (zk (zk (zd ?_))))
  refine zc rfl (zf rfl gt6 (zb rfl)) st13 ?_
  refine ze (zj ?_)
  refine r_condF gt13 hF (fun hc5 hF => ?_) (fun hc5 hF => ?_)
  ·skip
   refine zk (zd ?_)
   refine zc rfl (zg rfl rfl (zb rfl)) st4 ?_
   refine ze (zj (r_ret (zx ?_)))
   obtain rfl := Option.some.inj hF
   refine zz rfl (yc gt4 yb) (zy (leV.refl _) rfl ?_)
   exact ⟨rfl, rfl⟩
  ·skip
   refine r_skip (zj (zk (zk (zd ?_))))
   refine zc rfl (zf rfl gt0 (zb rfl)) st14 ?_
   refine zc rfl (zf rfl gt1 (zb rfl)) st15 ?_
   refine zc rfl (zu rfl gt14 gt15 rfl) st16 ?_
   refine ze (zj ?_)
   refine r_condF gt16 hF (fun hc6 hF => ?_) (fun hc6 hF => ?_)
   ·skip
    refine zk (zd ?_)
    refine zc rfl (zg rfl rfl (zb rfl)) st4 ?_
    refine ze (zj (r_ret (zx ?_)))
    obtain rfl := Option.some.inj hF
    refine zz rfl (yc gt4 yb) (zy (leV.refl _) rfl ?_)
    exact ⟨rfl, rfl⟩
   ·skip
    refine r_skip (zj (zk (zk (zd ?_))))
    refine zc rfl (zf rfl gt0 (zb rfl)) st17 ?_
    refine zc rfl (zf rfl gt1 (zb rfl)) st18 ?_
    refine zc rfl (zu rfl gt17 gt18 rfl) st19 ?_
    refine ze (zj ?_)
    refine r_condF gt19 hF (fun hc7 hF => ?_) (fun hc7 hF => ?_)
    ·skip
     refine zk (zd ?_)
     refine zc rfl (zg rfl rfl (zb rfl)) st4 ?_
     refine ze (zj (r_ret (zx ?_)))
     obtain rfl := Option.some.inj hF
     refine zz rfl (yc gt4 yb) (zy (leV.refl _) rfl ?_)
     exact ⟨rfl, rfl⟩
    ·skip
     refine r_skip (zj (zk (zd ?_)))
     refine zc rfl (zg rfl rfl (zb rfl)) st4 ?_
     refine ze (zj (r_ret ?_))
     obtain rfl := Option.some.inj hF
     refine zz rfl (yc gt4 yb) (zy (leV.refl _) rfl ?_)
     exact ⟨rfl, rfl⟩
/-! varve/dot.Compare -/
theorem ok105 {a0 : GDot} {b1 : GDot} {res : Int} {h : AH}  (hF : dotCompare a0 b1 = some res) : Spec Tryz.prog 105 [.agg [.int .u8 a0.actor.rep, .int .u32 a0.actor.inc, .int .u64 a0.seq], .agg [.int .u8 b1.actor.rep, .int .u32 b1.actor.inc, .int .u64 b1.seq]] h (fun rr hh => rr = .int .i64 res ∧ hh = h) := by
 unfold dotCompare at hF
 refine ye Tryz.func105 rfl (by kernel_rfl) (env := [.agg [.int .u8 a0.actor.rep, .int .u32 a0.actor.inc, .int .u64 a0.seq], .agg [.int .u8 b1.actor.rep, .int .u32 b1.actor.inc, .int .u64 b1.seq], za, za, za, za, za, za, za, za, za, za, za, za, za, za, za]) (by rfl) ?_
 refine zk (zd ?_)
 refine zc rfl (e_box (n := 0) rfl gt0 (zb rfl) rfl rfl) st2 ?_
 refine zc rfl (e_box (n := 1) rfl gt1 (zb rfl) rfl rfl) st3 ?_
 refine zc rfl (zg rfl rfl (zb rfl)) st4 ?_
 refine ze (zj (zk ?_))
 refine r_drawn [4, 9, 11] [] trivial mixed (by kernel_rfl) ?_
 refine zq rfl rfl (zi rfl fo44x0 gt2 rfl) st5 ?_
 refine zq rfl rfl (zt rfl ty42.choose_spec.1 gt5 rfl (ldC_agX (cs' := [.int .u8 a0.actor.rep, .int .u32 a0.actor.inc]) ty42.choose_spec.2 rfl rfl) (zb rfl)) st6 ?_
 refine zq rfl rfl (zi rfl fo44x0 gt3 rfl) st7 ?_
 refine zq rfl rfl (zt rfl ty42.choose_spec.1 gt7 rfl (ldC_agX (cs' := [.int .u8 b1.actor.rep, .int .u32 b1.actor.inc]) ty42.choose_spec.2 rfl rfl) (zb rfl)) st8 ?_
 refine bindF hF (fun v1 hv1 hF => ?_)
 refine draw_callN rfl rfl (fun _ => yg rfl rfl rfl (zo gt6 (zo gt8 zw)) (.cons (zb rfl) (.cons (zb rfl) .nil))) (by rintro _ ⟨B2, T2, rfl, hk2⟩; exact ok123 hv1) st9 ?_
 refine zq rfl rfl (zi rfl fo44x1 gt2 rfl) st10 ?_
 refine zq rfl rfl (zt rfl ty39 gt10 rfl (zr rfl) (zb rfl)) st11 ?_
 refine zq rfl rfl (zi rfl fo44x1 gt3 rfl) st12 ?_
 refine zq rfl rfl (zt rfl ty39 gt12 rfl (zr rfl) (zb rfl)) st13 ?_
 refine bindF hF (fun v2 hv2 hF => ?_)
 refine draw_callN rfl rfl (fun _ => yg rfl rfl rfl (zo gt11 (zo gt13 zw)) (.cons (zb rfl) (.cons (zb rfl) .nil))) (by rintro _ ⟨B2, T2, rfl, hk2⟩; exact ok124 hv2) st14 ?_
 refine zq rfl rfl (s_buildSlice (es := ([v1, v2] : List Int).map (intRow .i64)) rfl el142 ze3 rfl rfl (parto_cons gt9 (parto_cons gt14 parto_nil)) (.cons (zb rfl) (.cons (zb rfl) .nil)) rfl rfl rfl) st15 ?_
 refine bindF hF (fun v3 hv3 hF => ?_)
 refine draw_callN rfl rfl (fun _ => yg rfl rfl rfl (zo gt15 zw) (.cons (zb rfl) .nil)) (by rintro _ ⟨B2, T2, rfl, hk2⟩; exact (ok96 hv3).le (.cons (leV.osl _ _ _) leL.nil)) st16 ?_
 refine zq rfl rfl (zg rfl gt16 (zb rfl)) st4 ?_
 refine draw_nil ?_
 refine zj (r_ret ?_)
 obtain rfl := Option.some.inj hF
 refine zz rfl (yc gt4 yb) (zy (leV.refl _) rfl ?_)
 exact ⟨rfl, rfl⟩
/-! varve/dot.MayActor -/
theorem ok106 {a0 : GActor} {res : Bool} {h : AH}  (hF : dotMayActor a0 = some res) : Spec Tryz.prog 106 [.agg [.int .u8 a0.rep, .int .u32 a0.inc]] h (fun rr hh => rr = .bool res ∧ hh = h) := by
 unfold dotMayActor at hF
 refine ye Tryz.func106 rfl (by kernel_rfl) (env := [.agg [.int .u8 a0.rep, .int .u32 a0.inc], za, za, za, za, za, za, za, za, za, za, za, za, za, za, za]) (by rfl) ?_
 refine zk (zd ?_)
 refine zc rfl (e_box (n := 0) rfl gt0 (zb rfl) rfl rfl) st1 ?_
 refine zc rfl (zg rfl rfl (zb rfl)) st2 ?_
 refine ze (zj (zk (zd ?_)))
 refine zc rfl (zi rfl fo42x0 gt1 rfl) st3 ?_
 refine zc rfl (zt rfl ty5 gt3 rfl (zr rfl) (zb rfl)) st4 ?_
 refine zc rfl (zu rfl gt4 rfl rfl) st5 ?_
 refine zc rfl (zf rfl gt5 (zb rfl)) st6 ?_
 refine zp rfl (fun hb => zi rfl fo42x1 gt1 rfl) st7 ?_
 refine zp rfl (fun hb => zt rfl ty40 (zn gt7 hb) rfl (zr rfl) (zb rfl)) st8 ?_
 refine zp rfl (fun hb => zu rfl (zn gt8 hb) rfl rfl) st9 ?_
 refine zc rfl (s_pick rfl gt6 gt9 rfl (pick_and (fun ht => gT ht))) st10 ?_
 refine zc rfl (zf rfl gt10 (zb rfl)) st11 ?_
 refine zp rfl (fun hb => zi rfl fo42x1 gt1 rfl) st12 ?_
 refine zp rfl (fun hb => zt rfl ty40 (zn gt12 hb) rfl (zr rfl) (zb rfl)) st13 ?_
 refine zp rfl (fun hb => zu rfl (zn gt13 hb) rfl rfl) st14 ?_
 refine zc rfl (s_pick rfl gt11 gt14 rfl (pick_and (fun ht => gT ht))) st15 ?_
 refine zc rfl (zg rfl gt15 (zb rfl)) st2 ?_
 refine ze (zj (r_ret ?_))
 obtain rfl := Option.some.inj hF
 refine zz rfl (yc gt2 yb) (zy (leV.refl _) rfl ?_)
 exact ⟨rfl, rfl⟩
/-! varve/dot.May -/
theorem ok92 {d0 : GDot} {res : Bool} {h : AH}  (hF : dotMay d0 = some res) : Spec Tryz.prog 92 [.agg [.int .u8 d0.actor.rep, .int .u32 d0.actor.inc, .int .u64 d0.seq]] h (fun rr hh => rr = .bool res ∧ hh = h) := by
 unfold dotMay at hF
 refine ye Tryz.func92 rfl (by kernel_rfl) (env := [.agg [.int .u8 d0.actor.rep, .int .u32 d0.actor.inc, .int .u64 d0.seq], za, za, za, za, za, za, za, za, za, za, za, za, za, za, za]) (by rfl) ?_
 refine zk (zd ?_)
 refine zc rfl (e_box (n := 0) rfl gt0 (zb rfl) rfl rfl) st1 ?_
 refine zc rfl (zg rfl rfl (zb rfl)) st2 ?_
 refine ze (zj (zk (zd ?_)))
 refine zc rfl (zi rfl fo44x0 gt1 rfl) st3 ?_
 refine zc rfl (zt rfl ty42.choose_spec.1 gt3 rfl (ldC_agX (cs' := [.int .u8 d0.actor.rep, .int .u32 d0.actor.inc]) ty42.choose_spec.2 rfl rfl) (zb rfl)) st4 ?_
 refine bindF hF (fun v1 hv1 hF => ?_)
 refine yf rfl (yg rfl rfl rfl (zo gt4 zw) (.cons (zb rfl) .nil)) (ok106 hv1) st5 ?_
 refine zc rfl (zf rfl gt5 (zb rfl)) st6 ?_
 refine zp rfl (fun hb => zi rfl fo44x1 gt1 rfl) st7 ?_
 refine zp rfl (fun hb => zt rfl ty39 (zn gt7 hb) rfl (zr rfl) (zb rfl)) st8 ?_
 refine zp rfl (fun hb => zu rfl (zn gt8 hb) rfl rfl) st9 ?_
 refine zc rfl (s_pick rfl gt6 gt9 rfl (pick_and (fun ht => gT ht))) st10 ?_
 refine zc rfl (zf rfl gt10 (zb rfl)) st11 ?_
 refine zp rfl (fun hb => zi rfl fo44x1 gt1 rfl) st12 ?_
 refine zp rfl (fun hb => zt rfl ty39 (zn gt12 hb) rfl (zr rfl) (zb rfl)) st13 ?_
 refine zp rfl (fun hb => zu rfl (zn gt13 hb) rfl rfl) st14 ?_
 refine zc rfl (s_pick rfl gt11 gt14 rfl (pick_and (fun ht => gT ht))) st15 ?_
 refine zc rfl (zg rfl gt15 (zb rfl)) st2 ?_
 refine ze (zj (r_ret ?_))
 obtain rfl := Option.some.inj hF
 refine zz rfl (yc gt2 yb) (zy (leV.refl _) rfl ?_)
 exact ⟨rfl, rfl⟩
/-! varve/op.drops -/
theorem ok89 {o0 : GOp} {res : Bool} {h : AH}  (hF : opXdrops o0 = some res) : Spec Tryz.prog 89 [.agg [.int .u8 o0.kind, .sl 1 (o0.path.map strRow), .int .i64 o0.n, .str o0.text, .sl 3 (o0.dots.map GDot.row)]] h (fun rr hh => rr = .bool res ∧ hh = h) := by
 unfold opXdrops at hF
 refine ye Tryz.func89 rfl (by kernel_rfl) (env := [.agg [.int .u8 o0.kind, .sl 1 (o0.path.map strRow), .int .i64 o0.n, .str o0.text, .sl 3 (o0.dots.map GDot.row)], za, za, za, za, za, za, za, za, za, za, za, za, za, za, za, za, za, za, za, za, za, za, za, za, za, za, za, za, za, za, za, za, za, za, za, za, za, za, za, za, za, za, za, za, za, za]) (by rfl) ?_
 refine zk (zd ?_)
 refine zc rfl (e_box (n := 0) rfl gt0 (zb rfl) rfl rfl) st1 ?_
 refine zc rfl (zg rfl rfl (zb rfl)) st2 ?_
 refine ze (zj (zk (zk (zd ?_))))
 refine zc rfl (zi rfl fo29x2 gt1 rfl) st5 ?_
 refine zc rfl (zt rfl ty2 gt5 rfl (zr rfl) (zb rfl)) st6 ?_
 refine zc rfl (zu rfl gt6 rfl rfl) st7 ?_
 refine zc rfl (zf rfl gt7 (zb rfl)) st8 ?_
 refine zp rfl (fun hb => zi rfl fo29x3 gt1 rfl) st9 ?_
 refine zp rfl (fun hb => zt rfl ty9 (zn gt9 hb) rfl (zr rfl) (zb rfl)) st10 ?_
 refine ops_glen rfl (fun hb => s_lenStr rfl rfl rfl rfl ty9 (zn gt10 hb)) st11 fun hn1 => ?_
 refine zp rfl (fun hb => zu rfl (zn gt11 hb) rfl rfl) st12 ?_
 refine zc rfl (s_pick rfl gt8 rfl gt12 (pick_or (fun ht => gF ht))) st13 ?_
 refine zc rfl (zf rfl gt13 (zb rfl)) st14 ?_
 refine zp rfl (fun hb => zi rfl fo29x4 gt1 rfl) st15 ?_
 refine zp rfl (fun hb => zt rfl ty27 (zn gt15 hb) rfl (zr rfl) (zb rfl)) st16 ?_
 refine ops_glen rfl (fun hb => yh rfl rfl rfl rfl el27 (zn gt16 hb) lenMap) st17 fun hn2 => ?_
 refine zp rfl (fun hb => zu rfl (zn gt17 hb) rfl rfl) st18 ?_
 refine zc rfl (s_pick rfl gt14 rfl gt18 (pick_or (fun ht => gF ht))) st19 ?_
 refine ze (zj ?_)
 refine r_condF gt19 hF (fun hc3 hF => ?_) (fun hc3 hF => ?_)
 ·skip
  refine zk (zd ?_)
  refine zc rfl (zg rfl rfl (zb rfl)) st2 ?_
  refine ze (zj (r_ret (zx ?_)))
  obtain rfl := Option.some.inj hF
  refine zz rfl (yc gt2 yb) (zy (leV.refl _) rfl ?_)
  exact ⟨rfl, rfl⟩
 ·skip
  refine r_skip (zj (zk (zk (zd ?_))))
  refine zc rfl (zi rfl fo29x4 gt1 rfl) st20 ?_
  refine zc rfl (zt rfl ty27 gt20 rfl (zr rfl) (zb rfl)) st21 ?_
  refine ops_len rfl (yh rfl rfl rfl rfl el27 gt21 lenMap) st22 fun hn4 => ?_
  replace hn4 := lenN hn4
  refine zc rfl (zf rfl rfl (zb rfl)) st23 ?_
  refine ze (zj (r_block ?_))
  refine yk (fun (n1 : Nat) (s1 : Unit) => anys [0, 2, 3, 4, 5, 6, 7, 8, 9, 10, 11, 12, 13, 14, 15, 16, 17, 18, 19, 20, 24, 25, 26, 27, 28, 29, 30, 31, 32, 33, 34, 35, 36, 37, 38, 39, 40, 41, 42, 43, 44, 45, 46] [(23, .int .i64 (n1 : Int))]) (fun s1 => h.ext [.cells [.int .u8 o0.kind, .sl 1 (o0.path.map strRow), .int .i64 o0.n, .str o0.text, .sl 3 (o0.dots.map GDot.row)]] []) hF (fun _ _ => by simp only [anys, upd, List.set_cons_succ, List.set_cons_zero]; try rfl) (wk.le (by exact (.drop (.eq (.d16 (.drop (.drop (.drop (.eq (.eq (.cons (leV.of_eq rfl) (.d16 (.d4 (.drop (.drop (.drop leL.nil)))))))))))))))) ?_
  intro n1 s1 hi1 hF
  refine zk (zd ?_)
  refine zc rfl (zu rfl gt23 gt22 rfl) st24 ?_
  refine ze (zj (zk ?_))
  refine r_condL gt24 hF (fun x1 o1 hl1 hx1 hF hK1 => ?_) (fun hF => ?_)
  ·skip
   refine r_skip (zj (zk (r_block (zk (zd ?_)))))
   refine zc rfl (zf rfl gt23 (zb rfl)) st25 ?_
   refine zc rfl (s_idxRow rfl el27 gt21 gt23 isl (idx_of hx1)) st26 ?_
   refine zc rfl (yi rfl ty44.choose_spec.1 gt26 (ldC_agX (cs' := [.int .u8 x1.actor.rep, .int .u32 x1.actor.inc, .int .u64 x1.seq]) ty44.choose_spec.2 rfl rfl) (zb rfl)) st27 ?_
   refine zc rfl (e_alloc (n := 1) rfl ze44 rfl) st4 ?_
   refine zc rfl (zg rfl gt25 (zb rfl)) st3 ?_
   refine zc rfl (e_store (cs' := [.int .u8 x1.actor.rep, .int .u32 x1.actor.inc, .int .u64 x1.seq]) rfl ty44.choose_spec.1 gt4 gt27 (zb rfl) rfl rfl rfl rfl rfl) rfl ?_
   refine ze (zj (zk ?_))
   refine r_drawn [1] [] trivial mixed (by kernel_rfl) ?_
   refine zq rfl rfl (zt rfl ty44.choose_spec.1 gt4 rfl (ldC_agX (cs' := [.int .u8 x1.actor.rep, .int .u32 x1.actor.inc, .int .u64 x1.seq]) ty44.choose_spec.2 rfl rfl) (zb rfl)) st28 ?_
   refine bindF hF (fun v17 hv17 hF => ?_)
   refine draw_callN rfl rfl (fun _ => yg rfl rfl rfl (zo gt28 zw) (.cons (zb rfl) .nil)) (by rintro _ ⟨B2, T2, rfl, hk2⟩; exact ok92 hv17) st29 ?_
   refine zq rfl rfl (s_un rfl gt29 rfl) st30 ?_
   refine zq rfl rfl (zf rfl gt30 (zb rfl)) st31 ?_
   refine ya rfl rfl (fun hb => zf rfl gt3 (zb rfl)) st32 ?_
   refine ya rfl rfl (fun hb => zu rfl (zn gt32 hb) rfl rfl) st33 ?_
   refine ya rfl rfl (fun hb => zf rfl (zn gt33 hb) (zb rfl)) st34 ?_
   refine ya rfl (aG_gv rfl rfl rfl) (fun hb => zi rfl fo29x4 gt1 rfl) st35 ?_
   refine ya rfl (aG_gv rfl rfl rfl) (fun hb => zt rfl ty27 (zn gt35 hb) rfl (zr rfl) (zb rfl)) st36 ?_
   refine ya rfl (aG_gv rfl rfl rfl) (fun hb => zf rfl gt3 (zb rfl)) st37 ?_
   refine ya rfl (aG_gv rfl rfl rfl) (fun hb => zu rfl (zn gt37 hb) rfl rfl) st38 ?_
   refine chkF hF (fun hg18 hF => ?_)
   refine ya rfl (aG_gv rfl rfl rfl) (fun hb => s_gidxRow default rfl el27 (zn gt36 hb) (zn gt38 hb) isl (hg18 hb)) st39 ?_
   refine ya rfl (aG_gv rfl rfl rfl) (fun hb => yi rfl ty44.choose_spec.1 (zn gt39 hb) (ldC_agX (cs' := [.int .u8 (((o0.dots).getD (IntKind.wrap .i64 ((n1 : Int) - (1 : Int))).toNat default).actor.rep), .int .u32 (((o0.dots).getD (IntKind.wrap .i64 ((n1 : Int) - (1 : Int))).toNat default).actor.inc), .int .u64 (((o0.dots).getD (IntKind.wrap .i64 ((n1 : Int) - (1 : Int))).toNat default).seq)]) ty44.choose_spec.2 rfl rfl) (zb rfl)) (sk st0) ?_
   refine ya rfl (aG_gv rfl rfl rfl) (fun hb => zt rfl ty44.choose_spec.1 gt4 rfl (ldC_agX (cs' := [.int .u8 x1.actor.rep, .int .u32 x1.actor.inc, .int .u64 x1.seq]) ty44.choose_spec.2 rfl rfl) (zb rfl)) (sk st1) ?_
   refine gbindF hF (fun v19 hv19 hF => ?_)
   refine draw_gcall rfl (aG_gv rfl rfl rfl) (fun hb => yg rfl rfl rfl (zo (zn (gk gt0) hb) (zo (zn (gk gt1) hb) zw)) (.cons (zb rfl) (.cons (zb rfl) .nil))) (fun hb => ok105 (hv19 hb)) (sk st2) ?_
   refine ya rfl (aG_gv rfl rfl rfl) (fun hb => zu rfl (zn (gk gt2) hb) rfl rfl) (sk st3) ?_
   refine ya rfl rfl (fun hb => s_pick rfl (zn gt34 hb) (gk gt3) rfl (pick_and (fun ht => gT2 hb ht))) (sk st4) ?_
   refine zq rfl rfl (s_pick rfl gt31 rfl (gk gt4) (pick_or (fun ht => gF ht))) (sk st5) ?_
   refine draw_nil ?_
   refine zj ?_
   refine r_condF (gk gt5) hF (fun hc20 hF => ?_) (fun hc20 hF => ?_)
   ·skip
    refine zk (zd ?_)
    refine zc rfl (zg rfl rfl (zb rfl)) st2 ?_
    refine ze (zj (r_ret ?_))
    refine yd ?_
    refine zx ?_
    refine q_loop_ret ?_
    obtain rfl := Option.some.inj hF
    replace hF := hK1
    refine yd ?_
    refine zx ?_
    obtain rfl := Option.some.inj hF
    refine zz rfl (yc gt2 yb) (zy (leV.refl _) rfl ?_)
    exact ⟨rfl, rfl⟩
   ·skip
    refine r_skip (q_block (zj (zd ?_)))
    refine zc rfl (zu rfl gt23 rfl rfl) (sk st6) ?_
    refine zc rfl (zf rfl (gk gt6) (zb rfl)) st23 ?_
    refine ze (q_loop ?_)
    obtain rfl := Option.some.inj hF
    exact ⟨(), hl1, hK1, wk.trans (wk.le (by exact (.drop (.eq (.d16 (.drop (.drop (.drop (.eq (.eq (.cons (leV.of_eq (w64e (by omega) (by omega))) (.d16 (.d4 (.drop (.drop (.drop leL.nil)))))))))))))))) (wk_ext3 (by simp [lowL, AV.low]) rfl rfl (by simp [Blk.low, lowL, AV.low]))⟩
  ·skip
   refine r_exit ?_
   refine q_seq_exit ?_
   refine yj ?_
   refine q_block_hit ?_
   refine zj (zk (zd ?_))
   refine zc rfl (zg rfl rfl (zb rfl)) st2 ?_
   refine ze (zj (r_ret ?_))
   obtain rfl := Option.some.inj hF
   refine zz rfl (yc gt2 yb) (zy (leV.refl _) rfl ?_)
   exact ⟨rfl, rfl⟩
/-! varve/op.adds -/
theorem ok87 {o0 : GOp} {res : Bool} {h : AH}  (hF : opXadds o0 = some res) : Spec Tryz.prog 87 [.agg [.int .u8 o0.kind, .sl 1 (o0.path.map strRow), .int .i64 o0.n, .str o0.text, .sl 3 (o0.dots.map GDot.row)]] h (fun rr hh => rr = .bool res ∧ hh = h) := by
 unfold opXadds at hF
 refine ye Tryz.func87 rfl (by kernel_rfl) (env := [.agg [.int .u8 o0.kind, .sl 1 (o0.path.map strRow), .int .i64 o0.n, .str o0.text, .sl 3 (o0.dots.map GDot.row)], za, za, za, za, za, za, za, za, za, za, za, za, za, za, za, za, za, za, za, za, za]) (by rfl) ?_
 refine zk (zd ?_)
 refine zc rfl (e_box (n := 0) rfl gt0 (zb rfl) rfl rfl) st1 ?_
 refine zc rfl (zg rfl rfl (zb rfl)) st2 ?_
 refine ze (zj (zk (zd ?_)))
 refine zc rfl (zi rfl fo29x2 gt1 rfl) st3 ?_
 refine zc rfl (zt rfl ty2 gt3 rfl (zr rfl) (zb rfl)) st4 ?_
 refine zc rfl (zu rfl gt4 rfl rfl) st5 ?_
 refine zc rfl (zf rfl gt5 (zb rfl)) st6 ?_
 refine zp rfl (fun hb => zi rfl fo29x2 gt1 rfl) st7 ?_
 refine zp rfl (fun hb => zt rfl ty2 (zn gt7 hb) rfl (zr rfl) (zb rfl)) st8 ?_
 refine zp rfl (fun hb => zu rfl (zn gt8 hb) rfl rfl) st9 ?_
 refine zc rfl (s_pick rfl gt6 gt9 rfl (pick_and (fun ht => gT ht))) st10 ?_
 refine zc rfl (zf rfl gt10 (zb rfl)) st11 ?_
 refine zp rfl (fun hb => zi rfl fo29x3 gt1 rfl) st12 ?_
 refine zp rfl (fun hb => zt rfl ty9 (zn gt12 hb) rfl (zr rfl) (zb rfl)) st13 ?_
 refine zp rfl (fun hb => zu rfl (zn gt13 hb) rfl rfl) st14 ?_
 refine zc rfl (s_pick rfl gt11 gt14 rfl (pick_and (fun ht => gT ht))) st15 ?_
 refine zc rfl (zf rfl gt15 (zb rfl)) st16 ?_
 refine zp rfl (fun hb => zi rfl fo29x4 gt1 rfl) st17 ?_
 refine zp rfl (fun hb => zt rfl ty27 (zn gt17 hb) rfl (zr rfl) (zb rfl)) st18 ?_
 refine ops_glen rfl (fun hb => yh rfl rfl rfl rfl el27 (zn gt18 hb) lenMap) st19 fun hn1 => ?_
 refine zp rfl (fun hb => zu rfl (zn gt19 hb) rfl rfl) st20 ?_
 refine zc rfl (s_pick rfl gt16 gt20 rfl (pick_and (fun ht => gT ht))) st21 ?_
 refine zc rfl (zg rfl gt21 (zb rfl)) st2 ?_
 refine ze (zj (r_ret ?_))
 obtain rfl := Option.some.inj hF
 refine zz rfl (yc gt2 yb) (zy (leV.refl _) rfl ?_)
 exact ⟨rfl, rfl⟩
/-! varve/op.of -/
theorem ok57 {k0 : Int} {res : (GOpKind × Bool)} {h : AH}  (hF : opXof k0 = some res) : Spec Tryz.prog 57 [.int .u8 k0] h (fun rr hh => rr = .tup [.agg [.int .u8 res.1.leaf, fvOp res.1.may], .bool res.2] ∧ hh = h) := by
 unfold opXof at hF
 refine ye Tryz.func57 rfl (by kernel_rfl) (env := [.int .u8 k0, za, za, za, za, za, za, za, za, za, za, za, za, za, za, za, za, za, za, za, za]) (by rfl) ?_
 refine zk (zd ?_)
 refine zc rfl (e_alloc (n := 0) rfl ze102 rfl) st2 ?_
 refine zc rfl (zg rfl rfl (zb rfl)) st3 ?_
 refine ze (zj (zk (zd ?_)))
 refine zc rfl (s_build (cs' := [.int .u8 (1 : Int), .fn (.func 87) [] []]) rfl su102 ze102 pl102 (parto_cons rfl (parto_cons rfl parto_nil)) (.cons (zb rfl) (.cons (zb rfl) .nil)) rfl rfl) st5 ?_
 refine zc rfl (s_build (cs' := [.int .u8 (2 : Int), .fn (.func 88) [] []]) rfl su102 ze102 pl102 (parto_cons rfl (parto_cons rfl parto_nil)) (.cons (zb rfl) (.cons (zb rfl) .nil)) rfl rfl) st6 ?_
 refine zc rfl (s_build (cs' := [.int .u8 (3 : Int), .fn (.func 88) [] []]) rfl su102 ze102 pl102 (parto_cons rfl (parto_cons rfl parto_nil)) (.cons (zb rfl) (.cons (zb rfl) .nil)) rfl rfl) st7 ?_
 refine zc rfl (s_build (cs' := [.int .u8 (3 : Int), .fn (.func 89) [] []]) rfl su102 ze102 pl102 (parto_cons rfl (parto_cons rfl parto_nil)) (.cons (zb rfl) (.cons (zb rfl) .nil)) rfl rfl) st8 ?_
 refine zc rfl (s_build (cs' := [.int .u8 (4 : Int), .fn (.func 88) [] []]) rfl su102 ze102 pl102 (parto_cons rfl (parto_cons rfl parto_nil)) (.cons (zb rfl) (.cons (zb rfl) .nil)) rfl rfl) st9 ?_
 refine zc rfl (s_buildArr (cs' := [.int .u8 (0 : Int), .nilf, .int .u8 (1 : Int), .fn (.func 87) [] [], .int .u8 (2 : Int), .fn (.func 88) [] [], .int .u8 (3 : Int), .fn (.func 88) [] [], .int .u8 (3 : Int), .fn (.func 89) [] [], .int .u8 (4 : Int), .fn (.func 88) [] []]) rfl ty127.u ze127 ty102.choose_spec.1 (parto_cons gt5 (parto_cons gt6 (parto_cons gt7 (parto_cons gt8 (parto_cons gt9 parto_nil))))) (.cons (zb rfl) (.cons (zb rfl) (.cons (zb rfl) (.cons (zb rfl) (.cons (zb rfl) .nil))))) rfl rfl) st10 ?_
 refine zc rfl (e_alloc (n := 1) rfl ze127 rfl) st4 ?_
 refine zc rfl (e_store (cs' := [.int .u8 (0 : Int), .nilf, .int .u8 (1 : Int), .fn (.func 87) [] [], .int .u8 (2 : Int), .fn (.func 88) [] [], .int .u8 (3 : Int), .fn (.func 88) [] [], .int .u8 (3 : Int), .fn (.func 89) [] [], .int .u8 (4 : Int), .fn (.func 88) [] []]) rfl ty127 gt4 gt10 (zb rfl) rfl rfl rfl rfl rfl) rfl ?_
 refine ze (zj (zk (zk (zd ?_))))
 refine zc rfl (zf rfl gt0 (zb rfl)) st11 ?_
 refine zc rfl (zu rfl gt11 rfl rfl) st12 ?_
 refine zc rfl (zf rfl gt12 (zb rfl)) st13 ?_
 refine zp rfl (fun hb => zf rfl gt0 (zb rfl)) st14 ?_
 refine zp rfl (fun hb => zu rfl (zn gt14 hb) rfl rfl) st15 ?_
 refine zc rfl (s_pick rfl gt13 rfl gt15 (pick_or (fun ht => gF ht))) st16 ?_
 refine ze (zj ?_)
 refine r_condF gt16 hF (fun hc1 hF => ?_) (fun hc1 hF => ?_)
 ·skip
  refine zk (zd ?_)
  refine zc rfl (s_build (cs' := [.int .u8 (0 : Int), .nilf]) rfl su102 ze102 pl102 parto_nil .nil rfl rfl) st17 ?_
  refine zc rfl (e_store (cs' := [.int .u8 (0 : Int), .nilf]) rfl ty102.choose_spec.1 gt2 gt17 (zb rfl) rfl rfl rfl rfl rfl) rfl ?_
  refine zc rfl (zg rfl rfl (zb rfl)) st3 ?_
  refine ze (zj (r_ret (zx ?_)))
  obtain rfl := Option.some.inj hF
  refine q_retL rfl (rl_cell ty102.choose_spec.1 gt2 rfl (ldC_agX (cs' := [.int .u8 (0 : Int), .nilf]) ty102.choose_spec.2 rfl rfl) (zb rfl) (yc gt3 yb)) (zy (leV.refl _) rfl ?_)
  exact ⟨rfl, rfl⟩
 ·skip
  refine r_skip (zj (zk (zd ?_)))
  refine zc rfl (zf rfl gt0 (zb rfl)) st18 ?_
  refine bindF hF (fun y2 hy2 hF => ?_)
  refine zc rfl (s_idxArr rfl ty127 ty102.choose_spec.1 gt4 gt18 rfl hy2) st19 ?_
  refine zc rfl (zt rfl ty102.choose_spec.1 gt19 rfl ((congrArg (fun b => ldC b _ _ _) ty102.choose_spec.2).trans (ldC_arr (row := GOpKind.row) (L := ([(GOpKind.mk (0 : Int) 0), (GOpKind.mk (1 : Int) 1), (GOpKind.mk (2 : Int) 2), (GOpKind.mk (3 : Int) 2), (GOpKind.mk (3 : Int) 3), (GOpKind.mk (4 : Int) 2)] : List GOpKind)) (fun _ => rfl) hy2 rfl)) (zb rfl)) st20 ?_
  refine zc rfl (e_store (cs' := [.int .u8 y2.leaf, fvOp y2.may]) rfl ty102.choose_spec.1 gt2 gt20 (zb rfl) rfl rfl rfl rfl rfl) rfl ?_
  refine zc rfl (zg rfl rfl (zb rfl)) st3 ?_
  refine ze (zj (r_ret ?_))
  obtain rfl := Option.some.inj hF
  refine q_retL rfl (rl_cell ty102.choose_spec.1 gt2 rfl (ldC_agX (cs' := [.int .u8 y2.leaf, fvOp y2.may]) ty102.choose_spec.2 rfl rfl) (zb rfl) (yc gt3 yb)) (zy (leV.refl _) (by simp [AV.low, lowL, fvlOp]) ?_)
  exact ⟨rfl, rfl⟩
theorem fnOpok {c : Nat} {x0 : GOp} {v : Bool} (h : callOp c x0 = some v) : fvOp c = .fn (.func (fnOp c)) [] [] := by
  unfold callOp at h
  split at h <;> first | rfl | cases h
theorem okfvOp {c : Nat} {x0 : GOp} {res : Bool} {h : AH} (hF : callOp c x0 = some res) : Spec Tryz.prog (fnOp c) [.agg [.int .u8 x0.kind, .sl 1 (x0.path.map strRow), .int .i64 x0.n, .str x0.text, .sl 3 (x0.dots.map GDot.row)]] h (fun rr hh => rr = .bool res ∧ hh = h) := by
 unfold callOp at hF
 split at hF
 ·exact ok87 hF
 ·exact ok88 hF
 ·exact ok89 hF
 ·cases hF
/-! varve/op.May -/
theorem ok35 {o0 : GOp} {res : Bool} {h : AH}  (hF : opMay o0 = some res) : Spec Tryz.prog 35 [.agg [.int .u8 o0.kind, .sl 1 (o0.path.map strRow), .int .i64 o0.n, .str o0.text, .sl 3 (o0.dots.map GDot.row)]] h (fun rr hh => rr = .bool res ∧ hh = h) := by
 unfold opMay at hF
 refine ye Tryz.func35 rfl (by kernel_rfl) (env := [.agg [.int .u8 o0.kind, .sl 1 (o0.path.map strRow), .int .i64 o0.n, .str o0.text, .sl 3 (o0.dots.map GDot.row)], za, za, za, za, za, za, za, za, za, za, za, za, za, za, za, za, za, za, za, za, za, za]) (by rfl) ?_
 refine zk (zd ?_)
 refine zc rfl (e_box (n := 0) rfl gt0 (zb rfl) rfl rfl) st1 ?_
 refine zc rfl (zg rfl rfl (zb rfl)) st2 ?_
 refine ze (zj (zk (zd ?_)))
 refine zc rfl (zi rfl fo29x0 gt1 rfl) st6 ?_
 refine zc rfl (zt rfl ty5 gt6 rfl (zr rfl) (zb rfl)) st7 ?_
 refine bindF hF (fun v1 hv1 hF => ?_)
 refine yf rfl (yg rfl rfl rfl (zo gt7 zw) (.cons (zb rfl) .nil)) (ok57 hv1) st8 ?_
 refine zc rfl (zf rfl gt8 (zb rfl)) st5 ?_
 refine zc rfl (s_extract rfl gt5 rfl (zb rfl)) st9 ?_
 refine zc rfl (s_extract rfl gt5 rfl (zb rfl)) st10 ?_
 refine zc rfl (e_alloc (n := 1) rfl ze102 rfl) st3 ?_
 refine zc rfl (e_store (cs' := [.int .u8 v1.1.leaf, fvOp v1.1.may]) rfl ty102.choose_spec.1 gt3 gt9 (zb rfl) rfl rfl rfl rfl rfl) rfl ?_
 refine zc rfl (zg rfl gt10 (zb rfl)) st4 ?_
 refine ze (zj (zk (zd ?_)))
 refine zc rfl (zf rfl gt4 (zb rfl)) st11 ?_
 refine zc rfl (zf rfl gt11 (zb rfl)) st12 ?_
 refine zp rfl (fun hb => zi rfl fo29x1 gt1 rfl) st13 ?_
 refine zp rfl (fun hb => zt rfl ty26 (zn gt13 hb) rfl (zr rfl) (zb rfl)) st14 ?_
 refine gbindF hF (fun v2 hv2 hF => ?_)
 refine ops_gcall rfl (fun hb => yg rfl rfl rfl (zo (zn gt14 hb) zw) (.cons (zb rfl) .nil)) (fun hb => ok58 (hv2 hb)) st15 ?_
 refine zc rfl (s_pick rfl gt12 gt15 rfl (pick_and (fun ht => gT ht))) st16 ?_
 refine zc rfl (zf rfl gt16 (zb rfl)) st17 ?_
 refine zp rfl (fun hb => zi rfl fo102x1 gt3 rfl) st18 ?_
 refine zp rfl (fun hb => zt rfl ty84 (zn gt18 hb) rfl (zr rfl) (fvtOp _ _ _)) st19 ?_
 refine zp rfl (fun hb => zt rfl ty29.choose_spec.1 gt1 rfl (ldC_agX (cs' := [.int .u8 o0.kind, .sl 1 (o0.path.map strRow), .int .i64 o0.n, .str o0.text, .sl 3 (o0.dots.map GDot.row)]) ty29.choose_spec.2 rfl rfl) (zb rfl)) st20 ?_
 refine gbindF hF (fun v3 hv3 hF => ?_)
 refine ops_gcall rfl (fun hb => yg rfl rfl (evo_eq (zn gt19 hb) (fnOpok (hv3 hb))) (zo (zn gt20 hb) zw) (.cons (zb rfl) .nil)) (fun hb => okfvOp (hv3 hb)) st21 ?_
 refine zc rfl (s_pick rfl gt17 gt21 rfl (pick_and (fun ht => gT ht))) st22 ?_
 refine zc rfl (zg rfl gt22 (zb rfl)) st2 ?_
 refine ze (zj (r_ret ?_))
 obtain rfl := Option.some.inj hF
 refine zz rfl (yc gt2 yb) (zy (leV.refl _) rfl ?_)
 exact ⟨rfl, rfl⟩
/-! varve/rights.Why 1 -/
theorem ok36 {x0 : GRule} {c0 : GOp} {i0 : Nat} {res : Bool} {h : AH} (hb0 : h.blk i0 = some (.cells [.int .u8 c0.kind, .sl 1 (c0.path.map strRow), .int .i64 c0.n, .str c0.text, .sl 3 (c0.dots.map GDot.row)])) (hF : rightsWhyC1 x0 c0 = some res) : Spec Tryz.prog 36 [.agg [.int .u8 x0.rep, .sl 1 (x0.path.map strRow), .int .u8 x0.kinds, .bool x0.allow, .bool x0.read], .ptr i0 0] h (fun rr hh => rr = .bool res ∧ hh = h) := by
 unfold rightsWhyC1 at hF
 refine ye Tryz.func36 rfl (by kernel_rfl) (env := [.agg [.int .u8 x0.rep, .sl 1 (x0.path.map strRow), .int .u8 x0.kinds, .bool x0.allow, .bool x0.read], .ptr i0 0, za, za, za, za, za, za, za, za, za]) (by rfl) ?_
 refine zk (zd ?_)
 refine zc rfl (e_box (n := 0) rfl gt0 (zb rfl) rfl rfl) st2 ?_
 refine zc rfl (zg rfl rfl (zb rfl)) st3 ?_
 refine ze (zj (zk (zd ?_)))
 refine zc rfl (zi rfl fo54x2 gt2 rfl) st4 ?_
 refine zc rfl (zt rfl ty5 gt4 rfl (zr rfl) (zb rfl)) st5 ?_
 refine zc rfl (zi rfl fo29x0 gt1 rfl) st6 ?_
 refine zc rfl (b_load rfl ty5 gt6 hb0 (zr rfl) (zb rfl)) st7 ?_
 refine chkF hF (fun hm1 hF => ?_)
 refine zc rfl (zu rfl gt5 gt7 (if_neg hm1)) st8 ?_
 refine zc rfl (zu rfl gt8 rfl rfl) st9 ?_
 refine zc rfl (zu rfl gt9 rfl rfl) st10 ?_
 refine zc rfl (zg rfl gt10 (zb rfl)) st3 ?_
 refine ze (zj (r_ret ?_))
 obtain rfl := Option.some.inj hF
 refine zz rfl (yc gt3 yb) (zy (leV.refl _) rfl ?_)
 exact ⟨rfl, rfl⟩
/-! varve/rights.Why -/
theorem ok21 {l0 : (List GRule)} {rep1 : Int} {o2 : GOp} {res : Int} {h : AH}  (hF : rightsWhy l0 rep1 o2 = some res) : Spec Tryz.prog 21 [.sl 5 (l0.map GRule.row), .int .u8 rep1, .agg [.int .u8 o2.kind, .sl 1 (o2.path.map strRow), .int .i64 o2.n, .str o2.text, .sl 3 (o2.dots.map GDot.row)]] h (fun rr hh => rr = .int .i64 res ∧ hh = h) := by
 unfold rightsWhy at hF
 refine ye Tryz.func21 rfl (by kernel_rfl) (env := [.sl 5 (l0.map GRule.row), .int .u8 rep1, .agg [.int .u8 o2.kind, .sl 1 (o2.path.map strRow), .int .i64 o2.n, .str o2.text, .sl 3 (o2.dots.map GDot.row)], za, za, za, za, za, za, za, za, za, za, za, za, za, za, za, za, za, za]) (by rfl) ?_
 refine zk (zd ?_)
 refine zc rfl (e_box (n := 0) rfl gt2 (zb rfl) rfl rfl) st5 ?_
 refine zc rfl (zg rfl rfl (zb rfl)) st6 ?_
 refine ze (zj (zk (zk (zd ?_))))
 refine zc rfl (zf rfl gt0 (zb rfl)) st7 ?_
 refine bindF hF (fun v1 hv1 hF => ?_)
 refine yf rfl (yg rfl rfl rfl (zo gt7 zw) (.cons (zb rfl) .nil)) (ok6 hv1) st8 ?_
 refine zc rfl (s_un rfl gt8 rfl) st9 ?_
 refine zc rfl (zf rfl gt9 (zb rfl)) st10 ?_
 refine zp rfl (fun hb => zt rfl ty29.choose_spec.1 gt5 rfl (ldC_agX (cs' := [.int .u8 o2.kind, .sl 1 (o2.path.map strRow), .int .i64 o2.n, .str o2.text, .sl 3 (o2.dots.map GDot.row)]) ty29.choose_spec.2 rfl rfl) (zb rfl)) st11 ?_
 refine gbindF hF (fun v2 hv2 hF => ?_)
 refine ops_gcall rfl (fun hb => yg rfl rfl rfl (zo (zn gt11 hb) zw) (.cons (zb rfl) .nil)) (fun hb => ok35 (hv2 hb)) st12 ?_
 refine zp rfl (fun hb => s_un rfl (zn gt12 hb) rfl) st13 ?_
 refine zc rfl (s_pick rfl gt10 rfl gt13 (pick_or (fun ht => gF ht))) st14 ?_
 refine ze (zj ?_)
 refine r_condF gt14 hF (fun hc3 hF => ?_) (fun hc3 hF => ?_)
 ·skip
  refine zk (zd ?_)
  refine zc rfl (zg rfl rfl (zb rfl)) st6 ?_
  refine ze (zj (r_ret (zx ?_)))
  obtain rfl := Option.some.inj hF
  refine zz rfl (yc gt6 yb) (zy (leV.refl _) rfl ?_)
  exact ⟨rfl, rfl⟩
 ·skip
  refine r_skip (zj (zk (zd ?_)))
  refine zc rfl (zf rfl gt0 (zb rfl)) st15 ?_
  refine zc rfl (zf rfl gt1 (zb rfl)) st16 ?_
  refine zc rfl (zi rfl fo29x1 gt5 rfl) st17 ?_
  refine zc rfl (zt rfl ty26 gt17 rfl (zr rfl) (zb rfl)) st18 ?_
  refine zc rfl (s_makeFunc rfl rfl rfl) st19 ?_
  refine bindF hF (fun v4 hv4 hF => ?_)
  refine yf rfl (yg rfl rfl rfl (zo gt15 (zo gt16 (zo gt18 (zo gt19 zw)))) (.cons (zb rfl) (.cons (zb rfl) (.cons (zb rfl) (.cons (zb rfl) .nil))))) (ok27 (fun _ v L M hv => ok36 (blk_ext2 (j := 0) rfl) hv) hv4) st20 ?_
  refine zc rfl (zg rfl gt20 (zb rfl)) st6 ?_
  refine ze (zj (r_ret ?_))
  obtain rfl := Option.some.inj hF
  refine zz rfl (yc gt6 yb) (zy (leV.refl _) rfl ?_)
  exact ⟨rfl, rfl⟩
/-! varve/rights.Allows -/
theorem ok20 {l0 : (List GRule)} {rep1 : Int} {o2 : GOp} {res : Bool} {h : AH}  (hF : rightsAllows l0 rep1 o2 = some res) : Spec Tryz.prog 20 [.sl 5 (l0.map GRule.row), .int .u8 rep1, .agg [.int .u8 o2.kind, .sl 1 (o2.path.map strRow), .int .i64 o2.n, .str o2.text, .sl 3 (o2.dots.map GDot.row)]] h (fun rr hh => rr = .bool res ∧ hh = h) := by
 unfold rightsAllows at hF
 refine ye Tryz.func20 rfl (by kernel_rfl) (env := [.sl 5 (l0.map GRule.row), .int .u8 rep1, .agg [.int .u8 o2.kind, .sl 1 (o2.path.map strRow), .int .i64 o2.n, .str o2.text, .sl 3 (o2.dots.map GDot.row)], za, za, za, za, za, za, za, za, za, za, za, za, za, za, za, za, za, za]) (by rfl) ?_
 refine zk (zd ?_)
 refine zc rfl (e_box (n := 0) rfl gt2 (zb rfl) rfl rfl) st5 ?_
 refine zc rfl (zg rfl rfl (zb rfl)) st6 ?_
 refine ze (zj (zk (zd ?_)))
 refine zc rfl (zf rfl gt0 (zb rfl)) st8 ?_
 refine zc rfl (zf rfl gt1 (zb rfl)) st9 ?_
 refine zc rfl (zt rfl ty29.choose_spec.1 gt5 rfl (ldC_agX (cs' := [.int .u8 o2.kind, .sl 1 (o2.path.map strRow), .int .i64 o2.n, .str o2.text, .sl 3 (o2.dots.map GDot.row)]) ty29.choose_spec.2 rfl rfl) (zb rfl)) st10 ?_
 refine bindF hF (fun v1 hv1 hF => ?_)
 refine yf rfl (yg rfl rfl rfl (zo gt8 (zo gt9 (zo gt10 zw))) (.cons (zb rfl) (.cons (zb rfl) (.cons (zb rfl) .nil)))) (ok21 hv1) st11 ?_
 refine zc rfl (zg rfl gt11 (zb rfl)) st7 ?_
 refine ze (zj (zk (zd ?_)))
 refine zc rfl (zf rfl gt7 (zb rfl)) st12 ?_
 refine zc rfl (zu rfl gt12 rfl rfl) st13 ?_
 refine zc rfl (zf rfl gt13 (zb rfl)) st14 ?_
 refine zp rfl (fun hb => zf rfl gt0 (zb rfl)) st15 ?_
 refine zp rfl (fun hb => zf rfl gt7 (zb rfl)) st16 ?_
 refine chkF hF (fun hg2 hF => ?_)
 refine zp rfl (fun hb => s_gidxRow default rfl el22 (zn gt15 hb) (zn gt16 hb) isl (hg2 hb)) st17 ?_
 refine zp rfl (fun hb => zi rfl fo54x3 (zn gt17 hb) rfl) st18 ?_
 refine zp rfl (fun hb => yi rfl ty4 (zn gt18 hb) (zr rfl) (zb rfl)) st19 ?_
 refine zc rfl (s_pick rfl gt14 gt19 rfl (pick_and (fun ht => gT ht))) st20 ?_
 refine zc rfl (zg rfl gt20 (zb rfl)) st6 ?_
 refine ze (zj (r_ret ?_))
 obtain rfl := Option.some.inj hF
 refine zz rfl (yc gt6 yb) (zy (leV.refl _) rfl ?_)
 exact ⟨rfl, rfl⟩
/-! varve/varvelaw42.known -/
theorem ok8  {res : Bool} {h : AH}  (hF : law42Xknown  = some res) : Spec Tryz.prog 8 [] h (fun rr hh => rr = .bool res ∧ hh = h) := by
 unfold law42Xknown at hF
 refine ye Tryz.func8 rfl (by kernel_rfl) (env := [za, za, za, za, za, za, za, za, za, za, za, za, za, za, za, za, za, za, za, za, za, za, za, za, za, za, za, za, za]) (by rfl) ?_
 refine zk (zd ?_)
 refine zc rfl (zg rfl rfl (zb rfl)) st0 ?_
 refine ze (zj (zk (zd ?_)))
 refine zc rfl (s_buildSlice (es := ([([42, 42] : Str)] : List Str).map strRow) rfl el26 ze9 rfl rfl (parto_cons rfl parto_nil) (.cons (zb rfl) .nil) rfl rfl rfl) st3 ?_
 refine zc rfl (s_build (cs' := [.int .u8 (255 : Int), .osl none 1 (([([42, 42] : Str)] : List Str).map strRow), .int .u8 (62 : Int), .bool true, .bool false]) rfl su54 ze54 pl54 (parto_cons rfl (parto_cons gt3 (parto_cons rfl (parto_cons rfl parto_nil)))) (.cons (zb rfl) (.cons (zb rfl) (.cons (zb rfl) (.cons (zb rfl) .nil)))) rfl rfl) st4 ?_
 refine zc rfl (s_buildSlice (es := ([([97] : Str), ([42, 42] : Str)] : List Str).map strRow) rfl el26 ze9 rfl rfl (parto_cons rfl (parto_cons rfl parto_nil)) (.cons (zb rfl) (.cons (zb rfl) .nil)) rfl rfl rfl) st5 ?_
 refine zc rfl (s_build (cs' := [.int .u8 (1 : Int), .osl none 1 (([([97] : Str), ([42, 42] : Str)] : List Str).map strRow), .int .u8 (62 : Int), .bool false, .bool false]) rfl su54 ze54 pl54 (parto_cons rfl (parto_cons gt5 (parto_cons rfl parto_nil))) (.cons (zb rfl) (.cons (zb rfl) (.cons (zb rfl) .nil))) rfl rfl) st6 ?_
 refine zc rfl (s_buildSlice (es := ([(GRule.mk (255 : Int) ([([42, 42] : Str)] : List Str) (62 : Int) true false), (GRule.mk (1 : Int) ([([97] : Str), ([42, 42] : Str)] : List Str) (62 : Int) false false)] : List GRule).map GRule.row) rfl el22 ze54 rfl rfl (parto_cons gt4 (parto_cons gt6 parto_nil)) (.cons (zb rfl) (.cons (zb rfl) .nil)) rfl rfl rfl) st7 ?_
 refine zc rfl (zg rfl gt7 (zb rfl)) st1 ?_
 refine ze (zj (zk (zd ?_)))
 refine zc rfl (s_buildSlice (es := ([([97] : Str), ([98] : Str)] : List Str).map strRow) rfl el26 ze9 rfl rfl (parto_cons rfl (parto_cons rfl parto_nil)) (.cons (zb rfl) (.cons (zb rfl) .nil)) rfl rfl rfl) st8 ?_
 refine zc rfl (s_build (cs' := [.int .u8 (1 : Int), .osl none 1 (([([97] : Str), ([98] : Str)] : List Str).map strRow), .int .i64 (0 : Int), .str ([] : Str), .osl none 3 (([] : List GDot).map GDot.row)]) rfl su29 ze29 pl29 (parto_cons rfl (parto_cons gt8 parto_nil)) (.cons (zb rfl) (.cons (zb rfl) .nil)) rfl rfl) st9 ?_
 refine zc rfl (e_alloc (n := 0) rfl ze29 rfl) st2 ?_
 refine zc rfl (e_store (cs' := [.int .u8 (1 : Int), .osl none 1 (([([97] : Str), ([98] : Str)] : List Str).map strRow), .int .i64 (0 : Int), .str ([] : Str), .osl none 3 (([] : List GDot).map GDot.row)]) rfl ty29.choose_spec.1 gt2 gt9 (zb rfl) rfl rfl rfl rfl rfl) rfl ?_
 refine ze (zj (zk (zd ?_)))
 refine zc rfl (zf rfl gt1 (zb rfl)) st10 ?_
 refine bindF hF (fun v1 hv1 hF => ?_)
 refine yf rfl (yg rfl rfl rfl (zo gt10 zw) (.cons (zb rfl) .nil)) ((ok6 hv1).le (.cons (leV.osl _ _ _) leL.nil)) st11 ?_
 refine zc rfl (zf rfl gt11 (zb rfl)) st12 ?_
 refine zp rfl (fun hb => zf rfl gt1 (zb rfl)) st13 ?_
 refine zp rfl (fun hb => zt rfl ty29.choose_spec.1 gt2 rfl (ldC_agX (cs' := [.int .u8 (1 : Int), .osl none 1 (([([97] : Str), ([98] : Str)] : List Str).map strRow), .int .i64 (0 : Int), .str ([] : Str), .osl none 3 (([] : List GDot).map GDot.row)]) ty29.choose_spec.2 rfl rfl) (zb rfl)) st14 ?_
 refine gbindF hF (fun v2 hv2 hF => ?_)
 refine ops_gcall rfl (fun hb => yg rfl rfl rfl (zo (zn gt13 hb) (zo rfl (zo (zn gt14 hb) zw))) (.cons (zb rfl) (.cons (zb rfl) (.cons (zb rfl) .nil)))) (fun hb => (ok20 (hv2 hb)).le (.cons (leV.osl _ _ _) (.eq (.cons (leV.agg (.eq (.cons (leV.osl _ _ _) (.eq (.eq (.cons (leV.osl _ _ _) leL.nil))))) rfl) leL.nil)))) st15 ?_
 refine zp rfl (fun hb => s_un rfl (zn gt15 hb) rfl) st16 ?_
 refine zc rfl (s_pick rfl gt12 gt16 rfl (pick_and (fun ht => gT ht))) st17 ?_
 refine zc rfl (zf rfl gt17 (zb rfl)) st18 ?_
 refine zp rfl (fun hb => zf rfl gt1 (zb rfl)) st19 ?_
 refine zp rfl (fun hb => zt rfl ty29.choose_spec.1 gt2 rfl (ldC_agX (cs' := [.int .u8 (1 : Int), .osl none 1 (([([97] : Str), ([98] : Str)] : List Str).map strRow), .int .i64 (0 : Int), .str ([] : Str), .osl none 3 (([] : List GDot).map GDot.row)]) ty29.choose_spec.2 rfl rfl) (zb rfl)) st20 ?_
 refine gbindF hF (fun v3 hv3 hF => ?_)
 refine ops_gcall rfl (fun hb => yg rfl rfl rfl (zo (zn gt19 hb) (zo rfl (zo (zn gt20 hb) zw))) (.cons (zb rfl) (.cons (zb rfl) (.cons (zb rfl) .nil)))) (fun hb => (ok20 (hv3 hb)).le (.cons (leV.osl _ _ _) (.eq (.cons (leV.agg (.eq (.cons (leV.osl _ _ _) (.eq (.eq (.cons (leV.osl _ _ _) leL.nil))))) rfl) leL.nil)))) st21 ?_
 refine zc rfl (s_pick rfl gt18 gt21 rfl (pick_and (fun ht => gT ht))) st22 ?_
 refine zc rfl (zf rfl gt22 (zb rfl)) st23 ?_
 refine zp rfl (fun hb => zf rfl gt1 (zb rfl)) st24 ?_
 refine zp rfl (fun hb => zt rfl ty29.choose_spec.1 gt2 rfl (ldC_agX (cs' := [.int .u8 (1 : Int), .osl none 1 (([([97] : Str), ([98] : Str)] : List Str).map strRow), .int .i64 (0 : Int), .str ([] : Str), .osl none 3 (([] : List GDot).map GDot.row)]) ty29.choose_spec.2 rfl rfl) (zb rfl)) st25 ?_
 refine gbindF hF (fun v4 hv4 hF => ?_)
 refine ops_gcall rfl (fun hb => yg rfl rfl rfl (zo (zn gt24 hb) (zo rfl (zo (zn gt25 hb) zw))) (.cons (zb rfl) (.cons (zb rfl) (.cons (zb rfl) .nil)))) (fun hb => (ok21 (hv4 hb)).le (.cons (leV.osl _ _ _) (.eq (.cons (leV.agg (.eq (.cons (leV.osl _ _ _) (.eq (.eq (.cons (leV.osl _ _ _) leL.nil))))) rfl) leL.nil)))) st26 ?_
 refine zp rfl (fun hb => zu rfl (zn gt26 hb) rfl rfl) st27 ?_
 refine zc rfl (s_pick rfl gt23 gt27 rfl (pick_and (fun ht => gT ht))) st28 ?_
 refine zc rfl (zg rfl gt28 (zb rfl)) st0 ?_
 refine ze (zj (r_ret ?_))
 obtain rfl := Option.some.inj hF
 refine zz rfl (yc gt0 yb) (zy (leV.refl _) rfl ?_)
 exact ⟨rfl, rfl⟩
/-! slices.AppendSeq[[]varve/api.Row,varve/api.Row] -/
theorem ok43 {s0 : (List GRow)} {seq1 : (S : Type) → (S → GRow → Option (Bool × S)) → S → Option S} {fseq1 : FuncId} {aseq1 kseq1 : List AV} {res : (List GRow)} {h : AH} (hseq1 : ∀ (S : Type) (Hy : S → AH) (nb nt : Nat), (∀ s, (Hy s).blks.length = nb) → (∀ s, (Hy s).toks.length = nt) → (∀ s, (Hy s).closed nb nt) → (∀ s, ∃ L M, Hy s = h.ext L M) → ∀ (y : S → GRow → Option (Bool × S)) (idy : Nat), idy < nb → (∀ s x b s' L M, y s x = some (b, s') → SpecY Tryz.prog idy [.agg [.sl 1 (x.path.map strRow), .int .u8 x.leaf.typ, .int .i64 x.leaf.n, .int .u64 x.leaf.time, .int .u8 x.leaf.dot.actor.rep, .int .u32 x.leaf.dot.actor.inc, .int .u64 x.leaf.dot.seq, .str x.leaf.text, .sl 5 (x.leaf.items.map GItem.row), .sl 3 (x.leaf.tombs.map GDot.row)]] ((Hy s).ext L M) (fun rr hh => rr = .bool b ∧ hh = (Hy s').ext L M)) → ∀ s s', seq1 S y s = some s' → Spec Tryz.prog fseq1 (aseq1 ++ [.yld idy] ++ kseq1) (Hy s) (fun rr hh => rr = .tup [] ∧ hh = Hy s')) (hF : slicesAppendSeqRow s0 seq1 = some res) : Spec Tryz.prog 43 [.osl none 10 (s0.map GRow.row), .fn (.func fseq1) aseq1 kseq1] h (fun rr hh => rr = .sl 10 (res.map GRow.row) ∧ hh = h) := by
 unfold slicesAppendSeqRow at hF
 refine spec_of_body_extC Tryz.func43 rfl (by kernel_rfl) (env := [.osl none 10 (s0.map GRow.row), .fn (.func fseq1) aseq1 kseq1, za, za, za, za, za, za, za, za, za, za, za]) (by rfl) (fun hlow hC => ?_)
 simp only [lowL, AV.low, Bool.and_eq_true, Bool.true_and, and_true] at hlow
 have hlaseq1 : ∀ n m, h.blks.length ≤ n → h.toks.length ≤ m → lowL n m aseq1 = true := fun n m h1 h2 => lowL_up h1 h2 _ (by simp [hlow])
 have hlkseq1 : ∀ n m, h.blks.length ≤ n → h.toks.length ≤ m → lowL n m kseq1 = true := fun n m h1 h2 => lowL_up h1 h2 _ (by simp [hlow])
 refine zk (zd ?_)
 refine zc rfl (e_box (n := 0) rfl gt0 (zb rfl) rfl rfl) st2 ?_
 refine zc rfl (zg rfl rfl (ty_nil el37)) st4 ?_
 refine ze (zj (zk (zk (zd ?_))))
 refine zc rfl (zf rfl gt1 (zb rfl)) st6 ?_
 refine ze (zj (r_block ?_))
 refine r_range (fun (s1 : (List GRow)) => h) (fun (s1 : (List GRow)) => [.cells [.osl (some (h.toks.length + 0)) 10 (s1.map GRow.row)]]) (fun (s1 : (List GRow)) => [(s1).length]) s0 hF (wk.trans (wk_tokB (j := 0) rfl gt0 rfl st0 rfl rfl) (wk.le (by exact (.drop (.drop (.eq (.drop (.drop (.drop (.eq (.d4 (.drop (.drop leL.nil))))))))))))) (fun _ => rfl) rfl rfl rfl (fun _ => rfl) rfl gt6 rfl (fun lp1 hlp1 r1 hr1q => ?_) (fun s1 H1 hH hF => ?_) (fun j1 s1 H1 hH hF => ?_)
 ·skip
  have hlowlp1 : ∀ q1 q2, (lp1 q1 q2).low (h.blks.length + 2) (h.toks.length + 1) = true := by intro q1 q2; rw [hlp1]; simp [Blk.low, lowL, AV.low, hlaseq1, hlkseq1]
  refine Spec.mono (hseq1 _ (fam (fun (s1 : (List GRow)) => h) (fun (s1 : (List GRow)) => [.cells [.osl (some (h.toks.length + 0)) 10 (s1.map GRow.row)]]) (fun (s1 : (List GRow)) => [(s1).length]) lp1) (h.blks.length + 2) (h.toks.length + 1) (fun _ => by simp only [fam]; rw [ext_len rfl]; rfl) (fun _ => by simp only [fam]; rw [ext_tlen rfl]; rfl) (fun _ => closed_ext hC (Nat.le_add_right _ _) (Nat.le_add_right _ _) (by simp only [List.all_append, List.all_cons, List.all_nil, Bool.and_true, List.length_cons, List.length_nil, Nat.reduceAdd, Nat.zero_add, hlowlp1] <;> simp [Blk.low, lowL, AV.low, hlaseq1, hlkseq1])) (fun _ => ⟨_, _, rfl⟩) _ _ (Nat.lt_succ_self _) (y_body hlp1 (xs := fun (x : GRow) => [.agg [.sl 1 (x.path.map strRow), .int .u8 x.leaf.typ, .int .i64 x.leaf.n, .int .u64 x.leaf.time, .int .u8 x.leaf.dot.actor.rep, .int .u32 x.leaf.dot.actor.inc, .int .u64 x.leaf.dot.seq, .str x.leaf.text, .sl 5 (x.leaf.items.map GItem.row), .sl 3 (x.leaf.tombs.map GDot.row)]]) (fun _ => rfl) (fun _ => rfl) rfl (fun _ => rfl) (fun _ => by simp only [setL, List.set_cons_succ, List.set_cons_zero]; try rfl) (fun s1 x1 o1 L1 M1 H1 hH hF => ?_)) _ _ hr1q) (fun _ _ h => h.2)
  obtain rfl : H1 = ((h.ext ([.cells [.osl (some (h.toks.length + 0)) 10 (s1.map GRow.row)]] ++ [lp1 .ready none]) [(s1).length]).ext L1 M1).ext [] [] := hH
  refine zd ?_
  refine zc rfl (n_alloc (deep_len rfl rfl) (n := 0) rfl ze49 rfl) st5 ?_
  refine zc rfl (n_store (deep_len rfl rfl) (cs' := [.sl 1 (x1.path.map strRow), .int .u8 x1.leaf.typ, .int .i64 x1.leaf.n, .int .u64 x1.leaf.time, .int .u8 x1.leaf.dot.actor.rep, .int .u32 x1.leaf.dot.actor.inc, .int .u64 x1.leaf.dot.seq, .str x1.leaf.text, .sl 5 (x1.leaf.items.map GItem.row), .sl 3 (x1.leaf.tombs.map GDot.row)]) rfl ty49.choose_spec.1 gt5 gt7 (zb rfl) rfl rfl rfl rfl rfl) rfl ?_
  refine ze ?_
  refine q_assign rfl rfl ?_
  refine r_block (zd ?_)
  refine zc rfl (d_load rfl rfl ty37 gt2 rfl (zr rfl) (zb rfl)) st8 ?_
  refine zc rfl (n_load (deep_len rfl rfl) rfl ty49.choose_spec.1 gt5 rfl (ldC_agX (cs' := [.sl 1 (x1.path.map strRow), .int .u8 x1.leaf.typ, .int .i64 x1.leaf.n, .int .u64 x1.leaf.time, .int .u8 x1.leaf.dot.actor.rep, .int .u32 x1.leaf.dot.actor.inc, .int .u64 x1.leaf.dot.seq, .str x1.leaf.text, .sl 5 (x1.leaf.items.map GItem.row), .sl 3 (x1.leaf.tombs.map GDot.row)]) ty49.choose_spec.2 rfl rfl) (zb rfl)) st9 ?_
  refine zc rfl (s_buildSlice (es := ([x1] : List GRow).map GRow.row) rfl el37 ze49 rfl rfl (parto_cons gt9 parto_nil) (.cons (zb rfl) .nil) rfl rfl rfl) st10 ?_
  refine chkF hF (fun hm3 hF => ?_)
  refine zc rfl (d_appT (j := 0) (T' := [((s1 ++ ([x1] : List GRow))).length]) rfl rfl rfl rfl rfl el37 el37 gt8 gt10 (zb rfl) (zb rfl) news_osl hm3 rfl rfl) st11 ?_
  refine zc rfl (d_store (A' := [.cells [.osl (some (h.toks.length + 0)) 10 ((s1 ++ ([x1] : List GRow)).map GRow.row)]] ++ [lp1 .busy none]) (cs' := [.osl (some (h.toks.length + 0)) 10 ((s1 ++ ([x1] : List GRow)).map GRow.row)]) rfl rfl ty37 gt2 gt11 (zb rfl) rfl rfl rfl rfl rfl rfl) rfl ?_
  refine ze (q_block ?_)
  obtain rfl := Option.some.inj hF
  exact q_roundN hC rfl rfl rfl rfl rfl rfl rfl rfl rfl rfl rfl (by simp only [List.all_append, List.all_cons, List.all_nil, Bool.and_true, List.length_cons, List.length_nil, Nat.reduceAdd, Nat.zero_add, hlowlp1] <;> simp [Blk.low, lowL, AV.low, hlaseq1, hlkseq1])
 ·skip
  obtain rfl : H1 = h.ext [.cells [.osl (some (h.toks.length + 0)) 10 (s1.map GRow.row)], .dead] [(s1).length] := hH
  refine q_block (zj (zk (zd ?_)))
  refine zc rfl (zt rfl ty37 gt2 rfl (zr rfl) (zb rfl)) st12 ?_
  refine zc rfl (zg rfl gt12 (zb rfl)) st4 ?_
  refine ze (zj (r_ret ?_))
  obtain rfl := Option.some.inj hF
  refine zz rfl (yc gt4 yb) (zy (leV.osl _ _ _) rfl ?_)
  exact ⟨rfl, rfl⟩
 ·skip
  obtain rfl : H1 = h.ext [.cells [.osl (some (h.toks.length + 0)) 10 (s1.map GRow.row)], .dead] [(s1).length] := hH
  cases hF
/-! slices.Collect[varve/api.Row] -/
theorem ok25 {seq0 : (S : Type) → (S → GRow → Option (Bool × S)) → S → Option S} {fseq0 : FuncId} {aseq0 kseq0 : List AV} {res : (List GRow)} {h : AH} (hseq0 : ∀ (S : Type) (Hy : S → AH) (nb nt : Nat), (∀ s, (Hy s).blks.length = nb) → (∀ s, (Hy s).toks.length = nt) → (∀ s, (Hy s).closed nb nt) → (∀ s, ∃ L M, Hy s = h.ext L M) → ∀ (y : S → GRow → Option (Bool × S)) (idy : Nat), idy < nb → (∀ s x b s' L M, y s x = some (b, s') → SpecY Tryz.prog idy [.agg [.sl 1 (x.path.map strRow), .int .u8 x.leaf.typ, .int .i64 x.leaf.n, .int .u64 x.leaf.time, .int .u8 x.leaf.dot.actor.rep, .int .u32 x.leaf.dot.actor.inc, .int .u64 x.leaf.dot.seq, .str x.leaf.text, .sl 5 (x.leaf.items.map GItem.row), .sl 3 (x.leaf.tombs.map GDot.row)]] ((Hy s).ext L M) (fun rr hh => rr = .bool b ∧ hh = (Hy s').ext L M)) → ∀ s s', seq0 S y s = some s' → Spec Tryz.prog fseq0 (aseq0 ++ [.yld idy] ++ kseq0) (Hy s) (fun rr hh => rr = .tup [] ∧ hh = Hy s')) (hF : slicesCollectRow seq0 = some res) : Spec Tryz.prog 25 [.fn (.func fseq0) aseq0 kseq0] h (fun rr hh => rr = .sl 10 (res.map GRow.row) ∧ hh = h) := by
 unfold slicesCollectRow at hF
 refine spec_of_body_extC Tryz.func25 rfl (by kernel_rfl) (env := [.fn (.func fseq0) aseq0 kseq0, za, za, za, za]) (by rfl) (fun hlow hC => ?_)
 simp only [lowL, AV.low, Bool.and_eq_true, Bool.true_and, and_true] at hlow
 have hlaseq0 : ∀ n m, h.blks.length ≤ n → h.toks.length ≤ m → lowL n m aseq0 = true := fun n m h1 h2 => lowL_up h1 h2 _ (by simp [hlow])
 have hlkseq0 : ∀ n m, h.blks.length ≤ n → h.toks.length ≤ m → lowL n m kseq0 = true := fun n m h1 h2 => lowL_up h1 h2 _ (by simp [hlow])
 refine zk (zd ?_)
 refine zc rfl (zg rfl rfl (ty_nil el37)) st2 ?_
 refine ze (zj (zk (zd ?_)))
 refine zc rfl (zf rfl gt0 (zb rfl)) st3 ?_
 refine bindF hF (fun v1 hv1 hF => ?_)
 refine yf rfl (yg rfl rfl rfl (zo rfl (zo gt3 zw)) (.cons (ty_nil el37) (.cons (zb rfl) .nil))) (ok43 (fun S Hy nb nt hN hNt hC hE y idy hly hy s s' hF => hseq0 S Hy nb nt hN hNt hC (fun s => by obtain ⟨L, M, e⟩ := hE s; exact ⟨_, _, by rw [e, ext_ext]⟩) y idy hly hy s s' hF) hv1) st4 ?_
 refine zc rfl (zg rfl gt4 (zb rfl)) st2 ?_
 refine ze (zj (r_ret ?_))
 obtain rfl := Option.some.inj hF
 refine zz rfl (yc gt2 yb) (zy (leV.refl _) rfl ?_)
 exact ⟨rfl, rfl⟩
/-! varve/paths.rows -/
theorem ok26 {t0 : (List GNode)} {ahead1 : (List Str)} {res : ((List GNode) × (List Str))} {h : AH}  (hF : pathsXrows t0 ahead1 = some res) : Spec Tryz.prog 26 [.sl 3 (t0.map GNode.row), .sl 1 (ahead1.map strRow)] h (CloK h 44 [.cells [.sl 3 (res.1.map GNode.row)], .cells [.sl 1 (res.2.map strRow)]]) := by
 unfold pathsXrows at hF
 refine ye Tryz.func26 rfl (by kernel_rfl) (env := [.sl 3 (t0.map GNode.row), .sl 1 (ahead1.map strRow), za, za, za, za]) (by rfl) ?_
 refine zk (zd ?_)
 refine zc rfl (e_box (n := 0) rfl gt0 (zb rfl) rfl rfl) st2 ?_
 refine zc rfl (e_box (n := 1) rfl gt1 (zb rfl) rfl rfl) st3 ?_
 refine zc rfl (zg rfl rfl (zb rfl)) st4 ?_
 refine ze (zj (zk (zd ?_)))
 refine zc rfl (s_makeFunc rfl rfl rfl) st5 ?_
 refine zc rfl (zg rfl gt5 (zb rfl)) st4 ?_
 refine ze (zj (r_ret ?_))
 obtain rfl := Option.some.inj hF
 refine zz rfl (yc gt4 yb) (fin_clo (bs := [.cells [.sl 3 (t0.map GNode.row)], .cells [.sl 1 (ahead1.map strRow)]]) (by simp [AV.low, lowL]) rfl (by simp [Blk.low, lowL, AV.low]) ?_)
 exact ⟨rfl, rfl⟩
/-! slices.Clone[[]string,string] -/
theorem ok45 {s0 : (List Str)} {res : (List Str)} {h : AH}  (hF : slicesCloneString s0 = some res) : Spec Tryz.prog 45 [.sl 1 (s0.map strRow)] h (OwnK h 1 res.length (res.map strRow)) := by
 unfold slicesCloneString at hF
 refine ye Tryz.func45 rfl (by kernel_rfl) (env := [.sl 1 (s0.map strRow), za, za, za, za, za, za, za]) (by rfl) ?_
 refine zk (zd ?_)
 refine zc rfl (zg rfl rfl (ty_nil el26)) st2 ?_
 refine ze (zj (zk (zk (zd ?_))))
 refine zc rfl (zf rfl gt0 (zb rfl)) st3 ?_
 refine ops_nilqE rfl rfl el26 gt3 isl rfl (fun _ => st4) hF (fun b1 hb1 hF => ?_)
 refine ze (zj ?_)
 refine r_condF gt4 hF (fun hc2 hF => ?_) (fun hc2 hF => ?_)
 ·skip
  refine zk (zd ?_)
  refine zc rfl (zg rfl rfl (ty_nil el26)) st2 ?_
  refine ze (zj (r_ret (zx ?_)))
  obtain rfl := Option.some.inj hF
  refine zz rfl (yc gt2 yb) (fin_own0 (row := strRow) (L := ([] : List Str)) ?_)
  exact ⟨rfl, rfl⟩
 ·skip
  refine r_skip (zj (zk (zd ?_)))
  refine zc rfl (s_buildSlice (es := ([] : List Str).map strRow) rfl el26 ze9 rfl rfl parto_nil .nil rfl rfl rfl) st5 ?_
  refine zc rfl (zf rfl gt0 (zb rfl)) st6 ?_
  refine chkF hF (fun hm3 hF => ?_)
  refine zc rfl (e_appN (m := 0) (T' := [((([] : List Str) ++ s0)).length]) rfl rfl rfl rfl el26 el26 gt5 gt6 (zb rfl) (zb rfl) news_sl hm3 rfl rfl) st7 ?_
  refine zc rfl (zg rfl gt7 (zb rfl)) st2 ?_
  refine ze (zj (r_ret ?_))
  obtain rfl := Option.some.inj hF
  refine zz rfl (yc gt2 yb) (fin_own ?_)
  exact ⟨rfl, rfl⟩
/-! slices.Clone[[]varve/api.Item,varve/api.Item] -/
theorem ok68 {s0 : (List GItem)} {res : (List GItem)} {h : AH}  (hF : slicesCloneItem s0 = some res) : Spec Tryz.prog 68 [.sl 5 (s0.map GItem.row)] h (OwnK h 5 res.length (res.map GItem.row)) := by
 unfold slicesCloneItem at hF
 refine ye Tryz.func68 rfl (by kernel_rfl) (env := [.sl 5 (s0.map GItem.row), za, za, za, za, za, za, za]) (by rfl) ?_
 refine zk (zd ?_)
 refine zc rfl (zg rfl rfl (ty_nil el45)) st2 ?_
 refine ze (zj (zk (zk (zd ?_))))
 refine zc rfl (zf rfl gt0 (zb rfl)) st3 ?_
 refine ops_nilqE rfl rfl el45 gt3 isl rfl (fun _ => st4) hF (fun b1 hb1 hF => ?_)
 refine ze (zj ?_)
 refine r_condF gt4 hF (fun hc2 hF => ?_) (fun hc2 hF => ?_)
 ·skip
  refine zk (zd ?_)
  refine zc rfl (zg rfl rfl (ty_nil el45)) st2 ?_
  refine ze (zj (r_ret (zx ?_)))
  obtain rfl := Option.some.inj hF
  refine zz rfl (yc gt2 yb) (fin_own0 (row := GItem.row) (L := ([] : List GItem)) ?_)
  exact ⟨rfl, rfl⟩
 ·skip
  refine r_skip (zj (zk (zd ?_)))
  refine zc rfl (s_buildSlice (es := ([] : List GItem).map GItem.row) rfl el45 ze79 rfl rfl parto_nil .nil rfl rfl rfl) st5 ?_
  refine zc rfl (zf rfl gt0 (zb rfl)) st6 ?_
  refine chkF hF (fun hm3 hF => ?_)
  refine zc rfl (e_appN (m := 0) (T' := [((([] : List GItem) ++ s0)).length]) rfl rfl rfl rfl el45 el45 gt5 gt6 (zb rfl) (zb rfl) news_sl hm3 rfl rfl) st7 ?_
  refine zc rfl (zg rfl gt7 (zb rfl)) st2 ?_
  refine ze (zj (r_ret ?_))
  obtain rfl := Option.some.inj hF
  refine zz rfl (yc gt2 yb) (fin_own ?_)
  exact ⟨rfl, rfl⟩
/-! slices.Clone[[]varve/api.Dot,varve/api.Dot] -/
theorem ok69 {s0 : (List GDot)} {res : (List GDot)} {h : AH}  (hF : slicesCloneDot s0 = some res) : Spec Tryz.prog 69 [.sl 3 (s0.map GDot.row)] h (OwnK h 3 res.length (res.map GDot.row)) := by
 unfold slicesCloneDot at hF
 refine ye Tryz.func69 rfl (by kernel_rfl) (env := [.sl 3 (s0.map GDot.row), za, za, za, za, za, za, za]) (by rfl) ?_
 refine zk (zd ?_)
 refine zc rfl (zg rfl rfl (ty_nil el27)) st2 ?_
 refine ze (zj (zk (zk (zd ?_))))
 refine zc rfl (zf rfl gt0 (zb rfl)) st3 ?_
 refine ops_nilqE rfl rfl el27 gt3 isl rfl (fun _ => st4) hF (fun b1 hb1 hF => ?_)
 refine ze (zj ?_)
 refine r_condF gt4 hF (fun hc2 hF => ?_) (fun hc2 hF => ?_)
 ·skip
  refine zk (zd ?_)
  refine zc rfl (zg rfl rfl (ty_nil el27)) st2 ?_
  refine ze (zj (r_ret (zx ?_)))
  obtain rfl := Option.some.inj hF
  refine zz rfl (yc gt2 yb) (fin_own0 (row := GDot.row) (L := ([] : List GDot)) ?_)
  exact ⟨rfl, rfl⟩
 ·skip
  refine r_skip (zj (zk (zd ?_)))
  refine zc rfl (s_buildSlice (es := ([] : List GDot).map GDot.row) rfl el27 ze44 rfl rfl parto_nil .nil rfl rfl rfl) st5 ?_
  refine zc rfl (zf rfl gt0 (zb rfl)) st6 ?_
  refine chkF hF (fun hm3 hF => ?_)
  refine zc rfl (e_appN (m := 0) (T' := [((([] : List GDot) ++ s0)).length]) rfl rfl rfl rfl el27 el27 gt5 gt6 (zb rfl) (zb rfl) news_sl hm3 rfl rfl) st7 ?_
  refine zc rfl (zg rfl gt7 (zb rfl)) st2 ?_
  refine ze (zj (r_ret ?_))
  obtain rfl := Option.some.inj hF
  refine zz rfl (yc gt2 yb) (fin_own ?_)
  exact ⟨rfl, rfl⟩
/-! varve/paths.own -/
theorem ok46 {l0 : GLeaf} {res : GLeaf} {h : AH}  (hF : pathsXown l0 = some res) : Spec Tryz.prog 46 [.agg [.int .u8 l0.typ, .int .i64 l0.n, .int .u64 l0.time, .int .u8 l0.dot.actor.rep, .int .u32 l0.dot.actor.inc, .int .u64 l0.dot.seq, .str l0.text, .sl 5 (l0.items.map GItem.row), .sl 3 (l0.tombs.map GDot.row)]] h (fun rr hh => rr = .agg [.int .u8 res.typ, .int .i64 res.n, .int .u64 res.time, .int .u8 res.dot.actor.rep, .int .u32 res.dot.actor.inc, .int .u64 res.dot.seq, .str res.text, .sl 5 (res.items.map GItem.row), .sl 3 (res.tombs.map GDot.row)] ∧ hh = h) := by
 unfold pathsXown at hF
 refine ye Tryz.func46 rfl (by kernel_rfl) (env := [.agg [.int .u8 l0.typ, .int .i64 l0.n, .int .u64 l0.time, .int .u8 l0.dot.actor.rep, .int .u32 l0.dot.actor.inc, .int .u64 l0.dot.seq, .str l0.text, .sl 5 (l0.items.map GItem.row), .sl 3 (l0.tombs.map GDot.row)], za, za, za, za, za, za, za, za, za, za, za]) (by rfl) ?_
 refine zk (zd ?_)
 refine zc rfl (e_box (n := 0) rfl gt0 (zb rfl) rfl rfl) st1 ?_
 refine zc rfl (e_alloc (n := 1) rfl ze47 rfl) st2 ?_
 refine ze (zj (zk ?_))
 refine r_drawn [] [] trivial mixed (by kernel_rfl) ?_
 refine zq rfl rfl (zi rfl fo47x5 gt1 rfl) st3 ?_
 refine zq rfl rfl (zt rfl ty45 gt3 rfl (zr rfl) (zb rfl)) st4 ?_
 refine bindF hF (fun v1 hv1 hF => ?_)
 refine draw_callH rfl FOk.nil (by rfl) rfl (yg rfl rfl rfl (zo gt4 zw) (.cons (zb rfl) .nil)) (own_ext (T' := [(v1).length]) (ok68 hv1) (m := 0) rfl rfl) st5 ?_
 refine zq rfl rfl (zi rfl fo47x6 gt1 rfl) st6 ?_
 refine zq rfl rfl (zt rfl ty27 gt6 rfl (zr rfl) (zb rfl)) st7 ?_
 refine bindF hF (fun v2 hv2 hF => ?_)
 refine draw_callH rfl FOk.nil (by rfl) rfl (yg rfl rfl rfl (zo gt7 zw) (.cons (zb rfl) .nil)) (own_ext (T' := [(v1).length, (v2).length]) (ok69 hv2) (m := 1) rfl rfl) st8 ?_
 refine zq rfl rfl (zi rfl fo47x5 gt1 rfl) st9 ?_
 refine draw_eff rfl FOk.nil (by kernel_rfl) rfl (e_store (cs' := [.int .u8 l0.typ, .int .i64 l0.n, .int .u64 l0.time, .int .u8 l0.dot.actor.rep, .int .u32 l0.dot.actor.inc, .int .u64 l0.dot.seq, .str l0.text, .osl (some (h.toks.length + 0)) 5 (v1.map GItem.row), .sl 3 (l0.tombs.map GDot.row)]) rfl ty45 gt9 gt5 (zb rfl) rfl rfl rfl rfl rfl) rfl ?_
 refine zq rfl rfl (zi rfl fo47x6 gt1 rfl) st10 ?_
 refine draw_eff rfl FOk.nil (by kernel_rfl) rfl (e_store (cs' := [.int .u8 l0.typ, .int .i64 l0.n, .int .u64 l0.time, .int .u8 l0.dot.actor.rep, .int .u32 l0.dot.actor.inc, .int .u64 l0.dot.seq, .str l0.text, .osl (some (h.toks.length + 0)) 5 (v1.map GItem.row), .osl (some (h.toks.length + 1)) 3 (v2.map GDot.row)]) rfl ty27 gt10 gt8 (zb rfl) rfl rfl rfl rfl rfl) rfl ?_
 refine draw_nil ?_
 refine zj (zk (zd ?_))
 refine zc rfl (zt rfl ty47.choose_spec.1 gt1 rfl (ldC_agX (cs' := [.int .u8 l0.typ, .int .i64 l0.n, .int .u64 l0.time, .int .u8 l0.dot.actor.rep, .int .u32 l0.dot.actor.inc, .int .u64 l0.dot.seq, .str l0.text, .osl (some (h.toks.length + 0)) 5 (v1.map GItem.row), .osl (some (h.toks.length + 1)) 3 (v2.map GDot.row)]) ty47.choose_spec.2 rfl rfl) (zb rfl)) st11 ?_
 refine zc rfl (e_store (cs' := [.int .u8 l0.typ, .int .i64 l0.n, .int .u64 l0.time, .int .u8 l0.dot.actor.rep, .int .u32 l0.dot.actor.inc, .int .u64 l0.dot.seq, .str l0.text, .osl (some (h.toks.length + 0)) 5 (v1.map GItem.row), .osl (some (h.toks.length + 1)) 3 (v2.map GDot.row)]) rfl ty47.choose_spec.1 gt2 gt11 (zb rfl) rfl rfl rfl rfl rfl) rfl ?_
 refine ze (zj (r_ret ?_))
 obtain rfl := Option.some.inj hF
 refine zz rfl (rl_cell ty47.choose_spec.1 gt2 rfl (ldC_agX (cs' := [.int .u8 l0.typ, .int .i64 l0.n, .int .u64 l0.time, .int .u8 l0.dot.actor.rep, .int .u32 l0.dot.actor.inc, .int .u64 l0.dot.seq, .str l0.text, .osl (some (h.toks.length + 0)) 5 (v1.map GItem.row), .osl (some (h.toks.length + 1)) 3 (v2.map GDot.row)]) ty47.choose_spec.2 rfl rfl) (zb rfl) yb) (zy (leV.agg (.eq (.eq (.eq (.eq (.eq (.eq (.eq (.cons (leV.osl _ _ _) (.cons (leV.osl _ _ _) leL.nil))))))))) rfl) rfl ?_)
 exact ⟨rfl, rfl⟩
/-! varve/paths.rows 1 -/
theorem ok44N (n : Nat) : ∀ {S : Type} {Hy : S → AH} {nb nt : Nat} {yield0 : S → GRow → Option (Bool × S)} {idy : Nat} {c0 : (List GNode)} {i0 : Nat} {c1 : (List Str)} {i1 : Nat} {s0 : S} {res : S} (hN : ∀ s, (Hy s).blks.length = nb) (hNt : ∀ s, (Hy s).toks.length = nt) (hC : ∀ s, (Hy s).closed nb nt) (hly : idy < nb) (hy : ∀ s x b s' L M, yield0 s x = some (b, s') → SpecY Tryz.prog idy [.agg [.sl 1 (x.path.map strRow), .int .u8 x.leaf.typ, .int .i64 x.leaf.n, .int .u64 x.leaf.time, .int .u8 x.leaf.dot.actor.rep, .int .u32 x.leaf.dot.actor.inc, .int .u64 x.leaf.dot.seq, .str x.leaf.text, .sl 5 (x.leaf.items.map GItem.row), .sl 3 (x.leaf.tombs.map GDot.row)]] ((Hy s).ext L M) (fun rr hh => rr = .bool b ∧ hh = (Hy s').ext L M)) (hb0 : ∀ s, (Hy s).blk i0 = some (.cells [.sl 3 (c0.map GNode.row)])) (hb1 : ∀ s, (Hy s).blk i1 = some (.cells [.sl 1 (c1.map strRow)])), pathsXrowsC1N n S yield0 c0 c1 s0 = some res → Spec Tryz.prog 44 [.yld idy, .ptr i0 0, .ptr i1 0] (Hy s0) (fun rr hh => rr = .tup [] ∧ hh = Hy res) := by
 induction n with
 | zero => intro S Hy nb nt yield0 idy c0 i0 c1 i1 s0 res hN hNt hC hly hy hb0 hb1 hF; simp [pathsXrowsC1N] at hF
 | succ n ih =>
  intro S Hy nb nt yield0 idy c0 i0 c1 i1 s0 res hN hNt hC hly hy hb0 hb1 hF
  unfold pathsXrowsC1N at hF
  refine ye Tryz.func44 rfl (by kernel_rfl) (env := [.yld idy, .ptr i0 0, .ptr i1 0, za, za, za, za, za, za, za, za, za, za, za, za, za, za, za, za, za, za, za, za, za, za, za, za, za, za, za, za, za, za, za, za, za, za, za, za, za, za, za, za, za, za, za, za, za]) (by rfl) ?_
  have hly2 : ∀ k, idy < nb + k := fun k => Nat.lt_of_lt_of_le hly (Nat.le_add_right _ _)
  have hli0 := blk_lt (hb0 s0) (hN s0)
  have hli0b : ∀ k, i0 < nb + k := fun k => Nat.lt_of_lt_of_le hli0 (Nat.le_add_right _ _)
  have hli1 := blk_lt (hb1 s0) (hN s0)
  have hli1b : ∀ k, i1 < nb + k := fun k => Nat.lt_of_lt_of_le hli1 (Nat.le_add_right _ _)
  refine zk (zd ?_)
  refine zc rfl (n_box (hN _) (n := 0) rfl gt0 (zb rfl) rfl rfl) st3 ?_
  refine ze (zj (zk (zd ?_)))
  refine zc rfl (b_load rfl ty24 gt1 (hb0 _) (zr rfl) (zb rfl)) st10 ?_
  refine ops_len rfl (yh rfl rfl rfl rfl el24 gt10 lenMap) st11 fun hn1 => ?_
  replace hn1 := lenN hn1
  refine zc rfl (zf rfl rfl (zb rfl)) st12 ?_
  refine ze (zj (r_block ?_))
  refine yk (fun (n1 : Nat) (s1 : S) => anys [0, 1, 4, 5, 6, 7, 8, 9, 13, 14, 15, 16, 17, 18, 19, 20, 21, 22, 23, 24, 25, 26, 27, 28, 29, 30, 31, 32, 33, 34, 35, 36, 37, 38, 39, 40, 41, 42, 43, 44, 45, 46, 47] [(12, .int .i64 (n1 : Int))]) (fun s1 => (Hy s1).ext [.cells [.yld idy]] []) hF (fun _ _ => by simp only [anys, upd, List.set_cons_succ, List.set_cons_zero]; try rfl) (wk.le (by exact (.drop (.drop (.eq (.eq (.d4 (.drop (.drop (.eq (.eq (.cons (leV.of_eq rfl) (.d16 (.d16 (.drop (.drop (.drop leL.nil))))))))))))))))) ?_
  intro n1 s1 hi1 hF
  refine zk (zd ?_)
  refine zc rfl (zu rfl gt12 gt11 rfl) st13 ?_
  refine ze (zj (zk ?_))
  refine r_condL gt13 hF (fun x1 o1 hl1 hx1 hF hK1 => ?_) (fun hF => ?_)
  ·skip
   refine r_skip (zj (zk (r_block (zk (zd ?_)))))
   refine zc rfl (s_idxRowE rfl el24 gt10 gt12 isl (idx_of hx1) (GNode.row_eq _)) st14 ?_
   refine zc rfl (yi rfl ty68.choose_spec.1 gt14 (ldC_agX (cs' := [.str x1.name, .sl 9 (x1.leaves.map GLeaf.row), .sl 3 (x1.subs.map GNode.row)]) ty68.choose_spec.2 rfl rfl) (zb rfl)) st15 ?_
   refine zc rfl (n_alloc (hN _) (n := 1) rfl ze68 rfl) st5 ?_
   refine zc rfl (n_store (hN _) (cs' := [.str x1.name, .sl 9 (x1.leaves.map GLeaf.row), .sl 3 (x1.subs.map GNode.row)]) rfl ty68.choose_spec.1 gt5 gt15 (zb rfl) rfl rfl rfl rfl rfl) rfl ?_
   refine ze (zj (zk ?_))
   refine r_drawn [] [] trivial mixed (by kernel_rfl) ?_
   refine zq rfl rfl (b_load rfl ty26 gt2 (hb1 _) (zr rfl) (zb rfl)) st16 ?_
   refine bindF hF (fun v37 hv37 hF => ?_)
   refine draw_callH rfl FOk.nil (by rfl) rfl (yg rfl rfl rfl (zo gt16 zw) (.cons (zb rfl) .nil)) (n_own (hNt _) (T' := [(v37).length]) (ok45 hv37) (m := 0) rfl rfl) st17 ?_
   refine zq rfl rfl (zi rfl fo68x0 gt5 rfl) st18 ?_
   refine zq rfl rfl (n_load (hN _) rfl ty9 gt18 rfl (zr rfl) (zb rfl)) st19 ?_
   refine zq rfl rfl (s_buildSlice (es := ([x1.name] : List Str).map strRow) rfl el26 ze9 rfl rfl (parto_cons gt19 parto_nil) (.cons (zb rfl) .nil) rfl rfl rfl) st20 ?_
   refine chkF hF (fun hm38 hF => ?_)
   refine draw_okH rfl FOk.nil (by rfl) rfl (n_appT (hNt _) (j := 0) (T' := [((v37 ++ ([x1.name] : List Str))).length]) rfl rfl rfl rfl el26 el26 gt17 gt20 (zb rfl) (zb rfl) news_osl hm38 rfl rfl) st21 ?_
   refine zq rfl rfl (zg rfl gt21 (zb rfl)) st6 ?_
   refine draw_nil ?_
   refine zj (zk (zk (zd ?_)))
   refine zc rfl (zi rfl fo68x1 gt5 rfl) st22 ?_
   refine zc rfl (n_load (hN _) rfl ty66 gt22 rfl (zr rfl) (zb rfl)) st23 ?_
   refine ops_len rfl (yh rfl rfl rfl rfl el66 gt23 lenMap) st24 fun hn39 => ?_
   replace hn39 := lenN hn39
   refine zc rfl (zf rfl rfl (zb rfl)) st25 ?_
   refine ze (zj (r_block ?_))
   refine yk (fun (n2 : Nat) (s2 : S) => anys [0, 1, 4, 7, 8, 9, 13, 14, 15, 16, 17, 18, 19, 20, 21, 22, 26, 27, 28, 29, 30, 31, 32, 33, 34, 35, 36, 37, 38, 39, 40, 41, 42, 43, 44, 45, 46, 47] [(25, .int .i64 (n2 : Int))]) (fun s2 => (Hy s2).ext [.cells [.yld idy], .cells [.str x1.name, .sl 9 (x1.leaves.map GLeaf.row), .sl 3 (x1.subs.map GNode.row)]] [((v37 ++ ([x1.name] : List Str))).length]) hF (fun _ _ => by simp only [anys, upd, List.set_cons_succ, List.set_cons_zero]; try rfl) (wk.le (by exact (.drop (.drop (.eq (.eq (.drop (.eq (.eq (.drop (.drop (.drop (.eq (.eq (.eq (.d4 (.d4 (.drop (.drop (.eq (.eq (.cons (leV.of_eq rfl) (.d16 (.d4 (.drop (.drop leL.nil)))))))))))))))))))))))))) ?_
   intro n2 s2 hi2 hF
   refine zk (zd ?_)
   refine zc rfl (zu rfl gt25 gt24 rfl) st26 ?_
   refine ze (zj (zk ?_))
   refine r_condL gt26 hF (fun x2 o2 hl2 hx2 hF hK2 => ?_) (fun hF => ?_)
   ·skip
    refine r_skip (zj (zk (r_block (zk (zd ?_)))))
    refine zc rfl (s_idxRow rfl el66 gt23 gt25 isl (idx_of hx2)) st27 ?_
    refine zc rfl (yi rfl ty47.choose_spec.1 gt27 (ldC_agX (cs' := [.int .u8 x2.typ, .int .i64 x2.n, .int .u64 x2.time, .int .u8 x2.dot.actor.rep, .int .u32 x2.dot.actor.inc, .int .u64 x2.dot.seq, .str x2.text, .sl 5 (x2.items.map GItem.row), .sl 3 (x2.tombs.map GDot.row)]) ty47.choose_spec.2 rfl rfl) (zb rfl)) st28 ?_
    refine zc rfl (n_alloc (hN _) (n := 2) rfl ze47 rfl) st8 ?_
    refine zc rfl (n_store (hN _) (cs' := [.int .u8 x2.typ, .int .i64 x2.n, .int .u64 x2.time, .int .u8 x2.dot.actor.rep, .int .u32 x2.dot.actor.inc, .int .u64 x2.dot.seq, .str x2.text, .sl 5 (x2.items.map GItem.row), .sl 3 (x2.tombs.map GDot.row)]) rfl ty47.choose_spec.1 gt8 gt28 (zb rfl) rfl rfl rfl rfl rfl) rfl ?_
    refine ze (zj (zk ?_))
    refine r_drawn [4] [] trivial mixed (by kernel_rfl) ?_
    refine zq rfl rfl (n_load (hN _) rfl ty89 gt3 rfl (zr rfl) (zb rfl)) st29 ?_
    refine zq rfl rfl (zf rfl gt6 (zb rfl)) st30 ?_
    refine bindF hF (fun v51 hv51 hF => ?_)
    refine draw_callH rfl (FOk.cons (.inr (keepB trivial)) FOk.nil) (by rfl) rfl (yg rfl rfl rfl (zo gt30 zw) (.cons (zb rfl) .nil)) (n_own (hNt _) (T' := [((v37 ++ ([x1.name] : List Str))).length, (v51).length]) ((ok45 hv51).le (.cons (leV.osl _ _ _) leL.nil)) (m := 1) rfl rfl) st31 ?_
    refine zq rfl rfl (n_load (hN _) rfl ty47.choose_spec.1 gt8 rfl (ldC_agX (cs' := [.int .u8 x2.typ, .int .i64 x2.n, .int .u64 x2.time, .int .u8 x2.dot.actor.rep, .int .u32 x2.dot.actor.inc, .int .u64 x2.dot.seq, .str x2.text, .sl 5 (x2.items.map GItem.row), .sl 3 (x2.tombs.map GDot.row)]) ty47.choose_spec.2 rfl rfl) (zb rfl)) st32 ?_
    refine bindF hF (fun v52 hv52 hF => ?_)
    refine draw_callN rfl rfl (fun _ => yg rfl rfl rfl (zo gt32 zw) (.cons (zb rfl) .nil)) (by rintro _ ⟨B2, T2, rfl, hk2⟩; exact ok46 hv52) st33 ?_
    refine zq rfl rfl (s_build (cs' := [.osl (some (nt + 1)) 1 (v51.map strRow), .int .u8 v52.typ, .int .i64 v52.n, .int .u64 v52.time, .int .u8 v52.dot.actor.rep, .int .u32 v52.dot.actor.inc, .int .u64 v52.dot.seq, .str v52.text, .sl 5 (v52.items.map GItem.row), .sl 3 (v52.tombs.map GDot.row)]) rfl su49 ze49 pl49 (parto_cons gt31 (parto_cons gt33 parto_nil)) (.cons (zb rfl) (.cons (zb rfl) .nil)) rfl rfl) st34 ?_
    refine bindF hF (fun v53 hv53 hF => ?_)
    refine draw_round rfl (FOk.cons (.inl (by kernel_rfl)) FOk.nil) (by kernel_rfl) rfl (s_yield rfl rfl gt29 (zo gt34 zw) (.cons (zb rfl) .nil)) ((hy _ _ _ _ _ _ hv53).le (.cons (leV.agg (.cons (leV.osl _ _ _) (.eq (.eq (.eq (.eq (.eq (.eq (.eq (.eq (.eq leL.nil)))))))))) rfl) leL.nil)) st35 ?_
    refine zq rfl rfl (s_un rfl gt35 rfl) st36 ?_
    refine draw_nil ?_
    refine zj ?_
    refine r_condF gt36 hF (fun hc54 hF => ?_) (fun hc54 hF => ?_)
    ·skip
     refine r_ret ?_
     refine yd ?_
     refine zx ?_
     refine q_loop_ret ?_
     obtain rfl := Option.some.inj hF
     replace hF := hK2
     refine yd ?_
     refine zx ?_
     refine yd ?_
     refine zx ?_
     refine q_loop_ret ?_
     obtain rfl := Option.some.inj hF
     replace hF := hK1
     refine yd ?_
     obtain rfl := Option.some.inj hF
     refine q_retL0 rfl yb (fin_exts (hN _) (hNt _) (hN _) (hNt _) (hC _) (leV.refl _) rfl ?_)
     exact ⟨rfl, rfl⟩
    ·skip
     refine r_skip (q_block (zj (zd ?_)))
     refine zc rfl (zu rfl gt25 rfl rfl) st37 ?_
     refine zc rfl (zf rfl gt37 (zb rfl)) st25 ?_
     refine ze (q_loop ?_)
     obtain rfl := Option.some.inj hF
     exact ⟨v53.2, hl2, hK2, wk.trans (wk.le (by exact (.drop (.drop (.eq (.eq (.drop (.eq (.eq (.drop (.drop (.drop (.eq (.eq (.eq (.d4 (.d4 (.drop (.drop (.eq (.eq (.cons (leV.of_eq (w64e (by omega) (by omega))) (.d16 (.d4 (.drop (.drop leL.nil)))))))))))))))))))))))))) (wk_ext3s (hN _) (hNt _) (hN _) (hNt _) (hC _) (by simp [lowL, AV.low, hly, hly2, hli0, hli0b, hli1, hli1b]) rfl rfl (by simp [Blk.low, lowL, AV.low, hly, hly2, hli0, hli0b, hli1, hli1b]))⟩
   ·skip
    refine r_exit ?_
    refine q_seq_exit ?_
    refine yj ?_
    refine q_block_hit ?_
    refine zj (zk (zd ?_))
    refine zc rfl (zi rfl fo68x2 gt5 rfl) st38 ?_
    refine zc rfl (n_load (hN _) rfl ty24 gt38 rfl (zr rfl) (zb rfl)) st39 ?_
    refine zc rfl (zf rfl gt6 (zb rfl)) (sk st0) ?_
    refine bindF hF (fun v55 hv55 hF => ?_)
    refine ops_callH rfl (yg rfl rfl rfl (zo gt39 (zo (gk gt0) zw)) (.cons (zb rfl) (.cons (zb rfl) .nil))) (clo_ext (hN _) (n := 2) (B' := [.cells [.yld idy], .cells [.str x1.name, .sl 9 (x1.leaves.map GLeaf.row), .sl 3 (x1.subs.map GNode.row)], .cells [.sl 3 (v55.1.map GNode.row)], .cells [.sl 1 (v55.2.map strRow)]]) (caps := [.ptr (nb + 2) 0, .ptr (nb + 3) 0]) ((ok26 hv55).le (.eq (.cons (leV.osl _ _ _) leL.nil))) rfl rfl rfl) (sk st1) ?_
    refine ze (zj (r_block ?_))
    refine r_range (fun (s3 : S) => (Hy s3)) (fun (s3 : S) => [.cells [.yld idy], .cells [.str x1.name, .sl 9 (x1.leaves.map GLeaf.row), .sl 3 (x1.subs.map GNode.row)], .cells [.sl 3 (v55.1.map GNode.row)], .cells [.sl 1 (v55.2.map strRow)]]) (fun (s3 : S) => [((v37 ++ ([x1.name] : List Str))).length]) s2 hF (wk.le (by exact (.drop (.drop (.eq (.eq (.d4 (.drop (.drop (.eq (.eq (.eq (.d16 (.d4 (.d4 (.d4 (.eq (.d4 (.drop (.drop leL.nil)))))))))))))))))))) (fun _ => (hN _)) rfl rfl rfl (fun _ => rfl) rfl (gk gt1) rfl (fun lp3 hlp3 r3 hr3q => ?_) (fun s3 H1 hH hF => ?_) (fun j3 s3 H1 hH hF => ?_)
    ·skip
     have hlowlp3 : ∀ q1 q2, (lp3 q1 q2).low (nb + 5) (nt + 1) = true := by intro q1 q2; rw [hlp3]; simp [Blk.low, lowL, AV.low, hly, hly2, hli0, hli0b, hli1, hli1b]
     refine Spec.mono (ih (Hy := (fam (fun (s3 : S) => (Hy s3)) (fun (s3 : S) => [.cells [.yld idy], .cells [.str x1.name, .sl 9 (x1.leaves.map GLeaf.row), .sl 3 (x1.subs.map GNode.row)], .cells [.sl 3 (v55.1.map GNode.row)], .cells [.sl 1 (v55.2.map strRow)]]) (fun (s3 : S) => [((v37 ++ ([x1.name] : List Str))).length]) lp3)) (nb := nb + 5) (nt := nt + 1) (fun _ => by simp only [fam]; rw [ext_len (hN _)]; rfl) (fun _ => by simp only [fam]; rw [ext_tlen (hNt _)]; rfl) (fun _ => closed_ext (hC _) (Nat.le_add_right _ _) (Nat.le_add_right _ _) (by simp only [List.all_append, List.all_cons, List.all_nil, Bool.and_true, List.length_cons, List.length_nil, Nat.reduceAdd, Nat.zero_add, hlowlp3] <;> simp [Blk.low, lowL, AV.low, hly, hly2, hli0, hli0b, hli1, hli1b])) (Nat.lt_succ_self _) (y_body hlp3 (xs := fun (x : GRow) => [.agg [.sl 1 (x.path.map strRow), .int .u8 x.leaf.typ, .int .i64 x.leaf.n, .int .u64 x.leaf.time, .int .u8 x.leaf.dot.actor.rep, .int .u32 x.leaf.dot.actor.inc, .int .u64 x.leaf.dot.seq, .str x.leaf.text, .sl 5 (x.leaf.items.map GItem.row), .sl 3 (x.leaf.tombs.map GDot.row)]]) (fun _ => (hN _)) (fun _ => rfl) rfl (fun _ => rfl) (fun _ => by simp only [setL, List.set_cons_succ, List.set_cons_zero]; try rfl) (fun s3 x3 o3 L3 M3 H1 hH hF => ?_)) (fun _ => by simp only [fam]; exact n_blk (j := 2) (hN _) rfl) (fun _ => by simp only [fam]; exact n_blk (j := 3) (hN _) rfl) hr3q) (fun _ _ h => h.2)
     obtain rfl : H1 = (((Hy s3).ext ([.cells [.yld idy], .cells [.str x1.name, .sl 9 (x1.leaves.map GLeaf.row), .sl 3 (x1.subs.map GNode.row)], .cells [.sl 3 (v55.1.map GNode.row)], .cells [.sl 1 (v55.2.map strRow)]] ++ [lp3 .ready none]) [((v37 ++ ([x1.name] : List Str))).length]).ext L3 M3).ext [] [] := hH
     refine zd ?_
     refine zc rfl (n_alloc (deep_len (hN _) rfl) (n := 0) rfl ze49 rfl) st9 ?_
     refine zc rfl (n_store (deep_len (hN _) rfl) (cs' := [.sl 1 (x3.path.map strRow), .int .u8 x3.leaf.typ, .int .i64 x3.leaf.n, .int .u64 x3.leaf.time, .int .u8 x3.leaf.dot.actor.rep, .int .u32 x3.leaf.dot.actor.inc, .int .u64 x3.leaf.dot.seq, .str x3.leaf.text, .sl 5 (x3.leaf.items.map GItem.row), .sl 3 (x3.leaf.tombs.map GDot.row)]) rfl ty49.choose_spec.1 gt9 (gk gt2) (zb rfl) rfl rfl rfl rfl rfl) rfl ?_
     refine ze ?_
     refine q_assign (hN _) rfl ?_
     refine r_block (zk (zd ?_))
     refine zc rfl (d_load (hN _) rfl ty89 gt3 rfl (zr rfl) (zb rfl)) (sk st3) ?_
     refine zc rfl (n_load (deep_len (hN _) rfl) rfl ty49.choose_spec.1 gt9 rfl (ldC_agX (cs' := [.sl 1 (x3.path.map strRow), .int .u8 x3.leaf.typ, .int .i64 x3.leaf.n, .int .u64 x3.leaf.time, .int .u8 x3.leaf.dot.actor.rep, .int .u32 x3.leaf.dot.actor.inc, .int .u64 x3.leaf.dot.seq, .str x3.leaf.text, .sl 5 (x3.leaf.items.map GItem.row), .sl 3 (x3.leaf.tombs.map GDot.row)]) ty49.choose_spec.2 rfl rfl) (zb rfl)) (sk st4) ?_
     refine bindF hF (fun v64 hv64 hF => ?_)
     refine ops_round rfl (s_yield rfl rfl (gk gt3) (zo (gk gt4) zw) (.cons (zb rfl) .nil)) (SpecY.deep fun A B => hy _ _ _ _ A B hv64) (sk st5) ?_
     refine zc rfl (s_un rfl (gk gt5) rfl) (sk st6) ?_
     refine ze (zj ?_)
     refine r_condF (gk gt6) hF (fun hc65 hF => ?_) (fun hc65 hF => ?_)
     ·skip
      refine r_ret ?_
      refine yd ?_
      obtain rfl := Option.some.inj hF
      exact q_roundR (hC _) (hN _) (hNt _) (hN _) (hNt _) rfl rfl rfl rfl rfl rfl rfl (by simp only [List.all_append, List.all_cons, List.all_nil, Bool.and_true, List.length_cons, List.length_nil, Nat.reduceAdd, Nat.zero_add, hlowlp3] <;> simp [Blk.low, lowL, AV.low, hly, hly2, hli0, hli0b, hli1, hli1b])
     ·skip
      refine r_skip (q_block ?_)
      obtain rfl := Option.some.inj hF
      exact q_roundN (hC _) (hN _) (hNt _) (hN _) (hNt _) rfl rfl rfl rfl rfl rfl rfl (by simp only [List.all_append, List.all_cons, List.all_nil, Bool.and_true, List.length_cons, List.length_nil, Nat.reduceAdd, Nat.zero_add, hlowlp3] <;> simp [Blk.low, lowL, AV.low, hly, hly2, hli0, hli0b, hli1, hli1b])
    ·skip
     obtain rfl : H1 = (Hy s3).ext [.cells [.yld idy], .cells [.str x1.name, .sl 9 (x1.leaves.map GLeaf.row), .sl 3 (x1.subs.map GNode.row)], .cells [.sl 3 (v55.1.map GNode.row)], .cells [.sl 1 (v55.2.map strRow)], .dead] [((v37 ++ ([x1.name] : List Str))).length] := hH
     refine q_block (q_block (zj (zd ?_)))
     refine zc rfl (zu rfl gt12 rfl rfl) (sk st7) ?_
     refine zc rfl (zf rfl (gk gt7) (zb rfl)) st12 ?_
     refine ze (q_loop ?_)
     obtain rfl := Option.some.inj hF
     exact ⟨s3, hl1, hK1, wk.trans (wk.le (by exact (.drop (.drop (.eq (.eq (.d4 (.drop (.drop (.eq (.eq (.cons (leV.of_eq (w64e (by omega) (by omega))) (.d16 (.d16 (.drop (.drop (.drop leL.nil))))))))))))))))) (wk_ext3s (hN _) (hNt _) (hN _) (hNt _) (hC _) (by simp [lowL, AV.low, hly, hly2, hli0, hli0b, hli1, hli1b]) rfl rfl (by simp [Blk.low, lowL, AV.low, hly, hly2, hli0, hli0b, hli1, hli1b]))⟩
    ·skip
     obtain rfl : H1 = (Hy s3).ext [.cells [.yld idy], .cells [.str x1.name, .sl 9 (x1.leaves.map GLeaf.row), .sl 3 (x1.subs.map GNode.row)], .cells [.sl 3 (v55.1.map GNode.row)], .cells [.sl 1 (v55.2.map strRow)], .dead] [((v37 ++ ([x1.name] : List Str))).length] := hH
     refine jmp1 (G := fun j => jumpQ _ j _ _) hF (fun hF => ?_)
     refine jmp_ret ?_
     refine yd ?_
     refine yd ?_
     refine zx ?_
     refine q_loop_ret ?_
     obtain rfl := Option.some.inj hF
     replace hF := hK1
     refine yd ?_
     obtain rfl := Option.some.inj hF
     refine q_retL0 rfl yb (fin_exts (hN _) (hNt _) (hN _) (hNt _) (hC _) (leV.refl _) rfl ?_)
     exact ⟨rfl, rfl⟩
  ·skip
   refine r_exit ?_
   refine q_seq_exit ?_
   refine yj ?_
   refine q_block_hit ?_
   refine q_end ?_
   obtain rfl := Option.some.inj hF
   refine q_retL0 rfl yb (fin_exts (hN _) (hNt _) (hN _) (hNt _) (hC _) (leV.refl _) rfl ?_)
   exact ⟨rfl, rfl⟩
theorem ok44 {S : Type} {Hy : S → AH} {nb nt : Nat} {yield0 : S → GRow → Option (Bool × S)} {idy : Nat} {c0 : (List GNode)} {i0 : Nat} {c1 : (List Str)} {i1 : Nat} {s0 : S} {res : S} (hN : ∀ s, (Hy s).blks.length = nb) (hNt : ∀ s, (Hy s).toks.length = nt) (hC : ∀ s, (Hy s).closed nb nt) (hly : idy < nb) (hy : ∀ s x b s' L M, yield0 s x = some (b, s') → SpecY Tryz.prog idy [.agg [.sl 1 (x.path.map strRow), .int .u8 x.leaf.typ, .int .i64 x.leaf.n, .int .u64 x.leaf.time, .int .u8 x.leaf.dot.actor.rep, .int .u32 x.leaf.dot.actor.inc, .int .u64 x.leaf.dot.seq, .str x.leaf.text, .sl 5 (x.leaf.items.map GItem.row), .sl 3 (x.leaf.tombs.map GDot.row)]] ((Hy s).ext L M) (fun rr hh => rr = .bool b ∧ hh = (Hy s').ext L M)) (hb0 : ∀ s, (Hy s).blk i0 = some (.cells [.sl 3 (c0.map GNode.row)])) (hb1 : ∀ s, (Hy s).blk i1 = some (.cells [.sl 1 (c1.map strRow)])) (hF : pathsXrowsC1 S yield0 c0 c1 s0 = some res) : Spec Tryz.prog 44 [.yld idy, .ptr i0 0, .ptr i1 0] (Hy s0) (fun rr hh => rr = .tup [] ∧ hh = Hy res) := by
 obtain ⟨n, hn⟩ := anyN_is hF
 exact ok44N n hN hNt hC hly hy hb0 hb1 hn
/-! slices.Equal[[]varve/api.Item,varve/api.Item] -/
theorem ok70 {s10 : (List GItem)} {s21 : (List GItem)} {res : Bool} {h : AH}  (hF : slicesEqualItem s10 s21 = some res) : Spec Tryz.prog 70 [.sl 5 (s10.map GItem.row), .sl 5 (s21.map GItem.row)] h (fun rr hh => rr = .bool res ∧ hh = h) := by
 unfold slicesEqualItem at hF
 refine ye Tryz.func70 rfl (by kernel_rfl) (env := [.sl 5 (s10.map GItem.row), .sl 5 (s21.map GItem.row), za, za, za, za, za, za, za, za, za, za, za, za, za, za, za, za, za, za, za, za, za, za, za, za]) (by rfl) ?_
 refine zk (zd ?_)
 refine zc rfl (zg rfl rfl (zb rfl)) st4 ?_
 refine ze (zj (zk (zk (zd ?_))))
 refine zc rfl (zf rfl gt0 (zb rfl)) st6 ?_
 refine ops_len rfl (yh rfl rfl rfl rfl el45 gt6 lenMap) st7 fun hn1 => ?_
 replace hn1 := lenN hn1
 refine zc rfl (zf rfl gt1 (zb rfl)) st8 ?_
 refine ops_len rfl (yh rfl rfl rfl rfl el45 gt8 lenMap) st9 fun hn2 => ?_
 replace hn2 := lenN hn2
 refine zc rfl (zu rfl gt7 gt9 rfl) st10 ?_
 refine ze (zj ?_)
 refine r_condF gt10 hF (fun hc3 hF => ?_) (fun hc3 hF => ?_)
 ·skip
  refine zk (zd ?_)
  refine zc rfl (zg rfl rfl (zb rfl)) st4 ?_
  refine ze (zj (r_ret (zx ?_)))
  obtain rfl := Option.some.inj hF
  refine zz rfl (yc gt4 yb) (zy (leV.refl _) rfl ?_)
  exact ⟨rfl, rfl⟩
 ·skip
  refine r_skip (zj (zk (zk (zd ?_))))
  refine zc rfl (zf rfl gt0 (zb rfl)) st11 ?_
  refine ops_len rfl (yh rfl rfl rfl rfl el45 gt11 lenMap) st12 fun hn4 => ?_
  replace hn4 := lenN hn4
  refine zc rfl (zf rfl rfl (zb rfl)) st13 ?_
  refine ze (zj (r_block ?_))
  refine yk (fun (n1 : Nat) (s1 : Unit) => anys [2, 3, 4, 5, 6, 7, 8, 9, 10, 11, 14, 15, 16, 17, 18, 19, 20, 21, 22, 23, 24, 25] [(13, .int .i64 (n1 : Int))]) (fun s1 => h.ext [] []) hF (fun _ _ => by simp only [anys, upd, List.set_cons_succ, List.set_cons_zero]; try rfl) (wk.le (by exact (.eq (.eq (.d4 (.d4 (.drop (.drop (.eq (.cons (leV.of_eq rfl) (.d4 (.d4 (.d4 leL.nil))))))))))))) ?_
  intro n1 s1 hi1 hF
  refine zk (zd ?_)
  refine zc rfl (zu rfl gt13 gt12 rfl) st14 ?_
  refine ze (zj (zk ?_))
  refine r_condL gt14 hF (fun x1 o1 hl1 hx1 hF hK1 => ?_) (fun hF => ?_)
  ·skip
   refine r_skip (zj (zk (r_block (zk (zd ?_)))))
   refine zc rfl (zf rfl gt13 (zb rfl)) st15 ?_
   refine zc rfl (zg rfl gt15 (zb rfl)) st5 ?_
   refine ze (zj (zk ?_))
   refine r_drawn [] [] trivial mixed (by kernel_rfl) ?_
   refine zq rfl rfl (zf rfl gt0 (zb rfl)) st16 ?_
   refine zq rfl rfl (zf rfl gt5 (zb rfl)) st17 ?_
   refine zq rfl rfl (s_idxRow rfl el45 gt16 gt17 isl (idx_of hx1)) st18 ?_
   refine zq rfl rfl (yi rfl ty79.choose_spec.1 gt18 (ldC_agX (cs' := [.int .u64 x1.time, .int .u8 x1.dot.actor.rep, .int .u32 x1.dot.actor.inc, .int .u64 x1.dot.seq, .str x1.text]) ty79.choose_spec.2 rfl rfl) (zb rfl)) st19 ?_
   refine zq rfl rfl (zf rfl gt1 (zb rfl)) st20 ?_
   refine zq rfl rfl (zf rfl gt5 (zb rfl)) st21 ?_
   refine bindF hF (fun y10 hy10 hF => ?_)
   refine zq rfl rfl (s_idxRow rfl el45 gt20 gt21 isl hy10) st22 ?_
   refine zq rfl rfl (yi rfl ty79.choose_spec.1 gt22 (ldC_agX (cs' := [.int .u64 y10.time, .int .u8 y10.dot.actor.rep, .int .u32 y10.dot.actor.inc, .int .u64 y10.dot.seq, .str y10.text]) ty79.choose_spec.2 rfl rfl) (zb rfl)) st23 ?_
   refine zq rfl rfl (zu rfl gt19 gt23 (bin_ne pk79 rfl)) st24 ?_
   refine draw_nil ?_
   refine zj ?_
   refine r_condF gt24 hF (fun hc11 hF => ?_) (fun hc11 hF => ?_)
   ·skip
    refine zk (zd ?_)
    refine zc rfl (zg rfl rfl (zb rfl)) st4 ?_
    refine ze (zj (r_ret ?_))
    refine yd ?_
    refine zx ?_
    refine q_loop_ret ?_
    obtain rfl := Option.some.inj hF
    replace hF := hK1
    refine yd ?_
    refine zx ?_
    obtain rfl := Option.some.inj hF
    refine zz rfl (yc gt4 yb) (zy (leV.refl _) rfl ?_)
    exact ⟨rfl, rfl⟩
   ·skip
    refine r_skip (q_block (zj (zd ?_)))
    refine zc rfl (zu rfl gt13 rfl rfl) st25 ?_
    refine zc rfl (zf rfl gt25 (zb rfl)) st13 ?_
    refine ze (q_loop ?_)
    obtain rfl := Option.some.inj hF
    exact ⟨(), hl1, hK1, wk.le (by exact (.eq (.eq (.d4 (.d4 (.drop (.drop (.eq (.cons (leV.of_eq (w64e (by omega) (by omega))) (.d4 (.d4 (.d4 leL.nil))))))))))))⟩
  ·skip
   refine r_exit ?_
   refine q_seq_exit ?_
   refine yj ?_
   refine q_block_hit ?_
   refine zj (zk (zd ?_))
   refine zc rfl (zg rfl rfl (zb rfl)) st4 ?_
   refine ze (zj (r_ret ?_))
   obtain rfl := Option.some.inj hF
   refine zz rfl (yc gt4 yb) (zy (leV.refl _) rfl ?_)
   exact ⟨rfl, rfl⟩
/-! slices.Equal[[]varve/api.Dot,varve/api.Dot] -/
theorem ok71 {s10 : (List GDot)} {s21 : (List GDot)} {res : Bool} {h : AH}  (hF : slicesEqualDot s10 s21 = some res) : Spec Tryz.prog 71 [.sl 3 (s10.map GDot.row), .sl 3 (s21.map GDot.row)] h (fun rr hh => rr = .bool res ∧ hh = h) := by
 unfold slicesEqualDot at hF
 refine ye Tryz.func71 rfl (by kernel_rfl) (env := [.sl 3 (s10.map GDot.row), .sl 3 (s21.map GDot.row), za, za, za, za, za, za, za, za, za, za, za, za, za, za, za, za, za, za, za, za, za, za, za, za]) (by rfl) ?_
 refine zk (zd ?_)
 refine zc rfl (zg rfl rfl (zb rfl)) st4 ?_
 refine ze (zj (zk (zk (zd ?_))))
 refine zc rfl (zf rfl gt0 (zb rfl)) st6 ?_
 refine ops_len rfl (yh rfl rfl rfl rfl el27 gt6 lenMap) st7 fun hn1 => ?_
 replace hn1 := lenN hn1
 refine zc rfl (zf rfl gt1 (zb rfl)) st8 ?_
 refine ops_len rfl (yh rfl rfl rfl rfl el27 gt8 lenMap) st9 fun hn2 => ?_
 replace hn2 := lenN hn2
 refine zc rfl (zu rfl gt7 gt9 rfl) st10 ?_
 refine ze (zj ?_)
 refine r_condF gt10 hF (fun hc3 hF => ?_) (fun hc3 hF => ?_)
 ·skip
  refine zk (zd ?_)
  refine zc rfl (zg rfl rfl (zb rfl)) st4 ?_
  refine ze (zj (r_ret (zx ?_)))
  obtain rfl := Option.some.inj hF
  refine zz rfl (yc gt4 yb) (zy (leV.refl _) rfl ?_)
  exact ⟨rfl, rfl⟩
 ·skip
  refine r_skip (zj (zk (zk (zd ?_))))
  refine zc rfl (zf rfl gt0 (zb rfl)) st11 ?_
  refine ops_len rfl (yh rfl rfl rfl rfl el27 gt11 lenMap) st12 fun hn4 => ?_
  replace hn4 := lenN hn4
  refine zc rfl (zf rfl rfl (zb rfl)) st13 ?_
  refine ze (zj (r_block ?_))
  refine yk (fun (n1 : Nat) (s1 : Unit) => anys [2, 3, 4, 5, 6, 7, 8, 9, 10, 11, 14, 15, 16, 17, 18, 19, 20, 21, 22, 23, 24, 25] [(13, .int .i64 (n1 : Int))]) (fun s1 => h.ext [] []) hF (fun _ _ => by simp only [anys, upd, List.set_cons_succ, List.set_cons_zero]; try rfl) (wk.le (by exact (.eq (.eq (.d4 (.d4 (.drop (.drop (.eq (.cons (leV.of_eq rfl) (.d4 (.d4 (.d4 leL.nil))))))))))))) ?_
  intro n1 s1 hi1 hF
  refine zk (zd ?_)
  refine zc rfl (zu rfl gt13 gt12 rfl) st14 ?_
  refine ze (zj (zk ?_))
  refine r_condL gt14 hF (fun x1 o1 hl1 hx1 hF hK1 => ?_) (fun hF => ?_)
  ·skip
   refine r_skip (zj (zk (r_block (zk (zd ?_)))))
   refine zc rfl (zf rfl gt13 (zb rfl)) st15 ?_
   refine zc rfl (zg rfl gt15 (zb rfl)) st5 ?_
   refine ze (zj (zk ?_))
   refine r_drawn [] [] trivial mixed (by kernel_rfl) ?_
   refine zq rfl rfl (zf rfl gt0 (zb rfl)) st16 ?_
   refine zq rfl rfl (zf rfl gt5 (zb rfl)) st17 ?_
   refine zq rfl rfl (s_idxRow rfl el27 gt16 gt17 isl (idx_of hx1)) st18 ?_
   refine zq rfl rfl (yi rfl ty44.choose_spec.1 gt18 (ldC_agX (cs' := [.int .u8 x1.actor.rep, .int .u32 x1.actor.inc, .int .u64 x1.seq]) ty44.choose_spec.2 rfl rfl) (zb rfl)) st19 ?_
   refine zq rfl rfl (zf rfl gt1 (zb rfl)) st20 ?_
   refine zq rfl rfl (zf rfl gt5 (zb rfl)) st21 ?_
   refine bindF hF (fun y10 hy10 hF => ?_)
   refine zq rfl rfl (s_idxRow rfl el27 gt20 gt21 isl hy10) st22 ?_
   refine zq rfl rfl (yi rfl ty44.choose_spec.1 gt22 (ldC_agX (cs' := [.int .u8 y10.actor.rep, .int .u32 y10.actor.inc, .int .u64 y10.seq]) ty44.choose_spec.2 rfl rfl) (zb rfl)) st23 ?_
   refine zq rfl rfl (zu rfl gt19 gt23 (bin_ne pk44 rfl)) st24 ?_
   refine draw_nil ?_
   refine zj ?_
   refine r_condF gt24 hF (fun hc11 hF => ?_) (fun hc11 hF => ?_)
   ·skip
    refine zk (zd ?_)
    refine zc rfl (zg rfl rfl (zb rfl)) st4 ?_
    refine ze (zj (r_ret ?_))
    refine yd ?_
    refine zx ?_
    refine q_loop_ret ?_
    obtain rfl := Option.some.inj hF
    replace hF := hK1
    refine yd ?_
    refine zx ?_
    obtain rfl := Option.some.inj hF
    refine zz rfl (yc gt4 yb) (zy (leV.refl _) rfl ?_)
    exact ⟨rfl, rfl⟩
   ·skip
    refine r_skip (q_block (zj (zd ?_)))
    refine zc rfl (zu rfl gt13 rfl rfl) st25 ?_
    refine zc rfl (zf rfl gt25 (zb rfl)) st13 ?_
    refine ze (q_loop ?_)
    obtain rfl := Option.some.inj hF
    exact ⟨(), hl1, hK1, wk.le (by exact (.eq (.eq (.d4 (.d4 (.drop (.drop (.eq (.cons (leV.of_eq (w64e (by omega) (by omega))) (.d4 (.d4 (.d4 leL.nil))))))))))))⟩
  ·skip
   refine r_exit ?_
   refine q_seq_exit ?_
   refine yj ?_
   refine q_block_hit ?_
   refine zj (zk (zd ?_))
   refine zc rfl (zg rfl rfl (zb rfl)) st4 ?_
   refine ze (zj (r_ret ?_))
   obtain rfl := Option.some.inj hF
   refine zz rfl (yc gt4 yb) (zy (leV.refl _) rfl ?_)
   exact ⟨rfl, rfl⟩
/-! varve/leaf.Same -/
theorem ok41 {a0 : GLeaf} {b1 : GLeaf} {res : Bool} {h : AH}  (hF : leafSame a0 b1 = some res) : Spec Tryz.prog 41 [.agg [.int .u8 a0.typ, .int .i64 a0.n, .int .u64 a0.time, .int .u8 a0.dot.actor.rep, .int .u32 a0.dot.actor.inc, .int .u64 a0.dot.seq, .str a0.text, .sl 5 (a0.items.map GItem.row), .sl 3 (a0.tombs.map GDot.row)], .agg [.int .u8 b1.typ, .int .i64 b1.n, .int .u64 b1.time, .int .u8 b1.dot.actor.rep, .int .u32 b1.dot.actor.inc, .int .u64 b1.dot.seq, .str b1.text, .sl 5 (b1.items.map GItem.row), .sl 3 (b1.tombs.map GDot.row)]] h (fun rr hh => rr = .bool res ∧ hh = h) := by
 unfold leafSame at hF
 refine ye Tryz.func41 rfl (by kernel_rfl) (env := [.agg [.int .u8 a0.typ, .int .i64 a0.n, .int .u64 a0.time, .int .u8 a0.dot.actor.rep, .int .u32 a0.dot.actor.inc, .int .u64 a0.dot.seq, .str a0.text, .sl 5 (a0.items.map GItem.row), .sl 3 (a0.tombs.map GDot.row)], .agg [.int .u8 b1.typ, .int .i64 b1.n, .int .u64 b1.time, .int .u8 b1.dot.actor.rep, .int .u32 b1.dot.actor.inc, .int .u64 b1.dot.seq, .str b1.text, .sl 5 (b1.items.map GItem.row), .sl 3 (b1.tombs.map GDot.row)], za, za, za, za, za, za, za, za, za, za, za, za, za, za, za, za, za, za, za, za, za, za, za, za, za, za, za, za, za, za, za, za, za, za, za, za, za, za, za, za, za, za, za, za, za, za, za, za, za, za]) (by rfl) ?_
 refine zk (zd ?_)
 refine zc rfl (e_box (n := 0) rfl gt0 (zb rfl) rfl rfl) st2 ?_
 refine zc rfl (e_box (n := 1) rfl gt1 (zb rfl) rfl rfl) st3 ?_
 refine zc rfl (zg rfl rfl (zb rfl)) st4 ?_
 refine ze (zj (zk (zd ?_)))
 refine zc rfl (zi rfl fo47x0 gt2 rfl) st5 ?_
 refine zc rfl (zt rfl ty5 gt5 rfl (zr rfl) (zb rfl)) st6 ?_
 refine zc rfl (zi rfl fo47x0 gt3 rfl) st7 ?_
 refine zc rfl (zt rfl ty5 gt7 rfl (zr rfl) (zb rfl)) st8 ?_
 refine zc rfl (zu rfl gt6 gt8 rfl) st9 ?_
 refine zc rfl (zf rfl gt9 (zb rfl)) st10 ?_
 refine zp rfl (fun hb => zi rfl fo47x1 gt2 rfl) st11 ?_
 refine zp rfl (fun hb => zt rfl ty2 (zn gt11 hb) rfl (zr rfl) (zb rfl)) st12 ?_
 refine zp rfl (fun hb => zi rfl fo47x1 gt3 rfl) st13 ?_
 refine zp rfl (fun hb => zt rfl ty2 (zn gt13 hb) rfl (zr rfl) (zb rfl)) st14 ?_
 refine zp rfl (fun hb => zu rfl (zn gt12 hb) (zn gt14 hb) rfl) st15 ?_
 refine zc rfl (s_pick rfl gt10 gt15 rfl (pick_and (fun ht => gT ht))) st16 ?_
 refine zc rfl (zf rfl gt16 (zb rfl)) st17 ?_
 refine zp rfl (fun hb => zi rfl fo47x2 gt2 rfl) st18 ?_
 refine zp rfl (fun hb => zt rfl ty39 (zn gt18 hb) rfl (zr rfl) (zb rfl)) st19 ?_
 refine zp rfl (fun hb => zi rfl fo47x2 gt3 rfl) st20 ?_
 refine zp rfl (fun hb => zt rfl ty39 (zn gt20 hb) rfl (zr rfl) (zb rfl)) st21 ?_
 refine zp rfl (fun hb => zu rfl (zn gt19 hb) (zn gt21 hb) rfl) st22 ?_
 refine zc rfl (s_pick rfl gt17 gt22 rfl (pick_and (fun ht => gT ht))) st23 ?_
 refine zc rfl (zf rfl gt23 (zb rfl)) st24 ?_
 refine zp rfl (fun hb => zi rfl fo47x3 gt2 rfl) st25 ?_
 refine zp rfl (fun hb => zt rfl ty44.choose_spec.1 (zn gt25 hb) rfl (ldC_agX (cs' := [.int .u8 a0.dot.actor.rep, .int .u32 a0.dot.actor.inc, .int .u64 a0.dot.seq]) ty44.choose_spec.2 rfl rfl) (zb rfl)) st26 ?_
 refine zp rfl (fun hb => zi rfl fo47x3 gt3 rfl) st27 ?_
 refine zp rfl (fun hb => zt rfl ty44.choose_spec.1 (zn gt27 hb) rfl (ldC_agX (cs' := [.int .u8 b1.dot.actor.rep, .int .u32 b1.dot.actor.inc, .int .u64 b1.dot.seq]) ty44.choose_spec.2 rfl rfl) (zb rfl)) st28 ?_
 refine zp rfl (fun hb => zu rfl (zn gt26 hb) (zn gt28 hb) (bin_eq pk44 rfl)) st29 ?_
 refine zc rfl (s_pick rfl gt24 gt29 rfl (pick_and (fun ht => gT ht))) st30 ?_
 refine zc rfl (zf rfl gt30 (zb rfl)) st31 ?_
 refine zp rfl (fun hb => zi rfl fo47x4 gt2 rfl) st32 ?_
 refine zp rfl (fun hb => zt rfl ty9 (zn gt32 hb) rfl (zr rfl) (zb rfl)) st33 ?_
 refine zp rfl (fun hb => zi rfl fo47x4 gt3 rfl) st34 ?_
 refine zp rfl (fun hb => zt rfl ty9 (zn gt34 hb) rfl (zr rfl) (zb rfl)) st35 ?_
 refine zp rfl (fun hb => zu rfl (zn gt33 hb) (zn gt35 hb) rfl) st36 ?_
 refine zc rfl (s_pick rfl gt31 gt36 rfl (pick_and (fun ht => gT ht))) st37 ?_
 refine zc rfl (zf rfl gt37 (zb rfl)) st38 ?_
 refine zp rfl (fun hb => zi rfl fo47x5 gt2 rfl) st39 ?_
 refine zp rfl (fun hb => zt rfl ty45 (zn gt39 hb) rfl (zr rfl) (zb rfl)) (sk st0) ?_
 refine zp rfl (fun hb => zi rfl fo47x5 gt3 rfl) (sk st1) ?_
 refine zp rfl (fun hb => zt rfl ty45 (zn (gk gt1) hb) rfl (zr rfl) (zb rfl)) (sk st2) ?_
 refine gbindF hF (fun v1 hv1 hF => ?_)
 refine ops_gcall rfl (fun hb => yg rfl rfl rfl (zo (zn (gk gt0) hb) (zo (zn (gk gt2) hb) zw)) (.cons (zb rfl) (.cons (zb rfl) .nil))) (fun hb => ok70 (hv1 hb)) (sk st3) ?_
 refine zc rfl (s_pick rfl gt38 (gk gt3) rfl (pick_and (fun ht => gT ht))) (sk st4) ?_
 refine zc rfl (zf rfl (gk gt4) (zb rfl)) (sk st5) ?_
 refine zp rfl (fun hb => zi rfl fo47x6 gt2 rfl) (sk st6) ?_
 refine zp rfl (fun hb => zt rfl ty27 (zn (gk gt6) hb) rfl (zr rfl) (zb rfl)) (sk st7) ?_
 refine zp rfl (fun hb => zi rfl fo47x6 gt3 rfl) (sk st8) ?_
 refine zp rfl (fun hb => zt rfl ty27 (zn (gk gt8) hb) rfl (zr rfl) (zb rfl)) (sk st9) ?_
 refine gbindF hF (fun v2 hv2 hF => ?_)
 refine ops_gcall rfl (fun hb => yg rfl rfl rfl (zo (zn (gk gt7) hb) (zo (zn (gk gt9) hb) zw)) (.cons (zb rfl) (.cons (zb rfl) .nil))) (fun hb => ok71 (hv2 hb)) (sk st10) ?_
 refine zc rfl (s_pick rfl (gk gt5) (gk gt10) rfl (pick_and (fun ht => gT ht))) (sk st11) ?_
 refine zc rfl (zg rfl (gk gt11) (zb rfl)) st4 ?_
 refine ze (zj (r_ret ?_))
 obtain rfl := Option.some.inj hF
 refine zz rfl (yc gt4 yb) (zy (leV.refl _) rfl ?_)
 exact ⟨rfl, rfl⟩
/-! varve/leaf.isTime -/
theorem ok91 {n0 : Int} {res : Bool} {h : AH}  (hF : leafXisTime n0 = some res) : Spec Tryz.prog 91 [.int .u64 n0] h (fun rr hh => rr = .bool res ∧ hh = h) := by
 unfold leafXisTime at hF
 refine ye Tryz.func91 rfl (by kernel_rfl) (env := [.int .u64 n0, za, za, za, za, za, za, za, za]) (by rfl) ?_
 refine zk (zd ?_)
 refine zc rfl (zg rfl rfl (zb rfl)) st2 ?_
 refine ze (zj (zk (zd ?_)))
 refine zc rfl (zf rfl gt0 (zb rfl)) st3 ?_
 refine zc rfl (zu rfl gt3 rfl rfl) st4 ?_
 refine zc rfl (zf rfl gt4 (zb rfl)) st5 ?_
 refine zp rfl (fun hb => zf rfl gt0 (zb rfl)) st6 ?_
 refine zp rfl (fun hb => zu rfl (zn gt6 hb) rfl rfl) st7 ?_
 refine zc rfl (s_pick rfl gt5 gt7 rfl (pick_and (fun ht => gT ht))) st8 ?_
 refine zc rfl (zg rfl gt8 (zb rfl)) st2 ?_
 refine ze (zj (r_ret ?_))
 obtain rfl := Option.some.inj hF
 refine zz rfl (yc gt2 yb) (zy (leV.refl _) rfl ?_)
 exact ⟨rfl, rfl⟩
/-! varve/leaf.isText -/
theorem ok93 {s0 : Str} {res : Bool} {h : AH}  (hF : leafXisText s0 = some res) : Spec Tryz.prog 93 [.str s0] h (fun rr hh => rr = .bool res ∧ hh = h) := by
 unfold leafXisText at hF
 refine ye Tryz.func93 rfl (by kernel_rfl) (env := [.str s0, za, za, za, za, za]) (by rfl) ?_
 refine zk (zd ?_)
 refine zc rfl (zg rfl rfl (zb rfl)) st2 ?_
 refine ze (zj (zk (zd ?_)))
 refine zc rfl (zf rfl gt0 (zb rfl)) st3 ?_
 refine ops_len rfl (s_lenStr rfl rfl rfl rfl ty9 gt3) st4 fun hn1 => ?_
 replace hn1 := lenN hn1
 refine zc rfl (zu rfl gt4 rfl rfl) st5 ?_
 refine zc rfl (zg rfl gt5 (zb rfl)) st2 ?_
 refine ze (zj (r_ret ?_))
 obtain rfl := Option.some.inj hF
 refine zz rfl (yc gt2 yb) (zy (leV.refl _) rfl ?_)
 exact ⟨rfl, rfl⟩
/-! varve/leaf.compare -/
theorem ok125 {a0 : Int} {d1 : GDot} {b2 : Int} {o3 : GDot} {res : Int} {h : AH}  (hF : leafXcompare a0 d1 b2 o3 = some res) : Spec Tryz.prog 125 [.int .u64 a0, .agg [.int .u8 d1.actor.rep, .int .u32 d1.actor.inc, .int .u64 d1.seq], .int .u64 b2, .agg [.int .u8 o3.actor.rep, .int .u32 o3.actor.inc, .int .u64 o3.seq]] h (fun rr hh => rr = .int .i64 res ∧ hh = h) := by
 unfold leafXcompare at hF
 refine ye Tryz.func125 rfl (by kernel_rfl) (env := [.int .u64 a0, .agg [.int .u8 d1.actor.rep, .int .u32 d1.actor.inc, .int .u64 d1.seq], .int .u64 b2, .agg [.int .u8 o3.actor.rep, .int .u32 o3.actor.inc, .int .u64 o3.seq], za, za, za, za, za, za, za, za, za, za, za, za, za]) (by rfl) ?_
 refine zk (zd ?_)
 refine zc rfl (e_box (n := 0) rfl gt1 (zb rfl) rfl rfl) st5 ?_
 refine zc rfl (e_box (n := 1) rfl gt3 (zb rfl) rfl rfl) st7 ?_
 refine zc rfl (zg rfl rfl (zb rfl)) st8 ?_
 refine ze (zj (zk ?_))
 refine r_drawn [2, 5, 7] [] trivial mixed (by kernel_rfl) ?_
 refine zq rfl rfl (zf rfl gt0 (zb rfl)) st9 ?_
 refine zq rfl rfl (zf rfl gt2 (zb rfl)) st10 ?_
 refine bindF hF (fun v1 hv1 hF => ?_)
 refine draw_callN rfl rfl (fun _ => yg rfl rfl rfl (zo gt9 (zo gt10 zw)) (.cons (zb rfl) (.cons (zb rfl) .nil))) (by rintro _ ⟨B2, T2, rfl, hk2⟩; exact ok124 hv1) st11 ?_
 refine zq rfl rfl (zt rfl ty44.choose_spec.1 gt5 rfl (ldC_agX (cs' := [.int .u8 d1.actor.rep, .int .u32 d1.actor.inc, .int .u64 d1.seq]) ty44.choose_spec.2 rfl rfl) (zb rfl)) st12 ?_
 refine zq rfl rfl (zt rfl ty44.choose_spec.1 gt7 rfl (ldC_agX (cs' := [.int .u8 o3.actor.rep, .int .u32 o3.actor.inc, .int .u64 o3.seq]) ty44.choose_spec.2 rfl rfl) (zb rfl)) st13 ?_
 refine bindF hF (fun v2 hv2 hF => ?_)
 refine draw_callN rfl rfl (fun _ => yg rfl rfl rfl (zo gt12 (zo gt13 zw)) (.cons (zb rfl) (.cons (zb rfl) .nil))) (by rintro _ ⟨B2, T2, rfl, hk2⟩; exact ok105 hv2) st14 ?_
 refine zq rfl rfl (s_buildSlice (es := ([v1, v2] : List Int).map (intRow .i64)) rfl el142 ze3 rfl rfl (parto_cons gt11 (parto_cons gt14 parto_nil)) (.cons (zb rfl) (.cons (zb rfl) .nil)) rfl rfl rfl) st15 ?_
 refine bindF hF (fun v3 hv3 hF => ?_)
 refine draw_callN rfl rfl (fun _ => yg rfl rfl rfl (zo gt15 zw) (.cons (zb rfl) .nil)) (by rintro _ ⟨B2, T2, rfl, hk2⟩; exact (ok96 hv3).le (.cons (leV.osl _ _ _) leL.nil)) st16 ?_
 refine zq rfl rfl (zg rfl gt16 (zb rfl)) st8 ?_
 refine draw_nil ?_
 refine zj (r_ret ?_)
 obtain rfl := Option.some.inj hF
 refine zz rfl (yc gt8 yb) (zy (leV.refl _) rfl ?_)
 exact ⟨rfl, rfl⟩
/-! varve/leaf.Ahead -/
theorem ok107 {time0 : Int} {d1 : GDot} {other2 : Int} {o3 : GDot} {res : Bool} {h : AH}  (hF : leafAhead time0 d1 other2 o3 = some res) : Spec Tryz.prog 107 [.int .u64 time0, .agg [.int .u8 d1.actor.rep, .int .u32 d1.actor.inc, .int .u64 d1.seq], .int .u64 other2, .agg [.int .u8 o3.actor.rep, .int .u32 o3.actor.inc, .int .u64 o3.seq]] h (fun rr hh => rr = .bool res ∧ hh = h) := by
 unfold leafAhead at hF
 refine ye Tryz.func107 rfl (by kernel_rfl) (env := [.int .u64 time0, .agg [.int .u8 d1.actor.rep, .int .u32 d1.actor.inc, .int .u64 d1.seq], .int .u64 other2, .agg [.int .u8 o3.actor.rep, .int .u32 o3.actor.inc, .int .u64 o3.seq], za, za, za, za, za, za, za, za, za, za, za]) (by rfl) ?_
 refine zk (zd ?_)
 refine zc rfl (e_box (n := 0) rfl gt1 (zb rfl) rfl rfl) st5 ?_
 refine zc rfl (e_box (n := 1) rfl gt3 (zb rfl) rfl rfl) st7 ?_
 refine zc rfl (zg rfl rfl (zb rfl)) st8 ?_
 refine ze (zj (zk (zd ?_)))
 refine zc rfl (zf rfl gt0 (zb rfl)) st9 ?_
 refine zc rfl (zt rfl ty44.choose_spec.1 gt5 rfl (ldC_agX (cs' := [.int .u8 d1.actor.rep, .int .u32 d1.actor.inc, .int .u64 d1.seq]) ty44.choose_spec.2 rfl rfl) (zb rfl)) st10 ?_
 refine zc rfl (zf rfl gt2 (zb rfl)) st11 ?_
 refine zc rfl (zt rfl ty44.choose_spec.1 gt7 rfl (ldC_agX (cs' := [.int .u8 o3.actor.rep, .int .u32 o3.actor.inc, .int .u64 o3.seq]) ty44.choose_spec.2 rfl rfl) (zb rfl)) st12 ?_
 refine bindF hF (fun v1 hv1 hF => ?_)
 refine yf rfl (yg rfl rfl rfl (zo gt9 (zo gt10 (zo gt11 (zo gt12 zw)))) (.cons (zb rfl) (.cons (zb rfl) (.cons (zb rfl) (.cons (zb rfl) .nil))))) (ok125 hv1) st13 ?_
 refine zc rfl (zu rfl gt13 rfl rfl) st14 ?_
 refine zc rfl (zg rfl gt14 (zb rfl)) st8 ?_
 refine ze (zj (r_ret ?_))
 obtain rfl := Option.some.inj hF
 refine zz rfl (yc gt8 yb) (zy (leV.refl _) rfl ?_)
 exact ⟨rfl, rfl⟩
/-! varve/leaf.twice -/
theorem ok108 {l0 : (List GItem)} {res : Bool} {h : AH}  (hF : leafXtwice l0 = some res) : Spec Tryz.prog 108 [.sl 5 (l0.map GItem.row)] h (fun rr hh => rr = .bool res ∧ hh = h) := by
 unfold leafXtwice at hF
 refine ye Tryz.func108 rfl (by kernel_rfl) (env := [.sl 5 (l0.map GItem.row), za, za, za, za, za, za, za, za, za, za, za, za, za, za, za, za, za, za, za, za, za, za, za, za, za]) (by rfl) ?_
 refine zk (zd ?_)
 refine zc rfl (zg rfl rfl (zb rfl)) st2 ?_
 refine ze (zj (zk (zd ?_)))
 refine zc rfl (e_makeMap (n := 0) rfl rfl) st6 ?_
 refine zc rfl (zg rfl gt6 (zb rfl)) st3 ?_
 refine ze (zj (zk (zk (zd ?_))))
 refine zc rfl (zf rfl gt0 (zb rfl)) st7 ?_
 refine ops_len rfl (yh rfl rfl rfl rfl el45 gt7 lenMap) st8 fun hn1 => ?_
 replace hn1 := lenN hn1
 refine zc rfl (zf rfl rfl (zb rfl)) st9 ?_
 refine ze (zj (r_block ?_))
 refine yk (fun (n1 : Nat) (s1 : List (GDot × Int)) => anys [1, 2, 4, 5, 6, 10, 11, 12, 13, 14, 15, 16, 17, 18, 19, 20, 21, 22, 23, 24, 25] [(9, .int .i64 (n1 : Int))]) (fun s1 => h.ext [.mapo (s1.map (mrow (fun x => AV.agg (GDot.row x)) (AV.int .i64))) 0] []) hF (fun _ _ => by simp only [anys, upd, List.set_cons_succ, List.set_cons_zero]; try rfl) (wk.le (by exact (.eq (.drop (.drop (.eq (.drop (.drop (.drop (.eq (.eq (.cons (leV.of_eq rfl) (.d16 leL.nil))))))))))))) ?_
 intro n1 s1 hi1 hF
 refine zk (zd ?_)
 refine zc rfl (zu rfl gt9 gt8 rfl) st10 ?_
 refine ze (zj (zk ?_))
 refine r_condL gt10 hF (fun x1 o1 hl1 hx1 hF hK1 => ?_) (fun hF => ?_)
 ·skip
  refine r_skip (zj (zk (r_block (zk (zd ?_)))))
  refine zc rfl (s_idxRow rfl el45 gt7 gt9 isl (idx_of hx1)) st11 ?_
  refine zc rfl (yi rfl ty79.choose_spec.1 gt11 (ldC_agX (cs' := [.int .u64 x1.time, .int .u8 x1.dot.actor.rep, .int .u32 x1.dot.actor.inc, .int .u64 x1.dot.seq, .str x1.text]) ty79.choose_spec.2 rfl rfl) (zb rfl)) st12 ?_
  refine zc rfl (e_alloc (n := 1) rfl ze79 rfl) st5 ?_
  refine zc rfl (e_store (cs' := [.int .u64 x1.time, .int .u8 x1.dot.actor.rep, .int .u32 x1.dot.actor.inc, .int .u64 x1.dot.seq, .str x1.text]) rfl ty79.choose_spec.1 gt5 gt12 (zb rfl) rfl rfl rfl rfl rfl) rfl ?_
  refine ze (zj ?_)
  refine r_drawnF [3] (fun _ => MapE h 0 (s1.map (mrow (fun x => AV.agg (GDot.row x)) (AV.int .i64))) ((ment GDot.eqb (0 : Int) s1 x1.dot).map (mrow (fun x => AV.agg (GDot.row x)) (AV.int .i64)))) (fun _ => ⟨_, _, rfl, .inl rfl⟩) mixed (by kernel_rfl) ?_
  refine zq rfl rfl (zf rfl gt3 (zb rfl)) st13 ?_
  refine zq rfl rfl (zi rfl fo79x1 gt5 rfl) st14 ?_
  refine zq rfl rfl (zt rfl ty44.choose_spec.1 gt14 rfl (ldC_agX (cs' := [.int .u8 x1.dot.actor.rep, .int .u32 x1.dot.actor.inc, .int .u64 x1.dot.seq]) ty44.choose_spec.2 rfl rfl) (zb rfl)) st15 ?_
  refine draw_okN rfl rfl (e_lookupF (m := s1) (k := x1.dot) (d := (0 : Int)) (j := 0) (kv := (fun x => AV.agg (GDot.row x))) (vv := (AV.int .i64)) rfl Tryz.underlying156 kq44 az3 gt13 gt15) st16 ?_
  refine zq rfl rfl (zu rfl gt16 rfl rfl) st17 ?_
  refine draw_eff rfl (FOk.all ⟨_, _, rfl, .inr rfl⟩) (by kernel_rfl) rfl (e_entry (m := s1) (k := x1.dot) (d := (0 : Int)) (j := 0) (kv := (fun x => AV.agg (GDot.row x))) (vv := (AV.int .i64)) rfl Tryz.underlying156 kq44 az3 gt13 rfl gt15 rfl) st18 ?_
  refine zq rfl rfl (s_extract rfl gt18 rfl (zb rfl)) st19 ?_
  refine draw_eff rfl (FOk.skip (by kernel_rfl)) (by kernel_rfl) rfl (e_entryStore (m := s1) (k := x1.dot) (d := (0 : Int)) (v := (IntKind.wrap .i64 ((mgetD GDot.eqb (0 : Int) s1 x1.dot) + (1 : Int)))) (j := 0) (eq := GDot.eqb) (kv := (fun x => AV.agg (GDot.row x))) (vv := (AV.int .i64)) rfl gt13 rfl gt19 rfl gt17 rfl) rfl ?_
  refine draw_nil ?_
  refine q_block (zj (zd ?_))
  refine zc rfl (zu rfl gt9 rfl rfl) st20 ?_
  refine zc rfl (zf rfl gt20 (zb rfl)) st9 ?_
  refine ze (q_loop ?_)
  obtain rfl := Option.some.inj hF
  exact ⟨(mput GDot.eqb s1 x1.dot (IntKind.wrap .i64 ((mgetD GDot.eqb (0 : Int) s1 x1.dot) + (1 : Int)))), hl1, hK1, wk.trans (wk.le (by exact (.eq (.drop (.drop (.eq (.drop (.drop (.drop (.eq (.eq (.cons (leV.of_eq (w64e (by omega) (by omega))) (.d16 leL.nil))))))))))))) (wk_ext3 (by simp [lowL, AV.low]) rfl rfl (by simp [Blk.low, lowL, AV.low, GDot.row, mrow]))⟩
 ·skip
  refine r_exit ?_
  refine q_seq_exit ?_
  refine yj ?_
  refine q_block_hit ?_
  refine zj (zk (zd ?_))
  refine zc rfl (zf rfl gt3 (zb rfl)) st21 ?_
  refine ops_mlen (m := s1) (j := 0) (kv := (fun x => AV.agg (GDot.row x))) (vv := (AV.int .i64)) rfl rfl rfl rfl rfl Tryz.underlying156 gt21 rfl st22 ?_
  refine zc rfl (zf rfl gt0 (zb rfl)) st23 ?_
  refine ops_len rfl (yh rfl rfl rfl rfl el45 gt23 lenMap) st24 fun hn7 => ?_
  replace hn7 := lenN hn7
  refine zc rfl (zu rfl gt22 gt24 rfl) st25 ?_
  refine zc rfl (zg rfl gt25 (zb rfl)) st2 ?_
  refine ze (zj (r_ret ?_))
  obtain rfl := Option.some.inj hF
  refine zz rfl (yc gt2 yb) (zy (leV.refl _) rfl ?_)
  exact ⟨rfl, rfl⟩
/-! varve/leaf.items -/
theorem ok94 {l0 : (List GItem)} {timed1 : Bool} {res : Bool} {h : AH}  (hF : leafXitems l0 timed1 = some res) : Spec Tryz.prog 94 [.sl 5 (l0.map GItem.row), .bool timed1] h (fun rr hh => rr = .bool res ∧ hh = h) := by
 unfold leafXitems at hF
 refine ye Tryz.func94 rfl (by kernel_rfl) (env := [.sl 5 (l0.map GItem.row), .bool timed1, za, za, za, za, za, za, za, za, za, za, za, za, za, za, za, za, za, za, za, za, za, za, za, za, za, za, za, za, za, za, za, za, za, za, za, za, za, za, za, za, za, za, za, za, za, za, za, za, za, za, za, za, za, za, za, za, za, za, za, za, za, za, za, za]) (by rfl) ?_
 refine zk (zd ?_)
 refine zc rfl (zg rfl rfl (zb rfl)) st4 ?_
 refine ze (zj (zk (zk (zd ?_))))
 refine zc rfl (zf rfl gt0 (zb rfl)) st7 ?_
 refine ops_len rfl (yh rfl rfl rfl rfl el45 gt7 lenMap) st8 fun hn1 => ?_
 replace hn1 := lenN hn1
 refine zc rfl (zf rfl rfl (zb rfl)) st9 ?_
 refine ze (zj (r_block ?_))
 refine yk (fun (n1 : Nat) (s1 : Unit) => anys [2, 3, 4, 5, 6, 10, 11, 12, 13, 14, 15, 16, 17, 18, 19, 20, 21, 22, 23, 24, 25, 26, 27, 28, 29, 30, 31, 32, 33, 34, 35, 36, 37, 38, 39, 40, 41, 42, 43, 44, 45, 46, 47, 48, 49, 50, 51, 52, 53, 54, 55, 56, 57, 58, 59, 60, 61, 62, 63, 64, 65] [(9, .int .i64 (n1 : Int))]) (fun s1 => h.ext [] []) hF (fun _ _ => by simp only [anys, upd, List.set_cons_succ, List.set_cons_zero]; try rfl) (wk.le (by exact (.eq (.eq (.d4 (.drop (.eq (.eq (.cons (leV.of_eq rfl) (.d16 (.d16 (.d16 (.d4 (.d4 leL.nil)))))))))))))) ?_
 intro n1 s1 hi1 hF
 refine zk (zd ?_)
 refine zc rfl (zu rfl gt9 gt8 rfl) st10 ?_
 refine ze (zj (zk ?_))
 refine r_condL gt10 hF (fun x1 o1 hl1 hx1 hF hK1 => ?_) (fun hF => ?_)
 ·skip
  refine r_skip (zj (zk (r_block (zk (zd ?_)))))
  refine zc rfl (zf rfl gt9 (zb rfl)) st11 ?_
  refine zc rfl (s_idxRow rfl el45 gt7 gt9 isl (idx_of hx1)) st12 ?_
  refine zc rfl (yi rfl ty79.choose_spec.1 gt12 (ldC_agX (cs' := [.int .u64 x1.time, .int .u8 x1.dot.actor.rep, .int .u32 x1.dot.actor.inc, .int .u64 x1.dot.seq, .str x1.text]) ty79.choose_spec.2 rfl rfl) (zb rfl)) st13 ?_
  refine zc rfl (e_alloc (n := 0) rfl ze79 rfl) st6 ?_
  refine zc rfl (zg rfl gt11 (zb rfl)) st5 ?_
  refine zc rfl (e_store (cs' := [.int .u64 x1.time, .int .u8 x1.dot.actor.rep, .int .u32 x1.dot.actor.inc, .int .u64 x1.dot.seq, .str x1.text]) rfl ty79.choose_spec.1 gt6 gt13 (zb rfl) rfl rfl rfl rfl rfl) rfl ?_
  refine ze (zj (zk (zk (zd ?_))))
  refine zc rfl (zi rfl fo79x1 gt6 rfl) st14 ?_
  refine zc rfl (zt rfl ty44.choose_spec.1 gt14 rfl (ldC_agX (cs' := [.int .u8 x1.dot.actor.rep, .int .u32 x1.dot.actor.inc, .int .u64 x1.dot.seq]) ty44.choose_spec.2 rfl rfl) (zb rfl)) st15 ?_
  refine bindF hF (fun v13 hv13 hF => ?_)
  refine yf rfl (yg rfl rfl rfl (zo gt15 zw) (.cons (zb rfl) .nil)) (ok92 hv13) st16 ?_
  refine zc rfl (s_un rfl gt16 rfl) st17 ?_
  refine zc rfl (zf rfl gt17 (zb rfl)) st18 ?_
  refine zp rfl (fun hb => zi rfl fo79x2 gt6 rfl) st19 ?_
  refine zp rfl (fun hb => zt rfl ty9 (zn gt19 hb) rfl (zr rfl) (zb rfl)) st20 ?_
  refine gbindF hF (fun v14 hv14 hF => ?_)
  refine ops_gcall rfl (fun hb => yg rfl rfl rfl (zo (zn gt20 hb) zw) (.cons (zb rfl) .nil)) (fun hb => ok93 (hv14 hb)) st21 ?_
  refine zp rfl (fun hb => s_un rfl (zn gt21 hb) rfl) st22 ?_
  refine zc rfl (s_pick rfl gt18 rfl gt22 (pick_or (fun ht => gF ht))) st23 ?_
  refine zc rfl (zf rfl gt23 (zb rfl)) st24 ?_
  refine zp rfl (fun hb => zf rfl gt1 (zb rfl)) st25 ?_
  refine zp rfl (fun hb => zi rfl fo79x0 gt6 rfl) st26 ?_
  refine zp rfl (fun hb => zt rfl ty39 (zn gt26 hb) rfl (zr rfl) (zb rfl)) st27 ?_
  refine gbindF hF (fun v15 hv15 hF => ?_)
  refine ops_gcall rfl (fun hb => yg rfl rfl rfl (zo (zn gt27 hb) zw) (.cons (zb rfl) .nil)) (fun hb => ok91 (hv15 hb)) st28 ?_
  refine zp rfl (fun hb => zu rfl (zn gt25 hb) (zn gt28 hb) (bin_boolN ty4)) st29 ?_
  refine zc rfl (s_pick rfl gt24 rfl gt29 (pick_or (fun ht => gF ht))) st30 ?_
  refine zc rfl (zf rfl gt30 (zb rfl)) st31 ?_
  refine zp rfl (fun hb => zf rfl gt1 (zb rfl)) st32 ?_
  refine zp rfl (fun hb => s_un rfl (zn gt32 hb) rfl) st33 ?_
  refine zp rfl (fun hb => zf rfl (zn gt33 hb) (zb rfl)) st34 ?_
  refine zp (aG_gv rfl rfl rfl) (fun hb => zi rfl fo79x0 gt6 rfl) st35 ?_
  refine zp (aG_gv rfl rfl rfl) (fun hb => zt rfl ty39 (zn gt35 hb) rfl (zr rfl) (zb rfl)) st36 ?_
  refine zp (aG_gv rfl rfl rfl) (fun hb => zu rfl (zn gt36 hb) rfl rfl) st37 ?_
  refine zp rfl (fun hb => s_pick rfl (zn gt34 hb) gt37 rfl (pick_and (fun ht => gT2 hb ht))) st38 ?_
  refine zc rfl (s_pick rfl gt31 rfl gt38 (pick_or (fun ht => gF ht))) st39 ?_
  refine ze (zj ?_)
  refine r_condF gt39 hF (fun hc16 hF => ?_) (fun hc16 hF => ?_)
  ·skip
   refine zk (zd ?_)
   refine zc rfl (zg rfl rfl (zb rfl)) st4 ?_
   refine ze (zj (r_ret (zx ?_)))
   refine yd ?_
   refine zx ?_
   refine q_loop_ret ?_
   obtain rfl := Option.some.inj hF
   replace hF := hK1
   refine yd ?_
   refine zx ?_
   obtain rfl := Option.some.inj hF
   refine zz rfl (yc gt4 yb) (zy (leV.refl _) rfl ?_)
   exact ⟨rfl, rfl⟩
  ·skip
   refine r_skip (zj (zk ?_))
   refine r_drawn [] [] trivial mixed (by kernel_rfl) ?_
   refine zq rfl rfl (zf rfl gt5 (zb rfl)) (sk st0) ?_
   refine zq rfl rfl (zu rfl (gk gt0) rfl rfl) (sk st1) ?_
   refine zq rfl rfl (zf rfl (gk gt1) (zb rfl)) (sk st2) ?_
   refine ya rfl rfl (fun hb => zf rfl gt0 (zb rfl)) (sk st3) ?_
   refine ya rfl rfl (fun hb => zf rfl gt5 (zb rfl)) (sk st4) ?_
   refine ya rfl rfl (fun hb => zu rfl (zn (gk gt4) hb) rfl rfl) (sk st5) ?_
   refine chkF hF (fun hg17 hF => ?_)
   refine ya rfl rfl (fun hb => s_gidxRow default rfl el45 (zn (gk gt3) hb) (zn (gk gt5) hb) isl (hg17 hb)) (sk st6) ?_
   refine ya rfl rfl (fun hb => zi rfl fo79x0 (zn (gk gt6) hb) rfl) (sk st7) ?_
   refine ya rfl rfl (fun hb => yi rfl ty39 (zn (gk gt7) hb) (zr rfl) (zb rfl)) (sk st8) ?_
   refine ya rfl rfl (fun hb => zf rfl gt0 (zb rfl)) (sk st9) ?_
   refine ya rfl rfl (fun hb => zf rfl gt5 (zb rfl)) (sk st10) ?_
   refine ya rfl rfl (fun hb => zu rfl (zn (gk gt10) hb) rfl rfl) (sk st11) ?_
   refine chkF hF (fun hg18 hF => ?_)
   refine ya rfl rfl (fun hb => s_gidxRow default rfl el45 (zn (gk gt9) hb) (zn (gk gt11) hb) isl (hg18 hb)) (sk st12) ?_
   refine ya rfl rfl (fun hb => zi rfl fo79x1 (zn (gk gt12) hb) rfl) (sk st13) ?_
   refine ya rfl rfl (fun hb => yi rfl ty44.choose_spec.1 (zn (gk gt13) hb) (ldC_agX (cs' := [.int .u8 (((l0).getD (IntKind.wrap .i64 ((n1 : Int) - (1 : Int))).toNat default).dot.actor.rep), .int .u32 (((l0).getD (IntKind.wrap .i64 ((n1 : Int) - (1 : Int))).toNat default).dot.actor.inc), .int .u64 (((l0).getD (IntKind.wrap .i64 ((n1 : Int) - (1 : Int))).toNat default).dot.seq)]) ty44.choose_spec.2 rfl rfl) (zb rfl)) (sk st14) ?_
   refine ya rfl rfl (fun hb => zi rfl fo79x0 gt6 rfl) (sk st15) ?_
   refine ya rfl rfl (fun hb => zt rfl ty39 (zn (gk gt15) hb) rfl (zr rfl) (zb rfl)) (sk st16) ?_
   refine ya rfl rfl (fun hb => zi rfl fo79x1 gt6 rfl) (sk st17) ?_
   refine ya rfl rfl (fun hb => zt rfl ty44.choose_spec.1 (zn (gk gt17) hb) rfl (ldC_agX (cs' := [.int .u8 x1.dot.actor.rep, .int .u32 x1.dot.actor.inc, .int .u64 x1.dot.seq]) ty44.choose_spec.2 rfl rfl) (zb rfl)) (sk st18) ?_
   refine gbindF hF (fun v19 hv19 hF => ?_)
   refine draw_gcall rfl rfl (fun hb => yg rfl rfl rfl (zo (zn (gk gt8) hb) (zo (zn (gk gt14) hb) (zo (zn (gk gt16) hb) (zo (zn (gk gt18) hb) zw)))) (.cons (zb rfl) (.cons (zb rfl) (.cons (zb rfl) (.cons (zb rfl) .nil))))) (fun hb => ok107 (hv19 hb)) (sk st19) ?_
   refine ya rfl rfl (fun hb => s_un rfl (zn (gk gt19) hb) rfl) (sk st20) ?_
   refine zq rfl rfl (s_pick rfl (gk gt2) (gk gt20) rfl (pick_and (fun ht => gT ht))) (sk st21) ?_
   refine draw_nil ?_
   refine zj ?_
   refine r_condF (gk gt21) hF (fun hc20 hF => ?_) (fun hc20 hF => ?_)
   ·skip
    refine zk (zd ?_)
    refine zc rfl (zg rfl rfl (zb rfl)) st4 ?_
    refine ze (zj (r_ret ?_))
    refine yd ?_
    refine zx ?_
    refine q_loop_ret ?_
    obtain rfl := Option.some.inj hF
    replace hF := hK1
    refine yd ?_
    refine zx ?_
    obtain rfl := Option.some.inj hF
    refine zz rfl (yc gt4 yb) (zy (leV.refl _) rfl ?_)
    exact ⟨rfl, rfl⟩
   ·skip
    refine r_skip (q_block (zj (zd ?_)))
    refine zc rfl (zu rfl gt9 rfl rfl) (sk st22) ?_
    refine zc rfl (zf rfl (gk gt22) (zb rfl)) st9 ?_
    refine ze (q_loop ?_)
    obtain rfl := Option.some.inj hF
    exact ⟨(), hl1, hK1, wk.trans (wk.le (by exact (.eq (.eq (.d4 (.drop (.eq (.eq (.cons (leV.of_eq (w64e (by omega) (by omega))) (.d16 (.d16 (.d16 (.d4 (.d4 leL.nil)))))))))))))) (wk_ext3 (by simp [lowL, AV.low]) rfl rfl (by simp [Blk.low, lowL, AV.low]))⟩
 ·skip
  refine r_exit ?_
  refine q_seq_exit ?_
  refine yj ?_
  refine q_block_hit ?_
  refine zj (zk (zd ?_))
  refine zc rfl (zf rfl gt0 (zb rfl)) (sk st23) ?_
  refine bindF hF (fun v21 hv21 hF => ?_)
  refine yf rfl (yg rfl rfl rfl (zo (gk gt23) zw) (.cons (zb rfl) .nil)) (ok108 hv21) (sk st24) ?_
  refine zc rfl (s_un rfl (gk gt24) rfl) (sk st25) ?_
  refine zc rfl (zg rfl (gk gt25) (zb rfl)) st4 ?_
  refine ze (zj (r_ret ?_))
  obtain rfl := Option.some.inj hF
  refine zz rfl (yc gt4 yb) (zy (leV.refl _) rfl ?_)
  exact ⟨rfl, rfl⟩
/-! slices.IndexFunc[[]varve/api.Item,varve/api.Item] -/
theorem ok136 {s0 : (List GItem)} {f1 : (GItem → Option Bool)} {ff1 : FuncId} {af1 kf1 : List AV} {res : Int} {h : AH} (hf1 : ∀ x0 v (L : List Blk) (M : List Nat), f1 x0 = some v → Spec Tryz.prog ff1 (af1 ++ [.agg [.int .u64 x0.time, .int .u8 x0.dot.actor.rep, .int .u32 x0.dot.actor.inc, .int .u64 x0.dot.seq, .str x0.text]] ++ kf1) (h.ext L M) (fun rr hh => rr = .bool v ∧ hh = h.ext L M)) (hF : slicesIndexFuncItem s0 f1 = some res) : Spec Tryz.prog 136 [.sl 5 (s0.map GItem.row), .fn (.func ff1) af1 kf1] h (fun rr hh => rr = .int .i64 res ∧ hh = h) := by
 unfold slicesIndexFuncItem at hF
 refine spec_of_body_extC Tryz.func136 rfl (by kernel_rfl) (env := [.sl 5 (s0.map GItem.row), .fn (.func ff1) af1 kf1, za, za, za, za, za, za, za, za, za, za, za, za, za, za, za, za, za]) (by rfl) (fun hlow hC => ?_)
 simp only [lowL, AV.low, Bool.and_eq_true, Bool.true_and, and_true] at hlow
 have hlaf1 : ∀ n m, h.blks.length ≤ n → h.toks.length ≤ m → lowL n m af1 = true := fun n m h1 h2 => lowL_up h1 h2 _ (by simp [hlow])
 have hlkf1 : ∀ n m, h.blks.length ≤ n → h.toks.length ≤ m → lowL n m kf1 = true := fun n m h1 h2 => lowL_up h1 h2 _ (by simp [hlow])
 refine zk (zd ?_)
 refine zc rfl (zg rfl rfl (zb rfl)) st4 ?_
 refine ze (zj (zk (zk (zd ?_))))
 refine zc rfl (zf rfl gt0 (zb rfl)) st6 ?_
 refine ops_len rfl (yh rfl rfl rfl rfl el45 gt6 lenMap) st7 fun hn1 => ?_
 replace hn1 := lenN hn1
 refine zc rfl (zf rfl rfl (zb rfl)) st8 ?_
 refine ze (zj (r_block ?_))
 refine yk (fun (n1 : Nat) (s1 : Unit) => anys [2, 3, 4, 5, 6, 9, 10, 11, 12, 13, 14, 15, 16, 17, 18] [(8, .int .i64 (n1 : Int))]) (fun s1 => h.ext [] []) hF (fun _ _ => by simp only [anys, upd, List.set_cons_succ, List.set_cons_zero]; try rfl) (wk.le (by exact (.eq (.eq (.d4 (.drop (.eq (.cons (leV.of_eq rfl) (.d4 (.d4 (.drop (.drop leL.nil)))))))))))) ?_
 intro n1 s1 hi1 hF
 refine zk (zd ?_)
 refine zc rfl (zu rfl gt8 gt7 rfl) st9 ?_
 refine ze (zj (zk ?_))
 refine r_condL gt9 hF (fun x1 o1 hl1 hx1 hF hK1 => ?_) (fun hF => ?_)
 ·skip
  refine r_skip (zj (zk (r_block (zk (zd ?_)))))
  refine zc rfl (zf rfl gt8 (zb rfl)) st10 ?_
  refine zc rfl (zg rfl gt10 (zb rfl)) st5 ?_
  refine ze (zj (zk (zd ?_)))
  refine zc rfl (zf rfl gt1 (zb rfl)) st11 ?_
  refine zc rfl (zf rfl gt0 (zb rfl)) st12 ?_
  refine zc rfl (zf rfl gt5 (zb rfl)) st13 ?_
  refine zc rfl (s_idxRow rfl el45 gt12 gt13 isl (idx_of hx1)) st14 ?_
  refine zc rfl (yi rfl ty79.choose_spec.1 gt14 (ldC_agX (cs' := [.int .u64 x1.time, .int .u8 x1.dot.actor.rep, .int .u32 x1.dot.actor.inc, .int .u64 x1.dot.seq, .str x1.text]) ty79.choose_spec.2 rfl rfl) (zb rfl)) st15 ?_
  refine bindF hF (fun v7 hv7 hF => ?_)
  refine yf rfl (s_callC rfl rfl gt11 (zo gt15 zw) (.cons (zb rfl) .nil) rfl) (hf1 _ _ _ _ hv7) st16 ?_
  refine ze (zj ?_)
  refine r_condF gt16 hF (fun hc8 hF => ?_) (fun hc8 hF => ?_)
  ·skip
   refine zk (zd ?_)
   refine zc rfl (zf rfl gt5 (zb rfl)) st17 ?_
   refine zc rfl (zg rfl gt17 (zb rfl)) st4 ?_
   refine ze (zj (r_ret ?_))
   refine yd ?_
   refine zx ?_
   refine q_loop_ret ?_
   obtain rfl := Option.some.inj hF
   replace hF := hK1
   refine yd ?_
   refine zx ?_
   obtain rfl := Option.some.inj hF
   refine zz rfl (yc gt4 yb) (zy (leV.refl _) rfl ?_)
   exact ⟨rfl, rfl⟩
  ·skip
   refine r_skip (q_block (zj (zd ?_)))
   refine zc rfl (zu rfl gt8 rfl rfl) st18 ?_
   refine zc rfl (zf rfl gt18 (zb rfl)) st8 ?_
   refine ze (q_loop ?_)
   obtain rfl := Option.some.inj hF
   exact ⟨(), hl1, hK1, wk.le (by exact (.eq (.eq (.d4 (.drop (.eq (.cons (leV.of_eq (w64e (by omega) (by omega))) (.d4 (.d4 (.drop (.drop leL.nil)))))))))))⟩
 ·skip
  refine r_exit ?_
  refine q_seq_exit ?_
  refine yj ?_
  refine q_block_hit ?_
  refine zj (zk (zd ?_))
  refine zc rfl (zg rfl rfl (zb rfl)) st4 ?_
  refine ze (zj (r_ret ?_))
  obtain rfl := Option.some.inj hF
  refine zz rfl (yc gt4 yb) (zy (leV.refl _) rfl ?_)
  exact ⟨rfl, rfl⟩
/-! slices.ContainsFunc[[]varve/api.Item,varve/api.Item] -/
theorem ok126 {s0 : (List GItem)} {f1 : (GItem → Option Bool)} {ff1 : FuncId} {af1 kf1 : List AV} {res : Bool} {h : AH} (hf1 : ∀ x0 v (L : List Blk) (M : List Nat), f1 x0 = some v → Spec Tryz.prog ff1 (af1 ++ [.agg [.int .u64 x0.time, .int .u8 x0.dot.actor.rep, .int .u32 x0.dot.actor.inc, .int .u64 x0.dot.seq, .str x0.text]] ++ kf1) (h.ext L M) (fun rr hh => rr = .bool v ∧ hh = h.ext L M)) (hF : slicesContainsFuncItem s0 f1 = some res) : Spec Tryz.prog 126 [.sl 5 (s0.map GItem.row), .fn (.func ff1) af1 kf1] h (fun rr hh => rr = .bool res ∧ hh = h) := by
 unfold slicesContainsFuncItem at hF
 refine spec_of_body_extC Tryz.func126 rfl (by kernel_rfl) (env := [.sl 5 (s0.map GItem.row), .fn (.func ff1) af1 kf1, za, za, za, za, za, za, za]) (by rfl) (fun hlow hC => ?_)
 simp only [lowL, AV.low, Bool.and_eq_true, Bool.true_and, and_true] at hlow
 have hlaf1 : ∀ n m, h.blks.length ≤ n → h.toks.length ≤ m → lowL n m af1 = true := fun n m h1 h2 => lowL_up h1 h2 _ (by simp [hlow])
 have hlkf1 : ∀ n m, h.blks.length ≤ n → h.toks.length ≤ m → lowL n m kf1 = true := fun n m h1 h2 => lowL_up h1 h2 _ (by simp [hlow])
 refine zk (zd ?_)
 refine zc rfl (zg rfl rfl (zb rfl)) st4 ?_
 refine ze (zj (zk (zd ?_)))
 refine zc rfl (zf rfl gt0 (zb rfl)) st5 ?_
 refine zc rfl (zf rfl gt1 (zb rfl)) st6 ?_
 refine bindF hF (fun v1 hv1 hF => ?_)
 refine yf rfl (yg rfl rfl rfl (zo gt5 (zo gt6 zw)) (.cons (zb rfl) (.cons (zb rfl) .nil))) (ok136 (fun x0 v L M hv => by rw [ext_ext]; exact hf1 x0 v _ _ hv) hv1) st7 ?_
 refine zc rfl (zu rfl gt7 rfl rfl) st8 ?_
 refine zc rfl (zg rfl gt8 (zb rfl)) st4 ?_
 refine ze (zj (r_ret ?_))
 obtain rfl := Option.some.inj hF
 refine zz rfl (yc gt4 yb) (zy (leV.refl _) rfl ?_)
 exact ⟨rfl, rfl⟩
/-! varve/leaf.has 1 -/
theorem ok127 {x0 : GItem} {c0 : GDot} {i0 : Nat} {res : Bool} {h : AH} (hb0 : h.blk i0 = some (.cells [.int .u8 c0.actor.rep, .int .u32 c0.actor.inc, .int .u64 c0.seq])) (hF : leafXhasC1 x0 c0 = some res) : Spec Tryz.prog 127 [.agg [.int .u64 x0.time, .int .u8 x0.dot.actor.rep, .int .u32 x0.dot.actor.inc, .int .u64 x0.dot.seq, .str x0.text], .ptr i0 0] h (fun rr hh => rr = .bool res ∧ hh = h) := by
 unfold leafXhasC1 at hF
 refine ye Tryz.func127 rfl (by kernel_rfl) (env := [.agg [.int .u64 x0.time, .int .u8 x0.dot.actor.rep, .int .u32 x0.dot.actor.inc, .int .u64 x0.dot.seq, .str x0.text], .ptr i0 0, za, za, za, za, za, za]) (by rfl) ?_
 refine zk (zd ?_)
 refine zc rfl (e_box (n := 0) rfl gt0 (zb rfl) rfl rfl) st2 ?_
 refine zc rfl (zg rfl rfl (zb rfl)) st3 ?_
 refine ze (zj (zk (zd ?_)))
 refine zc rfl (zi rfl fo79x1 gt2 rfl) st4 ?_
 refine zc rfl (zt rfl ty44.choose_spec.1 gt4 rfl (ldC_agX (cs' := [.int .u8 x0.dot.actor.rep, .int .u32 x0.dot.actor.inc, .int .u64 x0.dot.seq]) ty44.choose_spec.2 rfl rfl) (zb rfl)) st5 ?_
 refine zc rfl (b_load rfl ty44.choose_spec.1 gt1 hb0 (ldC_agX (cs' := [.int .u8 c0.actor.rep, .int .u32 c0.actor.inc, .int .u64 c0.seq]) ty44.choose_spec.2 rfl rfl) (zb rfl)) st6 ?_
 refine zc rfl (zu rfl gt5 gt6 (bin_eq pk44 rfl)) st7 ?_
 refine zc rfl (zg rfl gt7 (zb rfl)) st3 ?_
 refine ze (zj (r_ret ?_))
 obtain rfl := Option.some.inj hF
 refine zz rfl (yc gt3 yb) (zy (leV.refl _) rfl ?_)
 exact ⟨rfl, rfl⟩
/-! varve/leaf.has -/
theorem ok109 {l0 : (List GItem)} {d1 : GDot} {res : Bool} {h : AH}  (hF : leafXhas l0 d1 = some res) : Spec Tryz.prog 109 [.sl 5 (l0.map GItem.row), .agg [.int .u8 d1.actor.rep, .int .u32 d1.actor.inc, .int .u64 d1.seq]] h (fun rr hh => rr = .bool res ∧ hh = h) := by
 unfold leafXhas at hF
 refine ye Tryz.func109 rfl (by kernel_rfl) (env := [.sl 5 (l0.map GItem.row), .agg [.int .u8 d1.actor.rep, .int .u32 d1.actor.inc, .int .u64 d1.seq], za, za, za, za, za, za]) (by rfl) ?_
 refine zk (zd ?_)
 refine zc rfl (e_box (n := 0) rfl gt1 (zb rfl) rfl rfl) st3 ?_
 refine zc rfl (zg rfl rfl (zb rfl)) st4 ?_
 refine ze (zj (zk (zd ?_)))
 refine zc rfl (zf rfl gt0 (zb rfl)) st5 ?_
 refine zc rfl (s_makeFunc rfl rfl rfl) st6 ?_
 refine bindF hF (fun v1 hv1 hF => ?_)
 refine yf rfl (yg rfl rfl rfl (zo gt5 (zo gt6 zw)) (.cons (zb rfl) (.cons (zb rfl) .nil))) (ok126 (fun _ v L M hv => ok127 (blk_ext2 (j := 0) rfl) hv) hv1) st7 ?_
 refine zc rfl (zg rfl gt7 (zb rfl)) st4 ?_
 refine ze (zj (r_ret ?_))
 obtain rfl := Option.some.inj hF
 refine zz rfl (yc gt4 yb) (zy (leV.refl _) rfl ?_)
 exact ⟨rfl, rfl⟩
/-! varve/leaf.tombs -/
theorem ok95 {l0 : GLeaf} {res : Bool} {h : AH}  (hF : leafXtombs l0 = some res) : Spec Tryz.prog 95 [.agg [.int .u8 l0.typ, .int .i64 l0.n, .int .u64 l0.time, .int .u8 l0.dot.actor.rep, .int .u32 l0.dot.actor.inc, .int .u64 l0.dot.seq, .str l0.text, .sl 5 (l0.items.map GItem.row), .sl 3 (l0.tombs.map GDot.row)]] h (fun rr hh => rr = .bool res ∧ hh = h) := by
 unfold leafXtombs at hF
 refine ye Tryz.func95 rfl (by kernel_rfl) (env := [.agg [.int .u8 l0.typ, .int .i64 l0.n, .int .u64 l0.time, .int .u8 l0.dot.actor.rep, .int .u32 l0.dot.actor.inc, .int .u64 l0.dot.seq, .str l0.text, .sl 5 (l0.items.map GItem.row), .sl 3 (l0.tombs.map GDot.row)], za, za, za, za, za, za, za, za, za, za, za, za, za, za, za, za, za, za, za, za, za, za, za, za, za, za, za, za, za, za, za, za, za, za, za, za, za]) (by rfl) ?_
 refine zk (zd ?_)
 refine zc rfl (e_box (n := 0) rfl gt0 (zb rfl) rfl rfl) st1 ?_
 refine zc rfl (zg rfl rfl (zb rfl)) st2 ?_
 refine ze (zj (zk (zk (zd ?_))))
 refine zc rfl (zi rfl fo47x6 gt1 rfl) st5 ?_
 refine zc rfl (zt rfl ty27 gt5 rfl (zr rfl) (zb rfl)) st6 ?_
 refine ops_len rfl (yh rfl rfl rfl rfl el27 gt6 lenMap) st7 fun hn1 => ?_
 replace hn1 := lenN hn1
 refine zc rfl (zf rfl rfl (zb rfl)) st8 ?_
 refine ze (zj (r_block ?_))
 refine yk (fun (n1 : Nat) (s1 : Unit) => anys [0, 2, 3, 4, 5, 9, 10, 11, 12, 13, 14, 15, 16, 17, 18, 19, 20, 21, 22, 23, 24, 25, 26, 27, 28, 29, 30, 31, 32, 33, 34, 35, 36, 37] [(8, .int .i64 (n1 : Int))]) (fun s1 => h.ext [.cells [.int .u8 l0.typ, .int .i64 l0.n, .int .u64 l0.time, .int .u8 l0.dot.actor.rep, .int .u32 l0.dot.actor.inc, .int .u64 l0.dot.seq, .str l0.text, .sl 5 (l0.items.map GItem.row), .sl 3 (l0.tombs.map GDot.row)]] []) hF (fun _ _ => by simp only [anys, upd, List.set_cons_succ, List.set_cons_zero]; try rfl) (wk.le (by exact (.drop (.eq (.d4 (.eq (.eq (.cons (leV.of_eq rfl) (.d16 (.d4 (.d4 (.d4 (.drop leL.nil))))))))))))) ?_
 intro n1 s1 hi1 hF
 refine zk (zd ?_)
 refine zc rfl (zu rfl gt8 gt7 rfl) st9 ?_
 refine ze (zj (zk ?_))
 refine r_condL gt9 hF (fun x1 o1 hl1 hx1 hF hK1 => ?_) (fun hF => ?_)
 ·skip
  refine r_skip (zj (zk (r_block (zk (zd ?_)))))
  refine zc rfl (zf rfl gt8 (zb rfl)) st10 ?_
  refine zc rfl (s_idxRow rfl el27 gt6 gt8 isl (idx_of hx1)) st11 ?_
  refine zc rfl (yi rfl ty44.choose_spec.1 gt11 (ldC_agX (cs' := [.int .u8 x1.actor.rep, .int .u32 x1.actor.inc, .int .u64 x1.seq]) ty44.choose_spec.2 rfl rfl) (zb rfl)) st12 ?_
  refine zc rfl (e_alloc (n := 1) rfl ze44 rfl) st4 ?_
  refine zc rfl (zg rfl gt10 (zb rfl)) st3 ?_
  refine zc rfl (e_store (cs' := [.int .u8 x1.actor.rep, .int .u32 x1.actor.inc, .int .u64 x1.seq]) rfl ty44.choose_spec.1 gt4 gt12 (zb rfl) rfl rfl rfl rfl rfl) rfl ?_
  refine ze (zj (zk ?_))
  refine r_drawn [1] [] trivial mixed (by kernel_rfl) ?_
  refine zq rfl rfl (zt rfl ty44.choose_spec.1 gt4 rfl (ldC_agX (cs' := [.int .u8 x1.actor.rep, .int .u32 x1.actor.inc, .int .u64 x1.seq]) ty44.choose_spec.2 rfl rfl) (zb rfl)) st13 ?_
  refine bindF hF (fun v19 hv19 hF => ?_)
  refine draw_callN rfl rfl (fun _ => yg rfl rfl rfl (zo gt13 zw) (.cons (zb rfl) .nil)) (by rintro _ ⟨B2, T2, rfl, hk2⟩; exact ok92 hv19) st14 ?_
  refine zq rfl rfl (s_un rfl gt14 rfl) st15 ?_
  refine zq rfl rfl (zf rfl gt15 (zb rfl)) st16 ?_
  refine ya rfl rfl (fun hb => zf rfl gt3 (zb rfl)) st17 ?_
  refine ya rfl rfl (fun hb => zu rfl (zn gt17 hb) rfl rfl) st18 ?_
  refine ya rfl rfl (fun hb => zf rfl (zn gt18 hb) (zb rfl)) st19 ?_
  refine ya rfl (aG_gv rfl rfl rfl) (fun hb => zi rfl fo47x6 gt1 rfl) st20 ?_
  refine ya rfl (aG_gv rfl rfl rfl) (fun hb => zt rfl ty27 (zn gt20 hb) rfl (zr rfl) (zb rfl)) st21 ?_
  refine ya rfl (aG_gv rfl rfl rfl) (fun hb => zf rfl gt3 (zb rfl)) st22 ?_
  refine ya rfl (aG_gv rfl rfl rfl) (fun hb => zu rfl (zn gt22 hb) rfl rfl) st23 ?_
  refine chkF hF (fun hg20 hF => ?_)
  refine ya rfl (aG_gv rfl rfl rfl) (fun hb => s_gidxRow default rfl el27 (zn gt21 hb) (zn gt23 hb) isl (hg20 hb)) st24 ?_
  refine ya rfl (aG_gv rfl rfl rfl) (fun hb => yi rfl ty44.choose_spec.1 (zn gt24 hb) (ldC_agX (cs' := [.int .u8 (((l0.tombs).getD (IntKind.wrap .i64 ((n1 : Int) - (1 : Int))).toNat default).actor.rep), .int .u32 (((l0.tombs).getD (IntKind.wrap .i64 ((n1 : Int) - (1 : Int))).toNat default).actor.inc), .int .u64 (((l0.tombs).getD (IntKind.wrap .i64 ((n1 : Int) - (1 : Int))).toNat default).seq)]) ty44.choose_spec.2 rfl rfl) (zb rfl)) st25 ?_
  refine ya rfl (aG_gv rfl rfl rfl) (fun hb => zt rfl ty44.choose_spec.1 gt4 rfl (ldC_agX (cs' := [.int .u8 x1.actor.rep, .int .u32 x1.actor.inc, .int .u64 x1.seq]) ty44.choose_spec.2 rfl rfl) (zb rfl)) st26 ?_
  refine gbindF hF (fun v21 hv21 hF => ?_)
  refine draw_gcall rfl (aG_gv rfl rfl rfl) (fun hb => yg rfl rfl rfl (zo (zn gt25 hb) (zo (zn gt26 hb) zw)) (.cons (zb rfl) (.cons (zb rfl) .nil))) (fun hb => ok105 (hv21 hb)) st27 ?_
  refine ya rfl (aG_gv rfl rfl rfl) (fun hb => zu rfl (zn gt27 hb) rfl rfl) st28 ?_
  refine ya rfl rfl (fun hb => s_pick rfl (zn gt19 hb) gt28 rfl (pick_and (fun ht => gT2 hb ht))) st29 ?_
  refine zq rfl rfl (s_pick rfl gt16 rfl gt29 (pick_or (fun ht => gF ht))) st30 ?_
  refine zq rfl rfl (zf rfl gt30 (zb rfl)) st31 ?_
  refine ya rfl rfl (fun hb => zi rfl fo47x5 gt1 rfl) st32 ?_
  refine ya rfl rfl (fun hb => zt rfl ty45 (zn gt32 hb) rfl (zr rfl) (zb rfl)) st33 ?_
  refine ya rfl rfl (fun hb => zt rfl ty44.choose_spec.1 gt4 rfl (ldC_agX (cs' := [.int .u8 x1.actor.rep, .int .u32 x1.actor.inc, .int .u64 x1.seq]) ty44.choose_spec.2 rfl rfl) (zb rfl)) st34 ?_
  refine gbindF hF (fun v22 hv22 hF => ?_)
  refine draw_gcall rfl rfl (fun hb => yg rfl rfl rfl (zo (zn gt33 hb) (zo (zn gt34 hb) zw)) (.cons (zb rfl) (.cons (zb rfl) .nil))) (fun hb => ok109 (hv22 hb)) st35 ?_
  refine zq rfl rfl (s_pick rfl gt31 rfl gt35 (pick_or (fun ht => gF ht))) st36 ?_
  refine draw_nil ?_
  refine zj ?_
  refine r_condF gt36 hF (fun hc23 hF => ?_) (fun hc23 hF => ?_)
  ·skip
   refine zk (zd ?_)
   refine zc rfl (zg rfl rfl (zb rfl)) st2 ?_
   refine ze (zj (r_ret ?_))
   refine yd ?_
   refine zx ?_
   refine q_loop_ret ?_
   obtain rfl := Option.some.inj hF
   replace hF := hK1
   refine yd ?_
   refine zx ?_
   obtain rfl := Option.some.inj hF
   refine zz rfl (yc gt2 yb) (zy (leV.refl _) rfl ?_)
   exact ⟨rfl, rfl⟩
  ·skip
   refine r_skip (q_block (zj (zd ?_)))
   refine zc rfl (zu rfl gt8 rfl rfl) st37 ?_
   refine zc rfl (zf rfl gt37 (zb rfl)) st8 ?_
   refine ze (q_loop ?_)
   obtain rfl := Option.some.inj hF
   exact ⟨(), hl1, hK1, wk.trans (wk.le (by exact (.drop (.eq (.d4 (.eq (.eq (.cons (leV.of_eq (w64e (by omega) (by omega))) (.d16 (.d4 (.d4 (.d4 (.drop leL.nil))))))))))))) (wk_ext3 (by simp [lowL, AV.low]) rfl rfl (by simp [Blk.low, lowL, AV.low]))⟩
 ·skip
  refine r_exit ?_
  refine q_seq_exit ?_
  refine yj ?_
  refine q_block_hit ?_
  refine zj (zk (zd ?_))
  refine zc rfl (zg rfl rfl (zb rfl)) st2 ?_
  refine ze (zj (r_ret ?_))
  obtain rfl := Option.some.inj hF
  refine zz rfl (yc gt2 yb) (zy (leV.refl _) rfl ?_)
  exact ⟨rfl, rfl⟩
/-! varve/leaf.May -/
theorem ok59 {l0 : GLeaf} {res : Bool} {h : AH}  (hF : leafMay l0 = some res) : Spec Tryz.prog 59 [.agg [.int .u8 l0.typ, .int .i64 l0.n, .int .u64 l0.time, .int .u8 l0.dot.actor.rep, .int .u32 l0.dot.actor.inc, .int .u64 l0.dot.seq, .str l0.text, .sl 5 (l0.items.map GItem.row), .sl 3 (l0.tombs.map GDot.row)]] h (fun rr hh => rr = .bool res ∧ hh = h) := by
 unfold leafMay at hF
 refine ye Tryz.func59 rfl (by kernel_rfl) (env := [.agg [.int .u8 l0.typ, .int .i64 l0.n, .int .u64 l0.time, .int .u8 l0.dot.actor.rep, .int .u32 l0.dot.actor.inc, .int .u64 l0.dot.seq, .str l0.text, .sl 5 (l0.items.map GItem.row), .sl 3 (l0.tombs.map GDot.row)], za, za, za, za, za, za, za, za, za, za, za, za, za, za, za, za, za, za, za, za, za, za, za, za, za, za, za, za, za, za, za, za, za, za, za, za, za, za, za, za, za, za, za, za, za, za, za, za, za, za, za, za, za, za, za, za, za, za, za, za, za, za, za, za, za, za, za, za, za, za, za, za, za, za, za, za, za, za, za, za, za, za, za, za, za, za, za, za]) (by rfl) ?_
 refine zk (zd ?_)
 refine zc rfl (e_box (n := 0) rfl gt0 (zb rfl) rfl rfl) st1 ?_
 refine zc rfl (zg rfl rfl (zb rfl)) st2 ?_
 refine ze (zj (zk (zd ?_)))
 refine zc rfl (zi rfl fo47x0 gt1 rfl) st4 ?_
 refine zc rfl (zt rfl ty5 gt4 rfl (zr rfl) (zb rfl)) st5 ?_
 refine zc rfl (s_build (cs' := [.int .u8 l0.typ, .int .i64 (0 : Int), .int .u64 (0 : Int), .int .u8 (0 : Int), .int .u32 (0 : Int), .int .u64 (0 : Int), .str ([] : Str), .osl none 5 (([] : List GItem).map GItem.row), .osl none 3 (([] : List GDot).map GDot.row)]) rfl su47 ze47 pl47 (parto_cons gt5 parto_nil) (.cons (zb rfl) .nil) rfl rfl) st6 ?_
 refine zc rfl (e_alloc (n := 1) rfl ze47 rfl) st3 ?_
 refine zc rfl (e_store (cs' := [.int .u8 l0.typ, .int .i64 (0 : Int), .int .u64 (0 : Int), .int .u8 (0 : Int), .int .u32 (0 : Int), .int .u64 (0 : Int), .str ([] : Str), .osl none 5 (([] : List GItem).map GItem.row), .osl none 3 (([] : List GDot).map GDot.row)]) rfl ty47.choose_spec.1 gt3 gt6 (zb rfl) rfl rfl rfl rfl rfl) rfl ?_
 refine ze (zj (zk (zk (zd ?_))))
 refine zc rfl (zi rfl fo47x0 gt1 rfl) st7 ?_
 refine zc rfl (zt rfl ty5 gt7 rfl (zr rfl) (zb rfl)) st8 ?_
 refine ze (zj (r_block (zk (zd ?_))))
 refine zc rfl (zu rfl gt8 rfl rfl) st10 ?_
 refine zc rfl (zg rfl gt10 (zb rfl)) st9 ?_
 refine ze (zj ?_)
 refine r_condF gt9 hF (fun hc1 hF => ?_) (fun hc1 hF => ?_)
 ·skip
  refine zd ?_
  refine zc rfl (zi rfl fo47x1 gt1 rfl) st11 ?_
  refine zc rfl (zt rfl ty2 gt11 rfl (zr rfl) (zb rfl)) st12 ?_
  refine zc rfl (zi rfl fo47x1 gt3 rfl) st13 ?_
  refine zc rfl (e_store (cs' := [.int .u8 l0.typ, .int .i64 l0.n, .int .u64 (0 : Int), .int .u8 (0 : Int), .int .u32 (0 : Int), .int .u64 (0 : Int), .str ([] : Str), .osl none 5 (([] : List GItem).map GItem.row), .osl none 3 (([] : List GDot).map GDot.row)]) rfl ty2 gt13 gt12 (zb rfl) rfl rfl rfl rfl rfl) rfl ?_
  refine ze (q_block (zj (zk (zd ?_))))
  refine zc rfl (zt rfl ty47.choose_spec.1 gt1 rfl (ldC_agX (cs' := [.int .u8 l0.typ, .int .i64 l0.n, .int .u64 l0.time, .int .u8 l0.dot.actor.rep, .int .u32 l0.dot.actor.inc, .int .u64 l0.dot.seq, .str l0.text, .sl 5 (l0.items.map GItem.row), .sl 3 (l0.tombs.map GDot.row)]) ty47.choose_spec.2 rfl rfl) (zb rfl)) (sk (sk st6)) ?_
  refine zc rfl (zt rfl ty47.choose_spec.1 gt3 rfl (ldC_agX (cs' := [.int .u8 l0.typ, .int .i64 l0.n, .int .u64 (0 : Int), .int .u8 (0 : Int), .int .u32 (0 : Int), .int .u64 (0 : Int), .str ([] : Str), .osl none 5 (([] : List GItem).map GItem.row), .osl none 3 (([] : List GDot).map GDot.row)]) ty47.choose_spec.2 rfl rfl) (zb rfl)) (sk (sk st7)) ?_
  refine bindF hF (fun v2 hv2 hF => ?_)
  refine yf rfl (yg rfl rfl rfl (zo (gk (gk gt6)) (zo (gk (gk gt7)) zw)) (.cons (zb rfl) (.cons (zb rfl) .nil))) ((ok41 hv2).le (.eq (.cons (leV.agg (.eq (.eq (.eq (.eq (.eq (.eq (.eq (.cons (leV.osl _ _ _) (.cons (leV.osl _ _ _) leL.nil))))))))) rfl) leL.nil))) (sk (sk st8)) ?_
  refine zc rfl (zg rfl (gk (gk gt8)) (zb rfl)) st2 ?_
  refine ze (zj (r_ret ?_))
  obtain rfl := Option.some.inj hF
  refine zz rfl (yc gt2 yb) (zy (leV.refl _) rfl ?_)
  exact ⟨rfl, rfl⟩
 ·skip
  refine zk (zd ?_)
  refine zc rfl (zu rfl gt8 rfl rfl) st15 ?_
  refine zc rfl (zg rfl gt15 (zb rfl)) st14 ?_
  refine ze (zj ?_)
  refine r_condF gt14 hF (fun hc3 hF => ?_) (fun hc3 hF => ?_)
  ·skip
   refine zk ?_
   refine r_drawn [3, 5] [(3, [(0, .cells [.int .u8 l0.typ, .int .i64 l0.n, .int .u64 l0.time, .int .u8 l0.dot.actor.rep, .int .u32 l0.dot.actor.inc, .int .u64 l0.dot.seq, .str l0.text, .sl 5 (l0.items.map GItem.row), .sl 3 (l0.tombs.map GDot.row)])]), (5, [(0, .cells [.int .u8 l0.typ, .int .i64 l0.n, .int .u64 l0.time, .int .u8 l0.dot.actor.rep, .int .u32 l0.dot.actor.inc, .int .u64 l0.dot.seq, .str l0.text, .sl 5 (l0.items.map GItem.row), .sl 3 (l0.tombs.map GDot.row)])])] ⟨⟨rfl, trivial⟩, ⟨rfl, trivial⟩, trivial⟩ mixed (by kernel_rfl) ?_
   refine zq rfl rfl (zi rfl fo47x2 gt1 rfl) st16 ?_
   refine zq rfl rfl (zt rfl ty39 gt16 rfl (zr rfl) (zb rfl)) st17 ?_
   refine zq rfl rfl (zi rfl fo47x3 gt1 rfl) st18 ?_
   refine draw_okN rfl rfl (by rintro _ ⟨B2, T2, rfl, hk2⟩; exact zt rfl ty44.choose_spec.1 gt18 (keeps1 hk2) (ldC_agX (cs' := [.int .u8 l0.dot.actor.rep, .int .u32 l0.dot.actor.inc, .int .u64 l0.dot.seq]) ty44.choose_spec.2 rfl rfl) (zb rfl)) st19 ?_
   refine zq rfl rfl (zi rfl fo47x4 gt1 rfl) st20 ?_
   refine draw_okN rfl rfl (by rintro _ ⟨B2, T2, rfl, hk2⟩; exact zt rfl ty9 gt20 (keeps1 hk2) (zr rfl) (zb rfl)) st21 ?_
   refine zq rfl rfl (zi rfl fo47x2 gt3 rfl) st22 ?_
   refine draw_eff rfl (FOk.cons (.inr (keepB ⟨rfl, trivial⟩)) (FOk.cons (.inr (keepB ⟨rfl, trivial⟩)) FOk.nil)) (by kernel_rfl) rfl (e_store (cs' := [.int .u8 l0.typ, .int .i64 (0 : Int), .int .u64 l0.time, .int .u8 (0 : Int), .int .u32 (0 : Int), .int .u64 (0 : Int), .str ([] : Str), .osl none 5 (([] : List GItem).map GItem.row), .osl none 3 (([] : List GDot).map GDot.row)]) rfl ty39 gt22 gt17 (zb rfl) rfl rfl rfl rfl rfl) rfl ?_
   refine zq rfl rfl (zi rfl fo47x3 gt3 rfl) st23 ?_
   refine draw_eff rfl (FOk.cons (.inr (keepB ⟨rfl, trivial⟩)) (FOk.cons (.inr (keepB ⟨rfl, trivial⟩)) FOk.nil)) (by kernel_rfl) rfl (e_store (cs' := [.int .u8 l0.typ, .int .i64 (0 : Int), .int .u64 l0.time, .int .u8 l0.dot.actor.rep, .int .u32 l0.dot.actor.inc, .int .u64 l0.dot.seq, .str ([] : Str), .osl none 5 (([] : List GItem).map GItem.row), .osl none 3 (([] : List GDot).map GDot.row)]) rfl ty44.choose_spec.1 gt23 gt19 (zb rfl) rfl rfl rfl rfl rfl) rfl ?_
   refine zq rfl rfl (zi rfl fo47x4 gt3 rfl) st24 ?_
   refine draw_eff rfl (FOk.cons (.inr (keepB ⟨rfl, trivial⟩)) (FOk.cons (.inr (keepB ⟨rfl, trivial⟩)) FOk.nil)) (by kernel_rfl) rfl (e_store (cs' := [.int .u8 l0.typ, .int .i64 (0 : Int), .int .u64 l0.time, .int .u8 l0.dot.actor.rep, .int .u32 l0.dot.actor.inc, .int .u64 l0.dot.seq, .str l0.text, .osl none 5 (([] : List GItem).map GItem.row), .osl none 3 (([] : List GDot).map GDot.row)]) rfl ty9 gt24 gt21 (zb rfl) rfl rfl rfl rfl rfl) rfl ?_
   refine draw_nil ?_
   refine zj (zk (zd ?_))
   refine zc rfl (zi rfl fo47x2 gt1 rfl) st25 ?_
   refine zc rfl (zt rfl ty39 gt25 rfl (zr rfl) (zb rfl)) st26 ?_
   refine zc rfl (zu rfl gt26 rfl rfl) st27 ?_
   refine zc rfl (zf rfl gt27 (zb rfl)) st28 ?_
   refine zp rfl (fun hb => zi rfl fo47x2 gt1 rfl) st29 ?_
   refine zp rfl (fun hb => zt rfl ty39 (zn gt29 hb) rfl (zr rfl) (zb rfl)) st30 ?_
   refine gbindF hF (fun v4 hv4 hF => ?_)
   refine ops_gcall rfl (fun hb => yg rfl rfl rfl (zo (zn gt30 hb) zw) (.cons (zb rfl) .nil)) (fun hb => ok91 (hv4 hb)) st31 ?_
   refine zp rfl (fun hb => zf rfl (zn gt31 hb) (zb rfl)) st32 ?_
   refine zp (aG_gv rfl rfl rfl) (fun hb => zi rfl fo47x3 gt1 rfl) st33 ?_
   refine zp (aG_gv rfl rfl rfl) (fun hb => zt rfl ty44.choose_spec.1 (zn gt33 hb) rfl (ldC_agX (cs' := [.int .u8 l0.dot.actor.rep, .int .u32 l0.dot.actor.inc, .int .u64 l0.dot.seq]) ty44.choose_spec.2 rfl rfl) (zb rfl)) st34 ?_
   refine gbindF hF (fun v5 hv5 hF => ?_)
   refine ops_gcall (aG_gv rfl rfl rfl) (fun hb => yg rfl rfl rfl (zo (zn gt34 hb) zw) (.cons (zb rfl) .nil)) (fun hb => ok92 (hv5 hb)) st35 ?_
   refine zp rfl (fun hb => s_pick rfl (zn gt32 hb) gt35 rfl (pick_and (fun ht => gT2 hb ht))) st36 ?_
   refine zp rfl (fun hb => zf rfl (zn gt36 hb) (zb rfl)) st37 ?_
   refine zp (aG_gv rfl rfl rfl) (fun hb => zi rfl fo47x4 gt1 rfl) st38 ?_
   refine zp (aG_gv rfl rfl rfl) (fun hb => zt rfl ty9 (zn gt38 hb) rfl (zr rfl) (zb rfl)) st39 ?_
   refine gbindF hF (fun v6 hv6 hF => ?_)
   refine ops_gcall (aG_gv rfl rfl rfl) (fun hb => yg rfl rfl rfl (zo (zn gt39 hb) zw) (.cons (zb rfl) .nil)) (fun hb => ok93 (hv6 hb)) (sk st0) ?_
   refine zp rfl (fun hb => s_pick rfl (zn gt37 hb) (gk gt0) rfl (pick_and (fun ht => gT2 hb ht))) (sk st1) ?_
   refine zp rfl (fun hb => s_un rfl (zn (gk gt1) hb) rfl) (sk st2) ?_
   refine zc rfl (s_pick rfl gt28 (gk gt2) rfl (pick_and (fun ht => gT ht))) (sk st3) ?_
   refine zc rfl (zf rfl (gk gt3) (zb rfl)) (sk st4) ?_
   refine zp rfl (fun hb => zi rfl fo47x2 gt1 rfl) (sk st5) ?_
   refine zp rfl (fun hb => zt rfl ty39 (zn (gk gt5) hb) rfl (zr rfl) (zb rfl)) (sk st6) ?_
   refine zp rfl (fun hb => zu rfl (zn (gk gt6) hb) rfl rfl) (sk st7) ?_
   refine zp rfl (fun hb => zf rfl (zn (gk gt7) hb) (zb rfl)) (sk st8) ?_
   refine zp (aG_gv rfl rfl rfl) (fun hb => zi rfl fo47x3 gt1 rfl) (sk st9) ?_
   refine zp (aG_gv rfl rfl rfl) (fun hb => zt rfl ty44.choose_spec.1 (zn (gk gt9) hb) rfl (ldC_agX (cs' := [.int .u8 l0.dot.actor.rep, .int .u32 l0.dot.actor.inc, .int .u64 l0.dot.seq]) ty44.choose_spec.2 rfl rfl) (zb rfl)) (sk st10) ?_
   refine zp (aG_gv rfl rfl rfl) (fun hb => s_build (cs' := [.int .u8 (0 : Int), .int .u32 (0 : Int), .int .u64 (0 : Int)]) rfl su44 ze44 pl44 parto_nil .nil rfl rfl) (sk st11) ?_
   refine zp (aG_gv rfl rfl rfl) (fun hb => zu rfl (zn (gk gt10) hb) (zn (gk gt11) hb) (bin_ne pk44 rfl)) (sk st12) ?_
   refine zp (aG_gv rfl rfl rfl) (fun hb => zf rfl (zn (gk gt12) hb) (zb rfl)) (sk st13) ?_
   refine zp (aG_gv rfl rfl rfl) (fun hb => zi rfl fo47x4 gt1 rfl) (sk st14) ?_
   refine zp (aG_gv rfl rfl rfl) (fun hb => zt rfl ty9 (zn (gk gt14) hb) rfl (zr rfl) (zb rfl)) (sk st15) ?_
   refine zp (aG_gv rfl rfl rfl) (fun hb => zu rfl (zn (gk gt15) hb) rfl rfl) (sk st16) ?_
   refine zp (aG_gv rfl rfl rfl) (fun hb => s_pick rfl (zn (gk gt13) hb) rfl (gk gt16) (pick_or (fun ht => gF2 hb ht))) (sk st17) ?_
   refine zp rfl (fun hb => s_pick rfl (zn (gk gt8) hb) (gk gt17) rfl (pick_and (fun ht => gT2 hb ht))) (sk st18) ?_
   refine zc rfl (s_pick rfl (gk gt4) rfl (gk gt18) (pick_or (fun ht => gF ht))) (sk st19) ?_
   refine ze (zj ?_)
   refine r_condF (gk gt19) hF (fun hc7 hF => ?_) (fun hc7 hF => ?_)
   ·skip
    refine zk (zd ?_)
    refine zc rfl (zg rfl rfl (zb rfl)) st2 ?_
    refine ze (zj (r_ret ?_))
    refine yd ?_
    refine zx ?_
    obtain rfl := Option.some.inj hF
    refine zz rfl (yc gt2 yb) (zy (leV.refl _) rfl ?_)
    exact ⟨rfl, rfl⟩
   ·skip
    refine r_skip (q_block (zj (zk (zd ?_))))
    refine zc rfl (zt rfl ty47.choose_spec.1 gt1 rfl (ldC_agX (cs' := [.int .u8 l0.typ, .int .i64 l0.n, .int .u64 l0.time, .int .u8 l0.dot.actor.rep, .int .u32 l0.dot.actor.inc, .int .u64 l0.dot.seq, .str l0.text, .sl 5 (l0.items.map GItem.row), .sl 3 (l0.tombs.map GDot.row)]) ty47.choose_spec.2 rfl rfl) (zb rfl)) (sk (sk st6)) ?_
    refine zc rfl (zt rfl ty47.choose_spec.1 gt3 rfl (ldC_agX (cs' := [.int .u8 l0.typ, .int .i64 (0 : Int), .int .u64 l0.time, .int .u8 l0.dot.actor.rep, .int .u32 l0.dot.actor.inc, .int .u64 l0.dot.seq, .str l0.text, .osl none 5 (([] : List GItem).map GItem.row), .osl none 3 (([] : List GDot).map GDot.row)]) ty47.choose_spec.2 rfl rfl) (zb rfl)) (sk (sk st7)) ?_
    refine bindF hF (fun v8 hv8 hF => ?_)
    refine yf rfl (yg rfl rfl rfl (zo (gk (gk gt6)) (zo (gk (gk gt7)) zw)) (.cons (zb rfl) (.cons (zb rfl) .nil))) ((ok41 hv8).le (.eq (.cons (leV.agg (.eq (.eq (.eq (.eq (.eq (.eq (.eq (.cons (leV.osl _ _ _) (.cons (leV.osl _ _ _) leL.nil))))))))) rfl) leL.nil))) (sk (sk st8)) ?_
    refine zc rfl (zg rfl (gk (gk gt8)) (zb rfl)) st2 ?_
    refine ze (zj (r_ret ?_))
    obtain rfl := Option.some.inj hF
    refine zz rfl (yc gt2 yb) (zy (leV.refl _) rfl ?_)
    exact ⟨rfl, rfl⟩
  ·skip
   refine zk (zd ?_)
   refine zc rfl (zu rfl gt8 rfl rfl) (sk st21) ?_
   refine zc rfl (zg rfl (gk gt21) (zb rfl)) (sk st20) ?_
   refine ze (zj ?_)
   refine r_condF (gk gt20) hF (fun hc9 hF => ?_) (fun hc9 hF => ?_)
   ·skip
    refine zk ?_
    refine r_drawn [3] [(3, [(0, .cells [.int .u8 l0.typ, .int .i64 l0.n, .int .u64 l0.time, .int .u8 l0.dot.actor.rep, .int .u32 l0.dot.actor.inc, .int .u64 l0.dot.seq, .str l0.text, .sl 5 (l0.items.map GItem.row), .sl 3 (l0.tombs.map GDot.row)])])] ⟨⟨rfl, trivial⟩, trivial⟩ mixed (by kernel_rfl) ?_
    refine zq rfl rfl (zi rfl fo47x5 gt1 rfl) (sk st22) ?_
    refine zq rfl rfl (zt rfl ty45 (gk gt22) rfl (zr rfl) (zb rfl)) (sk st23) ?_
    refine zq rfl rfl (zi rfl fo47x6 gt1 rfl) (sk st24) ?_
    refine draw_okN rfl rfl (by rintro _ ⟨B2, T2, rfl, hk2⟩; exact zt rfl ty27 (gk gt24) (keeps1 hk2) (zr rfl) (zb rfl)) (sk st25) ?_
    refine zq rfl rfl (zi rfl fo47x5 gt3 rfl) (sk st26) ?_
    refine draw_eff rfl (FOk.cons (.inr (keepB ⟨rfl, trivial⟩)) FOk.nil) (by kernel_rfl) rfl (e_store (cs' := [.int .u8 l0.typ, .int .i64 (0 : Int), .int .u64 (0 : Int), .int .u8 (0 : Int), .int .u32 (0 : Int), .int .u64 (0 : Int), .str ([] : Str), .sl 5 (l0.items.map GItem.row), .osl none 3 (([] : List GDot).map GDot.row)]) rfl ty45 (gk gt26) (gk gt23) (zb rfl) rfl rfl rfl rfl rfl) rfl ?_
    refine zq rfl rfl (zi rfl fo47x6 gt3 rfl) (sk st27) ?_
    refine draw_eff rfl (FOk.cons (.inr (keepB ⟨rfl, trivial⟩)) FOk.nil) (by kernel_rfl) rfl (e_store (cs' := [.int .u8 l0.typ, .int .i64 (0 : Int), .int .u64 (0 : Int), .int .u8 (0 : Int), .int .u32 (0 : Int), .int .u64 (0 : Int), .str ([] : Str), .sl 5 (l0.items.map GItem.row), .sl 3 (l0.tombs.map GDot.row)]) rfl ty27 (gk gt27) (gk gt25) (zb rfl) rfl rfl rfl rfl rfl) rfl ?_
    refine draw_nil ?_
    refine zj (zk (zd ?_))
    refine zc rfl (zi rfl fo47x5 gt1 rfl) (sk st28) ?_
    refine zc rfl (zt rfl ty45 (gk gt28) rfl (zr rfl) (zb rfl)) (sk st29) ?_
    refine bindF hF (fun v10 hv10 hF => ?_)
    refine yf rfl (yg rfl rfl rfl (zo (gk gt29) (zo rfl zw)) (.cons (zb rfl) (.cons (zb rfl) .nil))) (ok94 hv10) (sk st30) ?_
    refine zc rfl (s_un rfl (gk gt30) rfl) (sk st31) ?_
    refine zc rfl (zf rfl (gk gt31) (zb rfl)) (sk st32) ?_
    refine zp rfl (fun hb => zt rfl ty47.choose_spec.1 gt1 rfl (ldC_agX (cs' := [.int .u8 l0.typ, .int .i64 l0.n, .int .u64 l0.time, .int .u8 l0.dot.actor.rep, .int .u32 l0.dot.actor.inc, .int .u64 l0.dot.seq, .str l0.text, .sl 5 (l0.items.map GItem.row), .sl 3 (l0.tombs.map GDot.row)]) ty47.choose_spec.2 rfl rfl) (zb rfl)) (sk st33) ?_
    refine gbindF hF (fun v11 hv11 hF => ?_)
    refine ops_gcall rfl (fun hb => yg rfl rfl rfl (zo (zn (gk gt33) hb) zw) (.cons (zb rfl) .nil)) (fun hb => ok95 (hv11 hb)) (sk st34) ?_
    refine zp rfl (fun hb => s_un rfl (zn (gk gt34) hb) rfl) (sk st35) ?_
    refine zc rfl (s_pick rfl (gk gt32) rfl (gk gt35) (pick_or (fun ht => gF ht))) (sk st36) ?_
    refine ze (zj ?_)
    refine r_condF (gk gt36) hF (fun hc12 hF => ?_) (fun hc12 hF => ?_)
    ·skip
     refine zk (zd ?_)
     refine zc rfl (zg rfl rfl (zb rfl)) st2 ?_
     refine ze (zj (r_ret ?_))
     refine yd ?_
     refine zx ?_
     obtain rfl := Option.some.inj hF
     refine zz rfl (yc gt2 yb) (zy (leV.refl _) rfl ?_)
     exact ⟨rfl, rfl⟩
    ·skip
     refine r_skip (q_block (zj (zk (zd ?_))))
     refine zc rfl (zt rfl ty47.choose_spec.1 gt1 rfl (ldC_agX (cs' := [.int .u8 l0.typ, .int .i64 l0.n, .int .u64 l0.time, .int .u8 l0.dot.actor.rep, .int .u32 l0.dot.actor.inc, .int .u64 l0.dot.seq, .str l0.text, .sl 5 (l0.items.map GItem.row), .sl 3 (l0.tombs.map GDot.row)]) ty47.choose_spec.2 rfl rfl) (zb rfl)) (sk (sk st6)) ?_
     refine zc rfl (zt rfl ty47.choose_spec.1 gt3 rfl (ldC_agX (cs' := [.int .u8 l0.typ, .int .i64 (0 : Int), .int .u64 (0 : Int), .int .u8 (0 : Int), .int .u32 (0 : Int), .int .u64 (0 : Int), .str ([] : Str), .sl 5 (l0.items.map GItem.row), .sl 3 (l0.tombs.map GDot.row)]) ty47.choose_spec.2 rfl rfl) (zb rfl)) (sk (sk st7)) ?_
     refine bindF hF (fun v13 hv13 hF => ?_)
     refine yf rfl (yg rfl rfl rfl (zo (gk (gk gt6)) (zo (gk (gk gt7)) zw)) (.cons (zb rfl) (.cons (zb rfl) .nil))) (ok41 hv13) (sk (sk st8)) ?_
     refine zc rfl (zg rfl (gk (gk gt8)) (zb rfl)) st2 ?_
     refine ze (zj (r_ret ?_))
     obtain rfl := Option.some.inj hF
     refine zz rfl (yc gt2 yb) (zy (leV.refl _) rfl ?_)
     exact ⟨rfl, rfl⟩
   ·skip
    refine zk (zd ?_)
    refine zc rfl (zu rfl gt8 rfl rfl) (sk st38) ?_
    refine zc rfl (zg rfl (gk gt38) (zb rfl)) (sk st37) ?_
    refine ze (zj ?_)
    refine r_condF (gk gt37) hF (fun hc14 hF => ?_) (fun hc14 hF => ?_)
    ·skip
     refine zk (zd ?_)
     refine zc rfl (zi rfl fo47x5 gt1 rfl) (sk st39) ?_
     refine zc rfl (zt rfl ty45 (gk gt39) rfl (zr rfl) (zb rfl)) (sk (sk st0)) ?_
     refine zc rfl (zi rfl fo47x5 gt3 rfl) (sk (sk st1)) ?_
     refine zc rfl (e_store (cs' := [.int .u8 l0.typ, .int .i64 (0 : Int), .int .u64 (0 : Int), .int .u8 (0 : Int), .int .u32 (0 : Int), .int .u64 (0 : Int), .str ([] : Str), .sl 5 (l0.items.map GItem.row), .osl none 3 (([] : List GDot).map GDot.row)]) rfl ty45 (gk (gk gt1)) (gk (gk gt0)) (zb rfl) rfl rfl rfl rfl rfl) rfl ?_
     refine ze (zj (zk (zd ?_)))
     refine zc rfl (zi rfl fo47x5 gt1 rfl) (sk (sk st2)) ?_
     refine zc rfl (zt rfl ty45 (gk (gk gt2)) rfl (zr rfl) (zb rfl)) (sk (sk st3)) ?_
     refine bindF hF (fun v15 hv15 hF => ?_)
     refine yf rfl (yg rfl rfl rfl (zo (gk (gk gt3)) (zo rfl zw)) (.cons (zb rfl) (.cons (zb rfl) .nil))) (ok94 hv15) (sk (sk st4)) ?_
     refine zc rfl (s_un rfl (gk (gk gt4)) rfl) (sk (sk st5)) ?_
     refine ze (zj ?_)
     refine r_condF (gk (gk gt5)) hF (fun hc16 hF => ?_) (fun hc16 hF => ?_)
     ·skip
      refine zk (zd ?_)
      refine zc rfl (zg rfl rfl (zb rfl)) st2 ?_
      refine ze (zj (r_ret ?_))
      refine yd ?_
      refine zx ?_
      obtain rfl := Option.some.inj hF
      refine zz rfl (yc gt2 yb) (zy (leV.refl _) rfl ?_)
      exact ⟨rfl, rfl⟩
     ·skip
      refine r_skip (q_block (zj (zk (zd ?_))))
      refine zc rfl (zt rfl ty47.choose_spec.1 gt1 rfl (ldC_agX (cs' := [.int .u8 l0.typ, .int .i64 l0.n, .int .u64 l0.time, .int .u8 l0.dot.actor.rep, .int .u32 l0.dot.actor.inc, .int .u64 l0.dot.seq, .str l0.text, .sl 5 (l0.items.map GItem.row), .sl 3 (l0.tombs.map GDot.row)]) ty47.choose_spec.2 rfl rfl) (zb rfl)) (sk (sk st6)) ?_
      refine zc rfl (zt rfl ty47.choose_spec.1 gt3 rfl (ldC_agX (cs' := [.int .u8 l0.typ, .int .i64 (0 : Int), .int .u64 (0 : Int), .int .u8 (0 : Int), .int .u32 (0 : Int), .int .u64 (0 : Int), .str ([] : Str), .sl 5 (l0.items.map GItem.row), .osl none 3 (([] : List GDot).map GDot.row)]) ty47.choose_spec.2 rfl rfl) (zb rfl)) (sk (sk st7)) ?_
      refine bindF hF (fun v17 hv17 hF => ?_)
      refine yf rfl (yg rfl rfl rfl (zo (gk (gk gt6)) (zo (gk (gk gt7)) zw)) (.cons (zb rfl) (.cons (zb rfl) .nil))) ((ok41 hv17).le (.eq (.cons (leV.agg (.eq (.eq (.eq (.eq (.eq (.eq (.eq (.eq (.cons (leV.osl _ _ _) leL.nil))))))))) rfl) leL.nil))) (sk (sk st8)) ?_
      refine zc rfl (zg rfl (gk (gk gt8)) (zb rfl)) st2 ?_
      refine ze (zj (r_ret ?_))
      obtain rfl := Option.some.inj hF
      refine zz rfl (yc gt2 yb) (zy (leV.refl _) rfl ?_)
      exact ⟨rfl, rfl⟩
    ·skip
     refine zk (zd ?_)
     refine zc rfl (zg rfl rfl (zb rfl)) st2 ?_
     refine ze (zj (r_ret ?_))
     refine yd ?_
     refine zx ?_
     obtain rfl := Option.some.inj hF
     refine zz rfl (yc gt2 yb) (zy (leV.refl _) rfl ?_)
     exact ⟨rfl, rfl⟩
/-! varve/tree.may -/
theorem ok37N (n : Nat) : ∀ {t0 : (List GNode)} {deep1 : Int} {res : Bool} {h : AH} , treeXmayN n t0 deep1 = some res → Spec Tryz.prog 37 [.sl 3 (t0.map GNode.row), .int .i64 deep1] h (fun rr hh => rr = .bool res ∧ hh = h) := by
 induction n with
 | zero => intro t0 deep1 res h  hF; simp [treeXmayN] at hF
 | succ n ih =>
  intro t0 deep1 res h  hF
  unfold treeXmayN at hF
  refine ye Tryz.func37 rfl (by kernel_rfl) (env := [.sl 3 (t0.map GNode.row), .int .i64 deep1, za, za, za, za, za, za, za, za, za, za, za, za, za, za, za, za, za, za, za, za, za, za, za, za, za, za, za, za, za, za, za, za, za, za, za, za, za, za, za, za, za, za, za, za, za, za, za, za, za, za, za, za, za, za, za, za, za, za, za, za, za, za, za, za, za, za, za, za, za, za, za, za, za, za, za, za, za, za, za, za, za, za, za, za, za, za, za]) (by rfl) ?_
  refine zk (zd ?_)
  refine zc rfl (zg rfl rfl (zb rfl)) st4 ?_
  refine ze (zj (zk (zk (zd ?_))))
  refine zc rfl (zf rfl gt0 (zb rfl)) st9 ?_
  refine ops_len rfl (yh rfl rfl rfl rfl el24 gt9 lenMap) st10 fun hn1 => ?_
  replace hn1 := lenN hn1
  refine zc rfl (zu rfl gt10 rfl rfl) st11 ?_
  refine zc rfl (zf rfl gt11 (zb rfl)) st12 ?_
  refine zp rfl (fun hb => zf rfl gt1 (zb rfl)) st13 ?_
  refine zp rfl (fun hb => zu rfl (zn gt13 hb) rfl rfl) st14 ?_
  refine zc rfl (s_pick rfl gt12 gt14 rfl (pick_and (fun ht => gT ht))) st15 ?_
  refine ze (zj ?_)
  refine r_condF gt15 hF (fun hc2 hF => ?_) (fun hc2 hF => ?_)
  ·skip
   refine zk (zd ?_)
   refine zc rfl (zg rfl rfl (zb rfl)) st4 ?_
   refine ze (zj (r_ret (zx ?_)))
   obtain rfl := Option.some.inj hF
   refine zz rfl (yc gt4 yb) (zy (leV.refl _) rfl ?_)
   exact ⟨rfl, rfl⟩
  ·skip
   refine r_skip (zj (zk (zk (zd ?_))))
   refine zc rfl (zf rfl gt0 (zb rfl)) st16 ?_
   refine ops_len rfl (yh rfl rfl rfl rfl el24 gt16 lenMap) st17 fun hn3 => ?_
   replace hn3 := lenN hn3
   refine zc rfl (zf rfl rfl (zb rfl)) st18 ?_
   refine ze (zj (r_block ?_))
   refine yk (fun (n1 : Nat) (s1 : Unit) => anys [2, 3, 4, 5, 6, 7, 8, 9, 10, 11, 12, 13, 14, 15, 19, 20, 21, 22, 23, 24, 25, 26, 27, 28, 29, 30, 31, 32, 33, 34, 35, 36, 37, 38, 39, 40, 41, 42, 43, 44, 45, 46, 47, 48, 49, 50, 51, 52, 53, 54, 55, 56, 57, 58, 59, 60, 61, 62, 63, 64, 65, 66, 67, 68, 69, 70, 71, 72, 73, 74, 75, 76, 77, 78, 79, 80, 81, 82, 83, 84, 85, 86, 87, 88] [(18, .int .i64 (n1 : Int))]) (fun s1 => h.ext [] []) hF (fun _ _ => by simp only [anys, upd, List.set_cons_succ, List.set_cons_zero]; try rfl) (wk.le (by exact (.eq (.eq (.d4 (.d4 (.d4 (.drop (.drop (.eq (.eq (.cons (leV.of_eq rfl) (.d16 (.d16 (.d16 (.d16 (.d4 (.drop (.drop leL.nil))))))))))))))))))) ?_
   intro n1 s1 hi1 hF
   refine zk (zd ?_)
   refine zc rfl (zu rfl gt18 gt17 rfl) st19 ?_
   refine ze (zj (zk ?_))
   refine r_condL gt19 hF (fun x1 o1 hl1 hx1 hF hK1 => ?_) (fun hF => ?_)
   ·skip
    refine r_skip (zj (zk (r_block (zk (zd ?_)))))
    refine zc rfl (zf rfl gt18 (zb rfl)) st20 ?_
    refine zc rfl (s_idxRowE rfl el24 gt16 gt18 isl (idx_of hx1) (GNode.row_eq _)) st21 ?_
    refine zc rfl (yi rfl ty68.choose_spec.1 gt21 (ldC_agX (cs' := [.str x1.name, .sl 9 (x1.leaves.map GLeaf.row), .sl 3 (x1.subs.map GNode.row)]) ty68.choose_spec.2 rfl rfl) (zb rfl)) st22 ?_
    refine zc rfl (e_alloc (n := 0) rfl ze68 rfl) st6 ?_
    refine zc rfl (zg rfl gt20 (zb rfl)) st5 ?_
    refine zc rfl (e_store (cs' := [.str x1.name, .sl 9 (x1.leaves.map GLeaf.row), .sl 3 (x1.subs.map GNode.row)]) rfl ty68.choose_spec.1 gt6 gt22 (zb rfl) rfl rfl rfl rfl rfl) rfl ?_
    refine ze (zj (zk (zk ?_)))
    refine r_drawn [2] [] trivial mixed (by kernel_rfl) ?_
    refine zq rfl rfl (zi rfl fo68x0 gt6 rfl) st23 ?_
    refine zq rfl rfl (zt rfl ty9 gt23 rfl (zr rfl) (zb rfl)) st24 ?_
    refine bindF hF (fun v27 hv27 hF => ?_)
    refine draw_callN rfl rfl (fun _ => yg rfl rfl rfl (zo gt24 zw) (.cons (zb rfl) .nil)) (by rintro _ ⟨B2, T2, rfl, hk2⟩; exact ok50 hv27) st25 ?_
    refine zq rfl rfl (s_un rfl gt25 rfl) st26 ?_
    refine zq rfl rfl (zf rfl gt26 (zb rfl)) st27 ?_
    refine ya rfl rfl (fun hb => zf rfl gt5 (zb rfl)) st28 ?_
    refine ya rfl rfl (fun hb => zu rfl (zn gt28 hb) rfl rfl) st29 ?_
    refine ya rfl rfl (fun hb => zf rfl (zn gt29 hb) (zb rfl)) st30 ?_
    refine ya rfl (aG_gv rfl rfl rfl) (fun hb => zf rfl gt0 (zb rfl)) st31 ?_
    refine ya rfl (aG_gv rfl rfl rfl) (fun hb => zf rfl gt5 (zb rfl)) st32 ?_
    refine ya rfl (aG_gv rfl rfl rfl) (fun hb => zu rfl (zn gt32 hb) rfl rfl) st33 ?_
    refine chkF hF (fun hg28 hF => ?_)
    refine ya rfl (aG_gv rfl rfl rfl) (fun hb => s_gidxRowE default rfl el24 (zn gt31 hb) (zn gt33 hb) isl (hg28 hb) (GNode.row_eq _)) st34 ?_
    refine ya rfl (aG_gv rfl rfl rfl) (fun hb => zi rfl fo68x0 (zn gt34 hb) rfl) st35 ?_
    refine ya rfl (aG_gv rfl rfl rfl) (fun hb => yi rfl ty9 (zn gt35 hb) (zr rfl) (zb rfl)) st36 ?_
    refine ya rfl (aG_gv rfl rfl rfl) (fun hb => zi rfl fo68x0 gt6 rfl) st37 ?_
    refine ya rfl (aG_gv rfl rfl rfl) (fun hb => zt rfl ty9 (zn gt37 hb) rfl (zr rfl) (zb rfl)) st38 ?_
    refine ya rfl (aG_gv rfl rfl rfl) (fun hb => zu rfl (zn gt36 hb) (zn gt38 hb) rfl) st39 ?_
    refine ya rfl rfl (fun hb => s_pick rfl (zn gt30 hb) gt39 rfl (pick_and (fun ht => gT2 hb ht))) (sk st0) ?_
    refine zq rfl rfl (s_pick rfl gt27 rfl (gk gt0) (pick_or (fun ht => gF ht))) (sk st1) ?_
    refine zq rfl rfl (zf rfl (gk gt1) (zb rfl)) (sk st2) ?_
    refine ya rfl rfl (fun hb => zi rfl fo68x1 gt6 rfl) (sk st3) ?_
    refine ya rfl rfl (fun hb => zt rfl ty66 (zn (gk gt3) hb) rfl (zr rfl) (zb rfl)) (sk st4) ?_
    refine draw_glen rfl rfl (fun hb => yh rfl rfl rfl rfl el66 (zn (gk gt4) hb) lenMap) (sk st5) ?_
    refine ya rfl rfl (fun hb => zi rfl fo68x2 gt6 rfl) (sk st6) ?_
    refine ya rfl rfl (fun hb => zt rfl ty24 (zn (gk gt6) hb) rfl (zr rfl) (zb rfl)) (sk st7) ?_
    refine draw_glen rfl rfl (fun hb => yh rfl rfl rfl rfl el24 (zn (gk gt7) hb) lenMap) (sk st8) ?_
    refine ya rfl rfl (fun hb => zu rfl (zn (gk gt5) hb) (zn (gk gt8) hb) rfl) (sk st9) ?_
    refine ya rfl rfl (fun hb => zu rfl (zn (gk gt9) hb) rfl rfl) (sk st10) ?_
    refine zq rfl rfl (s_pick rfl (gk gt2) rfl (gk gt10) (pick_or (fun ht => gF ht))) (sk st11) ?_
    refine zq rfl rfl (zf rfl (gk gt11) (zb rfl)) (sk st12) ?_
    refine ya rfl rfl (fun hb => zi rfl fo68x2 gt6 rfl) (sk st13) ?_
    refine ya rfl rfl (fun hb => zt rfl ty24 (zn (gk gt13) hb) rfl (zr rfl) (zb rfl)) (sk st14) ?_
    refine ya rfl rfl (fun hb => zf rfl gt1 (zb rfl)) (sk st15) ?_
    refine ya rfl rfl (fun hb => zu rfl (zn (gk gt15) hb) rfl rfl) (sk st16) ?_
    refine gbindF hF (fun v31 hv31 hF => ?_)
    refine draw_gcall rfl rfl (fun hb => yg rfl rfl rfl (zo (zn (gk gt14) hb) (zo (zn (gk gt16) hb) zw)) (.cons (zb rfl) (.cons (zb rfl) .nil))) (fun hb => ih (hv31 hb)) (sk st17) ?_
    refine ya rfl rfl (fun hb => s_un rfl (zn (gk gt17) hb) rfl) (sk st18) ?_
    refine zq rfl rfl (s_pick rfl (gk gt12) rfl (gk gt18) (pick_or (fun ht => gF ht))) (sk st19) ?_
    refine draw_nil ?_
    refine zj ?_
    refine r_condF (gk gt19) hF (fun hc32 hF => ?_) (fun hc32 hF => ?_)
    ·skip
     refine zk (zd ?_)
     refine zc rfl (zg rfl rfl (zb rfl)) st4 ?_
     refine ze (zj (r_ret (zx ?_)))
     refine yd ?_
     refine zx ?_
     refine q_loop_ret ?_
     obtain rfl := Option.some.inj hF
     replace hF := hK1
     refine yd ?_
     refine zx ?_
     obtain rfl := Option.some.inj hF
     refine zz rfl (yc gt4 yb) (zy (leV.refl _) rfl ?_)
     exact ⟨rfl, rfl⟩
    ·skip
     refine r_skip (zj (zk (zd ?_)))
     refine zc rfl (zi rfl fo68x1 gt6 rfl) (sk st20) ?_
     refine zc rfl (zt rfl ty66 (gk gt20) rfl (zr rfl) (zb rfl)) (sk st21) ?_
     refine ops_len rfl (yh rfl rfl rfl rfl el66 (gk gt21) lenMap) (sk st22) fun hn33 => ?_
     replace hn33 := lenN hn33
     refine zc rfl (zf rfl rfl (zb rfl)) (sk st23) ?_
     refine ze (zj (r_block ?_))
     refine yk (fun (n2 : Nat) (s2 : Unit) => anys [2, 3, 4, 5, 7, 8, 9, 10, 11, 12, 13, 14, 15, 19, 20, 21, 22, 23, 24, 25, 26, 27, 28, 29, 30, 31, 32, 33, 34, 35, 36, 37, 38, 39, 40, 41, 42, 43, 44, 45, 46, 47, 48, 49, 50, 51, 52, 53, 54, 55, 56, 57, 58, 59, 60, 64, 65, 66, 67, 68, 69, 70, 71, 72, 73, 74, 75, 76, 77, 78, 79, 80, 81, 82, 83, 84, 85, 86, 87, 88] [(63, .int .i64 (n2 : Int))]) (fun s2 => h.ext [.cells [.str x1.name, .sl 9 (x1.leaves.map GLeaf.row), .sl 3 (x1.subs.map GNode.row)]] []) hF (fun _ _ => by simp only [anys, upd, List.set_cons_succ, List.set_cons_zero]; try rfl) (wk.le (by exact (.eq (.eq (.d4 (.eq (.d4 (.d4 (.drop (.eq (.eq (.eq (.d16 (.d16 (.d4 (.d4 (.drop (.drop (.eq (.eq (.cons (leV.of_eq rfl) (.d16 (.d4 (.d4 (.drop leL.nil))))))))))))))))))))))))) ?_
     intro n2 s2 hi2 hF
     refine zk (zd ?_)
     refine zc rfl (zu rfl (gk gt23) (gk gt22) rfl) (sk st24) ?_
     refine ze (zj (zk ?_))
     refine r_condL (gk gt24) hF (fun x2 o2 hl2 hx2 hF hK2 => ?_) (fun hF => ?_)
     ·skip
      refine r_skip (zj (zk (r_block (zk (zd ?_)))))
      refine zc rfl (zf rfl (gk gt23) (zb rfl)) (sk st25) ?_
      refine zc rfl (s_idxRow rfl el66 (gk gt21) (gk gt23) isl (idx_of hx2)) (sk st26) ?_
      refine zc rfl (yi rfl ty47.choose_spec.1 (gk gt26) (ldC_agX (cs' := [.int .u8 x2.typ, .int .i64 x2.n, .int .u64 x2.time, .int .u8 x2.dot.actor.rep, .int .u32 x2.dot.actor.inc, .int .u64 x2.dot.seq, .str x2.text, .sl 5 (x2.items.map GItem.row), .sl 3 (x2.tombs.map GDot.row)]) ty47.choose_spec.2 rfl rfl) (zb rfl)) (sk st27) ?_
      refine zc rfl (e_alloc (n := 1) rfl ze47 rfl) st8 ?_
      refine zc rfl (zg rfl (gk gt25) (zb rfl)) st7 ?_
      refine zc rfl (e_store (cs' := [.int .u8 x2.typ, .int .i64 x2.n, .int .u64 x2.time, .int .u8 x2.dot.actor.rep, .int .u32 x2.dot.actor.inc, .int .u64 x2.dot.seq, .str x2.text, .sl 5 (x2.items.map GItem.row), .sl 3 (x2.tombs.map GDot.row)]) rfl ty47.choose_spec.1 gt8 (gk gt27) (zb rfl) rfl rfl rfl rfl rfl) rfl ?_
      refine ze (zj (zk ?_))
      refine r_drawn [1] [] trivial mixed (by kernel_rfl) ?_
      refine zq rfl rfl (zt rfl ty47.choose_spec.1 gt8 rfl (ldC_agX (cs' := [.int .u8 x2.typ, .int .i64 x2.n, .int .u64 x2.time, .int .u8 x2.dot.actor.rep, .int .u32 x2.dot.actor.inc, .int .u64 x2.dot.seq, .str x2.text, .sl 5 (x2.items.map GItem.row), .sl 3 (x2.tombs.map GDot.row)]) ty47.choose_spec.2 rfl rfl) (zb rfl)) (sk st28) ?_
      refine bindF hF (fun v43 hv43 hF => ?_)
      refine draw_callN rfl rfl (fun _ => yg rfl rfl rfl (zo (gk gt28) zw) (.cons (zb rfl) .nil)) (by rintro _ ⟨B2, T2, rfl, hk2⟩; exact ok59 hv43) (sk st29) ?_
      refine zq rfl rfl (s_un rfl (gk gt29) rfl) (sk st30) ?_
      refine zq rfl rfl (zf rfl (gk gt30) (zb rfl)) (sk st31) ?_
      refine ya rfl rfl (fun hb => zf rfl gt7 (zb rfl)) (sk st32) ?_
      refine ya rfl rfl (fun hb => zu rfl (zn (gk gt32) hb) rfl rfl) (sk st33) ?_
      refine ya rfl rfl (fun hb => zf rfl (zn (gk gt33) hb) (zb rfl)) (sk st34) ?_
      refine ya rfl (aG_gv rfl rfl rfl) (fun hb => zi rfl fo68x1 gt6 rfl) (sk st35) ?_
      refine ya rfl (aG_gv rfl rfl rfl) (fun hb => zt rfl ty66 (zn (gk gt35) hb) rfl (zr rfl) (zb rfl)) (sk st36) ?_
      refine ya rfl (aG_gv rfl rfl rfl) (fun hb => zf rfl gt7 (zb rfl)) (sk st37) ?_
      refine ya rfl (aG_gv rfl rfl rfl) (fun hb => zu rfl (zn (gk gt37) hb) rfl rfl) (sk st38) ?_
      refine chkF hF (fun hg44 hF => ?_)
      refine ya rfl (aG_gv rfl rfl rfl) (fun hb => s_gidxRow default rfl el66 (zn (gk gt36) hb) (zn (gk gt38) hb) isl (hg44 hb)) (sk st39) ?_
      refine ya rfl (aG_gv rfl rfl rfl) (fun hb => zi rfl fo47x0 (zn (gk gt39) hb) rfl) (sk (sk st0)) ?_
      refine ya rfl (aG_gv rfl rfl rfl) (fun hb => yi rfl ty5 (zn (gk (gk gt0)) hb) (zr rfl) (zb rfl)) (sk (sk st1)) ?_
      refine ya rfl (aG_gv rfl rfl rfl) (fun hb => zi rfl fo47x0 gt8 rfl) (sk (sk st2)) ?_
      refine ya rfl (aG_gv rfl rfl rfl) (fun hb => zt rfl ty5 (zn (gk (gk gt2)) hb) rfl (zr rfl) (zb rfl)) (sk (sk st3)) ?_
      refine ya rfl (aG_gv rfl rfl rfl) (fun hb => zu rfl (zn (gk (gk gt1)) hb) (zn (gk (gk gt3)) hb) rfl) (sk (sk st4)) ?_
      refine ya rfl rfl (fun hb => s_pick rfl (zn (gk gt34) hb) (gk (gk gt4)) rfl (pick_and (fun ht => gT2 hb ht))) (sk (sk st5)) ?_
      refine zq rfl rfl (s_pick rfl (gk gt31) rfl (gk (gk gt5)) (pick_or (fun ht => gF ht))) (sk (sk st6)) ?_
      refine draw_nil ?_
      refine zj ?_
      refine r_condF (gk (gk gt6)) hF (fun hc45 hF => ?_) (fun hc45 hF => ?_)
      ·skip
       refine zk (zd ?_)
       refine zc rfl (zg rfl rfl (zb rfl)) st4 ?_
       refine ze (zj (r_ret ?_))
       refine yd ?_
       refine zx ?_
       refine q_loop_ret ?_
       obtain rfl := Option.some.inj hF
       replace hF := hK2
       refine yd ?_
       refine yd ?_
       refine zx ?_
       refine q_loop_ret ?_
       obtain rfl := Option.some.inj hF
       replace hF := hK1
       refine yd ?_
       refine zx ?_
       obtain rfl := Option.some.inj hF
       refine zz rfl (yc gt4 yb) (zy (leV.refl _) rfl ?_)
       exact ⟨rfl, rfl⟩
      ·skip
       refine r_skip (q_block (zj (zd ?_)))
       refine zc rfl (zu rfl (gk gt23) rfl rfl) (sk (sk st7)) ?_
       refine zc rfl (zf rfl (gk (gk gt7)) (zb rfl)) (sk st23) ?_
       refine ze (q_loop ?_)
       obtain rfl := Option.some.inj hF
       exact ⟨(), hl2, hK2, wk.trans (wk.le (by exact (.eq (.eq (.d4 (.eq (.d4 (.d4 (.drop (.eq (.eq (.eq (.d16 (.d16 (.d4 (.d4 (.drop (.drop (.eq (.eq (.cons (leV.of_eq (w64e (by omega) (by omega))) (.d16 (.d4 (.d4 (.drop leL.nil))))))))))))))))))))))))) (wk_ext3 (by simp [lowL, AV.low]) rfl rfl (by simp [Blk.low, lowL, AV.low]))⟩
     ·skip
      refine r_exit ?_
      refine q_seq_exit ?_
      refine yj ?_
      refine q_block_hit ?_
      refine q_block (zj (zd ?_))
      refine zc rfl (zu rfl gt18 rfl rfl) (sk (sk st8)) ?_
      refine zc rfl (zf rfl (gk (gk gt8)) (zb rfl)) st18 ?_
      refine ze (q_loop ?_)
      obtain rfl := Option.some.inj hF
      exact ⟨(), hl1, hK1, wk.trans (wk.le (by exact (.eq (.eq (.d4 (.d4 (.d4 (.drop (.drop (.eq (.eq (.cons (leV.of_eq (w64e (by omega) (by omega))) (.d16 (.d16 (.d16 (.d16 (.d4 (.drop (.drop leL.nil))))))))))))))))))) (wk_ext3 (by simp [lowL, AV.low]) rfl rfl (by simp [Blk.low, lowL, AV.low]))⟩
   ·skip
    refine r_exit ?_
    refine q_seq_exit ?_
    refine yj ?_
    refine q_block_hit ?_
    refine zj (zk (zd ?_))
    refine zc rfl (zg rfl rfl (zb rfl)) st4 ?_
    refine ze (zj (r_ret ?_))
    obtain rfl := Option.some.inj hF
    refine zz rfl (yc gt4 yb) (zy (leV.refl _) rfl ?_)
    exact ⟨rfl, rfl⟩
theorem ok37 {t0 : (List GNode)} {deep1 : Int} {res : Bool} {h : AH}  (hF : treeXmay t0 deep1 = some res) : Spec Tryz.prog 37 [.sl 3 (t0.map GNode.row), .int .i64 deep1] h (fun rr hh => rr = .bool res ∧ hh = h) := by
 obtain ⟨n, hn⟩ := anyN_is hF
 exact ok37N n  hn
/-! varve/tree.May -/
theorem ok22 {t0 : (List GNode)} {res : Bool} {h : AH}  (hF : treeMay t0 = some res) : Spec Tryz.prog 22 [.sl 3 (t0.map GNode.row)] h (fun rr hh => rr = .bool res ∧ hh = h) := by
 unfold treeMay at hF
 refine ye Tryz.func22 rfl (by kernel_rfl) (env := [.sl 3 (t0.map GNode.row), za, za, za, za]) (by rfl) ?_
 refine zk (zd ?_)
 refine zc rfl (zg rfl rfl (zb rfl)) st2 ?_
 refine ze (zj (zk (zd ?_)))
 refine zc rfl (zf rfl gt0 (zb rfl)) st3 ?_
 refine bindF hF (fun v1 hv1 hF => ?_)
 refine yf rfl (yg rfl rfl rfl (zo gt3 (zo rfl zw)) (.cons (zb rfl) (.cons (zb rfl) .nil))) (ok37 hv1) st4 ?_
 refine zc rfl (zg rfl gt4 (zb rfl)) st2 ?_
 refine ze (zj (r_ret ?_))
 obtain rfl := Option.some.inj hF
 refine zz rfl (yc gt2 yb) (zy (leV.refl _) rfl ?_)
 exact ⟨rfl, rfl⟩
/-! varve/paths.Rows -/
theorem ok11 {t0 : (List GNode)} {res : (List GRow)} {h : AH}  (hF : pathsRows t0 = some res) : Spec Tryz.prog 11 [.sl 3 (t0.map GNode.row)] h (fun rr hh => rr = .sl 10 (res.map GRow.row) ∧ hh = h) := by
 unfold pathsRows at hF
 refine ye Tryz.func11 rfl (by kernel_rfl) (env := [.sl 3 (t0.map GNode.row), za, za, za, za, za, za, za, za]) (by rfl) ?_
 refine zk (zd ?_)
 refine zc rfl (zg rfl rfl (ty_nil el37)) st2 ?_
 refine ze (zj (zk (zk (zd ?_))))
 refine zc rfl (zf rfl gt0 (zb rfl)) st3 ?_
 refine bindF hF (fun v1 hv1 hF => ?_)
 refine yf rfl (yg rfl rfl rfl (zo gt3 zw) (.cons (zb rfl) .nil)) (ok22 hv1) st4 ?_
 refine zc rfl (s_un rfl gt4 rfl) st5 ?_
 refine ze (zj ?_)
 refine r_condF gt5 hF (fun hc2 hF => ?_) (fun hc2 hF => ?_)
 ·skip
  refine zk (zd ?_)
  refine zc rfl (zg rfl rfl (ty_nil el37)) st2 ?_
  refine ze (zj (r_ret (zx ?_)))
  obtain rfl := Option.some.inj hF
  refine zz rfl (yc gt2 yb) (zy (leV.osl _ _ _) rfl ?_)
  exact ⟨rfl, rfl⟩
 ·skip
  refine r_skip (zj (zk (zd ?_)))
  refine zc rfl (zf rfl gt0 (zb rfl)) st6 ?_
  refine bindF hF (fun v3 hv3 hF => ?_)
  refine ops_callH rfl (yg rfl rfl rfl (zo gt6 (zo rfl zw)) (.cons (zb rfl) (.cons (ty_nil el26) .nil))) (clo_ext rfl (n := 0) (B' := [.cells [.sl 3 (v3.1.map GNode.row)], .cells [.sl 1 (v3.2.map strRow)]]) (caps := [.ptr (h.blks.length + 0) 0, .ptr (h.blks.length + 1) 0]) ((ok26 hv3).le (.eq (.cons (leV.osl _ _ _) leL.nil))) rfl rfl rfl) st7 ?_
  refine bindF hF (fun v4 hv4 hF => ?_)
  refine yf rfl (yg rfl rfl rfl (zo gt7 zw) (.cons (zb rfl) .nil)) (ok25 (fun S Hy nb nt hN hNt hC hE y idy hly hy s s' hF => ok44 hN hNt hC hly hy (fun s => by obtain ⟨L, M, e⟩ := hE s; rw [e]; exact n_blk2 (j := 0) rfl rfl) (fun s => by obtain ⟨L, M, e⟩ := hE s; rw [e]; exact n_blk2 (j := 1) rfl rfl) hF) hv4) st8 ?_
  refine zc rfl (zg rfl gt8 (zb rfl)) st2 ?_
  refine ze (zj (r_ret ?_))
  obtain rfl := Option.some.inj hF
  refine zz rfl (yc gt2 yb) (zy (leV.refl _) rfl ?_)
  exact ⟨rfl, rfl⟩
/-! varve/rights.Shows 1 -/
theorem ok28 {x0 : GRule} {res : Bool} {h : AH}  (hF : rightsShowsC1 x0 = some res) : Spec Tryz.prog 28 [.agg [.int .u8 x0.rep, .sl 1 (x0.path.map strRow), .int .u8 x0.kinds, .bool x0.allow, .bool x0.read]] h (fun rr hh => rr = .bool res ∧ hh = h) := by
 unfold rightsShowsC1 at hF
 refine ye Tryz.func28 rfl (by kernel_rfl) (env := [.agg [.int .u8 x0.rep, .sl 1 (x0.path.map strRow), .int .u8 x0.kinds, .bool x0.allow, .bool x0.read], za, za, za, za]) (by rfl) ?_
 refine zk (zd ?_)
 refine zc rfl (e_box (n := 0) rfl gt0 (zb rfl) rfl rfl) st1 ?_
 refine zc rfl (zg rfl rfl (zb rfl)) st2 ?_
 refine ze (zj (zk (zd ?_)))
 refine zc rfl (zi rfl fo54x4 gt1 rfl) st3 ?_
 refine zc rfl (zt rfl ty4 gt3 rfl (zr rfl) (zb rfl)) st4 ?_
 refine zc rfl (zg rfl gt4 (zb rfl)) st2 ?_
 refine ze (zj (r_ret ?_))
 obtain rfl := Option.some.inj hF
 refine zz rfl (yc gt2 yb) (zy (leV.refl _) rfl ?_)
 exact ⟨rfl, rfl⟩
/-! varve/rights.Shows -/
theorem ok12 {l0 : (List GRule)} {rep1 : Int} {path2 : (List Str)} {res : Bool} {h : AH}  (hF : rightsShows l0 rep1 path2 = some res) : Spec Tryz.prog 12 [.sl 5 (l0.map GRule.row), .int .u8 rep1, .sl 1 (path2.map strRow)] h (fun rr hh => rr = .bool res ∧ hh = h) := by
 unfold rightsShows at hF
 refine ye Tryz.func12 rfl (by kernel_rfl) (env := [.sl 5 (l0.map GRule.row), .int .u8 rep1, .sl 1 (path2.map strRow), za, za, za, za, za, za, za, za, za, za, za, za, za, za, za, za, za, za, za, za, za]) (by rfl) ?_
 refine zk (zd ?_)
 refine zc rfl (zg rfl rfl (zb rfl)) st6 ?_
 refine ze (zj (zk (zk (zd ?_))))
 refine zc rfl (zf rfl gt0 (zb rfl)) st8 ?_
 refine bindF hF (fun v1 hv1 hF => ?_)
 refine yf rfl (yg rfl rfl rfl (zo gt8 zw) (.cons (zb rfl) .nil)) (ok6 hv1) st9 ?_
 refine zc rfl (s_un rfl gt9 rfl) st10 ?_
 refine ze (zj ?_)
 refine r_condF gt10 hF (fun hc2 hF => ?_) (fun hc2 hF => ?_)
 ·skip
  refine zk (zd ?_)
  refine zc rfl (zg rfl rfl (zb rfl)) st6 ?_
  refine ze (zj (r_ret (zx ?_)))
  obtain rfl := Option.some.inj hF
  refine zz rfl (yc gt6 yb) (zy (leV.refl _) rfl ?_)
  exact ⟨rfl, rfl⟩
 ·skip
  refine r_skip (zj (zk (zd ?_)))
  refine zc rfl (zf rfl gt0 (zb rfl)) st11 ?_
  refine zc rfl (zf rfl gt1 (zb rfl)) st12 ?_
  refine zc rfl (zf rfl gt2 (zb rfl)) st13 ?_
  refine bindF hF (fun v3 hv3 hF => ?_)
  refine yf rfl (yg rfl rfl rfl (zo gt11 (zo gt12 (zo gt13 (zo rfl zw)))) (.cons (zb rfl) (.cons (zb rfl) (.cons (zb rfl) (.cons (zb rfl) .nil))))) (ok27 (fun _ v L M hv => ok28  hv) hv3) st14 ?_
  refine zc rfl (zg rfl gt14 (zb rfl)) st7 ?_
  refine ze (zj (zk (zd ?_)))
  refine zc rfl (zf rfl gt7 (zb rfl)) st15 ?_
  refine zc rfl (zu rfl gt15 rfl rfl) st16 ?_
  refine zc rfl (zf rfl gt16 (zb rfl)) st17 ?_
  refine zp rfl (fun hb => zf rfl gt0 (zb rfl)) st18 ?_
  refine zp rfl (fun hb => zf rfl gt7 (zb rfl)) st19 ?_
  refine chkF hF (fun hg4 hF => ?_)
  refine zp rfl (fun hb => s_gidxRow default rfl el22 (zn gt18 hb) (zn gt19 hb) isl (hg4 hb)) st20 ?_
  refine zp rfl (fun hb => zi rfl fo54x3 (zn gt20 hb) rfl) st21 ?_
  refine zp rfl (fun hb => yi rfl ty4 (zn gt21 hb) (zr rfl) (zb rfl)) st22 ?_
  refine zc rfl (s_pick rfl gt17 gt22 rfl (pick_and (fun ht => gT ht))) st23 ?_
  refine zc rfl (zg rfl gt23 (zb rfl)) st6 ?_
  refine ze (zj (r_ret ?_))
  obtain rfl := Option.some.inj hF
  refine zz rfl (yc gt6 yb) (zy (leV.refl _) rfl ?_)
  exact ⟨rfl, rfl⟩
/-! varve/diff.side -/
theorem ok60 {there0 : Bool} {l1 : GLeaf} {kind2 : Int} {res : Bool} {h : AH}  (hF : diffXside there0 l1 kind2 = some res) : Spec Tryz.prog 60 [.bool there0, .agg [.int .u8 l1.typ, .int .i64 l1.n, .int .u64 l1.time, .int .u8 l1.dot.actor.rep, .int .u32 l1.dot.actor.inc, .int .u64 l1.dot.seq, .str l1.text, .sl 5 (l1.items.map GItem.row), .sl 3 (l1.tombs.map GDot.row)], .int .u8 kind2] h (fun rr hh => rr = .bool res ∧ hh = h) := by
 unfold diffXside at hF
 refine ye Tryz.func60 rfl (by kernel_rfl) (env := [.bool there0, .agg [.int .u8 l1.typ, .int .i64 l1.n, .int .u64 l1.time, .int .u8 l1.dot.actor.rep, .int .u32 l1.dot.actor.inc, .int .u64 l1.dot.seq, .str l1.text, .sl 5 (l1.items.map GItem.row), .sl 3 (l1.tombs.map GDot.row)], .int .u8 kind2, za, za, za, za, za, za, za, za, za, za, za, za, za, za, za, za, za]) (by rfl) ?_
 refine zk (zd ?_)
 refine zc rfl (e_box (n := 0) rfl gt1 (zb rfl) rfl rfl) st4 ?_
 refine zc rfl (zg rfl rfl (zb rfl)) st6 ?_
 refine ze (zj (zk (zk (zd ?_))))
 refine zc rfl (zf rfl gt0 (zb rfl)) st7 ?_
 refine zc rfl (s_un rfl gt7 rfl) st8 ?_
 refine ze (zj ?_)
 refine r_condF gt8 hF (fun hc1 hF => ?_) (fun hc1 hF => ?_)
 ·skip
  refine zk (zd ?_)
  refine zc rfl (zt rfl ty47.choose_spec.1 gt4 rfl (ldC_agX (cs' := [.int .u8 l1.typ, .int .i64 l1.n, .int .u64 l1.time, .int .u8 l1.dot.actor.rep, .int .u32 l1.dot.actor.inc, .int .u64 l1.dot.seq, .str l1.text, .sl 5 (l1.items.map GItem.row), .sl 3 (l1.tombs.map GDot.row)]) ty47.choose_spec.2 rfl rfl) (zb rfl)) st9 ?_
  refine zc rfl (s_build (cs' := [.int .u8 (0 : Int), .int .i64 (0 : Int), .int .u64 (0 : Int), .int .u8 (0 : Int), .int .u32 (0 : Int), .int .u64 (0 : Int), .str ([] : Str), .osl none 5 (([] : List GItem).map GItem.row), .osl none 3 (([] : List GDot).map GDot.row)]) rfl su47 ze47 pl47 parto_nil .nil rfl rfl) st10 ?_
  refine bindF hF (fun v2 hv2 hF => ?_)
  refine yf rfl (yg rfl rfl rfl (zo gt9 (zo gt10 zw)) (.cons (zb rfl) (.cons (zb rfl) .nil))) ((ok41 hv2).le (.eq (.cons (leV.agg (.eq (.eq (.eq (.eq (.eq (.eq (.eq (.cons (leV.osl _ _ _) (.cons (leV.osl _ _ _) leL.nil))))))))) rfl) leL.nil))) st11 ?_
  refine zc rfl (zg rfl gt11 (zb rfl)) st6 ?_
  refine ze (zj (r_ret (zx ?_)))
  obtain rfl := Option.some.inj hF
  refine zz rfl (yc gt6 yb) (zy (leV.refl _) rfl ?_)
  exact ⟨rfl, rfl⟩
 ·skip
  refine r_skip (zj (zk (zd ?_)))
  refine zc rfl (zi rfl fo47x0 gt4 rfl) st12 ?_
  refine zc rfl (zt rfl ty5 gt12 rfl (zr rfl) (zb rfl)) st13 ?_
  refine zc rfl (zf rfl gt2 (zb rfl)) st14 ?_
  refine zc rfl (zu rfl gt13 gt14 rfl) st15 ?_
  refine zc rfl (zf rfl gt15 (zb rfl)) st16 ?_
  refine zp rfl (fun hb => zt rfl ty47.choose_spec.1 gt4 rfl (ldC_agX (cs' := [.int .u8 l1.typ, .int .i64 l1.n, .int .u64 l1.time, .int .u8 l1.dot.actor.rep, .int .u32 l1.dot.actor.inc, .int .u64 l1.dot.seq, .str l1.text, .sl 5 (l1.items.map GItem.row), .sl 3 (l1.tombs.map GDot.row)]) ty47.choose_spec.2 rfl rfl) (zb rfl)) st17 ?_
  refine gbindF hF (fun v3 hv3 hF => ?_)
  refine ops_gcall rfl (fun hb => yg rfl rfl rfl (zo (zn gt17 hb) zw) (.cons (zb rfl) .nil)) (fun hb => ok59 (hv3 hb)) st18 ?_
  refine zc rfl (s_pick rfl gt16 gt18 rfl (pick_and (fun ht => gT ht))) st19 ?_
  refine zc rfl (zg rfl gt19 (zb rfl)) st6 ?_
  refine ze (zj (r_ret ?_))
  obtain rfl := Option.some.inj hF
  refine zz rfl (yc gt6 yb) (zy (leV.refl _) rfl ?_)
  exact ⟨rfl, rfl⟩
/-! cmp.isNaN[string] -/
theorem ok128 {x0 : Str} {res : Bool} {h : AH}  (hF : cmpXisNaNString x0 = some res) : Spec Tryz.prog 128 [.str x0] h (fun rr hh => rr = .bool res ∧ hh = h) := by
 unfold cmpXisNaNString at hF
 refine ye Tryz.func128 rfl (by kernel_rfl) (env := [.str x0, za, za, za, za, za]) (by rfl) ?_
 refine zk (zd ?_)
 refine zc rfl (zg rfl rfl (zb rfl)) st2 ?_
 refine ze (zj (zk (zd ?_)))
 refine zc rfl (zf rfl gt0 (zb rfl)) st3 ?_
 refine zc rfl (zf rfl gt0 (zb rfl)) st4 ?_
 refine zc rfl (zu rfl gt3 gt4 rfl) st5 ?_
 refine zc rfl (zg rfl gt5 (zb rfl)) st2 ?_
 refine ze (zj (r_ret ?_))
 obtain rfl := Option.some.inj hF
 refine zz rfl (yc gt2 yb) (zy (leV.refl _) rfl ?_)
 exact ⟨rfl, rfl⟩
end Go.Vv
