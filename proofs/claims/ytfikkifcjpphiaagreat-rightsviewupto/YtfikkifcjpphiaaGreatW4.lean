/- Each function that the law reaches computes what its reading says; printed by a program. -/
import Derived.Test.YtfikkifcjpphiaaGreatW3
namespace Go.Vv
open Go Go.Proofs
set_option maxRecDepth 100000
set_option maxHeartbeats 1000000
set_option linter.unusedSimpArgs false
set_option linter.unusedVariables false
/-! varve/varveref05.Same -/
theorem ok24 {a0 : GLeaf} {b1 : GLeaf} {res : Bool} {h : AH}  (hF : ref05Same a0 b1 = some res) : Spec Tryz.prog 24 [.agg [.int .u8 a0.typ, .int .i64 a0.n, .int .u64 a0.time, .int .u8 a0.dot.actor.rep, .int .u32 a0.dot.actor.inc, .int .u64 a0.dot.seq, .str a0.text, .sl 5 (a0.items.map GItem.row), .sl 3 (a0.tombs.map GDot.row)], .agg [.int .u8 b1.typ, .int .i64 b1.n, .int .u64 b1.time, .int .u8 b1.dot.actor.rep, .int .u32 b1.dot.actor.inc, .int .u64 b1.dot.seq, .str b1.text, .sl 5 (b1.items.map GItem.row), .sl 3 (b1.tombs.map GDot.row)]] h (fun rr hh => rr = .bool res ∧ hh = h) := by
 unfold ref05Same at hF
 refine ye Tryz.func24 rfl (by kernel_rfl) (env := [.agg [.int .u8 a0.typ, .int .i64 a0.n, .int .u64 a0.time, .int .u8 a0.dot.actor.rep, .int .u32 a0.dot.actor.inc, .int .u64 a0.dot.seq, .str a0.text, .sl 5 (a0.items.map GItem.row), .sl 3 (a0.tombs.map GDot.row)], .agg [.int .u8 b1.typ, .int .i64 b1.n, .int .u64 b1.time, .int .u8 b1.dot.actor.rep, .int .u32 b1.dot.actor.inc, .int .u64 b1.dot.seq, .str b1.text, .sl 5 (b1.items.map GItem.row), .sl 3 (b1.tombs.map GDot.row)], za, za, za, za, za, za, za, za, za, za, za, za, za, za, za, za, za, za, za, za, za, za, za, za, za, za, za, za, za, za, za, za, za, za, za, za, za, za, za, za, za, za, za, za, za, za, za, za, za, za, za, za, za, za, za, za, za, za, za, za, za, za, za, za, za, za, za, za, za, za, za, za, za, za, za, za, za, za, za, za, za, za, za, za, za, za, za, za, za, za, za, za]) (by rfl) ?_
 refine zk (zd ?_)
 refine zc rfl (e_box (n := 0) rfl gt0 (zb rfl) rfl rfl) st2 ?_
 refine zc rfl (e_box (n := 1) rfl gt1 (zb rfl) rfl rfl) st3 ?_
 refine zc rfl (zg rfl rfl (zb rfl)) st4 ?_
 refine ze (zj (zk (zk (zd ?_))))
 refine zc rfl (zi rfl fo47x0 gt2 rfl) st7 ?_
 refine zc rfl (zt rfl ty5 gt7 rfl (zr rfl) (zb rfl)) st8 ?_
 refine zc rfl (zi rfl fo47x0 gt3 rfl) st9 ?_
 refine zc rfl (zt rfl ty5 gt9 rfl (zr rfl) (zb rfl)) st10 ?_
 refine zc rfl (zu rfl gt8 gt10 rfl) st11 ?_
 refine zc rfl (zf rfl gt11 (zb rfl)) st12 ?_
 refine zp rfl (fun hb => zi rfl fo47x1 gt2 rfl) st13 ?_
 refine zp rfl (fun hb => zt rfl ty2 (zn gt13 hb) rfl (zr rfl) (zb rfl)) st14 ?_
 refine zp rfl (fun hb => zi rfl fo47x1 gt3 rfl) st15 ?_
 refine zp rfl (fun hb => zt rfl ty2 (zn gt15 hb) rfl (zr rfl) (zb rfl)) st16 ?_
 refine zp rfl (fun hb => zu rfl (zn gt14 hb) (zn gt16 hb) rfl) st17 ?_
 refine zc rfl (s_pick rfl gt12 rfl gt17 (pick_or (fun ht => gF ht))) st18 ?_
 refine zc rfl (zf rfl gt18 (zb rfl)) st19 ?_
 refine zp rfl (fun hb => zi rfl fo47x2 gt2 rfl) st20 ?_
 refine zp rfl (fun hb => zt rfl ty39 (zn gt20 hb) rfl (zr rfl) (zb rfl)) st21 ?_
 refine zp rfl (fun hb => zi rfl fo47x2 gt3 rfl) st22 ?_
 refine zp rfl (fun hb => zt rfl ty39 (zn gt22 hb) rfl (zr rfl) (zb rfl)) st23 ?_
 refine zp rfl (fun hb => zu rfl (zn gt21 hb) (zn gt23 hb) rfl) st24 ?_
 refine zc rfl (s_pick rfl gt19 rfl gt24 (pick_or (fun ht => gF ht))) st25 ?_
 refine zc rfl (zf rfl gt25 (zb rfl)) st26 ?_
 refine zp rfl (fun hb => zi rfl fo47x3 gt2 rfl) st27 ?_
 refine zp rfl (fun hb => zt rfl ty44.choose_spec.1 (zn gt27 hb) rfl (ldC_agX (cs' := [.int .u8 a0.dot.actor.rep, .int .u32 a0.dot.actor.inc, .int .u64 a0.dot.seq]) ty44.choose_spec.2 rfl rfl) (zb rfl)) st28 ?_
 refine zp rfl (fun hb => zi rfl fo47x3 gt3 rfl) st29 ?_
 refine zp rfl (fun hb => zt rfl ty44.choose_spec.1 (zn gt29 hb) rfl (ldC_agX (cs' := [.int .u8 b1.dot.actor.rep, .int .u32 b1.dot.actor.inc, .int .u64 b1.dot.seq]) ty44.choose_spec.2 rfl rfl) (zb rfl)) st30 ?_
 refine zp rfl (fun hb => zu rfl (zn gt28 hb) (zn gt30 hb) (bin_ne pk44 rfl)) st31 ?_
 refine zc rfl (s_pick rfl gt26 rfl gt31 (pick_or (fun ht => gF ht))) st32 ?_
 refine zc rfl (zf rfl gt32 (zb rfl)) st33 ?_
 refine zp rfl (fun hb => zi rfl fo47x4 gt2 rfl) st34 ?_
 refine zp rfl (fun hb => zt rfl ty9 (zn gt34 hb) rfl (zr rfl) (zb rfl)) st35 ?_
 refine zp rfl (fun hb => zi rfl fo47x4 gt3 rfl) st36 ?_
 refine zp rfl (fun hb => zt rfl ty9 (zn gt36 hb) rfl (zr rfl) (zb rfl)) st37 ?_
 refine zp rfl (fun hb => zu rfl (zn gt35 hb) (zn gt37 hb) rfl) st38 ?_
 refine zc rfl (s_pick rfl gt33 rfl gt38 (pick_or (fun ht => gF ht))) st39 ?_
 refine zc rfl (zf rfl gt39 (zb rfl)) (sk st0) ?_
 refine zp rfl (fun hb => zi rfl fo47x5 gt2 rfl) (sk st1) ?_
 refine zp rfl (fun hb => zt rfl ty45 (zn (gk gt1) hb) rfl (zr rfl) (zb rfl)) (sk st2) ?_
 refine ops_glen rfl (fun hb => yh rfl rfl rfl rfl el45 (zn (gk gt2) hb) lenMap) (sk st3) fun hn1 => ?_
 refine zp rfl (fun hb => zi rfl fo47x5 gt3 rfl) (sk st4) ?_
 refine zp rfl (fun hb => zt rfl ty45 (zn (gk gt4) hb) rfl (zr rfl) (zb rfl)) (sk st5) ?_
 refine ops_glen rfl (fun hb => yh rfl rfl rfl rfl el45 (zn (gk gt5) hb) lenMap) (sk st6) fun hn2 => ?_
 refine zp rfl (fun hb => zu rfl (zn (gk gt3) hb) (zn (gk gt6) hb) rfl) (sk st7) ?_
 refine zc rfl (s_pick rfl (gk gt0) rfl (gk gt7) (pick_or (fun ht => gF ht))) (sk st8) ?_
 refine zc rfl (zf rfl (gk gt8) (zb rfl)) (sk st9) ?_
 refine zp rfl (fun hb => zi rfl fo47x6 gt2 rfl) (sk st10) ?_
 refine zp rfl (fun hb => zt rfl ty27 (zn (gk gt10) hb) rfl (zr rfl) (zb rfl)) (sk st11) ?_
 refine ops_glen rfl (fun hb => yh rfl rfl rfl rfl el27 (zn (gk gt11) hb) lenMap) (sk st12) fun hn3 => ?_
 refine zp rfl (fun hb => zi rfl fo47x6 gt3 rfl) (sk st13) ?_
 refine zp rfl (fun hb => zt rfl ty27 (zn (gk gt13) hb) rfl (zr rfl) (zb rfl)) (sk st14) ?_
 refine ops_glen rfl (fun hb => yh rfl rfl rfl rfl el27 (zn (gk gt14) hb) lenMap) (sk st15) fun hn4 => ?_
 refine zp rfl (fun hb => zu rfl (zn (gk gt12) hb) (zn (gk gt15) hb) rfl) (sk st16) ?_
 refine zc rfl (s_pick rfl (gk gt9) rfl (gk gt16) (pick_or (fun ht => gF ht))) (sk st17) ?_
 refine ze (zj ?_)
 refine r_condF (gk gt17) hF (fun hc5 hF => ?_) (fun hc5 hF => ?_)
 ·skip
  refine zk (zd ?_)
  refine zc rfl (zg rfl rfl (zb rfl)) st4 ?_
  refine ze (zj (r_ret (zx ?_)))
  obtain rfl := Option.some.inj hF
  refine zz rfl (yc gt4 yb) (zy (leV.refl _) rfl ?_)
  exact ⟨rfl, rfl⟩
 ·skip
  refine r_skip (zj (zk (zk (zd ?_))))
  refine zc rfl (zg rfl rfl (zb rfl)) st5 ?_
  refine ze (zj (r_block ?_))
  refine yk (fun (n1 : Nat) (s1 : Unit) => anys [0, 1, 4, 6, 7, 8, 9, 10, 11, 12, 13, 14, 15, 16, 17, 18, 19, 20, 21, 22, 23, 24, 25, 26, 27, 28, 29, 30, 31, 32, 33, 34, 35, 36, 37, 38, 39, 40, 41, 42, 43, 44, 45, 46, 47, 48, 49, 50, 51, 52, 53, 54, 55, 56, 57, 58, 59, 60, 61, 62, 63, 64, 65, 66, 67, 68, 69, 70, 71, 72, 73, 74, 75, 76, 77, 78, 79, 80, 81, 82, 83, 84, 85, 86, 87, 88, 89, 90, 91, 92, 93] [(5, .int .i64 (n1 : Int))]) (fun s1 => h.ext [.cells [.int .u8 a0.typ, .int .i64 a0.n, .int .u64 a0.time, .int .u8 a0.dot.actor.rep, .int .u32 a0.dot.actor.inc, .int .u64 a0.dot.seq, .str a0.text, .sl 5 (a0.items.map GItem.row), .sl 3 (a0.tombs.map GDot.row)], .cells [.int .u8 b1.typ, .int .i64 b1.n, .int .u64 b1.time, .int .u8 b1.dot.actor.rep, .int .u32 b1.dot.actor.inc, .int .u64 b1.dot.seq, .str b1.text, .sl 5 (b1.items.map GItem.row), .sl 3 (b1.tombs.map GDot.row)]] []) hF (fun _ _ => by simp only [anys, upd, List.set_cons_succ, List.set_cons_zero]; try rfl) (wk.le (by exact (.drop (.drop (.eq (.eq (.drop (.cons (leV.of_eq rfl) (.d16 (.d16 (.d16 (.d16 (.d16 (.d4 (.d4 leL.nil))))))))))))))) ?_
  intro n1 s1 hi1 hF
  refine zk (zk (zd ?_))
  refine zc rfl (zf rfl gt5 (zb rfl)) (sk st18) ?_
  refine zc rfl (zi rfl fo47x5 gt2 rfl) (sk st19) ?_
  refine zc rfl (zt rfl ty45 (gk gt19) rfl (zr rfl) (zb rfl)) (sk st20) ?_
  refine ops_len rfl (yh rfl rfl rfl rfl el45 (gk gt20) lenMap) (sk st21) fun hn31 => ?_
  replace hn31 := lenN hn31
  refine zc rfl (zu rfl (gk gt18) (gk gt21) rfl) (sk st22) ?_
  refine ze (zj ?_)
  refine r_condL (gk gt22) hF (fun x1 o1 hl1 hx1 hF hK1 => ?_) (fun hF => ?_)
  ·skip
   refine r_skip (zj (zk (r_block (zk ?_))))
   refine r_drawn [] [] trivial mixed (by kernel_rfl) ?_
   refine zq rfl rfl (zi rfl fo47x5 gt2 rfl) (sk st25) ?_
   refine zq rfl rfl (zt rfl ty45 (gk gt25) rfl (zr rfl) (zb rfl)) (sk st26) ?_
   refine zq rfl rfl (zf rfl gt5 (zb rfl)) (sk st27) ?_
   refine zq rfl rfl (s_idxRow rfl el45 (gk gt26) (gk gt27) isl (idx_of hx1)) (sk st28) ?_
   refine zq rfl rfl (yi rfl ty79.choose_spec.1 (gk gt28) (ldC_agX (cs' := [.int .u64 x1.time, .int .u8 x1.dot.actor.rep, .int .u32 x1.dot.actor.inc, .int .u64 x1.dot.seq, .str x1.text]) ty79.choose_spec.2 rfl rfl) (zb rfl)) (sk st29) ?_
   refine zq rfl rfl (zi rfl fo47x5 gt3 rfl) (sk st30) ?_
   refine zq rfl rfl (zt rfl ty45 (gk gt30) rfl (zr rfl) (zb rfl)) (sk st31) ?_
   refine zq rfl rfl (zf rfl gt5 (zb rfl)) (sk st32) ?_
   refine bindF hF (fun y32 hy32 hF => ?_)
   refine zq rfl rfl (s_idxRow rfl el45 (gk gt31) (gk gt32) isl hy32) (sk st33) ?_
   refine zq rfl rfl (yi rfl ty79.choose_spec.1 (gk gt33) (ldC_agX (cs' := [.int .u64 y32.time, .int .u8 y32.dot.actor.rep, .int .u32 y32.dot.actor.inc, .int .u64 y32.dot.seq, .str y32.text]) ty79.choose_spec.2 rfl rfl) (zb rfl)) (sk st34) ?_
   refine zq rfl rfl (zu rfl (gk gt29) (gk gt34) (bin_ne pk79 rfl)) (sk st35) ?_
   refine draw_nil ?_
   refine zj ?_
   refine r_condF (gk gt35) hF (fun hc33 hF => ?_) (fun hc33 hF => ?_)
   ·skip
    refine zk (zd ?_)
    refine zc rfl (zg rfl rfl (zb rfl)) st4 ?_
    refine ze (zj (r_ret ?_))
    refine yd ?_
    refine zx ?_
    refine q_loop_ret ?_
    obtain rfl := Option.some.inj hF
    replace hF := hK1
    refine yd ?_
    refine zx ?_
    obtain rfl := Option.some.inj hF
    refine zz rfl (yc gt4 yb) (zy (leV.refl _) rfl ?_)
    exact ⟨rfl, rfl⟩
   ·skip
    refine r_skip (q_block (zj (zd ?_)))
    refine zc rfl (zf rfl gt5 (zb rfl)) (sk st23) ?_
    refine zc rfl (zu rfl (gk gt23) rfl rfl) (sk st24) ?_
    refine zc rfl (zg rfl (gk gt24) (zb rfl)) st5 ?_
    refine ze (q_loop ?_)
    obtain rfl := Option.some.inj hF
    exact ⟨(), hl1, hK1, wk.le (by exact (.drop (.drop (.eq (.eq (.drop (.cons (leV.of_eq (w64e (by omega) (by omega))) (.d16 (.d16 (.d16 (.d16 (.d16 (.d4 (.d4 leL.nil))))))))))))))⟩
  ·skip
   refine r_exit ?_
   refine q_seq_exit ?_
   refine yj ?_
   refine q_block_hit ?_
   refine zj (zk (zk (zd ?_)))
   refine zc rfl (zg rfl rfl (zb rfl)) st6 ?_
   refine ze (zj (r_block ?_))
   refine yk (fun (n2 : Nat) (s2 : Unit) => anys [0, 1, 4, 5, 7, 8, 9, 10, 11, 12, 13, 14, 15, 16, 17, 18, 19, 20, 21, 22, 23, 24, 25, 26, 27, 28, 29, 30, 31, 32, 33, 34, 35, 36, 37, 38, 39, 40, 41, 42, 43, 44, 45, 46, 47, 48, 49, 50, 51, 52, 53, 54, 55, 56, 57, 58, 59, 60, 61, 62, 63, 64, 65, 66, 67, 68, 69, 70, 71, 72, 73, 74, 75, 76, 77, 78, 79, 80, 81, 82, 83, 84, 85, 86, 87, 88, 89, 90, 91, 92, 93] [(6, .int .i64 (n2 : Int))]) (fun s2 => h.ext [.cells [.int .u8 a0.typ, .int .i64 a0.n, .int .u64 a0.time, .int .u8 a0.dot.actor.rep, .int .u32 a0.dot.actor.inc, .int .u64 a0.dot.seq, .str a0.text, .sl 5 (a0.items.map GItem.row), .sl 3 (a0.tombs.map GDot.row)], .cells [.int .u8 b1.typ, .int .i64 b1.n, .int .u64 b1.time, .int .u8 b1.dot.actor.rep, .int .u32 b1.dot.actor.inc, .int .u64 b1.dot.seq, .str b1.text, .sl 5 (b1.items.map GItem.row), .sl 3 (b1.tombs.map GDot.row)]] []) hF (fun _ _ => by simp only [anys, upd, List.set_cons_succ, List.set_cons_zero]; try rfl) (wk.le (by exact (.drop (.drop (.eq (.eq (.drop (.drop (.cons (leV.of_eq rfl) (.d16 (.d16 (.d16 (.d16 (.d16 (.d4 (.drop (.drop (.drop leL.nil)))))))))))))))))) ?_
   intro n2 s2 hi2 hF
   refine zk (zk (zd ?_))
   refine zc rfl (zf rfl gt6 (zb rfl)) (sk st36) ?_
   refine zc rfl (zi rfl fo47x6 gt2 rfl) (sk st37) ?_
   refine zc rfl (zt rfl ty27 (gk gt37) rfl (zr rfl) (zb rfl)) (sk st38) ?_
   refine ops_len rfl (yh rfl rfl rfl rfl el27 (gk gt38) lenMap) (sk st39) fun hn59 => ?_
   replace hn59 := lenN hn59
   refine zc rfl (zu rfl (gk gt36) (gk gt39) rfl) (sk (sk st0)) ?_
   refine ze (zj ?_)
   refine r_condL (gk (gk gt0)) hF (fun x2 o2 hl2 hx2 hF hK2 => ?_) (fun hF => ?_)
   ·skip
    refine r_skip (zj (zk (r_block (zk ?_))))
    refine r_drawn [] [] trivial mixed (by kernel_rfl) ?_
    refine zq rfl rfl (zi rfl fo47x6 gt2 rfl) (sk (sk st3)) ?_
    refine zq rfl rfl (zt rfl ty27 (gk (gk gt3)) rfl (zr rfl) (zb rfl)) (sk (sk st4)) ?_
    refine zq rfl rfl (zf rfl gt6 (zb rfl)) (sk (sk st5)) ?_
    refine zq rfl rfl (s_idxRow rfl el27 (gk (gk gt4)) (gk (gk gt5)) isl (idx_of hx2)) (sk (sk st6)) ?_
    refine zq rfl rfl (yi rfl ty44.choose_spec.1 (gk (gk gt6)) (ldC_agX (cs' := [.int .u8 x2.actor.rep, .int .u32 x2.actor.inc, .int .u64 x2.seq]) ty44.choose_spec.2 rfl rfl) (zb rfl)) (sk (sk st7)) ?_
    refine zq rfl rfl (zi rfl fo47x6 gt3 rfl) (sk (sk st8)) ?_
    refine zq rfl rfl (zt rfl ty27 (gk (gk gt8)) rfl (zr rfl) (zb rfl)) (sk (sk st9)) ?_
    refine zq rfl rfl (zf rfl gt6 (zb rfl)) (sk (sk st10)) ?_
    refine bindF hF (fun y60 hy60 hF => ?_)
    refine zq rfl rfl (s_idxRow rfl el27 (gk (gk gt9)) (gk (gk gt10)) isl hy60) (sk (sk st11)) ?_
    refine zq rfl rfl (yi rfl ty44.choose_spec.1 (gk (gk gt11)) (ldC_agX (cs' := [.int .u8 y60.actor.rep, .int .u32 y60.actor.inc, .int .u64 y60.seq]) ty44.choose_spec.2 rfl rfl) (zb rfl)) (sk (sk st12)) ?_
    refine zq rfl rfl (zu rfl (gk (gk gt7)) (gk (gk gt12)) (bin_ne pk44 rfl)) (sk (sk st13)) ?_
    refine draw_nil ?_
    refine zj ?_
    refine r_condF (gk (gk gt13)) hF (fun hc61 hF => ?_) (fun hc61 hF => ?_)
    ·skip
     refine zk (zd ?_)
     refine zc rfl (zg rfl rfl (zb rfl)) st4 ?_
     refine ze (zj (r_ret ?_))
     refine yd ?_
     refine zx ?_
     refine q_loop_ret ?_
     obtain rfl := Option.some.inj hF
     replace hF := hK2
     refine yd ?_
     refine zx ?_
     obtain rfl := Option.some.inj hF
     refine zz rfl (yc gt4 yb) (zy (leV.refl _) rfl ?_)
     exact ⟨rfl, rfl⟩
    ·skip
     refine r_skip (q_block (zj (zd ?_)))
     refine zc rfl (zf rfl gt6 (zb rfl)) (sk (sk st1)) ?_
     refine zc rfl (zu rfl (gk (gk gt1)) rfl rfl) (sk (sk st2)) ?_
     refine zc rfl (zg rfl (gk (gk gt2)) (zb rfl)) st6 ?_
     refine ze (q_loop ?_)
     obtain rfl := Option.some.inj hF
     exact ⟨(), hl2, hK2, wk.le (by exact (.drop (.drop (.eq (.eq (.drop (.drop (.cons (leV.of_eq (w64e (by omega) (by omega))) (.d16 (.d16 (.d16 (.d16 (.d16 (.d4 (.drop (.drop (.drop leL.nil)))))))))))))))))⟩
   ·skip
    refine r_exit ?_
    refine q_seq_exit ?_
    refine yj ?_
    refine q_block_hit ?_
    refine zj (zk (zd ?_))
    refine zc rfl (zg rfl rfl (zb rfl)) st4 ?_
    refine ze (zj (r_ret ?_))
    obtain rfl := Option.some.inj hF
    refine zz rfl (yc gt4 yb) (zy (leV.refl _) rfl ?_)
    exact ⟨rfl, rfl⟩
/-! varve/varveref07.Same -/
theorem ok10N (n : Nat) : ∀ {a0 : (List GNode)} {b1 : (List GNode)} {res : Bool} {h : AH} , ref07SameN n a0 b1 = some res → Spec Tryz.prog 10 [.sl 3 (a0.map GNode.row), .sl 3 (b1.map GNode.row)] h (fun rr hh => rr = .bool res ∧ hh = h) := by
 induction n with
 | zero => intro a0 b1 res h  hF; simp [ref07SameN] at hF
 | succ n ih =>
  intro a0 b1 res h  hF
  unfold ref07SameN at hF
  refine ye Tryz.func10 rfl (by kernel_rfl) (env := [.sl 3 (a0.map GNode.row), .sl 3 (b1.map GNode.row), za, za, za, za, za, za, za, za, za, za, za, za, za, za, za, za, za, za, za, za, za, za, za, za, za, za, za, za, za, za, za, za, za, za, za, za, za, za, za, za, za, za, za, za, za, za, za, za, za, za, za, za, za, za, za, za, za, za, za, za, za, za, za, za, za, za, za, za, za, za, za, za, za, za, za, za, za, za, za, za, za, za, za, za]) (by rfl) ?_
  refine zk (zd ?_)
  refine zc rfl (zg rfl rfl (zb rfl)) st4 ?_
  refine ze (zj (zk (zk (zd ?_))))
  refine zc rfl (zf rfl gt0 (zb rfl)) st7 ?_
  refine ops_len rfl (yh rfl rfl rfl rfl el24 gt7 lenMap) st8 fun hn1 => ?_
  replace hn1 := lenN hn1
  refine zc rfl (zf rfl gt1 (zb rfl)) st9 ?_
  refine ops_len rfl (yh rfl rfl rfl rfl el24 gt9 lenMap) st10 fun hn2 => ?_
  replace hn2 := lenN hn2
  refine zc rfl (zu rfl gt8 gt10 rfl) st11 ?_
  refine ze (zj ?_)
  refine r_condF gt11 hF (fun hc3 hF => ?_) (fun hc3 hF => ?_)
  ·skip
   refine zk (zd ?_)
   refine zc rfl (zg rfl rfl (zb rfl)) st4 ?_
   refine ze (zj (r_ret (zx ?_)))
   obtain rfl := Option.some.inj hF
   refine zz rfl (yc gt4 yb) (zy (leV.refl _) rfl ?_)
   exact ⟨rfl, rfl⟩
  ·skip
   refine r_skip (zj (zk (zk (zd ?_))))
   refine zc rfl (zg rfl rfl (zb rfl)) st5 ?_
   refine ze (zj (r_block ?_))
   refine yk (fun (n1 : Nat) (s1 : Unit) => anys [2, 3, 4, 6, 7, 8, 9, 10, 11, 12, 13, 14, 15, 16, 17, 18, 19, 20, 21, 22, 23, 24, 25, 26, 27, 28, 29, 30, 31, 32, 33, 34, 35, 36, 37, 38, 39, 40, 41, 42, 43, 44, 45, 46, 47, 48, 49, 50, 51, 52, 53, 54, 55, 56, 57, 58, 59, 60, 61, 62, 63, 64, 65, 66, 67, 68, 69, 70, 71, 72, 73, 74, 75, 76, 77, 78, 79, 80, 81, 82, 83, 84, 85] [(5, .int .i64 (n1 : Int))]) (fun s1 => h.ext [] []) hF (fun _ _ => by simp only [anys, upd, List.set_cons_succ, List.set_cons_zero]; try rfl) (wk.le (by exact (.eq (.eq (.drop (.drop (.drop (.cons (leV.of_eq rfl) (.d16 (.d16 (.d16 (.d16 (.d16 leL.nil))))))))))))) ?_
   intro n1 s1 hi1 hF
   refine zk (zk (zd ?_))
   refine zc rfl (zf rfl gt5 (zb rfl)) st12 ?_
   refine zc rfl (zf rfl gt0 (zb rfl)) st13 ?_
   refine ops_len rfl (yh rfl rfl rfl rfl el24 gt13 lenMap) st14 fun hn40 => ?_
   replace hn40 := lenN hn40
   refine zc rfl (zu rfl gt12 gt14 rfl) st15 ?_
   refine ze (zj ?_)
   refine r_condL gt15 hF (fun x1 o1 hl1 hx1 hF hK1 => ?_) (fun hF => ?_)
   ·skip
    refine r_skip (zj (zk (r_block (zk (zk ?_)))))
    refine r_drawn [] [] trivial mixed (by kernel_rfl) ?_
    refine zq rfl rfl (zf rfl gt0 (zb rfl)) st18 ?_
    refine zq rfl rfl (zf rfl gt5 (zb rfl)) st19 ?_
    refine zq rfl rfl (s_idxRowE rfl el24 gt18 gt19 isl (idx_of hx1) (GNode.row_eq _)) st20 ?_
    refine zq rfl rfl (zi rfl fo68x0 gt20 rfl) st21 ?_
    refine zq rfl rfl (yi rfl ty9 gt21 (zr rfl) (zb rfl)) st22 ?_
    refine zq rfl rfl (zf rfl gt1 (zb rfl)) st23 ?_
    refine zq rfl rfl (zf rfl gt5 (zb rfl)) st24 ?_
    refine bindF hF (fun y41 hy41 hF => ?_)
    refine zq rfl rfl (s_idxRowE rfl el24 gt23 gt24 isl hy41 (GNode.row_eq _)) st25 ?_
    refine zq rfl rfl (zi rfl fo68x0 gt25 rfl) st26 ?_
    refine zq rfl rfl (yi rfl ty9 gt26 (zr rfl) (zb rfl)) st27 ?_
    refine zq rfl rfl (zu rfl gt22 gt27 rfl) st28 ?_
    refine zq rfl rfl (zf rfl gt28 (zb rfl)) st29 ?_
    refine ya rfl rfl (fun hb => zf rfl gt0 (zb rfl)) st30 ?_
    refine ya rfl rfl (fun hb => zf rfl gt5 (zb rfl)) st31 ?_
    refine chkF hF (fun hg42 hF => ?_)
    refine ya rfl rfl (fun hb => s_gidxRowE default rfl el24 (zn gt30 hb) (zn gt31 hb) isl (hg42 hb) (GNode.row_eq _)) st32 ?_
    refine ya rfl rfl (fun hb => zi rfl fo68x1 (zn gt32 hb) rfl) st33 ?_
    refine ya rfl rfl (fun hb => yi rfl ty66 (zn gt33 hb) (zr rfl) (zb rfl)) st34 ?_
    refine draw_glen rfl rfl (fun hb => yh rfl rfl rfl rfl el66 (zn gt34 hb) lenMap) st35 ?_
    refine ya rfl rfl (fun hb => zf rfl gt1 (zb rfl)) st36 ?_
    refine ya rfl rfl (fun hb => zf rfl gt5 (zb rfl)) st37 ?_
    refine chkF hF (fun hg44 hF => ?_)
    refine ya rfl rfl (fun hb => s_gidxRowE default rfl el24 (zn gt36 hb) (zn gt37 hb) isl (hg44 hb) (GNode.row_eq _)) st38 ?_
    refine ya rfl rfl (fun hb => zi rfl fo68x1 (zn gt38 hb) rfl) st39 ?_
    refine ya rfl rfl (fun hb => yi rfl ty66 (zn gt39 hb) (zr rfl) (zb rfl)) (sk st0) ?_
    refine draw_glen rfl rfl (fun hb => yh rfl rfl rfl rfl el66 (zn (gk gt0) hb) lenMap) (sk st1) ?_
    refine ya rfl rfl (fun hb => zu rfl (zn gt35 hb) (zn (gk gt1) hb) rfl) (sk st2) ?_
    refine zq rfl rfl (s_pick rfl gt29 rfl (gk gt2) (pick_or (fun ht => gF ht))) (sk st3) ?_
    refine zq rfl rfl (zf rfl (gk gt3) (zb rfl)) (sk st4) ?_
    refine ya rfl rfl (fun hb => zf rfl gt0 (zb rfl)) (sk st5) ?_
    refine ya rfl rfl (fun hb => zf rfl gt5 (zb rfl)) (sk st6) ?_
    refine chkF hF (fun hg46 hF => ?_)
    refine ya rfl rfl (fun hb => s_gidxRowE default rfl el24 (zn (gk gt5) hb) (zn (gk gt6) hb) isl (hg46 hb) (GNode.row_eq _)) (sk st7) ?_
    refine ya rfl rfl (fun hb => zi rfl fo68x2 (zn (gk gt7) hb) rfl) (sk st8) ?_
    refine ya rfl rfl (fun hb => yi rfl ty24 (zn (gk gt8) hb) (zr rfl) (zb rfl)) (sk st9) ?_
    refine ya rfl rfl (fun hb => zf rfl gt1 (zb rfl)) (sk st10) ?_
    refine ya rfl rfl (fun hb => zf rfl gt5 (zb rfl)) (sk st11) ?_
    refine chkF hF (fun hg47 hF => ?_)
    refine ya rfl rfl (fun hb => s_gidxRowE default rfl el24 (zn (gk gt10) hb) (zn (gk gt11) hb) isl (hg47 hb) (GNode.row_eq _)) (sk st12) ?_
    refine ya rfl rfl (fun hb => zi rfl fo68x2 (zn (gk gt12) hb) rfl) (sk st13) ?_
    refine ya rfl rfl (fun hb => yi rfl ty24 (zn (gk gt13) hb) (zr rfl) (zb rfl)) (sk st14) ?_
    refine gbindF hF (fun v48 hv48 hF => ?_)
    refine draw_gcall rfl rfl (fun hb => yg rfl rfl rfl (zo (zn (gk gt9) hb) (zo (zn (gk gt14) hb) zw)) (.cons (zb rfl) (.cons (zb rfl) .nil))) (fun hb => ih (hv48 hb)) (sk st15) ?_
    refine ya rfl rfl (fun hb => s_un rfl (zn (gk gt15) hb) rfl) (sk st16) ?_
    refine zq rfl rfl (s_pick rfl (gk gt4) rfl (gk gt16) (pick_or (fun ht => gF ht))) (sk st17) ?_
    refine draw_nil ?_
    refine zj ?_
    refine r_condF (gk gt17) hF (fun hc49 hF => ?_) (fun hc49 hF => ?_)
    ·skip
     refine zk (zd ?_)
     refine zc rfl (zg rfl rfl (zb rfl)) st4 ?_
     refine ze (zj (r_ret (zx ?_)))
     refine yd ?_
     refine zx ?_
     refine q_loop_ret ?_
     obtain rfl := Option.some.inj hF
     replace hF := hK1
     refine yd ?_
     refine zx ?_
     obtain rfl := Option.some.inj hF
     refine zz rfl (yc gt4 yb) (zy (leV.refl _) rfl ?_)
     exact ⟨rfl, rfl⟩
    ·skip
     refine r_skip (zj (zk (zd ?_)))
     refine zc rfl (zg rfl rfl (zb rfl)) st6 ?_
     refine ze (zj (r_block ?_))
     refine yk (fun (n2 : Nat) (s2 : Unit) => anys [2, 3, 4, 7, 8, 9, 10, 11, 12, 13, 14, 15, 16, 17, 18, 19, 20, 21, 22, 23, 24, 25, 26, 27, 28, 29, 30, 31, 32, 33, 34, 35, 36, 37, 38, 39, 40, 41, 42, 43, 44, 45, 46, 47, 48, 49, 50, 51, 52, 53, 54, 55, 56, 57, 58, 59, 60, 61, 62, 63, 64, 65, 66, 67, 68, 69, 70, 71, 72, 73, 74, 75, 76, 77, 78, 79, 80, 81, 82, 83, 84, 85] [(6, .int .i64 (n2 : Int))]) (fun s2 => h.ext [] []) hF (fun _ _ => by simp only [anys, upd, List.set_cons_succ, List.set_cons_zero]; try rfl) (wk.le (by exact (.eq (.eq (.drop (.drop (.drop (.eq (.cons (leV.of_eq rfl) (.d16 (.d16 (.d16 (.d16 (.d4 (.d4 (.d4 (.drop (.drop (.drop leL.nil))))))))))))))))))) ?_
     intro n2 s2 hi2 hF
     refine zk (zk (zd ?_))
     refine zc rfl (zf rfl gt6 (zb rfl)) (sk st18) ?_
     refine zc rfl (zf rfl gt0 (zb rfl)) (sk st19) ?_
     refine zc rfl (zf rfl gt5 (zb rfl)) (sk st20) ?_
     refine zc rfl (s_idxRowE rfl el24 (gk gt19) (gk gt20) isl (idx_of hx1) (GNode.row_eq _)) (sk st21) ?_
     refine zc rfl (zi rfl fo68x1 (gk gt21) rfl) (sk st22) ?_
     refine zc rfl (yi rfl ty66 (gk gt22) (zr rfl) (zb rfl)) (sk st23) ?_
     refine ops_len rfl (yh rfl rfl rfl rfl el66 (gk gt23) lenMap) (sk st24) fun hn59 => ?_
     replace hn59 := lenN hn59
     refine zc rfl (zu rfl (gk gt18) (gk gt24) rfl) (sk st25) ?_
     refine ze (zj ?_)
     refine r_condL (gk gt25) hF (fun x2 o2 hl2 hx2 hF hK2 => ?_) (fun hF => ?_)
     ·skip
      refine r_skip (zj (zk (r_block (zk ?_))))
      refine r_drawn [16] [] trivial mixed (by kernel_rfl) ?_
      refine zq rfl rfl (zf rfl gt0 (zb rfl)) (sk st28) ?_
      refine zq rfl rfl (zf rfl gt5 (zb rfl)) (sk st29) ?_
      refine zq rfl rfl (s_idxRowE rfl el24 (gk gt28) (gk gt29) isl (idx_of hx1) (GNode.row_eq _)) (sk st30) ?_
      refine zq rfl rfl (zi rfl fo68x1 (gk gt30) rfl) (sk st31) ?_
      refine zq rfl rfl (yi rfl ty66 (gk gt31) (zr rfl) (zb rfl)) (sk st32) ?_
      refine zq rfl rfl (zf rfl gt6 (zb rfl)) (sk st33) ?_
      refine zq rfl rfl (s_idxRow rfl el66 (gk gt32) (gk gt33) isl (idx_of hx2)) (sk st34) ?_
      refine zq rfl rfl (yi rfl ty47.choose_spec.1 (gk gt34) (ldC_agX (cs' := [.int .u8 x2.typ, .int .i64 x2.n, .int .u64 x2.time, .int .u8 x2.dot.actor.rep, .int .u32 x2.dot.actor.inc, .int .u64 x2.dot.seq, .str x2.text, .sl 5 (x2.items.map GItem.row), .sl 3 (x2.tombs.map GDot.row)]) ty47.choose_spec.2 rfl rfl) (zb rfl)) (sk st35) ?_
      refine zq rfl rfl (zf rfl gt1 (zb rfl)) (sk st36) ?_
      refine zq rfl rfl (zf rfl gt5 (zb rfl)) (sk st37) ?_
      refine bindF hF (fun y60 hy60 hF => ?_)
      refine zq rfl rfl (s_idxRowE rfl el24 (gk gt36) (gk gt37) isl hy60 (GNode.row_eq _)) (sk st38) ?_
      refine zq rfl rfl (zi rfl fo68x1 (gk gt38) rfl) (sk st39) ?_
      refine zq rfl rfl (yi rfl ty66 (gk gt39) (zr rfl) (zb rfl)) (sk (sk st0)) ?_
      refine zq rfl rfl (zf rfl gt6 (zb rfl)) (sk (sk st1)) ?_
      refine bindF hF (fun y61 hy61 hF => ?_)
      refine zq rfl rfl (s_idxRow rfl el66 (gk (gk gt0)) (gk (gk gt1)) isl hy61) (sk (sk st2)) ?_
      refine zq rfl rfl (yi rfl ty47.choose_spec.1 (gk (gk gt2)) (ldC_agX (cs' := [.int .u8 y61.typ, .int .i64 y61.n, .int .u64 y61.time, .int .u8 y61.dot.actor.rep, .int .u32 y61.dot.actor.inc, .int .u64 y61.dot.seq, .str y61.text, .sl 5 (y61.items.map GItem.row), .sl 3 (y61.tombs.map GDot.row)]) ty47.choose_spec.2 rfl rfl) (zb rfl)) (sk (sk st3)) ?_
      refine bindF hF (fun v62 hv62 hF => ?_)
      refine draw_callN rfl rfl (fun _ => yg rfl rfl rfl (zo (gk gt35) (zo (gk (gk gt3)) zw)) (.cons (zb rfl) (.cons (zb rfl) .nil))) (by rintro _ ⟨B2, T2, rfl, hk2⟩; exact ok24 hv62) (sk (sk st4)) ?_
      refine zq rfl rfl (s_un rfl (gk (gk gt4)) rfl) (sk (sk st5)) ?_
      refine draw_nil ?_
      refine zj ?_
      refine r_condF (gk (gk gt5)) hF (fun hc63 hF => ?_) (fun hc63 hF => ?_)
      ·skip
       refine zk (zd ?_)
       refine zc rfl (zg rfl rfl (zb rfl)) st4 ?_
       refine ze (zj (r_ret ?_))
       refine yd ?_
       refine zx ?_
       refine q_loop_ret ?_
       obtain rfl := Option.some.inj hF
       replace hF := hK2
       refine yd ?_
       refine yd ?_
       refine zx ?_
       refine q_loop_ret ?_
       obtain rfl := Option.some.inj hF
       replace hF := hK1
       refine yd ?_
       refine zx ?_
       obtain rfl := Option.some.inj hF
       refine zz rfl (yc gt4 yb) (zy (leV.refl _) rfl ?_)
       exact ⟨rfl, rfl⟩
      ·skip
       refine r_skip (q_block (zj (zd ?_)))
       refine zc rfl (zf rfl gt6 (zb rfl)) (sk st26) ?_
       refine zc rfl (zu rfl (gk gt26) rfl rfl) (sk st27) ?_
       refine zc rfl (zg rfl (gk gt27) (zb rfl)) st6 ?_
       refine ze (q_loop ?_)
       obtain rfl := Option.some.inj hF
       exact ⟨(), hl2, hK2, wk.le (by exact (.eq (.eq (.drop (.drop (.drop (.eq (.cons (leV.of_eq (w64e (by omega) (by omega))) (.d16 (.d16 (.d16 (.d16 (.d4 (.d4 (.d4 (.drop (.drop (.drop leL.nil))))))))))))))))))⟩
     ·skip
      refine r_exit ?_
      refine q_seq_exit ?_
      refine yj ?_
      refine q_block_hit ?_
      refine q_block (zj (zd ?_))
      refine zc rfl (zf rfl gt5 (zb rfl)) st16 ?_
      refine zc rfl (zu rfl gt16 rfl rfl) st17 ?_
      refine zc rfl (zg rfl gt17 (zb rfl)) st5 ?_
      refine ze (q_loop ?_)
      obtain rfl := Option.some.inj hF
      exact ⟨(), hl1, hK1, wk.le (by exact (.eq (.eq (.drop (.drop (.drop (.cons (leV.of_eq (w64e (by omega) (by omega))) (.d16 (.d16 (.d16 (.d16 (.d16 leL.nil))))))))))))⟩
   ·skip
    refine r_exit ?_
    refine q_seq_exit ?_
    refine yj ?_
    refine q_block_hit ?_
    refine zj (zk (zd ?_))
    refine zc rfl (zg rfl rfl (zb rfl)) st4 ?_
    refine ze (zj (r_ret ?_))
    obtain rfl := Option.some.inj hF
    refine zz rfl (yc gt4 yb) (zy (leV.refl _) rfl ?_)
    exact ⟨rfl, rfl⟩
theorem ok10 {a0 : (List GNode)} {b1 : (List GNode)} {res : Bool} {h : AH}  (hF : ref07Same a0 b1 = some res) : Spec Tryz.prog 10 [.sl 3 (a0.map GNode.row), .sl 3 (b1.map GNode.row)] h (fun rr hh => rr = .bool res ∧ hh = h) := by
 obtain ⟨n, hn⟩ := anyN_is hF
 exact ok10N n  hn
/-! varve/varveref05.New -/
theorem ok29 {kind0 : Int} {res : GLeaf} {h : AH}  (hF : ref05New kind0 = some res) : Spec Tryz.prog 29 [.int .u8 kind0] h (fun rr hh => rr = .agg [.int .u8 res.typ, .int .i64 res.n, .int .u64 res.time, .int .u8 res.dot.actor.rep, .int .u32 res.dot.actor.inc, .int .u64 res.dot.seq, .str res.text, .sl 5 (res.items.map GItem.row), .sl 3 (res.tombs.map GDot.row)] ∧ hh = h) := by
 unfold ref05New at hF
 refine ye Tryz.func29 rfl (by kernel_rfl) (env := [.int .u8 kind0, za, za, za, za, za, za, za, za, za, za, za]) (by rfl) ?_
 refine zk (zd ?_)
 refine zc rfl (e_alloc (n := 0) rfl ze47 rfl) st2 ?_
 refine ze (zj (zk (zk (zd ?_))))
 refine zc rfl (zf rfl gt0 (zb rfl)) st3 ?_
 refine zc rfl (zu rfl gt3 rfl rfl) st4 ?_
 refine zc rfl (zf rfl gt4 (zb rfl)) st5 ?_
 refine zp rfl (fun hb => zf rfl gt0 (zb rfl)) st6 ?_
 refine zp rfl (fun hb => zu rfl (zn gt6 hb) rfl rfl) st7 ?_
 refine zc rfl (s_pick rfl gt5 gt7 rfl (pick_and (fun ht => gT ht))) st8 ?_
 refine ze (zj ?_)
 refine r_condF gt8 hF (fun hc1 hF => ?_) (fun hc1 hF => ?_)
 ·skip
  refine zk (zd ?_)
  refine zc rfl (zf rfl gt0 (zb rfl)) st9 ?_
  refine zc rfl (s_build (cs' := [.int .u8 kind0, .int .i64 (0 : Int), .int .u64 (0 : Int), .int .u8 (0 : Int), .int .u32 (0 : Int), .int .u64 (0 : Int), .str ([] : Str), .osl none 5 (([] : List GItem).map GItem.row), .osl none 3 (([] : List GDot).map GDot.row)]) rfl su47 ze47 pl47 (parto_cons gt9 parto_nil) (.cons (zb rfl) .nil) rfl rfl) st10 ?_
  refine zc rfl (e_store (cs' := [.int .u8 kind0, .int .i64 (0 : Int), .int .u64 (0 : Int), .int .u8 (0 : Int), .int .u32 (0 : Int), .int .u64 (0 : Int), .str ([] : Str), .osl none 5 (([] : List GItem).map GItem.row), .osl none 3 (([] : List GDot).map GDot.row)]) rfl ty47.choose_spec.1 gt2 gt10 (zb rfl) rfl rfl rfl rfl rfl) rfl ?_
  refine ze (zj (r_ret (zx ?_)))
  obtain rfl := Option.some.inj hF
  refine zz rfl (rl_cell ty47.choose_spec.1 gt2 rfl (ldC_agX (cs' := [.int .u8 kind0, .int .i64 (0 : Int), .int .u64 (0 : Int), .int .u8 (0 : Int), .int .u32 (0 : Int), .int .u64 (0 : Int), .str ([] : Str), .osl none 5 (([] : List GItem).map GItem.row), .osl none 3 (([] : List GDot).map GDot.row)]) ty47.choose_spec.2 rfl rfl) (zb rfl) yb) (zy (leV.agg (.eq (.eq (.eq (.eq (.eq (.eq (.eq (.cons (leV.osl _ _ _) (.cons (leV.osl _ _ _) leL.nil))))))))) rfl) rfl ?_)
  exact ⟨rfl, rfl⟩
 ·skip
  refine r_skip (zj (zk (zd ?_)))
  refine zc rfl (s_build (cs' := [.int .u8 (0 : Int), .int .i64 (0 : Int), .int .u64 (0 : Int), .int .u8 (0 : Int), .int .u32 (0 : Int), .int .u64 (0 : Int), .str ([] : Str), .osl none 5 (([] : List GItem).map GItem.row), .osl none 3 (([] : List GDot).map GDot.row)]) rfl su47 ze47 pl47 parto_nil .nil rfl rfl) st11 ?_
  refine zc rfl (e_store (cs' := [.int .u8 (0 : Int), .int .i64 (0 : Int), .int .u64 (0 : Int), .int .u8 (0 : Int), .int .u32 (0 : Int), .int .u64 (0 : Int), .str ([] : Str), .osl none 5 (([] : List GItem).map GItem.row), .osl none 3 (([] : List GDot).map GDot.row)]) rfl ty47.choose_spec.1 gt2 gt11 (zb rfl) rfl rfl rfl rfl rfl) rfl ?_
  refine ze (zj (r_ret ?_))
  obtain rfl := Option.some.inj hF
  refine zz rfl (rl_cell ty47.choose_spec.1 gt2 rfl (ldC_agX (cs' := [.int .u8 (0 : Int), .int .i64 (0 : Int), .int .u64 (0 : Int), .int .u8 (0 : Int), .int .u32 (0 : Int), .int .u64 (0 : Int), .str ([] : Str), .osl none 5 (([] : List GItem).map GItem.row), .osl none 3 (([] : List GDot).map GDot.row)]) ty47.choose_spec.2 rfl rfl) (zb rfl) yb) (zy (leV.agg (.eq (.eq (.eq (.eq (.eq (.eq (.eq (.cons (leV.osl _ _ _) (.cons (leV.osl _ _ _) leL.nil))))))))) rfl) rfl ?_)
  exact ⟨rfl, rfl⟩
/-! varve/varveref07.node -/
theorem ok30 {t0 : (List GNode)} {name1 : Str} {res : (GNode × Bool)} {h : AH}  (hF : ref07Xnode t0 name1 = some res) : Spec Tryz.prog 30 [.sl 3 (t0.map GNode.row), .str name1] h (fun rr hh => rr = .tup [.agg [.str res.1.name, .sl 9 (res.1.leaves.map GLeaf.row), .sl 3 (res.1.subs.map GNode.row)], .bool res.2] ∧ hh = h) := by
 unfold ref07Xnode at hF
 refine ye Tryz.func30 rfl (by kernel_rfl) (env := [.sl 3 (t0.map GNode.row), .str name1, za, za, za, za, za, za, za, za, za, za, za, za, za, za, za, za, za, za, za, za, za, za, za]) (by rfl) ?_
 refine zk (zd ?_)
 refine zc rfl (e_alloc (n := 0) rfl ze68 rfl) st4 ?_
 refine zc rfl (zg rfl rfl (zb rfl)) st5 ?_
 refine ze (zj (zk (zk (zd ?_))))
 refine zc rfl (zg rfl rfl (zb rfl)) st6 ?_
 refine ze (zj (r_block ?_))
 refine yk (fun (n1 : Nat) (s1 : Unit) => anys [2, 3, 5, 7, 8, 9, 10, 11, 12, 13, 14, 15, 16, 17, 18, 19, 20, 21, 22, 23, 24] [(6, .int .i64 (n1 : Int))]) (fun s1 => h.ext [.cells [.str ([] : Str), .osl none 9 (([] : List GLeaf).map GLeaf.row), .osl none 3 (([] : List GNode).map GNode.row)]] []) hF (fun _ _ => by simp only [anys, upd, List.set_cons_succ, List.set_cons_zero]; try rfl) (wk.le (by exact (.eq (.eq (.drop (.drop (.eq (.drop (.cons (leV.of_eq rfl) (.d16 (.drop (.drop leL.nil)))))))))))) ?_
 intro n1 s1 hi1 hF
 refine zk (zk (zd ?_))
 refine zc rfl (zf rfl gt6 (zb rfl)) st7 ?_
 refine zc rfl (zf rfl gt0 (zb rfl)) st8 ?_
 refine ops_len rfl (yh rfl rfl rfl rfl el24 gt8 lenMap) st9 fun hn11 => ?_
 replace hn11 := lenN hn11
 refine zc rfl (zu rfl gt7 gt9 rfl) st10 ?_
 refine ze (zj ?_)
 refine r_condL gt10 hF (fun x1 o1 hl1 hx1 hF hK1 => ?_) (fun hF => ?_)
 ·skip
  refine r_skip (zj (zk (r_block (zk (zd ?_)))))
  refine zc rfl (zf rfl gt0 (zb rfl)) st13 ?_
  refine zc rfl (zf rfl gt6 (zb rfl)) st14 ?_
  refine zc rfl (s_idxRowE rfl el24 gt13 gt14 isl (idx_of hx1) (GNode.row_eq _)) st15 ?_
  refine zc rfl (zi rfl fo68x0 gt15 rfl) st16 ?_
  refine zc rfl (yi rfl ty9 gt16 (zr rfl) (zb rfl)) st17 ?_
  refine zc rfl (zf rfl gt1 (zb rfl)) st18 ?_
  refine zc rfl (zu rfl gt17 gt18 rfl) st19 ?_
  refine ze (zj ?_)
  refine r_condF gt19 hF (fun hc12 hF => ?_) (fun hc12 hF => ?_)
  ·skip
   refine zk (zd ?_)
   refine zc rfl (zf rfl gt0 (zb rfl)) st20 ?_
   refine zc rfl (zf rfl gt6 (zb rfl)) st21 ?_
   refine zc rfl (s_idxRowE rfl el24 gt20 gt21 isl (idx_of hx1) (GNode.row_eq _)) st22 ?_
   refine zc rfl (yi rfl ty68.choose_spec.1 gt22 (ldC_agX (cs' := [.str x1.name, .sl 9 (x1.leaves.map GLeaf.row), .sl 3 (x1.subs.map GNode.row)]) ty68.choose_spec.2 rfl rfl) (zb rfl)) st23 ?_
   refine zc rfl (e_store (cs' := [.str x1.name, .sl 9 (x1.leaves.map GLeaf.row), .sl 3 (x1.subs.map GNode.row)]) rfl ty68.choose_spec.1 gt4 gt23 (zb rfl) rfl rfl rfl rfl rfl) rfl ?_
   refine zc rfl (zg rfl rfl (zb rfl)) st5 ?_
   refine ze (zj (r_ret ?_))
   refine yd ?_
   refine zx ?_
   refine q_loop_ret ?_
   obtain rfl := Option.some.inj hF
   replace hF := hK1
   refine yd ?_
   refine zx ?_
   obtain rfl := Option.some.inj hF
   refine q_retL rfl (rl_cell ty68.choose_spec.1 gt4 rfl (ldC_agX (cs' := [.str x1.name, .sl 9 (x1.leaves.map GLeaf.row), .sl 3 (x1.subs.map GNode.row)]) ty68.choose_spec.2 rfl rfl) (zb rfl) (yc gt5 yb)) (zy (leV.refl _) rfl ?_)
   exact ⟨rfl, rfl⟩
  ·skip
   refine r_skip (q_block (zj (zd ?_)))
   refine zc rfl (zf rfl gt6 (zb rfl)) st11 ?_
   refine zc rfl (zu rfl gt11 rfl rfl) st12 ?_
   refine zc rfl (zg rfl gt12 (zb rfl)) st6 ?_
   refine ze (q_loop ?_)
   obtain rfl := Option.some.inj hF
   exact ⟨(), hl1, hK1, wk.le (by exact (.eq (.eq (.drop (.drop (.eq (.drop (.cons (leV.of_eq (w64e (by omega) (by omega))) (.d16 (.drop (.drop leL.nil)))))))))))⟩
 ·skip
  refine r_exit ?_
  refine q_seq_exit ?_
  refine yj ?_
  refine q_block_hit ?_
  refine zj (zk (zd ?_))
  refine zc rfl (s_build (cs' := [.str ([] : Str), .osl none 9 (([] : List GLeaf).map GLeaf.row), .osl none 3 (([] : List GNode).map GNode.row)]) rfl su68 ze68 pl68 parto_nil .nil rfl rfl) st24 ?_
  refine zc rfl (e_store (cs' := [.str ([] : Str), .osl none 9 (([] : List GLeaf).map GLeaf.row), .osl none 3 (([] : List GNode).map GNode.row)]) rfl ty68.choose_spec.1 gt4 gt24 (zb rfl) rfl rfl rfl rfl rfl) rfl ?_
  refine zc rfl (zg rfl rfl (zb rfl)) st5 ?_
  refine ze (zj (r_ret ?_))
  obtain rfl := Option.some.inj hF
  refine q_retL rfl (rl_cell ty68.choose_spec.1 gt4 rfl (ldC_agX (cs' := [.str ([] : Str), .osl none 9 (([] : List GLeaf).map GLeaf.row), .osl none 3 (([] : List GNode).map GNode.row)]) ty68.choose_spec.2 rfl rfl) (zb rfl) (yc gt5 yb)) (zy (leV.tup (.cons (leV.agg (.eq (.cons (leV.osl _ _ _) (.cons (leV.osl _ _ _) leL.nil))) rfl) (.eq leL.nil))) rfl ?_)
  exact ⟨rfl, rfl⟩
/-! varve/varveref07.Leaf -/
theorem ok13 {t0 : (List GNode)} {path1 : (List Str)} {kind2 : Int} {res : (GLeaf × Bool)} {h : AH}  (hF : ref07Leaf t0 path1 kind2 = some res) : Spec Tryz.prog 13 [.sl 3 (t0.map GNode.row), .sl 1 (path1.map strRow), .int .u8 kind2] h (fun rr hh => rr = .tup [.agg [.int .u8 res.1.typ, .int .i64 res.1.n, .int .u64 res.1.time, .int .u8 res.1.dot.actor.rep, .int .u32 res.1.dot.actor.inc, .int .u64 res.1.dot.seq, .str res.1.text, .sl 5 (res.1.items.map GItem.row), .sl 3 (res.1.tombs.map GDot.row)], .bool res.2] ∧ hh = h) := by
 unfold ref07Leaf at hF
 refine ye Tryz.func13 rfl (by kernel_rfl) (env := [.sl 3 (t0.map GNode.row), .sl 1 (path1.map strRow), .int .u8 kind2, za, za, za, za, za, za, za, za, za, za, za, za, za, za, za, za, za, za, za, za, za, za, za, za, za, za, za, za, za, za, za, za, za, za, za, za, za, za, za, za, za, za, za, za, za, za, za, za, za, za, za, za, za, za, za, za, za, za, za, za, za, za, za, za]) (by rfl) ?_
 refine zk (zd ?_)
 refine zc rfl (e_alloc (n := 0) rfl ze47 rfl) st6 ?_
 refine zc rfl (zg rfl rfl (zb rfl)) st7 ?_
 refine ze (zj (zk (zd ?_)))
 refine zc rfl (zf rfl gt2 (zb rfl)) st14 ?_
 refine bindF hF (fun v1 hv1 hF => ?_)
 refine yf rfl (yg rfl rfl rfl (zo gt14 zw) (.cons (zb rfl) .nil)) (ok29 hv1) st15 ?_
 refine zc rfl (e_alloc (n := 1) rfl ze47 rfl) st8 ?_
 refine zc rfl (e_store (cs' := [.int .u8 v1.typ, .int .i64 v1.n, .int .u64 v1.time, .int .u8 v1.dot.actor.rep, .int .u32 v1.dot.actor.inc, .int .u64 v1.dot.seq, .str v1.text, .sl 5 (v1.items.map GItem.row), .sl 3 (v1.tombs.map GDot.row)]) rfl ty47.choose_spec.1 gt8 gt15 (zb rfl) rfl rfl rfl rfl rfl) rfl ?_
 refine ze (zj (zk (zd ?_)))
 refine zc rfl (s_build (cs' := [.str ([] : Str), .osl none 9 (([] : List GLeaf).map GLeaf.row), .osl none 3 (([] : List GNode).map GNode.row)]) rfl su68 ze68 pl68 parto_nil .nil rfl rfl) st16 ?_
 refine zc rfl (e_alloc (n := 2) rfl ze68 rfl) st9 ?_
 refine zc rfl (e_store (cs' := [.str ([] : Str), .osl none 9 (([] : List GLeaf).map GLeaf.row), .osl none 3 (([] : List GNode).map GNode.row)]) rfl ty68.choose_spec.1 gt9 gt16 (zb rfl) rfl rfl rfl rfl rfl) rfl ?_
 refine ze (zj (zk (zk (zd ?_))))
 refine zc rfl (zg rfl rfl (zb rfl)) st10 ?_
 refine ze (zj (r_block ?_))
 refine yk (fun (n1 : Nat) (s1 : (List GNode) × Str × (List GLeaf) × (List GNode)) => anys [3, 4, 5, 7, 11, 12, 13, 14, 15, 16, 17, 18, 19, 20, 21, 22, 23, 24, 25, 26, 27, 28, 29, 30, 31, 32, 33, 34, 35, 36, 37, 38, 39, 40, 41, 42, 43, 44, 45, 46, 47, 48, 49, 50, 51, 52, 53, 54, 55, 56, 57, 58, 59, 60, 61, 62, 63, 64, 65, 66] [(0, .sl 3 (s1.1.map GNode.row)), (10, .int .i64 (n1 : Int))]) (fun s1 => h.ext [.cells [.int .u8 (0 : Int), .int .i64 (0 : Int), .int .u64 (0 : Int), .int .u8 (0 : Int), .int .u32 (0 : Int), .int .u64 (0 : Int), .str ([] : Str), .osl none 5 (([] : List GItem).map GItem.row), .osl none 3 (([] : List GDot).map GDot.row)], .cells [.int .u8 v1.typ, .int .i64 v1.n, .int .u64 v1.time, .int .u8 v1.dot.actor.rep, .int .u32 v1.dot.actor.inc, .int .u64 v1.dot.seq, .str v1.text, .sl 5 (v1.items.map GItem.row), .sl 3 (v1.tombs.map GDot.row)], .cells [.str s1.2.1, .sl 9 (s1.2.2.1.map GLeaf.row), .sl 3 (s1.2.2.2.map GNode.row)]] []) hF (fun _ _ => by simp only [anys, upd, List.set_cons_succ, List.set_cons_zero]; try rfl) (wk.trans (wk_leB (j := 2) rfl (by exact (.eq (.cons (leV.osl _ _ _) (.cons (leV.osl _ _ _) leL.nil)))) rfl rfl) (wk.le (by exact (.cons (leV.of_eq rfl) (.eq (.eq (.drop (.drop (.drop (.eq (.drop (.eq (.eq (.cons (leV.of_eq rfl) (.d16 (.d16 (.d16 (.d4 (.d4 leL.nil))))))))))))))))))) ?_
 intro n1 s1 hi1 hF
 refine zk (zk (zd ?_))
 refine zc rfl (zf rfl gt10 (zb rfl)) st17 ?_
 refine zc rfl (zf rfl gt1 (zb rfl)) st18 ?_
 refine ops_len rfl (yh rfl rfl rfl rfl el26 gt18 lenMap) st19 fun hn31 => ?_
 replace hn31 := lenN hn31
 refine zc rfl (zu rfl gt17 gt19 rfl) st20 ?_
 refine ze (zj ?_)
 refine r_condL gt20 hF (fun x1 o1 hl1 hx1 hF hK1 => ?_) (fun hF => ?_)
 ·skip
  refine r_skip (zj (zk (r_block (zk (zd ?_)))))
  refine zc rfl (zf rfl gt0 (zb rfl)) st24 ?_
  refine zc rfl (zf rfl gt1 (zb rfl)) st25 ?_
  refine zc rfl (zf rfl gt10 (zb rfl)) st26 ?_
  refine zc rfl (s_idxRow rfl el26 gt25 gt26 isl (idx_of hx1)) st27 ?_
  refine zc rfl (yi rfl ty9 gt27 (zr rfl) (zb rfl)) st28 ?_
  refine bindF hF (fun v32 hv32 hF => ?_)
  refine yf rfl (yg rfl rfl rfl (zo gt24 (zo gt28 zw)) (.cons (zb rfl) (.cons (zb rfl) .nil))) (ok30 hv32) st29 ?_
  refine zc rfl (zf rfl gt29 (zb rfl)) st23 ?_
  refine zc rfl (s_extract rfl gt23 rfl (zb rfl)) st30 ?_
  refine zc rfl (s_extract rfl gt23 rfl (zb rfl)) st31 ?_
  refine zc rfl (e_alloc (n := 3) rfl ze68 rfl) st11 ?_
  refine zc rfl (e_store (cs' := [.str v32.1.name, .sl 9 (v32.1.leaves.map GLeaf.row), .sl 3 (v32.1.subs.map GNode.row)]) rfl ty68.choose_spec.1 gt11 gt30 (zb rfl) rfl rfl rfl rfl rfl) rfl ?_
  refine zc rfl (zg rfl gt31 (zb rfl)) st12 ?_
  refine ze (zj (zk (zk (zd ?_))))
  refine zc rfl (zf rfl gt12 (zb rfl)) st32 ?_
  refine zc rfl (s_un rfl gt32 rfl) st33 ?_
  refine ze (zj ?_)
  refine r_condF gt33 hF (fun hc33 hF => ?_) (fun hc33 hF => ?_)
  ·skip
   refine zk (zd ?_)
   refine zc rfl (zt rfl ty47.choose_spec.1 gt8 rfl (ldC_agX (cs' := [.int .u8 v1.typ, .int .i64 v1.n, .int .u64 v1.time, .int .u8 v1.dot.actor.rep, .int .u32 v1.dot.actor.inc, .int .u64 v1.dot.seq, .str v1.text, .sl 5 (v1.items.map GItem.row), .sl 3 (v1.tombs.map GDot.row)]) ty47.choose_spec.2 rfl rfl) (zb rfl)) st34 ?_
   refine zc rfl (e_store (cs' := [.int .u8 v1.typ, .int .i64 v1.n, .int .u64 v1.time, .int .u8 v1.dot.actor.rep, .int .u32 v1.dot.actor.inc, .int .u64 v1.dot.seq, .str v1.text, .sl 5 (v1.items.map GItem.row), .sl 3 (v1.tombs.map GDot.row)]) rfl ty47.choose_spec.1 gt6 gt34 (zb rfl) rfl rfl rfl rfl rfl) rfl ?_
   refine zc rfl (zg rfl rfl (zb rfl)) st7 ?_
   refine ze (zj (r_ret (zx ?_)))
   refine yd ?_
   refine zx ?_
   refine q_loop_ret ?_
   obtain rfl := Option.some.inj hF
   replace hF := hK1
   refine yd ?_
   refine zx ?_
   obtain rfl := Option.some.inj hF
   refine q_retL rfl (rl_cell ty47.choose_spec.1 gt6 rfl (ldC_agX (cs' := [.int .u8 v1.typ, .int .i64 v1.n, .int .u64 v1.time, .int .u8 v1.dot.actor.rep, .int .u32 v1.dot.actor.inc, .int .u64 v1.dot.seq, .str v1.text, .sl 5 (v1.items.map GItem.row), .sl 3 (v1.tombs.map GDot.row)]) ty47.choose_spec.2 rfl rfl) (zb rfl) (yc gt7 yb)) (zy (leV.refl _) rfl ?_)
   exact ⟨rfl, rfl⟩
  ·skip
   refine r_skip (zj (zk (zd ?_)))
   refine zc rfl (zt rfl ty68.choose_spec.1 gt11 rfl (ldC_agX (cs' := [.str v32.1.name, .sl 9 (v32.1.leaves.map GLeaf.row), .sl 3 (v32.1.subs.map GNode.row)]) ty68.choose_spec.2 rfl rfl) (zb rfl)) st35 ?_
   refine zc rfl (e_store (cs' := [.str v32.1.name, .sl 9 (v32.1.leaves.map GLeaf.row), .sl 3 (v32.1.subs.map GNode.row)]) rfl ty68.choose_spec.1 gt9 gt35 (zb rfl) rfl rfl rfl rfl rfl) rfl ?_
   refine ze (zj (zd ?_))
   refine zc rfl (zi rfl fo68x2 gt9 rfl) st36 ?_
   refine zc rfl (zt rfl ty24 gt36 rfl (zr rfl) (zb rfl)) st37 ?_
   refine zc rfl (zg rfl gt37 (zb rfl)) st0 ?_
   refine ze (q_block (zj (zd ?_)))
   refine zc rfl (zf rfl gt10 (zb rfl)) st21 ?_
   refine zc rfl (zu rfl gt21 rfl rfl) st22 ?_
   refine zc rfl (zg rfl gt22 (zb rfl)) st10 ?_
   refine ze (q_loop ?_)
   obtain rfl := Option.some.inj hF
   exact ⟨(v32.1.subs, v32.1.name, v32.1.leaves, v32.1.subs), hl1, hK1, wk.trans (wk.le (by exact (.cons (leV.of_eq rfl) (.eq (.eq (.drop (.drop (.drop (.eq (.drop (.eq (.eq (.cons (leV.of_eq (w64e (by omega) (by omega))) (.d16 (.d16 (.d16 (.d4 (.d4 leL.nil)))))))))))))))))) (wk_ext3 (by simp [lowL, AV.low]) rfl rfl (by simp [Blk.low, lowL, AV.low]))⟩
 ·skip
  refine r_exit ?_
  refine q_seq_exit ?_
  refine yj ?_
  refine q_block_hit ?_
  refine zj (zk (zk (zd ?_)))
  refine zc rfl (zg rfl rfl (zb rfl)) st13 ?_
  refine ze (zj (r_block ?_))
  refine r_loopWF (fun (s2 : Int) => anys [0, 1, 3, 4, 5, 7, 10, 11, 12, 14, 15, 16, 17, 18, 19, 20, 21, 22, 23, 24, 25, 26, 27, 28, 29, 30, 31, 32, 33, 34, 35, 36, 37, 38, 39, 40, 41, 42, 43, 44, 45, 46, 47, 48, 49, 50, 51, 52, 53, 54, 55, 56, 57, 58, 59, 60, 61, 62, 63, 64, 65, 66] [(13, .int .i64 s2)]) (fun s2 => h.ext [.cells [.int .u8 (0 : Int), .int .i64 (0 : Int), .int .u64 (0 : Int), .int .u8 (0 : Int), .int .u32 (0 : Int), .int .u64 (0 : Int), .str ([] : Str), .osl none 5 (([] : List GItem).map GItem.row), .osl none 3 (([] : List GDot).map GDot.row)], .cells [.int .u8 v1.typ, .int .i64 v1.n, .int .u64 v1.time, .int .u8 v1.dot.actor.rep, .int .u32 v1.dot.actor.inc, .int .u64 v1.dot.seq, .str v1.text, .sl 5 (v1.items.map GItem.row), .sl 3 (v1.tombs.map GDot.row)], .cells [.str s1.2.1, .sl 9 (s1.2.2.1.map GLeaf.row), .sl 3 (s1.2.2.2.map GNode.row)]] []) hF (fun _ => by simp only [anys, upd, List.set_cons_succ, List.set_cons_zero]; try rfl) (wk.le (by exact (.drop (.drop (.eq (.drop (.drop (.drop (.eq (.drop (.eq (.eq (.drop (.drop (.drop (.cons (leV.of_eq rfl) (.d16 (.d16 (.d16 (.d4 (.drop leL.nil))))))))))))))))))))) ?_
  intro n2 s2 o2 hF hK2
  refine zk (zk (zd ?_))
  refine zc rfl (zf rfl gt13 (zb rfl)) st38 ?_
  refine zc rfl (zi rfl fo68x1 gt9 rfl) st39 ?_
  refine zc rfl (zt rfl ty66 gt39 rfl (zr rfl) (zb rfl)) (sk st0) ?_
  refine ops_len rfl (yh rfl rfl rfl rfl el66 (gk gt0) lenMap) (sk st1) fun hn61 => ?_
  replace hn61 := lenN hn61
  refine zc rfl (zu rfl gt38 (gk gt1) rfl) (sk st2) ?_
  refine zc rfl (zf rfl (gk gt2) (zb rfl)) (sk st3) ?_
  refine zp rfl (fun hb => zf rfl gt2 (zb rfl)) (sk st4) ?_
  refine zp rfl (fun hb => zu rfl (zn (gk gt4) hb) rfl rfl) (sk st5) ?_
  refine zc rfl (s_pick rfl (gk gt3) (gk gt5) rfl (pick_and (fun ht => gT ht))) (sk st6) ?_
  refine zc rfl (zf rfl (gk gt6) (zb rfl)) (sk st7) ?_
  refine zp rfl (fun hb => zf rfl gt2 (zb rfl)) (sk st8) ?_
  refine zp rfl (fun hb => zu rfl (zn (gk gt8) hb) rfl rfl) (sk st9) ?_
  refine zc rfl (s_pick rfl (gk gt7) (gk gt9) rfl (pick_and (fun ht => gT ht))) (sk st10) ?_
  refine ze (zj ?_)
  refine r_condF (gk gt10) hF (fun hc62 hF => ?_) (fun hc62 hF => ?_)
  ·skip
   refine r_skip (zj (zk (r_block (zk (zd ?_)))))
   refine zc rfl (zi rfl fo68x1 gt9 rfl) (sk st13) ?_
   refine zc rfl (zt rfl ty66 (gk gt13) rfl (zr rfl) (zb rfl)) (sk st14) ?_
   refine zc rfl (zf rfl gt13 (zb rfl)) (sk st15) ?_
   refine bindF hF (fun y63 hy63 hF => ?_)
   refine zc rfl (s_idxRow rfl el66 (gk gt14) (gk gt15) isl hy63) (sk st16) ?_
   refine zc rfl (zi rfl fo47x0 (gk gt16) rfl) (sk st17) ?_
   refine zc rfl (yi rfl ty5 (gk gt17) (zr rfl) (zb rfl)) (sk st18) ?_
   refine zc rfl (zf rfl gt2 (zb rfl)) (sk st19) ?_
   refine zc rfl (zu rfl (gk gt18) (gk gt19) rfl) (sk st20) ?_
   refine ze (zj ?_)
   refine r_condF (gk gt20) hF (fun hc64 hF => ?_) (fun hc64 hF => ?_)
   ·skip
    refine zk (zd ?_)
    refine zc rfl (zi rfl fo68x1 gt9 rfl) (sk st21) ?_
    refine zc rfl (zt rfl ty66 (gk gt21) rfl (zr rfl) (zb rfl)) (sk st22) ?_
    refine zc rfl (zf rfl gt13 (zb rfl)) (sk st23) ?_
    refine bindF hF (fun y65 hy65 hF => ?_)
    refine zc rfl (s_idxRow rfl el66 (gk gt22) (gk gt23) isl hy65) (sk st24) ?_
    refine zc rfl (yi rfl ty47.choose_spec.1 (gk gt24) (ldC_agX (cs' := [.int .u8 y65.typ, .int .i64 y65.n, .int .u64 y65.time, .int .u8 y65.dot.actor.rep, .int .u32 y65.dot.actor.inc, .int .u64 y65.dot.seq, .str y65.text, .sl 5 (y65.items.map GItem.row), .sl 3 (y65.tombs.map GDot.row)]) ty47.choose_spec.2 rfl rfl) (zb rfl)) (sk st25) ?_
    refine zc rfl (e_store (cs' := [.int .u8 y65.typ, .int .i64 y65.n, .int .u64 y65.time, .int .u8 y65.dot.actor.rep, .int .u32 y65.dot.actor.inc, .int .u64 y65.dot.seq, .str y65.text, .sl 5 (y65.items.map GItem.row), .sl 3 (y65.tombs.map GDot.row)]) rfl ty47.choose_spec.1 gt6 (gk gt25) (zb rfl) rfl rfl rfl rfl rfl) rfl ?_
    refine zc rfl (zg rfl rfl (zb rfl)) st7 ?_
    refine ze (zj (r_ret ?_))
    refine yd ?_
    refine zx ?_
    refine q_loop_ret ?_
    obtain rfl := Option.some.inj hF
    replace hF := hK2
    refine yd ?_
    refine zx ?_
    obtain rfl := Option.some.inj hF
    refine q_retL rfl (rl_cell ty47.choose_spec.1 gt6 rfl (ldC_agX (cs' := [.int .u8 y65.typ, .int .i64 y65.n, .int .u64 y65.time, .int .u8 y65.dot.actor.rep, .int .u32 y65.dot.actor.inc, .int .u64 y65.dot.seq, .str y65.text, .sl 5 (y65.items.map GItem.row), .sl 3 (y65.tombs.map GDot.row)]) ty47.choose_spec.2 rfl rfl) (zb rfl) (yc gt7 yb)) (zy (leV.refl _) rfl ?_)
    exact ⟨rfl, rfl⟩
   ·skip
    refine r_skip (q_block (zj (zd ?_)))
    refine zc rfl (zf rfl gt13 (zb rfl)) (sk st11) ?_
    refine zc rfl (zu rfl (gk gt11) rfl rfl) (sk st12) ?_
    refine zc rfl (zg rfl (gk gt12) (zb rfl)) st13 ?_
    refine ze (q_loop ?_)
    obtain rfl := Option.some.inj hF
    exact ⟨(IntKind.wrap .i64 (s2 + (1 : Int))), hK2, wk.le (by exact (.drop (.drop (.eq (.drop (.drop (.drop (.eq (.drop (.eq (.eq (.drop (.drop (.drop (.cons (leV.of_eq rfl) (.d16 (.d16 (.d16 (.d4 (.drop leL.nil))))))))))))))))))))⟩
  ·skip
   refine r_exit ?_
   refine q_seq_exit ?_
   refine yj ?_
   obtain rfl := Option.some.inj hF
   replace hF := hK2
   refine q_block_hit ?_
   refine zj (zk (zd ?_))
   refine zc rfl (zt rfl ty47.choose_spec.1 gt8 rfl (ldC_agX (cs' := [.int .u8 v1.typ, .int .i64 v1.n, .int .u64 v1.time, .int .u8 v1.dot.actor.rep, .int .u32 v1.dot.actor.inc, .int .u64 v1.dot.seq, .str v1.text, .sl 5 (v1.items.map GItem.row), .sl 3 (v1.tombs.map GDot.row)]) ty47.choose_spec.2 rfl rfl) (zb rfl)) (sk st26) ?_
   refine zc rfl (e_store (cs' := [.int .u8 v1.typ, .int .i64 v1.n, .int .u64 v1.time, .int .u8 v1.dot.actor.rep, .int .u32 v1.dot.actor.inc, .int .u64 v1.dot.seq, .str v1.text, .sl 5 (v1.items.map GItem.row), .sl 3 (v1.tombs.map GDot.row)]) rfl ty47.choose_spec.1 gt6 (gk gt26) (zb rfl) rfl rfl rfl rfl rfl) rfl ?_
   refine zc rfl (zg rfl rfl (zb rfl)) st7 ?_
   refine ze (zj (r_ret ?_))
   obtain rfl := Option.some.inj hF
   refine q_retL rfl (rl_cell ty47.choose_spec.1 gt6 rfl (ldC_agX (cs' := [.int .u8 v1.typ, .int .i64 v1.n, .int .u64 v1.time, .int .u8 v1.dot.actor.rep, .int .u32 v1.dot.actor.inc, .int .u64 v1.dot.seq, .str v1.text, .sl 5 (v1.items.map GItem.row), .sl 3 (v1.tombs.map GDot.row)]) ty47.choose_spec.2 rfl rfl) (zb rfl) (yc gt7 yb)) (zy (leV.refl _) rfl ?_)
   exact ⟨rfl, rfl⟩
/-! varve/varvelaw42.RightsView -/
theorem ok3 {l0 : (List GRule)} {rep1 : Int} {t2 : (List GNode)} {res : Bool} {h : AH}  (hF : law42RightsView l0 rep1 t2 = some res) : Spec Tryz.prog 3 [.sl 5 (l0.map GRule.row), .int .u8 rep1, .sl 3 (t2.map GNode.row)] h (fun rr hh => rr = .bool res ∧ hh = h) := by
 unfold law42RightsView at hF
 refine ye Tryz.func3 rfl (by kernel_rfl) (env := [.sl 5 (l0.map GRule.row), .int .u8 rep1, .sl 3 (t2.map GNode.row), za, za, za, za, za, za, za, za, za, za, za, za, za, za, za, za, za, za, za, za, za, za, za, za, za, za, za, za, za, za, za, za, za, za, za, za, za, za, za, za, za, za, za, za, za, za, za, za, za, za, za, za, za, za, za, za, za, za, za, za, za, za, za, za, za, za, za, za, za, za, za, za, za, za, za, za, za, za, za, za, za, za, za, za, za, za, za, za, za, za, za, za, za, za, za, za, za, za, za, za, za, za, za, za, za, za, za, za, za, za, za, za, za, za, za, za, za, za, za, za, za, za, za, za, za, za, za, za, za, za, za, za, za, za, za, za, za, za, za, za, za, za, za, za, za, za, za, za, za, za, za, za, za]) (by rfl) ?_
 refine zk (zd ?_)
 refine zc rfl (zg rfl rfl (zb rfl)) st6 ?_
 refine ze (zj (zk (zk (zd ?_))))
 refine zc rfl (zf rfl gt0 (zb rfl)) st20 ?_
 refine zc rfl (s_build (cs' := [.int .u8 (0 : Int), .osl none 1 (([] : List Str).map strRow), .int .i64 (0 : Int), .str ([] : Str), .osl none 3 (([] : List GDot).map GDot.row)]) rfl su29 ze29 pl29 parto_nil .nil rfl rfl) st21 ?_
 refine bindF hF (fun v1 hv1 hF => ?_)
 refine yf rfl (yg rfl rfl rfl (zo gt20 (zo gt21 zw)) (.cons (zb rfl) (.cons (zb rfl) .nil))) ((ok4 hv1).le (.eq (.cons (leV.agg (.eq (.cons (leV.osl _ _ _) (.eq (.eq (.cons (leV.osl _ _ _) leL.nil))))) rfl) leL.nil))) st22 ?_
 refine zc rfl (zf rfl gt22 (zb rfl)) st23 ?_
 refine zp rfl (fun hb => zf rfl gt2 (zb rfl)) st24 ?_
 refine gbindF hF (fun v2 hv2 hF => ?_)
 refine ops_gcall rfl (fun hb => yg rfl rfl rfl (zo (zn gt24 hb) zw) (.cons (zb rfl) .nil)) (fun hb => ok5 (hv2 hb)) st25 ?_
 refine zc rfl (s_pick rfl gt23 rfl gt25 (pick_or (fun ht => gF ht))) st26 ?_
 refine zc rfl (zf rfl gt26 (zb rfl)) st27 ?_
 refine zp rfl (fun hb => zf rfl gt0 (zb rfl)) st28 ?_
 refine gbindF hF (fun v3 hv3 hF => ?_)
 refine ops_gcall rfl (fun hb => yg rfl rfl rfl (zo (zn gt28 hb) zw) (.cons (zb rfl) .nil)) (fun hb => ok6 (hv3 hb)) st29 ?_
 refine zp rfl (fun hb => s_un rfl (zn gt29 hb) rfl) st30 ?_
 refine zc rfl (s_pick rfl gt27 rfl gt30 (pick_or (fun ht => gF ht))) st31 ?_
 refine zc rfl (zf rfl gt31 (zb rfl)) st32 ?_
 refine zp rfl (fun hb => zf rfl gt2 (zb rfl)) st33 ?_
 refine gbindF hF (fun v4 hv4 hF => ?_)
 refine ops_gcall rfl (fun hb => yg rfl rfl rfl (zo (zn gt33 hb) zw) (.cons (zb rfl) .nil)) (fun hb => ok7 (hv4 hb)) st34 ?_
 refine zp rfl (fun hb => s_un rfl (zn gt34 hb) rfl) st35 ?_
 refine zc rfl (s_pick rfl gt32 rfl gt35 (pick_or (fun ht => gF ht))) st36 ?_
 refine ze (zj ?_)
 refine r_condF gt36 hF (fun hc5 hF => ?_) (fun hc5 hF => ?_)
 ·skip
  refine zk (zd ?_)
  refine bindF hF (fun v6 hv6 hF => ?_)
  refine yf rfl (yg rfl rfl rfl zw .nil) (ok8 hv6) st37 ?_
  refine zc rfl (zg rfl gt37 (zb rfl)) st6 ?_
  refine ze (zj (r_ret (zx ?_)))
  obtain rfl := Option.some.inj hF
  refine zz rfl (yc gt6 yb) (zy (leV.refl _) rfl ?_)
  exact ⟨rfl, rfl⟩
 ·skip
  refine r_skip (zj (zk (zd ?_)))
  refine zc rfl (zf rfl gt0 (zb rfl)) st39 ?_
  refine zc rfl (zf rfl gt1 (zb rfl)) (sk st0) ?_
  refine zc rfl (zf rfl gt2 (zb rfl)) (sk st1) ?_
  refine bindF hF (fun v7 hv7 hF => ?_)
  refine yf rfl (yg rfl rfl rfl (zo gt39 (zo (gk gt0) (zo (gk gt1) zw))) (.cons (zb rfl) (.cons (zb rfl) (.cons (zb rfl) .nil)))) (ok9 hv7) (sk st2) ?_
  refine zc rfl (zf rfl (gk gt2) (zb rfl)) st38 ?_
  refine zc rfl (s_extract rfl gt38 rfl (zb rfl)) (sk st3) ?_
  refine zc rfl (s_extract rfl gt38 rfl (zb rfl)) (sk st4) ?_
  refine zc rfl (zg rfl (gk gt3) (zb rfl)) st7 ?_
  refine zc rfl (zg rfl (gk gt4) (zb rfl)) st8 ?_
  refine ze (zj (zk (zd ?_)))
  refine zc rfl (zf rfl gt0 (zb rfl)) (sk st6) ?_
  refine zc rfl (zf rfl gt1 (zb rfl)) (sk st7) ?_
  refine zc rfl (zf rfl gt7 (zb rfl)) (sk st8) ?_
  refine bindF hF (fun v8 hv8 hF => ?_)
  refine yf rfl (yg rfl rfl rfl (zo (gk gt6) (zo (gk gt7) (zo (gk gt8) zw))) (.cons (zb rfl) (.cons (zb rfl) (.cons (zb rfl) .nil)))) (ok9 hv8) (sk st9) ?_
  refine zc rfl (zf rfl (gk gt9) (zb rfl)) (sk st5) ?_
  refine zc rfl (s_extract rfl (gk gt5) rfl (zb rfl)) (sk st10) ?_
  refine zc rfl (s_extract rfl (gk gt5) rfl (zb rfl)) (sk st11) ?_
  refine zc rfl (zg rfl (gk gt10) (zb rfl)) st9 ?_
  refine zc rfl (zg rfl (gk gt11) (zb rfl)) st10 ?_
  refine ze (zj (zk (zk (zd ?_))))
  refine zc rfl (zf rfl gt8 (zb rfl)) (sk st12) ?_
  refine zc rfl (zu rfl (gk gt12) rfl rfl) (sk st13) ?_
  refine zc rfl (zf rfl (gk gt13) (zb rfl)) (sk st14) ?_
  refine zp rfl (fun hb => zf rfl gt10 (zb rfl)) (sk st15) ?_
  refine zp rfl (fun hb => zu rfl (zn (gk gt15) hb) rfl rfl) (sk st16) ?_
  refine zc rfl (s_pick rfl (gk gt14) rfl (gk gt16) (pick_or (fun ht => gF ht))) (sk st17) ?_
  refine zc rfl (zf rfl (gk gt17) (zb rfl)) (sk st18) ?_
  refine zp rfl (fun hb => zf rfl gt7 (zb rfl)) (sk st19) ?_
  refine zp rfl (fun hb => zf rfl gt9 (zb rfl)) (sk st20) ?_
  refine gbindF hF (fun v9 hv9 hF => ?_)
  refine ops_gcall rfl (fun hb => yg rfl rfl rfl (zo (zn (gk gt19) hb) (zo (zn (gk gt20) hb) zw)) (.cons (zb rfl) (.cons (zb rfl) .nil))) (fun hb => ok10 (hv9 hb)) (sk st21) ?_
  refine zp rfl (fun hb => s_un rfl (zn (gk gt21) hb) rfl) (sk st22) ?_
  refine zc rfl (s_pick rfl (gk gt18) rfl (gk gt22) (pick_or (fun ht => gF ht))) (sk st23) ?_
  refine ze (zj ?_)
  refine r_condF (gk gt23) hF (fun hc10 hF => ?_) (fun hc10 hF => ?_)
  ·skip
   refine zk (zd ?_)
   refine zc rfl (zg rfl rfl (zb rfl)) st6 ?_
   refine ze (zj (r_ret (zx ?_)))
   obtain rfl := Option.some.inj hF
   refine zz rfl (yc gt6 yb) (zy (leV.refl _) rfl ?_)
   exact ⟨rfl, rfl⟩
  ·skip
   refine r_skip (zj (zk (zd ?_)))
   refine zc rfl (zg rfl rfl (zb rfl)) st11 ?_
   refine ze (zj (zk (zk (zd ?_))))
   refine zc rfl (zf rfl gt2 (zb rfl)) (sk st24) ?_
   refine bindF hF (fun v11 hv11 hF => ?_)
   refine yf rfl (yg rfl rfl rfl (zo (gk gt24) zw) (.cons (zb rfl) .nil)) (ok11 hv11) (sk st25) ?_
   refine ops_len rfl (yh rfl rfl rfl rfl el37 (gk gt25) lenMap) (sk st26) fun hn12 => ?_
   replace hn12 := lenN hn12
   refine zc rfl (zf rfl rfl (zb rfl)) (sk st27) ?_
   refine ze (zj (r_block ?_))
   refine yk (fun (n1 : Nat) (s1 : Int) => anys [3, 4, 5, 6, 8, 9, 10, 12, 13, 14, 15, 16, 17, 18, 19, 20, 21, 22, 23, 24, 25, 26, 27, 28, 29, 30, 31, 32, 33, 34, 35, 36, 37, 38, 39, 40, 41, 42, 43, 44, 45, 46, 47, 48, 49, 50, 51, 52, 53, 54, 55, 56, 57, 58, 59, 60, 61, 62, 63, 64, 68, 69, 70, 71, 72, 73, 74, 75, 76, 77, 78, 79, 80, 81, 82, 83, 84, 85, 86, 87, 88, 89, 90, 91, 92, 93, 94, 95, 96, 97, 98, 99, 100, 101, 102, 103, 104, 105, 106, 107, 108, 109, 110, 111, 112, 113, 114, 115, 116, 117, 118, 119, 120, 121, 122, 123, 124, 125, 126, 127, 128, 129, 130, 131, 132, 133, 134, 135, 136, 137, 138, 139, 140, 141, 142, 143, 144, 145, 146, 147, 148, 149, 150, 151, 152, 153, 154, 155] [(11, .int .i64 s1), (67, .int .i64 (n1 : Int))]) (fun s1 => h.ext [] []) hF (fun _ _ => by simp only [anys, upd, List.set_cons_succ, List.set_cons_zero]; try rfl) (wk.le (by exact (.eq (.eq (.eq (.d4 (.eq (.drop (.drop (.drop (.cons (leV.of_eq rfl) (.d16 (.d16 (.d16 (.d4 (.drop (.eq (.eq (.cons (leV.of_eq rfl) (.d16 (.d16 (.d16 (.d16 (.d16 (.d4 (.d4 leL.nil)))))))))))))))))))))))))) ?_
   intro n1 s1 hi1 hF
   refine zk (zd ?_)
   refine zc rfl (zu rfl (gk gt27) (gk gt26) rfl) (sk st28) ?_
   refine ze (zj (zk ?_))
   refine r_condL (gk gt28) hF (fun x1 o1 hl1 hx1 hF hK1 => ?_) (fun hF => ?_)
   ·skip
    refine r_skip (zj (zk (r_block (zk (zd ?_)))))
    refine zc rfl (s_idxRow rfl el37 (gk gt25) (gk gt27) isl (idx_of hx1)) (sk st29) ?_
    refine zc rfl (yi rfl ty49.choose_spec.1 (gk gt29) (ldC_agX (cs' := [.sl 1 (x1.path.map strRow), .int .u8 x1.leaf.typ, .int .i64 x1.leaf.n, .int .u64 x1.leaf.time, .int .u8 x1.leaf.dot.actor.rep, .int .u32 x1.leaf.dot.actor.inc, .int .u64 x1.leaf.dot.seq, .str x1.leaf.text, .sl 5 (x1.leaf.items.map GItem.row), .sl 3 (x1.leaf.tombs.map GDot.row)]) ty49.choose_spec.2 rfl rfl) (zb rfl)) (sk st30) ?_
    refine zc rfl (e_alloc (n := 0) rfl ze49 rfl) st13 ?_
    refine zc rfl (e_store (cs' := [.sl 1 (x1.path.map strRow), .int .u8 x1.leaf.typ, .int .i64 x1.leaf.n, .int .u64 x1.leaf.time, .int .u8 x1.leaf.dot.actor.rep, .int .u32 x1.leaf.dot.actor.inc, .int .u64 x1.leaf.dot.seq, .str x1.leaf.text, .sl 5 (x1.leaf.items.map GItem.row), .sl 3 (x1.leaf.tombs.map GDot.row)]) rfl ty49.choose_spec.1 gt13 (gk gt30) (zb rfl) rfl rfl rfl rfl rfl) rfl ?_
    refine ze (zj (zk (zd ?_)))
    refine zc rfl (zf rfl gt0 (zb rfl)) (sk st31) ?_
    refine zc rfl (zf rfl gt1 (zb rfl)) (sk st32) ?_
    refine zc rfl (zi rfl fo49x0 gt13 rfl) (sk st33) ?_
    refine zc rfl (zt rfl ty26 (gk gt33) rfl (zr rfl) (zb rfl)) (sk st34) ?_
    refine bindF hF (fun v19 hv19 hF => ?_)
    refine yf rfl (yg rfl rfl rfl (zo (gk gt31) (zo (gk gt32) (zo (gk gt34) zw))) (.cons (zb rfl) (.cons (zb rfl) (.cons (zb rfl) .nil)))) (ok12 hv19) (sk st35) ?_
    refine ze (zj ?_)
    refine r_condF (gk gt35) hF (fun hc20 hF => ?_) (fun hc20 hF => ?_)
    ·skip
     refine zd ?_
     refine zc rfl (zf rfl gt11 (zb rfl)) (sk st36) ?_
     refine zc rfl (zu rfl (gk gt36) rfl rfl) (sk st37) ?_
     refine zc rfl (zg rfl (gk gt37) (zb rfl)) st11 ?_
     refine ze (q_block (zj (zd ?_)))
     refine zc rfl (zu rfl (gk gt27) rfl rfl) (sk st38) ?_
     refine zc rfl (zf rfl (gk gt38) (zb rfl)) (sk st27) ?_
     refine ze (q_loop ?_)
     obtain rfl := Option.some.inj hF
     exact ⟨(IntKind.wrap .i64 (s1 + (1 : Int))), hl1, hK1, wk.trans (wk.le (by exact (.eq (.eq (.eq (.d4 (.eq (.drop (.drop (.drop (.cons (leV.of_eq rfl) (.d16 (.d16 (.d16 (.d4 (.drop (.eq (.eq (.cons (leV.of_eq (w64e (by omega) (by omega))) (.d16 (.d16 (.d16 (.d16 (.d16 (.d4 (.d4 leL.nil)))))))))))))))))))))))))) (wk_ext3 (by simp [lowL, AV.low]) rfl rfl (by simp [Blk.low, lowL, AV.low]))⟩
    ·skip
     refine r_skip (q_block (zj (zd ?_)))
     refine zc rfl (zu rfl (gk gt27) rfl rfl) (sk st38) ?_
     refine zc rfl (zf rfl (gk gt38) (zb rfl)) (sk st27) ?_
     refine ze (q_loop ?_)
     obtain rfl := Option.some.inj hF
     exact ⟨s1, hl1, hK1, wk.trans (wk.le (by exact (.eq (.eq (.eq (.d4 (.eq (.drop (.drop (.drop (.cons (leV.of_eq rfl) (.d16 (.d16 (.d16 (.d4 (.drop (.eq (.eq (.cons (leV.of_eq (w64e (by omega) (by omega))) (.d16 (.d16 (.d16 (.d16 (.d16 (.d4 (.d4 leL.nil)))))))))))))))))))))))))) (wk_ext3 (by simp [lowL, AV.low]) rfl rfl (by simp [Blk.low, lowL, AV.low]))⟩
   ·skip
    refine r_exit ?_
    refine q_seq_exit ?_
    refine yj ?_
    refine q_block_hit ?_
    refine zj (zk (zk (zd ?_)))
    refine zc rfl (zf rfl gt7 (zb rfl)) (sk st39) ?_
    refine bindF hF (fun v21 hv21 hF => ?_)
    refine yf rfl (yg rfl rfl rfl (zo (gk gt39) zw) (.cons (zb rfl) .nil)) (ok11 hv21) (sk (sk st0)) ?_
    refine ops_len rfl (yh rfl rfl rfl rfl el37 (gk (gk gt0)) lenMap) (sk (sk st1)) fun hn22 => ?_
    replace hn22 := lenN hn22
    refine zc rfl (zf rfl rfl (zb rfl)) (sk (sk st2)) ?_
    refine ze (zj (r_block ?_))
    refine yk (fun (n2 : Nat) (s2 : Unit) => anys [3, 4, 5, 6, 8, 9, 10, 12, 13, 14, 15, 16, 17, 18, 19, 20, 21, 22, 23, 24, 25, 26, 27, 28, 29, 30, 31, 32, 33, 34, 35, 36, 37, 38, 39, 40, 41, 42, 43, 44, 45, 46, 47, 48, 49, 50, 51, 52, 53, 54, 55, 56, 57, 58, 59, 60, 61, 62, 63, 64, 65, 66, 67, 68, 69, 70, 71, 72, 73, 74, 75, 76, 77, 78, 79, 83, 84, 85, 86, 87, 88, 89, 90, 91, 92, 93, 94, 95, 96, 97, 98, 99, 100, 101, 102, 103, 104, 105, 106, 107, 108, 109, 110, 111, 112, 113, 114, 115, 116, 117, 118, 119, 120, 121, 122, 123, 124, 125, 126, 127, 128, 129, 130, 131, 132, 133, 134, 135, 136, 137, 138, 139, 140, 141, 142, 143, 144, 145, 146, 147, 148, 149, 150, 151, 152, 153, 154, 155] [(82, .int .i64 (n2 : Int))]) (fun s2 => h.ext [] []) hF (fun _ _ => by simp only [anys, upd, List.set_cons_succ, List.set_cons_zero]; try rfl) (wk.le (by exact (.eq (.eq (.eq (.d4 (.eq (.drop (.drop (.drop (.eq (.d16 (.d16 (.d16 (.d16 (.d4 (.eq (.eq (.cons (leV.of_eq rfl) (.d16 (.d16 (.d16 (.d16 (.d4 (.d4 (.drop leL.nil)))))))))))))))))))))))))) ?_
    intro n2 s2 hi2 hF
    refine zk (zd ?_)
    refine zc rfl (zu rfl (gk (gk gt2)) (gk (gk gt1)) rfl) (sk (sk st3)) ?_
    refine ze (zj (zk ?_))
    refine r_condL (gk (gk gt3)) hF (fun x2 o2 hl2 hx2 hF hK2 => ?_) (fun hF => ?_)
    ·skip
     refine r_skip (zj (zk (r_block (zk (zd ?_)))))
     refine zc rfl (s_idxRow rfl el37 (gk (gk gt0)) (gk (gk gt2)) isl (idx_of hx2)) (sk (sk st4)) ?_
     refine zc rfl (yi rfl ty49.choose_spec.1 (gk (gk gt4)) (ldC_agX (cs' := [.sl 1 (x2.path.map strRow), .int .u8 x2.leaf.typ, .int .i64 x2.leaf.n, .int .u64 x2.leaf.time, .int .u8 x2.leaf.dot.actor.rep, .int .u32 x2.leaf.dot.actor.inc, .int .u64 x2.leaf.dot.seq, .str x2.leaf.text, .sl 5 (x2.leaf.items.map GItem.row), .sl 3 (x2.leaf.tombs.map GDot.row)]) ty49.choose_spec.2 rfl rfl) (zb rfl)) (sk (sk st5)) ?_
     refine zc rfl (e_alloc (n := 0) rfl ze49 rfl) st15 ?_
     refine zc rfl (e_store (cs' := [.sl 1 (x2.path.map strRow), .int .u8 x2.leaf.typ, .int .i64 x2.leaf.n, .int .u64 x2.leaf.time, .int .u8 x2.leaf.dot.actor.rep, .int .u32 x2.leaf.dot.actor.inc, .int .u64 x2.leaf.dot.seq, .str x2.leaf.text, .sl 5 (x2.leaf.items.map GItem.row), .sl 3 (x2.leaf.tombs.map GDot.row)]) rfl ty49.choose_spec.1 gt15 (gk (gk gt5)) (zb rfl) rfl rfl rfl rfl rfl) rfl ?_
     refine ze (zj (zk (zd ?_)))
     refine zc rfl (zf rfl gt2 (zb rfl)) (sk (sk st7)) ?_
     refine zc rfl (zi rfl fo49x0 gt15 rfl) (sk (sk st8)) ?_
     refine zc rfl (zt rfl ty26 (gk (gk gt8)) rfl (zr rfl) (zb rfl)) (sk (sk st9)) ?_
     refine zc rfl (zi rfl fo49x1 gt15 rfl) (sk (sk st10)) ?_
     refine zc rfl (zi rfl fo47x0 (gk (gk gt10)) rfl) (sk (sk st11)) ?_
     refine zc rfl (zt rfl ty5 (gk (gk gt11)) rfl (zr rfl) (zb rfl)) (sk (sk st12)) ?_
     refine bindF hF (fun v29 hv29 hF => ?_)
     refine yf rfl (yg rfl rfl rfl (zo (gk (gk gt7)) (zo (gk (gk gt9)) (zo (gk (gk gt12)) zw))) (.cons (zb rfl) (.cons (zb rfl) (.cons (zb rfl) .nil)))) (ok13 hv29) (sk (sk st13)) ?_
     refine zc rfl (zf rfl (gk (gk gt13)) (zb rfl)) (sk (sk st6)) ?_
     refine zc rfl (s_extract rfl (gk (gk gt6)) rfl (zb rfl)) (sk (sk st14)) ?_
     refine zc rfl (s_extract rfl (gk (gk gt6)) rfl (zb rfl)) (sk (sk st15)) ?_
     refine zc rfl (e_alloc (n := 1) rfl ze47 rfl) st16 ?_
     refine zc rfl (e_store (cs' := [.int .u8 v29.1.typ, .int .i64 v29.1.n, .int .u64 v29.1.time, .int .u8 v29.1.dot.actor.rep, .int .u32 v29.1.dot.actor.inc, .int .u64 v29.1.dot.seq, .str v29.1.text, .sl 5 (v29.1.items.map GItem.row), .sl 3 (v29.1.tombs.map GDot.row)]) rfl ty47.choose_spec.1 gt16 (gk (gk gt14)) (zb rfl) rfl rfl rfl rfl rfl) rfl ?_
     refine zc rfl (zg rfl (gk (gk gt15)) (zb rfl)) st17 ?_
     refine ze (zj (zk (zd ?_)))
     refine zc rfl (zf rfl gt17 (zb rfl)) (sk (sk st16)) ?_
     refine zc rfl (s_un rfl (gk (gk gt16)) rfl) (sk (sk st17)) ?_
     refine zc rfl (zf rfl (gk (gk gt17)) (zb rfl)) (sk (sk st18)) ?_
     refine zp rfl (fun hb => zf rfl gt0 (zb rfl)) (sk (sk st19)) ?_
     refine zp rfl (fun hb => zf rfl gt1 (zb rfl)) (sk (sk st20)) ?_
     refine zp rfl (fun hb => zi rfl fo49x0 gt15 rfl) (sk (sk st21)) ?_
     refine zp rfl (fun hb => zt rfl ty26 (zn (gk (gk gt21)) hb) rfl (zr rfl) (zb rfl)) (sk (sk st22)) ?_
     refine gbindF hF (fun v30 hv30 hF => ?_)
     refine ops_gcall rfl (fun hb => yg rfl rfl rfl (zo (zn (gk (gk gt19)) hb) (zo (zn (gk (gk gt20)) hb) (zo (zn (gk (gk gt22)) hb) zw))) (.cons (zb rfl) (.cons (zb rfl) (.cons (zb rfl) .nil)))) (fun hb => ok12 (hv30 hb)) (sk (sk st23)) ?_
     refine zp rfl (fun hb => s_un rfl (zn (gk (gk gt23)) hb) rfl) (sk (sk st24)) ?_
     refine zc rfl (s_pick rfl (gk (gk gt18)) rfl (gk (gk gt24)) (pick_or (fun ht => gF ht))) (sk (sk st25)) ?_
     refine zc rfl (zf rfl (gk (gk gt25)) (zb rfl)) (sk (sk st26)) ?_
     refine zp rfl (fun hb => zi rfl fo47x0 gt16 rfl) (sk (sk st27)) ?_
     refine zp rfl (fun hb => zt rfl ty5 (zn (gk (gk gt27)) hb) rfl (zr rfl) (zb rfl)) (sk (sk st28)) ?_
     refine zp rfl (fun hb => zi rfl fo49x1 gt15 rfl) (sk (sk st29)) ?_
     refine zp rfl (fun hb => zi rfl fo47x0 (zn (gk (gk gt29)) hb) rfl) (sk (sk st30)) ?_
     refine zp rfl (fun hb => zt rfl ty5 (zn (gk (gk gt30)) hb) rfl (zr rfl) (zb rfl)) (sk (sk st31)) ?_
     refine zp rfl (fun hb => zu rfl (zn (gk (gk gt28)) hb) (zn (gk (gk gt31)) hb) rfl) (sk (sk st32)) ?_
     refine zc rfl (s_pick rfl (gk (gk gt26)) rfl (gk (gk gt32)) (pick_or (fun ht => gF ht))) (sk (sk st33)) ?_
     refine ze (zj ?_)
     refine r_condF (gk (gk gt33)) hF (fun hc31 hF => ?_) (fun hc31 hF => ?_)
     ·skip
      refine zk (zd ?_)
      refine zc rfl (zg rfl rfl (zb rfl)) st6 ?_
      refine ze (zj (r_ret ?_))
      refine yd ?_
      refine zx ?_
      refine q_loop_ret ?_
      obtain rfl := Option.some.inj hF
      replace hF := hK2
      refine yd ?_
      refine zx ?_
      obtain rfl := Option.some.inj hF
      refine zz rfl (yc gt6 yb) (zy (leV.refl _) rfl ?_)
      exact ⟨rfl, rfl⟩
     ·skip
      refine r_skip (q_block (zj (zd ?_)))
      refine zc rfl (zu rfl (gk (gk gt2)) rfl rfl) (sk (sk st34)) ?_
      refine zc rfl (zf rfl (gk (gk gt34)) (zb rfl)) (sk (sk st2)) ?_
      refine ze (q_loop ?_)
      obtain rfl := Option.some.inj hF
      exact ⟨(), hl2, hK2, wk.trans (wk.le (by exact (.eq (.eq (.eq (.d4 (.eq (.drop (.drop (.drop (.eq (.d16 (.d16 (.d16 (.d16 (.d4 (.eq (.eq (.cons (leV.of_eq (w64e (by omega) (by omega))) (.d16 (.d16 (.d16 (.d16 (.d4 (.d4 (.drop leL.nil)))))))))))))))))))))))))) (wk_ext3 (by simp [lowL, AV.low]) rfl rfl (by simp [Blk.low, lowL, AV.low]))⟩
    ·skip
     refine r_exit ?_
     refine q_seq_exit ?_
     refine yj ?_
     refine q_block_hit ?_
     refine zj (zk (zk (zd ?_)))
     refine zc rfl (zf rfl gt7 (zb rfl)) (sk (sk st35)) ?_
     refine bindF hF (fun v32 hv32 hF => ?_)
     refine yf rfl (yg rfl rfl rfl (zo (gk (gk gt35)) zw) (.cons (zb rfl) .nil)) (ok11 hv32) (sk (sk st36)) ?_
     refine ops_len rfl (yh rfl rfl rfl rfl el37 (gk (gk gt36)) lenMap) (sk (sk st37)) fun hn33 => ?_
     replace hn33 := lenN hn33
     refine zc rfl (zf rfl gt11 (zb rfl)) (sk (sk st38)) ?_
     refine zc rfl (zu rfl (gk (gk gt37)) (gk (gk gt38)) rfl) (sk (sk st39)) ?_
     refine zc rfl (zf rfl (gk (gk gt39)) (zb rfl)) (sk (sk (sk st0))) ?_
     refine zp rfl (fun hb => zf rfl gt0 (zb rfl)) (sk (sk (sk st1))) ?_
     refine ops_glen rfl (fun hb => yh rfl rfl rfl rfl el22 (zn (gk (gk (gk gt1))) hb) lenMap) (sk (sk (sk st2))) fun hn34 => ?_
     refine zp rfl (fun hb => zu rfl (zn (gk (gk (gk gt2))) hb) rfl rfl) (sk (sk (sk st3))) ?_
     refine zc rfl (s_pick rfl (gk (gk (gk gt0))) rfl (gk (gk (gk gt3))) (pick_or (fun ht => gF ht))) (sk (sk (sk st4))) ?_
     refine ze (zj ?_)
     refine r_condF (gk (gk (gk gt4))) hF (fun hc35 hF => ?_) (fun hc35 hF => ?_)
     ·skip
      refine zk (zd ?_)
      refine zc rfl (zf rfl gt7 (zb rfl)) (sk (sk (sk st5))) ?_
      refine bindF hF (fun v36 hv36 hF => ?_)
      refine yf rfl (yg rfl rfl rfl (zo (gk (gk (gk gt5))) zw) (.cons (zb rfl) .nil)) (ok11 hv36) (sk (sk (sk st6))) ?_
      refine ops_len rfl (yh rfl rfl rfl rfl el37 (gk (gk (gk gt6))) lenMap) (sk (sk (sk st7))) fun hn37 => ?_
      replace hn37 := lenN hn37
      refine zc rfl (zf rfl gt11 (zb rfl)) (sk (sk (sk st8))) ?_
      refine zc rfl (zu rfl (gk (gk (gk gt7))) (gk (gk (gk gt8))) rfl) (sk (sk (sk st9))) ?_
      refine zc rfl (zf rfl (gk (gk (gk gt9))) (zb rfl)) (sk (sk (sk st10))) ?_
      refine gbindF hF (fun v38 hv38 hF => ?_)
      refine ops_gcall rfl (fun hb => yg rfl rfl rfl zw .nil) (fun hb => ok8 (hv38 hb)) (sk (sk (sk st11))) ?_
      refine zc rfl (s_pick rfl (gk (gk (gk gt10))) (gk (gk (gk gt11))) rfl (pick_and (fun ht => gT ht))) (sk (sk (sk st12))) ?_
      refine zc rfl (zg rfl (gk (gk (gk gt12))) (zb rfl)) st6 ?_
      refine ze (zj (r_ret (zx ?_)))
      obtain rfl := Option.some.inj hF
      refine zz rfl (yc gt6 yb) (zy (leV.refl _) rfl ?_)
      exact ⟨rfl, rfl⟩
     ·skip
      refine r_skip (zj (zk (zd ?_)))
      refine zc rfl (s_buildSlice (es := ([] : List GRule).map GRule.row) rfl el22 ze54 rfl rfl parto_nil .nil rfl rfl rfl) (sk (sk (sk st14))) ?_
      refine zc rfl (zf rfl gt0 (zb rfl)) (sk (sk (sk st15))) ?_
      refine chkF hF (fun hm39 hF => ?_)
      refine zc rfl (e_appN (m := 0) (T' := [((([] : List GRule) ++ l0)).length]) rfl rfl rfl rfl el22 el22 (gk (gk (gk gt14))) (gk (gk (gk gt15))) (zb rfl) (zb rfl) news_sl hm39 rfl rfl) (sk (sk (sk st16))) ?_
      refine zc rfl (s_buildSlice (es := ([([42, 42] : Str)] : List Str).map strRow) rfl el26 ze9 rfl rfl (parto_cons rfl parto_nil) (.cons (zb rfl) .nil) rfl rfl rfl) (sk (sk (sk st17))) ?_
      refine zc rfl (s_build (cs' := [.int .u8 (255 : Int), .osl none 1 (([([42, 42] : Str)] : List Str).map strRow), .int .u8 (0 : Int), .bool false, .bool true]) rfl su54 ze54 pl54 (parto_cons rfl (parto_cons (gk (gk (gk gt17))) (parto_cons rfl parto_nil))) (.cons (zb rfl) (.cons (zb rfl) (.cons (zb rfl) .nil))) rfl rfl) (sk (sk (sk st18))) ?_
      refine zc rfl (s_buildSlice (es := ([(GRule.mk (255 : Int) ([([42, 42] : Str)] : List Str) (0 : Int) false true)] : List GRule).map GRule.row) rfl el22 ze54 rfl rfl (parto_cons (gk (gk (gk gt18))) parto_nil) (.cons (zb rfl) .nil) rfl rfl rfl) (sk (sk (sk st19))) ?_
      refine chkF hF (fun hm40 hF => ?_)
      refine zc rfl (e_appT (j := 0) (T' := [(((([] : List GRule) ++ l0) ++ ([(GRule.mk (255 : Int) ([([42, 42] : Str)] : List Str) (0 : Int) false true)] : List GRule))).length]) rfl rfl rfl rfl el22 el22 (gk (gk (gk gt16))) (gk (gk (gk gt19))) (zb rfl) (zb rfl) news_osl hm40 rfl rfl) (sk (sk (sk st20))) ?_
      refine zc rfl (zf rfl gt1 (zb rfl)) (sk (sk (sk st21))) ?_
      refine zc rfl (zf rfl gt2 (zb rfl)) (sk (sk (sk st22))) ?_
      refine bindF hF (fun v41 hv41 hF => ?_)
      refine yf rfl (yg rfl rfl rfl (zo (gk (gk (gk gt20))) (zo (gk (gk (gk gt21))) (zo (gk (gk (gk gt22))) zw))) (.cons (zb rfl) (.cons (zb rfl) (.cons (zb rfl) .nil)))) ((ok9 hv41).le (.cons (leV.osl _ _ _) (.eq (.eq leL.nil)))) (sk (sk (sk st23))) ?_
      refine zc rfl (zf rfl (gk (gk (gk gt23))) (zb rfl)) (sk (sk (sk st13))) ?_
      refine zc rfl (s_extract rfl (gk (gk (gk gt13))) rfl (zb rfl)) (sk (sk (sk st24))) ?_
      refine zc rfl (s_extract rfl (gk (gk (gk gt13))) rfl (zb rfl)) (sk (sk (sk st25))) ?_
      refine zc rfl (zg rfl (gk (gk (gk gt24))) (zb rfl)) st18 ?_
      refine zc rfl (zg rfl (gk (gk (gk gt25))) (zb rfl)) st19 ?_
      refine ze (zj (zk (zd ?_)))
      refine zc rfl (zf rfl gt19 (zb rfl)) (sk (sk (sk st26))) ?_
      refine zc rfl (zu rfl (gk (gk (gk gt26))) rfl rfl) (sk (sk (sk st27))) ?_
      refine zc rfl (zf rfl (gk (gk (gk gt27))) (zb rfl)) (sk (sk (sk st28))) ?_
      refine zp rfl (fun hb => zf rfl gt18 (zb rfl)) (sk (sk (sk st29))) ?_
      refine ops_glen rfl (fun hb => yh rfl rfl rfl rfl el24 (zn (gk (gk (gk gt29))) hb) lenMap) (sk (sk (sk st30))) fun hn42 => ?_
      refine zp rfl (fun hb => zu rfl (zn (gk (gk (gk gt30))) hb) rfl rfl) (sk (sk (sk st31))) ?_
      refine zc rfl (s_pick rfl (gk (gk (gk gt28))) (gk (gk (gk gt31))) rfl (pick_and (fun ht => gT ht))) (sk (sk (sk st32))) ?_
      refine zc rfl (zf rfl (gk (gk (gk gt32))) (zb rfl)) (sk (sk (sk st33))) ?_
      refine gbindF hF (fun v43 hv43 hF => ?_)
      refine ops_gcall rfl (fun hb => yg rfl rfl rfl zw .nil) (fun hb => ok8 (hv43 hb)) (sk (sk (sk st34))) ?_
      refine zc rfl (s_pick rfl (gk (gk (gk gt33))) (gk (gk (gk gt34))) rfl (pick_and (fun ht => gT ht))) (sk (sk (sk st35))) ?_
      refine zc rfl (zg rfl (gk (gk (gk gt35))) (zb rfl)) st6 ?_
      refine ze (zj (r_ret ?_))
      obtain rfl := Option.some.inj hF
      refine zz rfl (yc gt6 yb) (zy (leV.refl _) rfl ?_)
      exact ⟨rfl, rfl⟩
end Go.Vv
