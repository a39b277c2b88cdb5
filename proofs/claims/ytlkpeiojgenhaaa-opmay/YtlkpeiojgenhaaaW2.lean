/- Each function that the law reaches computes what its reading says; printed by a program. -/
import Derived.Test.YtlkpeiojgenhaaaW1
namespace Go.Vv
open Go Go.Proofs
set_option maxRecDepth 100000
set_option maxHeartbeats 1000000
set_option linter.unusedSimpArgs false
set_option linter.unusedVariables false
/-! varve/varveref04.IsName -/
theorem ok12 {s0 : Str} {res : Bool} {h : AH}  (hF : ref04IsName s0 = some res) : Spec Try.prog 12 [.str s0] h (fun rr hh => rr = .bool res ∧ hh = h) := by
  unfold ref04IsName at hF
  refine spec_of_body_ext Try.func12 rfl (by kernel_rfl) (env := [.str s0, aundef, aundef, aundef, aundef, aundef, aundef, aundef, aundef, aundef, aundef, aundef, aundef, aundef, aundef, aundef, aundef, aundef, aundef, aundef, aundef, aundef, aundef, aundef, aundef, aundef, aundef, aundef, aundef, aundef, aundef, aundef, aundef, aundef, aundef, aundef, aundef, aundef, aundef, aundef, aundef, aundef, aundef, aundef, aundef]) (by rfl) ?_
  refine r_seq ?_
  refine r_region ?_
  refine ops_ok rfl (s_assign rfl rfl (tyo_ok rfl)) st2 ?_
  refine ops_nil ?_
  refine q_seq ?_
  refine r_seq ?_
  refine r_seq ?_
  refine r_region ?_
  refine ops_ok rfl (s_move rfl gt0 (tyo_ok rfl)) st5 ?_
  refine ops_len rfl (s_lenStr rfl rfl rfl rfl ty9 gt5) st6 fun hn1 => ?_
  replace hn1 := lenN hn1
  refine ops_ok rfl (s_bin rfl gt6 rfl rfl) st7 ?_
  refine ops_ok rfl (s_move rfl gt7 (tyo_ok rfl)) st8 ?_
  refine ops_gv rfl (fun hb => s_move rfl gt0 (tyo_ok rfl)) st9 ?_
  refine ops_glen rfl (fun hb => s_lenStr rfl rfl rfl rfl ty9 (evo_gv gt9 hb)) st10 fun hn2 => ?_
  refine ops_gv rfl (fun hb => s_bin rfl (evo_gv gt10 hb) rfl rfl) st11 ?_
  refine ops_ok rfl (s_pick rfl gt8 rfl gt11 (pick_or (fun ht => gF ht))) st12 ?_
  refine ops_nil ?_
  refine q_seq ?_
  refine r_condF gt12 hF (fun hc3 hF => ?_) (fun hc3 hF => ?_)
  · skip
    refine r_seq ?_
    refine r_region ?_
    refine ops_ok rfl (s_assign rfl rfl (tyo_ok rfl)) st2 ?_
    refine ops_nil ?_
    refine q_seq ?_
    refine r_ret ?_
    refine q_seq_ret ?_
    obtain rfl := Option.some.inj hF
    refine q_retL1 rfl (rl_tmp gt2 rl_nil) (fin_ext (leV.refl _) rfl ?_)
    exact ⟨rfl, rfl⟩
  · skip
    refine r_skip ?_
    refine q_seq ?_
    refine r_seq ?_
    refine r_seq ?_
    refine r_region ?_
    refine ops_ok rfl (s_assign rfl rfl (tyo_ok rfl)) st3 ?_
    refine ops_nil ?_
    refine q_seq ?_
    refine r_block ?_
    refine r_loopLF (fun (n1 : Nat) (s1 : Unit) => [(1, .any), (2, .any), (3, .int .i64 (n1 : Int)), (4, .any), (5, .any), (6, .any), (7, .any), (8, .any), (9, .any), (10, .any), (11, .any), (12, .any), (13, .any), (14, .any), (15, .any), (16, .any), (17, .any), (18, .any), (19, .any), (20, .any), (21, .any), (22, .any), (23, .any), (24, .any), (25, .any), (26, .any), (27, .any), (28, .any), (29, .any), (30, .any), (31, .any), (32, .any), (33, .any), (34, .any), (35, .any), (36, .any), (37, .any), (38, .any), (39, .any), (40, .any), (41, .any), (42, .any), (43, .any), (44, .any)]) (fun s1 => h.ext [] []) hF (fun _ _ => by simp only [upd, List.set_cons_succ, List.set_cons_zero]; try rfl) (wk.le (by exact (.eq (.drop (.drop (.cons (leV.of_eq rfl) (.drop (.drop (.drop (.drop (.drop (.drop (.drop (.drop (.drop (.drop (.drop (.drop (.drop (.drop (.drop (.drop (.drop (.drop (.drop (.drop (.drop (.drop (.drop (.drop (.drop (.drop (.drop (.drop (.drop (.drop (.drop (.drop (.drop (.drop (.drop (.drop (.drop (.drop (.drop (.drop (.drop leL.nil))))))))))))))))))))))))))))))))))))))))))))))) ?_
    intro n1 s1 hi1 hF
    refine r_seq ?_
    refine r_seq ?_
    refine r_region ?_
    refine ops_ok rfl (s_move rfl gt3 (tyo_ok rfl)) st13 ?_
    refine ops_ok rfl (s_move rfl gt0 (tyo_ok rfl)) st14 ?_
    refine ops_len rfl (s_lenStr rfl rfl rfl rfl ty9 gt14) st15 fun hn10 => ?_
    replace hn10 := lenN hn10
    refine ops_ok rfl (s_bin rfl gt13 gt15 rfl) st16 ?_
    refine ops_nil ?_
    refine q_seq ?_
    refine r_condL gt16 hF (fun x1 o1 hl1 hx1 hF hK1 => ?_) (fun hF => ?_)
    · skip
      refine r_skip ?_
      refine q_seq ?_
      refine r_seq ?_
      refine r_block ?_
      refine r_seq ?_
      refine r_region ?_
      refine ops_ok rfl (s_move rfl gt0 (tyo_ok rfl)) st19 ?_
      refine ops_ok rfl (s_move rfl gt3 (tyo_ok rfl)) st20 ?_
      refine ops_ok rfl (s_idxStr rfl ty9 gt19 gt20 (idx_of hx1)) st21 ?_
      refine ops_ok rfl (s_assign rfl gt21 (tyo_ok rfl)) st4 ?_
      refine ops_nil ?_
      refine q_seq ?_
      refine r_seq ?_
      refine r_region ?_
      refine ops_ok rfl (s_move rfl gt4 (tyo_ok rfl)) st22 ?_
      refine ops_ok rfl (s_bin rfl gt22 rfl rfl) st23 ?_
      refine ops_ok rfl (s_move rfl gt23 (tyo_ok rfl)) st24 ?_
      refine ops_gv rfl (fun hb => s_move rfl gt4 (tyo_ok rfl)) st25 ?_
      refine ops_gv rfl (fun hb => s_bin rfl (evo_gv gt25 hb) rfl rfl) st26 ?_
      refine ops_ok rfl (s_pick rfl gt24 gt26 rfl (pick_and (fun ht => gT ht))) st27 ?_
      refine ops_ok rfl (s_move rfl gt27 (tyo_ok rfl)) st28 ?_
      refine ops_gv rfl (fun hb => s_move rfl gt4 (tyo_ok rfl)) st29 ?_
      refine ops_gv rfl (fun hb => s_bin rfl (evo_gv gt29 hb) rfl rfl) st30 ?_
      refine ops_gv rfl (fun hb => s_move rfl (evo_gv gt30 hb) (tyo_ok rfl)) st31 ?_
      refine ops_gv (aG_gv rfl rfl rfl) (fun hb => s_move rfl gt4 (tyo_ok rfl)) st32 ?_
      refine ops_gv (aG_gv rfl rfl rfl) (fun hb => s_bin rfl (evo_gv gt32 hb) rfl rfl) st33 ?_
      refine ops_gv rfl (fun hb => s_pick rfl (evo_gv gt31 hb) gt33 rfl (pick_and (fun ht => gT2 hb ht))) st34 ?_
      refine ops_ok rfl (s_pick rfl gt28 rfl gt34 (pick_or (fun ht => gF ht))) st35 ?_
      refine ops_ok rfl (s_move rfl gt35 (tyo_ok rfl)) st36 ?_
      refine ops_gv rfl (fun hb => s_move rfl gt4 (tyo_ok rfl)) st37 ?_
      refine ops_gv rfl (fun hb => s_bin rfl (evo_gv gt37 hb) rfl rfl) st38 ?_
      refine ops_gv rfl (fun hb => s_move rfl (evo_gv gt38 hb) (tyo_ok rfl)) st39 ?_
      refine ops_gv (aG_gv rfl rfl rfl) (fun hb => s_move rfl gt4 (tyo_ok rfl)) st40 ?_
      refine ops_gv (aG_gv rfl rfl rfl) (fun hb => s_bin rfl (evo_gv gt40 hb) rfl rfl) st41 ?_
      refine ops_gv rfl (fun hb => s_pick rfl (evo_gv gt39 hb) gt41 rfl (pick_and (fun ht => gT2 hb ht))) st42 ?_
      refine ops_ok rfl (s_pick rfl gt36 rfl gt42 (pick_or (fun ht => gF ht))) st43 ?_
      refine ops_ok rfl (s_un rfl gt43 rfl) st44 ?_
      refine ops_nil ?_
      refine q_seq ?_
      refine r_condF gt44 hF (fun hc11 hF => ?_) (fun hc11 hF => ?_)
      · skip
        refine r_seq ?_
        refine r_region ?_
        refine ops_ok rfl (s_assign rfl rfl (tyo_ok rfl)) st2 ?_
        refine ops_nil ?_
        refine q_seq ?_
        refine r_ret ?_
        refine q_block_ret ?_
        refine q_seq_ret ?_
        refine q_loop_ret ?_
        obtain rfl := Option.some.inj hF
        replace hF := hK1
        refine q_block_ret ?_
        refine q_seq_ret ?_
        obtain rfl := Option.some.inj hF
        refine q_retL1 rfl (rl_tmp gt2 rl_nil) (fin_ext (leV.refl _) rfl ?_)
        exact ⟨rfl, rfl⟩
      · skip
        refine r_skip ?_
        refine q_block ?_
        refine q_seq ?_
        refine r_region ?_
        refine ops_ok rfl (s_move rfl gt3 (tyo_ok rfl)) st17 ?_
        refine ops_ok rfl (s_bin rfl gt17 rfl rfl) st18 ?_
        refine ops_ok rfl (s_assign rfl gt18 (tyo_ok rfl)) st3 ?_
        refine ops_nil ?_
        refine q_loop ?_
        obtain rfl := Option.some.inj hF
        exact ⟨(), hl1, hK1, wk.le (by exact (.eq (.drop (.drop (.cons (leV.of_eq (w64e (by omega) (by omega))) (.drop (.drop (.drop (.drop (.drop (.drop (.drop (.drop (.drop (.drop (.drop (.drop (.drop (.drop (.drop (.drop (.drop (.drop (.drop (.drop (.drop (.drop (.drop (.drop (.drop (.drop (.drop (.drop (.drop (.drop (.drop (.drop (.drop (.drop (.drop (.drop (.drop (.drop (.drop (.drop (.drop leL.nil))))))))))))))))))))))))))))))))))))))))))))))⟩
    · skip
      refine r_exit ?_
      refine q_seq_exit ?_
      refine q_loop_exit ?_
      refine q_block_hit ?_
      refine q_seq ?_
      refine r_seq ?_
      refine r_region ?_
      refine ops_ok rfl (s_assign rfl rfl (tyo_ok rfl)) st2 ?_
      refine ops_nil ?_
      refine q_seq ?_
      refine r_ret ?_
      obtain rfl := Option.some.inj hF
      refine q_retL1 rfl (rl_tmp gt2 rl_nil) (fin_ext (leV.refl _) rfl ?_)
      exact ⟨rfl, rfl⟩
/-! varve/varveref04.MayPath -/
theorem ok14 {p0 : (List Str)} {res : Bool} {h : AH}  (hF : ref04MayPath p0 = some res) : Spec Try.prog 14 [.sl 1 (p0.map strRow)] h (fun rr hh => rr = .bool res ∧ hh = h) := by
  unfold ref04MayPath at hF
  refine spec_of_body_ext Try.func14 rfl (by kernel_rfl) (env := [.sl 1 (p0.map strRow), aundef, aundef, aundef, aundef, aundef, aundef, aundef, aundef, aundef, aundef, aundef, aundef, aundef, aundef, aundef, aundef, aundef, aundef, aundef, aundef, aundef, aundef, aundef]) (by rfl) ?_
  refine r_seq ?_
  refine r_region ?_
  refine ops_ok rfl (s_assign rfl rfl (tyo_ok rfl)) st2 ?_
  refine ops_nil ?_
  refine q_seq ?_
  refine r_seq ?_
  refine r_seq ?_
  refine r_region ?_
  refine ops_ok rfl (s_assign rfl rfl (tyo_ok rfl)) st3 ?_
  refine ops_nil ?_
  refine q_seq ?_
  refine r_block ?_
  refine r_loopLF (fun (n1 : Nat) (s1 : Unit) => [(1, .any), (2, .any), (3, .int .i64 (n1 : Int)), (4, .any), (5, .any), (6, .any), (7, .any), (8, .any), (9, .any), (10, .any), (11, .any), (12, .any), (13, .any), (14, .any), (15, .any), (16, .any), (17, .any), (18, .any), (19, .any), (20, .any), (21, .any), (22, .any), (23, .any)]) (fun s1 => h.ext [] []) hF (fun _ _ => by simp only [upd, List.set_cons_succ, List.set_cons_zero]; try rfl) (wk.le (by exact (.eq (.drop (.drop (.cons (leV.of_eq rfl) (.drop (.drop (.drop (.drop (.drop (.drop (.drop (.drop (.drop (.drop (.drop (.drop (.drop (.drop (.drop (.drop (.drop (.drop (.drop (.drop leL.nil)))))))))))))))))))))))))) ?_
  intro n1 s1 hi1 hF
  refine r_seq ?_
  refine r_seq ?_
  refine r_region ?_
  refine ops_ok rfl (s_move rfl gt3 (tyo_ok rfl)) st4 ?_
  refine ops_ok rfl (s_move rfl gt0 (tyo_ok rfl)) st5 ?_
  refine ops_len rfl (s_lenSl rfl rfl rfl rfl el28 gt5 lenMap) st6 fun hn8 => ?_
  replace hn8 := lenN hn8
  refine ops_ok rfl (s_bin rfl gt4 gt6 rfl) st7 ?_
  refine ops_nil ?_
  refine q_seq ?_
  refine r_condL gt7 hF (fun x1 o1 hl1 hx1 hF hK1 => ?_) (fun hF => ?_)
  · skip
    refine r_skip ?_
    refine q_seq ?_
    refine r_seq ?_
    refine r_block ?_
    refine r_seq ?_
    refine r_region ?_
    refine ops_ok rfl (s_move rfl gt0 (tyo_ok rfl)) st10 ?_
    refine ops_ok rfl (s_move rfl gt3 (tyo_ok rfl)) st11 ?_
    refine ops_ok rfl (s_idxRow rfl el28 gt10 gt11 isl (idx_of hx1)) st12 ?_
    refine ops_ok rfl (f_load rfl ty9 gt12 (ldC_one rfl) (tyo_ok rfl)) st13 ?_
    refine bindF hF (fun v9 hv9 hF => ?_)
    refine ops_callP rfl (s_call0 rfl rfl rfl (argo_cons gt13 argo_nil) (.cons (tyo_ok rfl) .nil)) (ok12 hv9) st14 ?_
    refine ops_ok rfl (s_un rfl gt14 rfl) st15 ?_
    refine ops_nil ?_
    refine q_seq ?_
    refine r_condF gt15 hF (fun hc10 hF => ?_) (fun hc10 hF => ?_)
    · skip
      refine r_seq ?_
      refine r_region ?_
      refine ops_ok rfl (s_assign rfl rfl (tyo_ok rfl)) st2 ?_
      refine ops_nil ?_
      refine q_seq ?_
      refine r_ret ?_
      refine q_block_ret ?_
      refine q_seq_ret ?_
      refine q_loop_ret ?_
      obtain rfl := Option.some.inj hF
      replace hF := hK1
      refine q_block_ret ?_
      refine q_seq_ret ?_
      obtain rfl := Option.some.inj hF
      refine q_retL1 rfl (rl_tmp gt2 rl_nil) (fin_ext (leV.refl _) rfl ?_)
      exact ⟨rfl, rfl⟩
    · skip
      refine r_skip ?_
      refine q_block ?_
      refine q_seq ?_
      refine r_region ?_
      refine ops_ok rfl (s_move rfl gt3 (tyo_ok rfl)) st8 ?_
      refine ops_ok rfl (s_bin rfl gt8 rfl rfl) st9 ?_
      refine ops_ok rfl (s_assign rfl gt9 (tyo_ok rfl)) st3 ?_
      refine ops_nil ?_
      refine q_loop ?_
      obtain rfl := Option.some.inj hF
      exact ⟨(), hl1, hK1, wk.le (by exact (.eq (.drop (.drop (.cons (leV.of_eq (w64e (by omega) (by omega))) (.drop (.drop (.drop (.drop (.drop (.drop (.drop (.drop (.drop (.drop (.drop (.drop (.drop (.drop (.drop (.drop (.drop (.drop (.drop (.drop leL.nil)))))))))))))))))))))))))⟩
  · skip
    refine r_exit ?_
    refine q_seq_exit ?_
    refine q_loop_exit ?_
    refine q_block_hit ?_
    refine q_seq ?_
    refine r_seq ?_
    refine r_region ?_
    refine ops_ok rfl (s_move rfl gt0 (tyo_ok rfl)) st16 ?_
    refine ops_len rfl (s_lenSl rfl rfl rfl rfl el28 gt16 lenMap) st17 fun hn11 => ?_
    replace hn11 := lenN hn11
    refine ops_ok rfl (s_bin rfl gt17 rfl rfl) st18 ?_
    refine ops_ok rfl (s_move rfl gt18 (tyo_ok rfl)) st19 ?_
    refine ops_gv rfl (fun hb => s_move rfl gt0 (tyo_ok rfl)) st20 ?_
    refine ops_glen rfl (fun hb => s_lenSl rfl rfl rfl rfl el28 (evo_gv gt20 hb) lenMap) st21 fun hn12 => ?_
    refine ops_gv rfl (fun hb => s_bin rfl (evo_gv gt21 hb) rfl rfl) st22 ?_
    refine ops_ok rfl (s_pick rfl gt19 gt22 rfl (pick_and (fun ht => gT ht))) st23 ?_
    refine ops_ok rfl (s_assign rfl gt23 (tyo_ok rfl)) st2 ?_
    refine ops_nil ?_
    refine q_seq ?_
    refine r_ret ?_
    obtain rfl := Option.some.inj hF
    refine q_retL1 rfl (rl_tmp gt2 rl_nil) (fin_ext (leV.refl _) rfl ?_)
    exact ⟨rfl, rfl⟩
/-! varve/varveref03.Less -/
theorem ok56 {a0 : GDot} {b1 : GDot} {res : Bool} {h : AH}  (hF : ref03Less a0 b1 = some res) : Spec Try.prog 56 [.agg [.int .u8 a0.actor.rep, .int .u32 a0.actor.inc, .int .u64 a0.seq], .agg [.int .u8 b1.actor.rep, .int .u32 b1.actor.inc, .int .u64 b1.seq]] h (fun rr hh => rr = .bool res ∧ hh = h) := by
  unfold ref03Less at hF
  refine spec_of_body_ext Try.func56 rfl (by kernel_rfl) (env := [.agg [.int .u8 a0.actor.rep, .int .u32 a0.actor.inc, .int .u64 a0.seq], .agg [.int .u8 b1.actor.rep, .int .u32 b1.actor.inc, .int .u64 b1.seq], aundef, aundef, aundef, aundef, aundef, aundef, aundef, aundef, aundef, aundef, aundef, aundef, aundef, aundef, aundef, aundef, aundef, aundef, aundef, aundef, aundef, aundef, aundef, aundef, aundef, aundef, aundef, aundef, aundef, aundef, aundef, aundef, aundef, aundef, aundef, aundef]) (by rfl) ?_
  refine r_seq ?_
  refine r_region ?_
  refine ops_ok rfl (e_box (n := 0) rfl gt0 (tyo_ok rfl) rfl rfl) st2 ?_
  refine ops_ok rfl (e_box (n := 1) rfl gt1 (tyo_ok rfl) rfl rfl) st3 ?_
  refine ops_ok rfl (s_assign rfl rfl (tyo_ok rfl)) st4 ?_
  refine ops_nil ?_
  refine q_seq ?_
  refine r_seq ?_
  refine r_seq ?_
  refine r_region ?_
  refine ops_ok rfl (s_fieldAddr rfl fo27x0 gt2 rfl) st5 ?_
  refine ops_ok rfl (s_fieldAddr rfl fo24x0 gt5 rfl) st6 ?_
  refine ops_ok rfl (e_load rfl ty5 gt6 rfl (ldC_one rfl) (tyo_ok rfl)) st7 ?_
  refine ops_ok rfl (s_fieldAddr rfl fo27x0 gt3 rfl) st8 ?_
  refine ops_ok rfl (s_fieldAddr rfl fo24x0 gt8 rfl) st9 ?_
  refine ops_ok rfl (e_load rfl ty5 gt9 rfl (ldC_one rfl) (tyo_ok rfl)) st10 ?_
  refine ops_ok rfl (s_bin rfl gt7 gt10 rfl) st11 ?_
  refine ops_nil ?_
  refine q_seq ?_
  refine r_condF gt11 hF (fun hc1 hF => ?_) (fun hc1 hF => ?_)
  · skip
    refine r_seq ?_
    refine r_region ?_
    refine ops_ok rfl (s_fieldAddr rfl fo27x0 gt2 rfl) st12 ?_
    refine ops_ok rfl (s_fieldAddr rfl fo24x0 gt12 rfl) st13 ?_
    refine ops_ok rfl (e_load rfl ty5 gt13 rfl (ldC_one rfl) (tyo_ok rfl)) st14 ?_
    refine ops_ok rfl (s_fieldAddr rfl fo27x0 gt3 rfl) st15 ?_
    refine ops_ok rfl (s_fieldAddr rfl fo24x0 gt15 rfl) st16 ?_
    refine ops_ok rfl (e_load rfl ty5 gt16 rfl (ldC_one rfl) (tyo_ok rfl)) st17 ?_
    refine ops_ok rfl (s_bin rfl gt14 gt17 rfl) st18 ?_
    refine ops_ok rfl (s_assign rfl gt18 (tyo_ok rfl)) st4 ?_
    refine ops_nil ?_
    refine q_seq ?_
    refine r_ret ?_
    refine q_seq_ret ?_
    obtain rfl := Option.some.inj hF
    refine q_retL1 rfl (rl_tmp gt4 rl_nil) (fin_ext (leV.refl _) rfl ?_)
    exact ⟨rfl, rfl⟩
  · skip
    refine r_skip ?_
    refine q_seq ?_
    refine r_seq ?_
    refine r_seq ?_
    refine r_region ?_
    refine ops_ok rfl (s_fieldAddr rfl fo27x0 gt2 rfl) st19 ?_
    refine ops_ok rfl (s_fieldAddr rfl fo24x1 gt19 rfl) st20 ?_
    refine ops_ok rfl (e_load rfl ty22 gt20 rfl (ldC_one rfl) (tyo_ok rfl)) st21 ?_
    refine ops_ok rfl (s_fieldAddr rfl fo27x0 gt3 rfl) st22 ?_
    refine ops_ok rfl (s_fieldAddr rfl fo24x1 gt22 rfl) st23 ?_
    refine ops_ok rfl (e_load rfl ty22 gt23 rfl (ldC_one rfl) (tyo_ok rfl)) st24 ?_
    refine ops_ok rfl (s_bin rfl gt21 gt24 rfl) st25 ?_
    refine ops_nil ?_
    refine q_seq ?_
    refine r_condF gt25 hF (fun hc2 hF => ?_) (fun hc2 hF => ?_)
    · skip
      refine r_seq ?_
      refine r_region ?_
      refine ops_ok rfl (s_fieldAddr rfl fo27x0 gt2 rfl) st26 ?_
      refine ops_ok rfl (s_fieldAddr rfl fo24x1 gt26 rfl) st27 ?_
      refine ops_ok rfl (e_load rfl ty22 gt27 rfl (ldC_one rfl) (tyo_ok rfl)) st28 ?_
      refine ops_ok rfl (s_fieldAddr rfl fo27x0 gt3 rfl) st29 ?_
      refine ops_ok rfl (s_fieldAddr rfl fo24x1 gt29 rfl) st30 ?_
      refine ops_ok rfl (e_load rfl ty22 gt30 rfl (ldC_one rfl) (tyo_ok rfl)) st31 ?_
      refine ops_ok rfl (s_bin rfl gt28 gt31 rfl) st32 ?_
      refine ops_ok rfl (s_assign rfl gt32 (tyo_ok rfl)) st4 ?_
      refine ops_nil ?_
      refine q_seq ?_
      refine r_ret ?_
      refine q_seq_ret ?_
      obtain rfl := Option.some.inj hF
      refine q_retL1 rfl (rl_tmp gt4 rl_nil) (fin_ext (leV.refl _) rfl ?_)
      exact ⟨rfl, rfl⟩
    · skip
      refine r_skip ?_
      refine q_seq ?_
      refine r_seq ?_
      refine r_region ?_
      refine ops_ok rfl (s_fieldAddr rfl fo27x1 gt2 rfl) st33 ?_
      refine ops_ok rfl (e_load rfl ty25 gt33 rfl (ldC_one rfl) (tyo_ok rfl)) st34 ?_
      refine ops_ok rfl (s_fieldAddr rfl fo27x1 gt3 rfl) st35 ?_
      refine ops_ok rfl (e_load rfl ty25 gt35 rfl (ldC_one rfl) (tyo_ok rfl)) st36 ?_
      refine ops_ok rfl (s_bin rfl gt34 gt36 rfl) st37 ?_
      refine ops_ok rfl (s_assign rfl gt37 (tyo_ok rfl)) st4 ?_
      refine ops_nil ?_
      refine q_seq ?_
      refine r_ret ?_
      obtain rfl := Option.some.inj hF
      refine q_retL1 rfl (rl_tmp gt4 rl_nil) (fin_ext (leV.refl _) rfl ?_)
      exact ⟨rfl, rfl⟩
/-! varve/varveref04.Type -/
theorem ok20 {kind0 : Int} {res : Int} {h : AH}  (hF : ref04Type kind0 = some res) : Spec Try.prog 20 [.int .u8 kind0] h (fun rr hh => rr = .int .u8 res ∧ hh = h) := by
  unfold ref04Type at hF
  refine spec_of_body_ext Try.func20 rfl (by kernel_rfl) (env := [.int .u8 kind0, aundef, aundef, aundef, aundef, aundef, aundef, aundef, aundef, aundef, aundef, aundef, aundef]) (by rfl) ?_
  refine r_seq ?_
  refine r_region ?_
  refine ops_ok rfl (s_assign rfl rfl (tyo_ok rfl)) st2 ?_
  refine ops_nil ?_
  refine q_seq ?_
  refine r_seq ?_
  refine r_seq ?_
  refine r_region ?_
  refine ops_ok rfl (s_move rfl gt0 (tyo_ok rfl)) st3 ?_
  refine ops_nil ?_
  refine q_seq ?_
  refine r_block ?_
  refine r_seq ?_
  refine r_region ?_
  refine ops_ok rfl (s_bin rfl gt3 rfl rfl) st5 ?_
  refine ops_ok rfl (s_assign rfl gt5 (tyo_ok rfl)) st4 ?_
  refine ops_nil ?_
  refine q_seq ?_
  refine r_condF gt4 hF (fun hc1 hF => ?_) (fun hc1 hF => ?_)
  · skip
    refine r_seq ?_
    refine r_region ?_
    refine ops_ok rfl (s_assign rfl rfl (tyo_ok rfl)) st2 ?_
    refine ops_nil ?_
    refine q_seq ?_
    refine r_ret ?_
    refine q_block_ret ?_
    refine q_seq_ret ?_
    obtain rfl := Option.some.inj hF
    refine q_retL1 rfl (rl_tmp gt2 rl_nil) (fin_ext (leV.refl _) rfl ?_)
    exact ⟨rfl, rfl⟩
  · skip
    refine r_seq ?_
    refine r_region ?_
    refine ops_ok rfl (s_bin rfl gt3 rfl rfl) st7 ?_
    refine ops_ok rfl (s_assign rfl gt7 (tyo_ok rfl)) st6 ?_
    refine ops_nil ?_
    refine q_seq ?_
    refine r_condF gt6 hF (fun hc2 hF => ?_) (fun hc2 hF => ?_)
    · skip
      refine r_seq ?_
      refine r_region ?_
      refine ops_ok rfl (s_assign rfl rfl (tyo_ok rfl)) st2 ?_
      refine ops_nil ?_
      refine q_seq ?_
      refine r_ret ?_
      refine q_block_ret ?_
      refine q_seq_ret ?_
      obtain rfl := Option.some.inj hF
      refine q_retL1 rfl (rl_tmp gt2 rl_nil) (fin_ext (leV.refl _) rfl ?_)
      exact ⟨rfl, rfl⟩
    · skip
      refine r_seq ?_
      refine r_seq ?_
      refine r_region ?_
      refine ops_ok rfl (s_bin rfl gt3 rfl rfl) st9 ?_
      refine ops_ok rfl (s_assign rfl gt9 (tyo_ok rfl)) st8 ?_
      refine ops_nil ?_
      refine q_seq ?_
      refine r_condF gt8 hF (fun hc3 hF => ?_) (fun hc3 hF => ?_)
      · skip
        refine r_skip ?_
        refine q_seq ?_
        refine r_condF gt8 hF (fun hc4 hF => ?_) (fun hc4 hF => ?_)
        · skip
          refine r_seq ?_
          refine r_region ?_
          refine ops_ok rfl (s_assign rfl rfl (tyo_ok rfl)) st2 ?_
          refine ops_nil ?_
          refine q_seq ?_
          refine r_ret ?_
          refine q_block_ret ?_
          refine q_seq_ret ?_
          obtain rfl := Option.some.inj hF
          refine q_retL1 rfl (rl_tmp gt2 rl_nil) (fin_ext (leV.refl _) rfl ?_)
          exact ⟨rfl, rfl⟩
        · skip
          refine r_seq ?_
          refine r_region ?_
          refine ops_ok rfl (s_bin rfl gt3 rfl rfl) st12 ?_
          refine ops_ok rfl (s_assign rfl gt12 (tyo_ok rfl)) st11 ?_
          refine ops_nil ?_
          refine q_seq ?_
          refine r_condF gt11 hF (fun hc5 hF => ?_) (fun hc5 hF => ?_)
          · skip
            refine r_seq ?_
            refine r_region ?_
            refine ops_ok rfl (s_assign rfl rfl (tyo_ok rfl)) st2 ?_
            refine ops_nil ?_
            refine q_seq ?_
            refine r_ret ?_
            refine q_block_ret ?_
            refine q_seq_ret ?_
            obtain rfl := Option.some.inj hF
            refine q_retL1 rfl (rl_tmp gt2 rl_nil) (fin_ext (leV.refl _) rfl ?_)
            exact ⟨rfl, rfl⟩
          · skip
            refine r_skip ?_
            refine q_block ?_
            refine q_seq ?_
            refine r_seq ?_
            refine r_region ?_
            refine ops_ok rfl (s_assign rfl rfl (tyo_ok rfl)) st2 ?_
            refine ops_nil ?_
            refine q_seq ?_
            refine r_ret ?_
            obtain rfl := Option.some.inj hF
            refine q_retL1 rfl (rl_tmp gt2 rl_nil) (fin_ext (leV.refl _) rfl ?_)
            exact ⟨rfl, rfl⟩
      · skip
        refine r_region ?_
        refine ops_ok rfl (s_bin rfl gt3 rfl rfl) st10 ?_
        refine ops_ok rfl (s_assign rfl gt10 (tyo_ok rfl)) st8 ?_
        refine ops_nil ?_
        refine q_seq ?_
        refine r_condF gt8 hF (fun hc6 hF => ?_) (fun hc6 hF => ?_)
        · skip
          refine r_seq ?_
          refine r_region ?_
          refine ops_ok rfl (s_assign rfl rfl (tyo_ok rfl)) st2 ?_
          refine ops_nil ?_
          refine q_seq ?_
          refine r_ret ?_
          refine q_block_ret ?_
          refine q_seq_ret ?_
          obtain rfl := Option.some.inj hF
          refine q_retL1 rfl (rl_tmp gt2 rl_nil) (fin_ext (leV.refl _) rfl ?_)
          exact ⟨rfl, rfl⟩
        · skip
          refine r_seq ?_
          refine r_region ?_
          refine ops_ok rfl (s_bin rfl gt3 rfl rfl) st12 ?_
          refine ops_ok rfl (s_assign rfl gt12 (tyo_ok rfl)) st11 ?_
          refine ops_nil ?_
          refine q_seq ?_
          refine r_condF gt11 hF (fun hc7 hF => ?_) (fun hc7 hF => ?_)
          · skip
            refine r_seq ?_
            refine r_region ?_
            refine ops_ok rfl (s_assign rfl rfl (tyo_ok rfl)) st2 ?_
            refine ops_nil ?_
            refine q_seq ?_
            refine r_ret ?_
            refine q_block_ret ?_
            refine q_seq_ret ?_
            obtain rfl := Option.some.inj hF
            refine q_retL1 rfl (rl_tmp gt2 rl_nil) (fin_ext (leV.refl _) rfl ?_)
            exact ⟨rfl, rfl⟩
          · skip
            refine r_skip ?_
            refine q_block ?_
            refine q_seq ?_
            refine r_seq ?_
            refine r_region ?_
            refine ops_ok rfl (s_assign rfl rfl (tyo_ok rfl)) st2 ?_
            refine ops_nil ?_
            refine q_seq ?_
            refine r_ret ?_
            obtain rfl := Option.some.inj hF
            refine q_retL1 rfl (rl_tmp gt2 rl_nil) (fin_ext (leV.refl _) rfl ?_)
            exact ⟨rfl, rfl⟩
/-! varve/varveref03.MayActor -/
theorem ok98 {a0 : GActor} {res : Bool} {h : AH}  (hF : ref03MayActor a0 = some res) : Spec Try.prog 98 [.agg [.int .u8 a0.rep, .int .u32 a0.inc]] h (fun rr hh => rr = .bool res ∧ hh = h) := by
  unfold ref03MayActor at hF
  refine spec_of_body_ext Try.func98 rfl (by kernel_rfl) (env := [.agg [.int .u8 a0.rep, .int .u32 a0.inc], aundef, aundef, aundef, aundef, aundef, aundef, aundef, aundef, aundef, aundef, aundef, aundef, aundef, aundef, aundef]) (by rfl) ?_
  refine r_seq ?_
  refine r_region ?_
  refine ops_ok rfl (e_box (n := 0) rfl gt0 (tyo_ok rfl) rfl rfl) st1 ?_
  refine ops_ok rfl (s_assign rfl rfl (tyo_ok rfl)) st2 ?_
  refine ops_nil ?_
  refine q_seq ?_
  refine r_seq ?_
  refine r_region ?_
  refine ops_ok rfl (s_fieldAddr rfl fo24x0 gt1 rfl) st3 ?_
  refine ops_ok rfl (e_load rfl ty5 gt3 rfl (ldC_one rfl) (tyo_ok rfl)) st4 ?_
  refine ops_ok rfl (s_bin rfl gt4 rfl rfl) st5 ?_
  refine ops_ok rfl (s_move rfl gt5 (tyo_ok rfl)) st6 ?_
  refine ops_gv rfl (fun hb => s_fieldAddr rfl fo24x1 gt1 rfl) st7 ?_
  refine ops_gv rfl (fun hb => e_load rfl ty22 (evo_gv gt7 hb) rfl (ldC_one rfl) (tyo_ok rfl)) st8 ?_
  refine ops_gv rfl (fun hb => s_bin rfl (evo_gv gt8 hb) rfl rfl) st9 ?_
  refine ops_ok rfl (s_pick rfl gt6 gt9 rfl (pick_and (fun ht => gT ht))) st10 ?_
  refine ops_ok rfl (s_move rfl gt10 (tyo_ok rfl)) st11 ?_
  refine ops_gv rfl (fun hb => s_fieldAddr rfl fo24x1 gt1 rfl) st12 ?_
  refine ops_gv rfl (fun hb => e_load rfl ty22 (evo_gv gt12 hb) rfl (ldC_one rfl) (tyo_ok rfl)) st13 ?_
  refine ops_gv rfl (fun hb => s_bin rfl (evo_gv gt13 hb) rfl rfl) st14 ?_
  refine ops_ok rfl (s_pick rfl gt11 gt14 rfl (pick_and (fun ht => gT ht))) st15 ?_
  refine ops_ok rfl (s_assign rfl gt15 (tyo_ok rfl)) st2 ?_
  refine ops_nil ?_
  refine q_seq ?_
  refine r_ret ?_
  obtain rfl := Option.some.inj hF
  refine q_retL1 rfl (rl_tmp gt2 rl_nil) (fin_ext (leV.refl _) rfl ?_)
  exact ⟨rfl, rfl⟩
/-! varve/varveref03.May -/
theorem ok55 {d0 : GDot} {res : Bool} {h : AH}  (hF : ref03May d0 = some res) : Spec Try.prog 55 [.agg [.int .u8 d0.actor.rep, .int .u32 d0.actor.inc, .int .u64 d0.seq]] h (fun rr hh => rr = .bool res ∧ hh = h) := by
  unfold ref03May at hF
  refine spec_of_body_ext Try.func55 rfl (by kernel_rfl) (env := [.agg [.int .u8 d0.actor.rep, .int .u32 d0.actor.inc, .int .u64 d0.seq], aundef, aundef, aundef, aundef, aundef, aundef, aundef, aundef, aundef, aundef, aundef, aundef, aundef, aundef, aundef]) (by rfl) ?_
  refine r_seq ?_
  refine r_region ?_
  refine ops_ok rfl (e_box (n := 0) rfl gt0 (tyo_ok rfl) rfl rfl) st1 ?_
  refine ops_ok rfl (s_assign rfl rfl (tyo_ok rfl)) st2 ?_
  refine ops_nil ?_
  refine q_seq ?_
  refine r_seq ?_
  refine r_region ?_
  refine ops_ok rfl (s_fieldAddr rfl fo27x0 gt1 rfl) st3 ?_
  refine ops_ok rfl (e_load rfl ty24.choose_spec.1 gt3 rfl (ldC_agX (cs' := [.int .u8 d0.actor.rep, .int .u32 d0.actor.inc]) ty24.choose_spec.2 rfl rfl) (tyo_ok rfl)) st4 ?_
  refine bindF hF (fun v1 hv1 hF => ?_)
  refine ops_callP rfl (s_call0 rfl rfl rfl (argo_cons gt4 argo_nil) (.cons (tyo_ok rfl) .nil)) (ok98 hv1) st5 ?_
  refine ops_ok rfl (s_move rfl gt5 (tyo_ok rfl)) st6 ?_
  refine ops_gv rfl (fun hb => s_fieldAddr rfl fo27x1 gt1 rfl) st7 ?_
  refine ops_gv rfl (fun hb => e_load rfl ty25 (evo_gv gt7 hb) rfl (ldC_one rfl) (tyo_ok rfl)) st8 ?_
  refine ops_gv rfl (fun hb => s_bin rfl (evo_gv gt8 hb) rfl rfl) st9 ?_
  refine ops_ok rfl (s_pick rfl gt6 gt9 rfl (pick_and (fun ht => gT ht))) st10 ?_
  refine ops_ok rfl (s_move rfl gt10 (tyo_ok rfl)) st11 ?_
  refine ops_gv rfl (fun hb => s_fieldAddr rfl fo27x1 gt1 rfl) st12 ?_
  refine ops_gv rfl (fun hb => e_load rfl ty25 (evo_gv gt12 hb) rfl (ldC_one rfl) (tyo_ok rfl)) st13 ?_
  refine ops_gv rfl (fun hb => s_bin rfl (evo_gv gt13 hb) rfl rfl) st14 ?_
  refine ops_ok rfl (s_pick rfl gt11 gt14 rfl (pick_and (fun ht => gT ht))) st15 ?_
  refine ops_ok rfl (s_assign rfl gt15 (tyo_ok rfl)) st2 ?_
  refine ops_nil ?_
  refine q_seq ?_
  refine r_ret ?_
  obtain rfl := Option.some.inj hF
  refine q_retL1 rfl (rl_tmp gt2 rl_nil) (fin_ext (leV.refl _) rfl ?_)
  exact ⟨rfl, rfl⟩
/-! varve/varveref04.May -/
theorem ok16 {o0 : GOp} {res : Bool} {h : AH}  (hF : ref04May o0 = some res) : Spec Try.prog 16 [.agg [.int .u8 o0.kind, .sl 1 (o0.path.map strRow), .int .i64 o0.n, .str o0.text, .sl 3 (o0.dots.map GDot.row)]] h (fun rr hh => rr = .bool res ∧ hh = h) := by
  unfold ref04May at hF
  refine spec_of_body_ext Try.func16 rfl (by kernel_rfl) (env := [.agg [.int .u8 o0.kind, .sl 1 (o0.path.map strRow), .int .i64 o0.n, .str o0.text, .sl 3 (o0.dots.map GDot.row)], aundef, aundef, aundef, aundef, aundef, aundef, aundef, aundef, aundef, aundef, aundef, aundef, aundef, aundef, aundef, aundef, aundef, aundef, aundef, aundef, aundef, aundef, aundef, aundef, aundef, aundef, aundef, aundef, aundef, aundef, aundef, aundef, aundef, aundef, aundef, aundef, aundef, aundef, aundef, aundef, aundef, aundef, aundef, aundef, aundef, aundef, aundef, aundef, aundef, aundef, aundef, aundef, aundef, aundef, aundef, aundef, aundef, aundef, aundef, aundef, aundef, aundef, aundef, aundef, aundef, aundef, aundef, aundef, aundef, aundef, aundef, aundef, aundef, aundef, aundef, aundef, aundef, aundef, aundef, aundef, aundef, aundef, aundef, aundef, aundef, aundef, aundef, aundef, aundef, aundef, aundef, aundef, aundef, aundef]) (by rfl) ?_
  refine r_seq ?_
  refine r_region ?_
  refine ops_ok rfl (e_box (n := 0) rfl gt0 (tyo_ok rfl) rfl rfl) st1 ?_
  refine ops_ok rfl (s_assign rfl rfl (tyo_ok rfl)) st2 ?_
  refine ops_nil ?_
  refine q_seq ?_
  refine r_seq ?_
  refine r_seq ?_
  refine r_region ?_
  refine ops_ok rfl (s_fieldAddr rfl fo31x0 gt1 rfl) st4 ?_
  refine ops_ok rfl (e_load rfl ty5 gt4 rfl (ldC_one rfl) (tyo_ok rfl)) st5 ?_
  refine bindF hF (fun v1 hv1 hF => ?_)
  refine ops_callP rfl (s_call0 rfl rfl rfl (argo_cons gt5 argo_nil) (.cons (tyo_ok rfl) .nil)) (ok20 hv1) st6 ?_
  refine ops_ok rfl (s_bin rfl gt6 rfl rfl) st7 ?_
  refine ops_ok rfl (s_move rfl gt7 (tyo_ok rfl)) st8 ?_
  refine ops_gv rfl (fun hb => s_fieldAddr rfl fo31x1 gt1 rfl) st9 ?_
  refine ops_gv rfl (fun hb => e_load rfl ty28 (evo_gv gt9 hb) rfl (ldC_one rfl) (tyo_ok rfl)) st10 ?_
  refine gbindF hF (fun v2 hv2 hF => ?_)
  refine ops_gcall rfl (fun hb => s_call0 rfl rfl rfl (argo_cons (evo_gv gt10 hb) argo_nil) (.cons (tyo_ok rfl) .nil)) (fun hb => ok14 (hv2 hb)) st11 ?_
  refine ops_gv rfl (fun hb => s_un rfl (evo_gv gt11 hb) rfl) st12 ?_
  refine ops_ok rfl (s_pick rfl gt8 rfl gt12 (pick_or (fun ht => gF ht))) st13 ?_
  refine ops_ok rfl (s_move rfl gt13 (tyo_ok rfl)) st14 ?_
  refine ops_gv rfl (fun hb => s_fieldAddr rfl fo31x3 gt1 rfl) st15 ?_
  refine ops_gv rfl (fun hb => e_load rfl ty9 (evo_gv gt15 hb) rfl (ldC_one rfl) (tyo_ok rfl)) st16 ?_
  refine ops_glen rfl (fun hb => s_lenStr rfl rfl rfl rfl ty9 (evo_gv gt16 hb)) st17 fun hn3 => ?_
  refine ops_gv rfl (fun hb => s_bin rfl (evo_gv gt17 hb) rfl rfl) st18 ?_
  refine ops_ok rfl (s_pick rfl gt14 rfl gt18 (pick_or (fun ht => gF ht))) st19 ?_
  refine ops_ok rfl (s_move rfl gt19 (tyo_ok rfl)) st20 ?_
  refine ops_gv rfl (fun hb => s_fieldAddr rfl fo31x4 gt1 rfl) st21 ?_
  refine ops_gv rfl (fun hb => e_load rfl ty29 (evo_gv gt21 hb) rfl (ldC_one rfl) (tyo_ok rfl)) st22 ?_
  refine ops_glen rfl (fun hb => s_lenSl rfl rfl rfl rfl el29 (evo_gv gt22 hb) lenMap) st23 fun hn4 => ?_
  refine ops_gv rfl (fun hb => s_bin rfl (evo_gv gt23 hb) rfl rfl) st24 ?_
  refine ops_ok rfl (s_pick rfl gt20 rfl gt24 (pick_or (fun ht => gF ht))) st25 ?_
  refine ops_nil ?_
  refine q_seq ?_
  refine r_condF gt25 hF (fun hc5 hF => ?_) (fun hc5 hF => ?_)
  · skip
    refine r_seq ?_
    refine r_region ?_
    refine ops_ok rfl (s_assign rfl rfl (tyo_ok rfl)) st2 ?_
    refine ops_nil ?_
    refine q_seq ?_
    refine r_ret ?_
    refine q_seq_ret ?_
    obtain rfl := Option.some.inj hF
    refine q_retL1 rfl (rl_tmp gt2 rl_nil) (fin_ext (leV.refl _) rfl ?_)
    exact ⟨rfl, rfl⟩
  · skip
    refine r_skip ?_
    refine q_seq ?_
    refine r_seq ?_
    refine r_seq ?_
    refine r_region ?_
    refine ops_ok rfl (s_fieldAddr rfl fo31x0 gt1 rfl) st26 ?_
    refine ops_ok rfl (e_load rfl ty5 gt26 rfl (ldC_one rfl) (tyo_ok rfl)) st27 ?_
    refine ops_ok rfl (s_bin rfl gt27 rfl rfl) st28 ?_
    refine ops_nil ?_
    refine q_seq ?_
    refine r_condF gt28 hF (fun hc6 hF => ?_) (fun hc6 hF => ?_)
    · skip
      refine r_seq ?_
      refine r_region ?_
      refine ops_ok rfl (s_fieldAddr rfl fo31x2 gt1 rfl) st29 ?_
      refine ops_ok rfl (e_load rfl ty2 gt29 rfl (ldC_one rfl) (tyo_ok rfl)) st30 ?_
      refine ops_ok rfl (s_bin rfl gt30 rfl rfl) st31 ?_
      refine ops_ok rfl (s_move rfl gt31 (tyo_ok rfl)) st32 ?_
      refine ops_gv rfl (fun hb => s_fieldAddr rfl fo31x2 gt1 rfl) st33 ?_
      refine ops_gv rfl (fun hb => e_load rfl ty2 (evo_gv gt33 hb) rfl (ldC_one rfl) (tyo_ok rfl)) st34 ?_
      refine ops_gv rfl (fun hb => s_bin rfl (evo_gv gt34 hb) rfl rfl) st35 ?_
      refine ops_ok rfl (s_pick rfl gt32 gt35 rfl (pick_and (fun ht => gT ht))) st36 ?_
      refine ops_ok rfl (s_move rfl gt36 (tyo_ok rfl)) st37 ?_
      refine ops_gv rfl (fun hb => s_fieldAddr rfl fo31x3 gt1 rfl) st38 ?_
      refine ops_gv rfl (fun hb => e_load rfl ty9 (evo_gv gt38 hb) rfl (ldC_one rfl) (tyo_ok rfl)) st39 ?_
      refine ops_gv rfl (fun hb => s_bin rfl (evo_gv gt39 hb) rfl rfl) st40 ?_
      refine ops_ok rfl (s_pick rfl gt37 gt40 rfl (pick_and (fun ht => gT ht))) st41 ?_
      refine ops_ok rfl (s_move rfl gt41 (tyo_ok rfl)) st42 ?_
      refine ops_gv rfl (fun hb => s_fieldAddr rfl fo31x4 gt1 rfl) st43 ?_
      refine ops_gv rfl (fun hb => e_load rfl ty29 (evo_gv gt43 hb) rfl (ldC_one rfl) (tyo_ok rfl)) st44 ?_
      refine ops_glen rfl (fun hb => s_lenSl rfl rfl rfl rfl el29 (evo_gv gt44 hb) lenMap) st45 fun hn7 => ?_
      refine ops_gv rfl (fun hb => s_bin rfl (evo_gv gt45 hb) rfl rfl) st46 ?_
      refine ops_ok rfl (s_pick rfl gt42 gt46 rfl (pick_and (fun ht => gT ht))) st47 ?_
      refine ops_ok rfl (s_assign rfl gt47 (tyo_ok rfl)) st2 ?_
      refine ops_nil ?_
      refine q_seq ?_
      refine r_ret ?_
      refine q_seq_ret ?_
      obtain rfl := Option.some.inj hF
      refine q_retL1 rfl (rl_tmp gt2 rl_nil) (fin_ext (leV.refl _) rfl ?_)
      exact ⟨rfl, rfl⟩
    · skip
      refine r_skip ?_
      refine q_seq ?_
      refine r_seq ?_
      refine r_seq ?_
      refine r_region ?_
      refine ops_ok rfl (s_fieldAddr rfl fo31x2 gt1 rfl) st48 ?_
      refine ops_ok rfl (e_load rfl ty2 gt48 rfl (ldC_one rfl) (tyo_ok rfl)) st49 ?_
      refine ops_ok rfl (s_bin rfl gt49 rfl rfl) st50 ?_
      refine ops_ok rfl (s_move rfl gt50 (tyo_ok rfl)) st51 ?_
      refine ops_gv rfl (fun hb => s_fieldAddr rfl fo31x0 gt1 rfl) st52 ?_
      refine ops_gv rfl (fun hb => e_load rfl ty5 (evo_gv gt52 hb) rfl (ldC_one rfl) (tyo_ok rfl)) st53 ?_
      refine ops_gv rfl (fun hb => s_bin rfl (evo_gv gt53 hb) rfl rfl) st54 ?_
      refine ops_gv rfl (fun hb => s_move rfl (evo_gv gt54 hb) (tyo_ok rfl)) st55 ?_
      refine ops_gv (aG_gv rfl rfl rfl) (fun hb => s_fieldAddr rfl fo31x4 gt1 rfl) st56 ?_
      refine ops_gv (aG_gv rfl rfl rfl) (fun hb => e_load rfl ty29 (evo_gv gt56 hb) rfl (ldC_one rfl) (tyo_ok rfl)) st57 ?_
      refine ops_glen (aG_gv rfl rfl rfl) (fun hb => s_lenSl rfl rfl rfl rfl el29 (evo_gv gt57 hb) lenMap) st58 fun hn8 => ?_
      refine ops_gv (aG_gv rfl rfl rfl) (fun hb => s_bin rfl (evo_gv gt58 hb) rfl rfl) st59 ?_
      refine ops_gv rfl (fun hb => s_pick rfl (evo_gv gt55 hb) gt59 rfl (pick_and (fun ht => gT2 hb ht))) st60 ?_
      refine ops_ok rfl (s_pick rfl gt51 rfl gt60 (pick_or (fun ht => gF ht))) st61 ?_
      refine ops_nil ?_
      refine q_seq ?_
      refine r_condF gt61 hF (fun hc9 hF => ?_) (fun hc9 hF => ?_)
      · skip
        refine r_seq ?_
        refine r_region ?_
        refine ops_ok rfl (s_assign rfl rfl (tyo_ok rfl)) st2 ?_
        refine ops_nil ?_
        refine q_seq ?_
        refine r_ret ?_
        refine q_seq_ret ?_
        obtain rfl := Option.some.inj hF
        refine q_retL1 rfl (rl_tmp gt2 rl_nil) (fin_ext (leV.refl _) rfl ?_)
        exact ⟨rfl, rfl⟩
      · skip
        refine r_skip ?_
        refine q_seq ?_
        refine r_seq ?_
        refine r_seq ?_
        refine r_region ?_
        refine ops_ok rfl (s_assign rfl rfl (tyo_ok rfl)) st3 ?_
        refine ops_nil ?_
        refine q_seq ?_
        refine r_block ?_
        refine r_loopLF (fun (n1 : Nat) (s1 : Unit) => [(0, .any), (2, .any), (3, .int .i64 (n1 : Int)), (4, .any), (5, .any), (6, .any), (7, .any), (8, .any), (9, .any), (10, .any), (11, .any), (12, .any), (13, .any), (14, .any), (15, .any), (16, .any), (17, .any), (18, .any), (19, .any), (20, .any), (21, .any), (22, .any), (23, .any), (24, .any), (25, .any), (26, .any), (27, .any), (28, .any), (29, .any), (30, .any), (31, .any), (32, .any), (33, .any), (34, .any), (35, .any), (36, .any), (37, .any), (38, .any), (39, .any), (40, .any), (41, .any), (42, .any), (43, .any), (44, .any), (45, .any), (46, .any), (47, .any), (48, .any), (49, .any), (50, .any), (51, .any), (52, .any), (53, .any), (54, .any), (55, .any), (56, .any), (57, .any), (58, .any), (59, .any), (60, .any), (61, .any), (62, .any), (63, .any), (64, .any), (65, .any), (66, .any), (67, .any), (68, .any), (69, .any), (70, .any), (71, .any), (72, .any), (73, .any), (74, .any), (75, .any), (76, .any), (77, .any), (78, .any), (79, .any), (80, .any), (81, .any), (82, .any), (83, .any), (84, .any), (85, .any), (86, .any), (87, .any), (88, .any), (89, .any), (90, .any), (91, .any), (92, .any), (93, .any), (94, .any)]) (fun s1 => h.ext [.cells [.int .u8 o0.kind, .sl 1 (o0.path.map strRow), .int .i64 o0.n, .str o0.text, .sl 3 (o0.dots.map GDot.row)]] []) hF (fun _ _ => by simp only [upd, List.set_cons_succ, List.set_cons_zero]; try rfl) (wk.le (by exact (.drop (.eq (.drop (.cons (leV.of_eq rfl) (.drop (.drop (.drop (.drop (.drop (.drop (.drop (.drop (.drop (.drop (.drop (.drop (.drop (.drop (.drop (.drop (.drop (.drop (.drop (.drop (.drop (.drop (.drop (.drop (.drop (.drop (.drop (.drop (.drop (.drop (.drop (.drop (.drop (.drop (.drop (.drop (.drop (.drop (.drop (.drop (.drop (.drop (.drop (.drop (.drop (.drop (.drop (.drop (.drop (.drop (.drop (.drop (.drop (.drop (.drop (.drop (.drop (.drop (.drop (.drop (.drop (.drop (.drop (.drop (.drop (.drop (.drop (.drop (.drop (.drop (.drop (.drop (.drop (.drop (.drop (.drop (.drop (.drop (.drop (.drop (.drop (.drop (.drop (.drop (.drop (.drop (.drop (.drop (.drop (.drop (.drop leL.nil))))))))))))))))))))))))))))))))))))))))))))))))))))))))))))))))))))))))))))))))))))))))))))))))) ?_
        intro n1 s1 hi1 hF
        refine r_seq ?_
        refine r_seq ?_
        refine r_region ?_
        refine ops_ok rfl (s_move rfl gt3 (tyo_ok rfl)) st62 ?_
        refine ops_ok rfl (s_fieldAddr rfl fo31x4 gt1 rfl) st63 ?_
        refine ops_ok rfl (e_load rfl ty29 gt63 rfl (ldC_one rfl) (tyo_ok rfl)) st64 ?_
        refine ops_len rfl (s_lenSl rfl rfl rfl rfl el29 gt64 lenMap) st65 fun hn25 => ?_
        replace hn25 := lenN hn25
        refine ops_ok rfl (s_bin rfl gt62 gt65 rfl) st66 ?_
        refine ops_nil ?_
        refine q_seq ?_
        refine r_condL gt66 hF (fun x1 o1 hl1 hx1 hF hK1 => ?_) (fun hF => ?_)
        · skip
          refine r_skip ?_
          refine q_seq ?_
          refine r_seq ?_
          refine r_block ?_
          refine r_seq ?_
          refine r_drawn mixed (by kernel_rfl) ?_
          refine draw_ok rfl (s_fieldAddr rfl fo31x4 gt1 rfl) st69 ?_
          refine draw_ok rfl (e_load rfl ty29 gt69 rfl (ldC_one rfl) (tyo_ok rfl)) st70 ?_
          refine draw_ok rfl (s_move rfl gt3 (tyo_ok rfl)) st71 ?_
          refine draw_ok rfl (s_idxRow rfl el29 gt70 gt71 isl (idx_of hx1)) st72 ?_
          refine draw_ok rfl (f_load rfl ty27.choose_spec.1 gt72 (ldC_agX (cs' := [.int .u8 x1.actor.rep, .int .u32 x1.actor.inc, .int .u64 x1.seq]) ty27.choose_spec.2 rfl rfl) (tyo_ok rfl)) st73 ?_
          refine bindF hF (fun v26 hv26 hF => ?_)
          refine draw_call rfl (s_call0 rfl rfl rfl (argo_cons gt73 argo_nil) (.cons (tyo_ok rfl) .nil)) (ok55 hv26) st74 ?_
          refine draw_ok rfl (s_un rfl gt74 rfl) st75 ?_
          refine draw_ok rfl (s_move rfl gt75 (tyo_ok rfl)) st76 ?_
          refine draw_gv rfl (fun hb => s_move rfl gt3 (tyo_ok rfl)) st77 ?_
          refine draw_gv rfl (fun hb => s_bin rfl (evo_gv gt77 hb) rfl rfl) st78 ?_
          refine draw_gv rfl (fun hb => s_move rfl (evo_gv gt78 hb) (tyo_ok rfl)) st79 ?_
          refine draw_gv (aG_gv rfl rfl rfl) (fun hb => s_fieldAddr rfl fo31x4 gt1 rfl) st80 ?_
          refine draw_gv (aG_gv rfl rfl rfl) (fun hb => e_load rfl ty29 (evo_gv gt80 hb) rfl (ldC_one rfl) (tyo_ok rfl)) st81 ?_
          refine draw_gv (aG_gv rfl rfl rfl) (fun hb => s_move rfl gt3 (tyo_ok rfl)) st82 ?_
          refine draw_gv (aG_gv rfl rfl rfl) (fun hb => s_bin rfl (evo_gv gt82 hb) rfl rfl) st83 ?_
          refine chkF hF (fun hg27 hF => ?_)
          refine draw_gv (aG_gv rfl rfl rfl) (fun hb => s_gidxRow default rfl el29 (evo_gv gt81 hb) (evo_gv gt83 hb) isl (hg27 hb)) st84 ?_
          refine draw_gv (aG_gv rfl rfl rfl) (fun hb => f_load rfl ty27.choose_spec.1 (evo_gv gt84 hb) (ldC_agX (cs' := [.int .u8 (((o0.dots).getD (IntKind.wrap .i64 ((n1 : Int) - (1 : Int))).toNat default).actor.rep), .int .u32 (((o0.dots).getD (IntKind.wrap .i64 ((n1 : Int) - (1 : Int))).toNat default).actor.inc), .int .u64 (((o0.dots).getD (IntKind.wrap .i64 ((n1 : Int) - (1 : Int))).toNat default).seq)]) ty27.choose_spec.2 rfl rfl) (tyo_ok rfl)) st85 ?_
          refine draw_gv (aG_gv rfl rfl rfl) (fun hb => s_fieldAddr rfl fo31x4 gt1 rfl) st86 ?_
          refine draw_gv (aG_gv rfl rfl rfl) (fun hb => e_load rfl ty29 (evo_gv gt86 hb) rfl (ldC_one rfl) (tyo_ok rfl)) st87 ?_
          refine draw_gv (aG_gv rfl rfl rfl) (fun hb => s_move rfl gt3 (tyo_ok rfl)) st88 ?_
          refine chkF hF (fun hg28 hF => ?_)
          refine draw_gv (aG_gv rfl rfl rfl) (fun hb => s_gidxRow default rfl el29 (evo_gv gt87 hb) (evo_gv gt88 hb) isl (hg28 hb)) st89 ?_
          refine draw_gv (aG_gv rfl rfl rfl) (fun hb => f_load rfl ty27.choose_spec.1 (evo_gv gt89 hb) (ldC_agX (cs' := [.int .u8 (((o0.dots).getD (n1 : Int).toNat default).actor.rep), .int .u32 (((o0.dots).getD (n1 : Int).toNat default).actor.inc), .int .u64 (((o0.dots).getD (n1 : Int).toNat default).seq)]) ty27.choose_spec.2 rfl rfl) (tyo_ok rfl)) st90 ?_
          refine gbindF hF (fun v29 hv29 hF => ?_)
          refine draw_gcall (aG_gv rfl rfl rfl) (fun hb => s_call0 rfl rfl rfl (argo_cons (evo_gv gt85 hb) (argo_cons (evo_gv gt90 hb) argo_nil)) (.cons (tyo_ok rfl) (.cons (tyo_ok rfl) .nil))) (fun hb => ok56 (hv29 hb)) st91 ?_
          refine draw_gv (aG_gv rfl rfl rfl) (fun hb => s_un rfl (evo_gv gt91 hb) rfl) st92 ?_
          refine draw_gv rfl (fun hb => s_pick rfl (evo_gv gt79 hb) gt92 rfl (pick_and (fun ht => gT2 hb ht))) st93 ?_
          refine draw_ok rfl (s_pick rfl gt76 rfl gt93 (pick_or (fun ht => gF ht))) st94 ?_
          refine draw_nil ?_
          refine q_seq ?_
          refine r_condF gt94 hF (fun hc30 hF => ?_) (fun hc30 hF => ?_)
          · skip
            refine r_seq ?_
            refine r_region ?_
            refine ops_ok rfl (s_assign rfl rfl (tyo_ok rfl)) st2 ?_
            refine ops_nil ?_
            refine q_seq ?_
            refine r_ret ?_
            refine q_block_ret ?_
            refine q_seq_ret ?_
            refine q_loop_ret ?_
            obtain rfl := Option.some.inj hF
            replace hF := hK1
            refine q_block_ret ?_
            refine q_seq_ret ?_
            obtain rfl := Option.some.inj hF
            refine q_retL1 rfl (rl_tmp gt2 rl_nil) (fin_ext (leV.refl _) rfl ?_)
            exact ⟨rfl, rfl⟩
          · skip
            refine r_skip ?_
            refine q_block ?_
            refine q_seq ?_
            refine r_region ?_
            refine ops_ok rfl (s_move rfl gt3 (tyo_ok rfl)) st67 ?_
            refine ops_ok rfl (s_bin rfl gt67 rfl rfl) st68 ?_
            refine ops_ok rfl (s_assign rfl gt68 (tyo_ok rfl)) st3 ?_
            refine ops_nil ?_
            refine q_loop ?_
            obtain rfl := Option.some.inj hF
            exact ⟨(), hl1, hK1, wk.le (by exact (.drop (.eq (.drop (.cons (leV.of_eq (w64e (by omega) (by omega))) (.drop (.drop (.drop (.drop (.drop (.drop (.drop (.drop (.drop (.drop (.drop (.drop (.drop (.drop (.drop (.drop (.drop (.drop (.drop (.drop (.drop (.drop (.drop (.drop (.drop (.drop (.drop (.drop (.drop (.drop (.drop (.drop (.drop (.drop (.drop (.drop (.drop (.drop (.drop (.drop (.drop (.drop (.drop (.drop (.drop (.drop (.drop (.drop (.drop (.drop (.drop (.drop (.drop (.drop (.drop (.drop (.drop (.drop (.drop (.drop (.drop (.drop (.drop (.drop (.drop (.drop (.drop (.drop (.drop (.drop (.drop (.drop (.drop (.drop (.drop (.drop (.drop (.drop (.drop (.drop (.drop (.drop (.drop (.drop (.drop (.drop (.drop (.drop (.drop (.drop (.drop leL.nil))))))))))))))))))))))))))))))))))))))))))))))))))))))))))))))))))))))))))))))))))))))))))))))))⟩
        · skip
          refine r_exit ?_
          refine q_seq_exit ?_
          refine q_loop_exit ?_
          refine q_block_hit ?_
          refine q_seq ?_
          refine r_seq ?_
          refine r_region ?_
          refine ops_ok rfl (s_assign rfl rfl (tyo_ok rfl)) st2 ?_
          refine ops_nil ?_
          refine q_seq ?_
          refine r_ret ?_
          obtain rfl := Option.some.inj hF
          refine q_retL1 rfl (rl_tmp gt2 rl_nil) (fin_ext (leV.refl _) rfl ?_)
          exact ⟨rfl, rfl⟩
/-! varve/op.MayEvent -/
theorem ok17 {e0 : GEvent} {res : Bool} {h : AH}  (hF : opMayEvent e0 = some res) : Spec Try.prog 17 [.agg [.int .u8 e0.dot.actor.rep, .int .u32 e0.dot.actor.inc, .int .u64 e0.dot.seq, .int .u64 e0.time, .int .u8 e0.op.kind, .sl 1 (e0.op.path.map strRow), .int .i64 e0.op.n, .str e0.op.text, .sl 3 (e0.op.dots.map GDot.row)]] h (fun rr hh => rr = .bool res ∧ hh = h) := by
  unfold opMayEvent at hF
  refine spec_of_body_ext Try.func17 rfl (by kernel_rfl) (env := [.agg [.int .u8 e0.dot.actor.rep, .int .u32 e0.dot.actor.inc, .int .u64 e0.dot.seq, .int .u64 e0.time, .int .u8 e0.op.kind, .sl 1 (e0.op.path.map strRow), .int .i64 e0.op.n, .str e0.op.text, .sl 3 (e0.op.dots.map GDot.row)], aundef, aundef, aundef, aundef, aundef, aundef, aundef, aundef, aundef, aundef, aundef, aundef, aundef, aundef, aundef, aundef, aundef, aundef, aundef, aundef]) (by rfl) ?_
  refine r_seq ?_
  refine r_region ?_
  refine ops_ok rfl (e_box (n := 0) rfl gt0 (tyo_ok rfl) rfl rfl) st1 ?_
  refine ops_ok rfl (s_assign rfl rfl (tyo_ok rfl)) st2 ?_
  refine ops_nil ?_
  refine q_seq ?_
  refine r_seq ?_
  refine r_region ?_
  refine ops_ok rfl (s_fieldAddr rfl fo33x0 gt1 rfl) st3 ?_
  refine ops_ok rfl (e_load rfl ty27.choose_spec.1 gt3 rfl (ldC_agX (cs' := [.int .u8 e0.dot.actor.rep, .int .u32 e0.dot.actor.inc, .int .u64 e0.dot.seq]) ty27.choose_spec.2 rfl rfl) (tyo_ok rfl)) st4 ?_
  refine bindF hF (fun v1 hv1 hF => ?_)
  refine ops_callP rfl (s_call0 rfl rfl rfl (argo_cons gt4 argo_nil) (.cons (tyo_ok rfl) .nil)) (ok57 hv1) st5 ?_
  refine ops_ok rfl (s_move rfl gt5 (tyo_ok rfl)) st6 ?_
  refine ops_gv rfl (fun hb => s_fieldAddr rfl fo33x1 gt1 rfl) st7 ?_
  refine ops_gv rfl (fun hb => e_load rfl ty25 (evo_gv gt7 hb) rfl (ldC_one rfl) (tyo_ok rfl)) st8 ?_
  refine ops_gv rfl (fun hb => s_bin rfl (evo_gv gt8 hb) rfl rfl) st9 ?_
  refine ops_ok rfl (s_pick rfl gt6 gt9 rfl (pick_and (fun ht => gT ht))) st10 ?_
  refine ops_ok rfl (s_move rfl gt10 (tyo_ok rfl)) st11 ?_
  refine ops_gv rfl (fun hb => s_fieldAddr rfl fo33x1 gt1 rfl) st12 ?_
  refine ops_gv rfl (fun hb => e_load rfl ty25 (evo_gv gt12 hb) rfl (ldC_one rfl) (tyo_ok rfl)) st13 ?_
  refine ops_gv rfl (fun hb => s_bin rfl (evo_gv gt13 hb) rfl rfl) st14 ?_
  refine ops_ok rfl (s_pick rfl gt11 gt14 rfl (pick_and (fun ht => gT ht))) st15 ?_
  refine ops_ok rfl (s_move rfl gt15 (tyo_ok rfl)) st16 ?_
  refine ops_gv rfl (fun hb => s_fieldAddr rfl fo33x2 gt1 rfl) st17 ?_
  refine ops_gv rfl (fun hb => e_load rfl ty31.choose_spec.1 (evo_gv gt17 hb) rfl (ldC_agX (cs' := [.int .u8 e0.op.kind, .sl 1 (e0.op.path.map strRow), .int .i64 e0.op.n, .str e0.op.text, .sl 3 (e0.op.dots.map GDot.row)]) ty31.choose_spec.2 rfl rfl) (tyo_ok rfl)) st18 ?_
  refine gbindF hF (fun v2 hv2 hF => ?_)
  refine ops_gcall rfl (fun hb => s_call0 rfl rfl rfl (argo_cons (evo_gv gt18 hb) argo_nil) (.cons (tyo_ok rfl) .nil)) (fun hb => ok15 (hv2 hb)) st19 ?_
  refine ops_ok rfl (s_pick rfl gt16 gt19 rfl (pick_and (fun ht => gT ht))) st20 ?_
  refine ops_ok rfl (s_assign rfl gt20 (tyo_ok rfl)) st2 ?_
  refine ops_nil ?_
  refine q_seq ?_
  refine r_ret ?_
  obtain rfl := Option.some.inj hF
  refine q_retL1 rfl (rl_tmp gt2 rl_nil) (fin_ext (leV.refl _) rfl ?_)
  exact ⟨rfl, rfl⟩
/-! varve/varveref04.MayEvent -/
theorem ok18 {e0 : GEvent} {res : Bool} {h : AH}  (hF : ref04MayEvent e0 = some res) : Spec Try.prog 18 [.agg [.int .u8 e0.dot.actor.rep, .int .u32 e0.dot.actor.inc, .int .u64 e0.dot.seq, .int .u64 e0.time, .int .u8 e0.op.kind, .sl 1 (e0.op.path.map strRow), .int .i64 e0.op.n, .str e0.op.text, .sl 3 (e0.op.dots.map GDot.row)]] h (fun rr hh => rr = .bool res ∧ hh = h) := by
  unfold ref04MayEvent at hF
  refine spec_of_body_ext Try.func18 rfl (by kernel_rfl) (env := [.agg [.int .u8 e0.dot.actor.rep, .int .u32 e0.dot.actor.inc, .int .u64 e0.dot.seq, .int .u64 e0.time, .int .u8 e0.op.kind, .sl 1 (e0.op.path.map strRow), .int .i64 e0.op.n, .str e0.op.text, .sl 3 (e0.op.dots.map GDot.row)], aundef, aundef, aundef, aundef, aundef, aundef, aundef, aundef, aundef, aundef, aundef, aundef, aundef, aundef, aundef, aundef, aundef, aundef, aundef, aundef]) (by rfl) ?_
  refine r_seq ?_
  refine r_region ?_
  refine ops_ok rfl (e_box (n := 0) rfl gt0 (tyo_ok rfl) rfl rfl) st1 ?_
  refine ops_ok rfl (s_assign rfl rfl (tyo_ok rfl)) st2 ?_
  refine ops_nil ?_
  refine q_seq ?_
  refine r_seq ?_
  refine r_region ?_
  refine ops_ok rfl (s_fieldAddr rfl fo33x0 gt1 rfl) st3 ?_
  refine ops_ok rfl (e_load rfl ty27.choose_spec.1 gt3 rfl (ldC_agX (cs' := [.int .u8 e0.dot.actor.rep, .int .u32 e0.dot.actor.inc, .int .u64 e0.dot.seq]) ty27.choose_spec.2 rfl rfl) (tyo_ok rfl)) st4 ?_
  refine bindF hF (fun v1 hv1 hF => ?_)
  refine ops_callP rfl (s_call0 rfl rfl rfl (argo_cons gt4 argo_nil) (.cons (tyo_ok rfl) .nil)) (ok55 hv1) st5 ?_
  refine ops_ok rfl (s_move rfl gt5 (tyo_ok rfl)) st6 ?_
  refine ops_gv rfl (fun hb => s_fieldAddr rfl fo33x1 gt1 rfl) st7 ?_
  refine ops_gv rfl (fun hb => e_load rfl ty25 (evo_gv gt7 hb) rfl (ldC_one rfl) (tyo_ok rfl)) st8 ?_
  refine ops_gv rfl (fun hb => s_bin rfl (evo_gv gt8 hb) rfl rfl) st9 ?_
  refine ops_ok rfl (s_pick rfl gt6 gt9 rfl (pick_and (fun ht => gT ht))) st10 ?_
  refine ops_ok rfl (s_move rfl gt10 (tyo_ok rfl)) st11 ?_
  refine ops_gv rfl (fun hb => s_fieldAddr rfl fo33x1 gt1 rfl) st12 ?_
  refine ops_gv rfl (fun hb => e_load rfl ty25 (evo_gv gt12 hb) rfl (ldC_one rfl) (tyo_ok rfl)) st13 ?_
  refine ops_gv rfl (fun hb => s_bin rfl (evo_gv gt13 hb) rfl rfl) st14 ?_
  refine ops_ok rfl (s_pick rfl gt11 gt14 rfl (pick_and (fun ht => gT ht))) st15 ?_
  refine ops_ok rfl (s_move rfl gt15 (tyo_ok rfl)) st16 ?_
  refine ops_gv rfl (fun hb => s_fieldAddr rfl fo33x2 gt1 rfl) st17 ?_
  refine ops_gv rfl (fun hb => e_load rfl ty31.choose_spec.1 (evo_gv gt17 hb) rfl (ldC_agX (cs' := [.int .u8 e0.op.kind, .sl 1 (e0.op.path.map strRow), .int .i64 e0.op.n, .str e0.op.text, .sl 3 (e0.op.dots.map GDot.row)]) ty31.choose_spec.2 rfl rfl) (tyo_ok rfl)) st18 ?_
  refine gbindF hF (fun v2 hv2 hF => ?_)
  refine ops_gcall rfl (fun hb => s_call0 rfl rfl rfl (argo_cons (evo_gv gt18 hb) argo_nil) (.cons (tyo_ok rfl) .nil)) (fun hb => ok16 (hv2 hb)) st19 ?_
  refine ops_ok rfl (s_pick rfl gt16 gt19 rfl (pick_and (fun ht => gT ht))) st20 ?_
  refine ops_ok rfl (s_assign rfl gt20 (tyo_ok rfl)) st2 ?_
  refine ops_nil ?_
  refine q_seq ?_
  refine r_ret ?_
  obtain rfl := Option.some.inj hF
  refine q_retL1 rfl (rl_tmp gt2 rl_nil) (fin_ext (leV.refl _) rfl ?_)
  exact ⟨rfl, rfl⟩
/-! varve/op.Type -/
theorem ok19 {k0 : Int} {res : Int} {h : AH}  (hF : opType k0 = some res) : Spec Try.prog 19 [.int .u8 k0] h (fun rr hh => rr = .int .u8 res ∧ hh = h) := by
  unfold opType at hF
  refine spec_of_body_ext Try.func19 rfl (by kernel_rfl) (env := [.int .u8 k0, aundef, aundef, aundef, aundef, aundef, aundef, aundef, aundef, aundef, aundef, aundef]) (by rfl) ?_
  refine r_seq ?_
  refine r_region ?_
  refine ops_ok rfl (s_assign rfl rfl (tyo_ok rfl)) st2 ?_
  refine ops_nil ?_
  refine q_seq ?_
  refine r_seq ?_
  refine r_region ?_
  refine ops_ok rfl (s_move rfl gt0 (tyo_ok rfl)) st6 ?_
  refine bindF hF (fun v1 hv1 hF => ?_)
  refine ops_callP rfl (s_call0 rfl rfl rfl (argo_cons gt6 argo_nil) (.cons (tyo_ok rfl) .nil)) (ok54 hv1) st7 ?_
  refine ops_ok rfl (s_move rfl gt7 (tyo_ok rfl)) st5 ?_
  refine ops_ok rfl (s_extract rfl gt5 rfl (tyo_ok rfl)) st8 ?_
  refine ops_ok rfl (s_extract rfl gt5 rfl (tyo_ok rfl)) st9 ?_
  refine ops_ok rfl (e_alloc (n := 0) rfl ze92 rfl) st3 ?_
  refine ops_ok rfl (e_store (cs' := [.int .u8 v1.1.leaf, fvOp v1.1.may]) rfl ty92.choose_spec.1 gt3 gt8 (tyo_ok rfl) rfl rfl rfl rfl rfl) rfl ?_
  refine ops_ok rfl (s_assign rfl gt9 (tyo_ok rfl)) st4 ?_
  refine ops_nil ?_
  refine q_seq ?_
  refine r_seq ?_
  refine r_region ?_
  refine ops_ok rfl (s_fieldAddr rfl fo92x0 gt3 rfl) st10 ?_
  refine ops_ok rfl (e_load rfl ty5 gt10 rfl (ldC_one rfl) (tyo_ok rfl)) st11 ?_
  refine ops_ok rfl (s_assign rfl gt11 (tyo_ok rfl)) st2 ?_
  refine ops_nil ?_
  refine q_seq ?_
  refine r_ret ?_
  obtain rfl := Option.some.inj hF
  refine q_retL1 rfl (rl_tmp gt2 rl_nil) (fin_ext (leV.refl _) rfl ?_)
  exact ⟨rfl, rfl⟩
/-! slices.Equal[[]string,string] -/
theorem ok58 {s10 : (List Str)} {s21 : (List Str)} {res : Bool} {h : AH}  (hF : slicesEqualString s10 s21 = some res) : Spec Try.prog 58 [.sl 1 (s10.map strRow), .sl 1 (s21.map strRow)] h (fun rr hh => rr = .bool res ∧ hh = h) := by
  unfold slicesEqualString at hF
  refine spec_of_body_ext Try.func58 rfl (by kernel_rfl) (env := [.sl 1 (s10.map strRow), .sl 1 (s21.map strRow), aundef, aundef, aundef, aundef, aundef, aundef, aundef, aundef, aundef, aundef, aundef, aundef, aundef, aundef, aundef, aundef, aundef, aundef, aundef, aundef, aundef, aundef, aundef, aundef]) (by rfl) ?_
  refine r_seq ?_
  refine r_region ?_
  refine ops_ok rfl (s_assign rfl rfl (tyo_ok rfl)) st4 ?_
  refine ops_nil ?_
  refine q_seq ?_
  refine r_seq ?_
  refine r_seq ?_
  refine r_region ?_
  refine ops_ok rfl (s_move rfl gt0 (tyo_ok rfl)) st6 ?_
  refine ops_len rfl (s_lenSl rfl rfl rfl rfl el28 gt6 lenMap) st7 fun hn1 => ?_
  replace hn1 := lenN hn1
  refine ops_ok rfl (s_move rfl gt1 (tyo_ok rfl)) st8 ?_
  refine ops_len rfl (s_lenSl rfl rfl rfl rfl el28 gt8 lenMap) st9 fun hn2 => ?_
  replace hn2 := lenN hn2
  refine ops_ok rfl (s_bin rfl gt7 gt9 rfl) st10 ?_
  refine ops_nil ?_
  refine q_seq ?_
  refine r_condF gt10 hF (fun hc3 hF => ?_) (fun hc3 hF => ?_)
  · skip
    refine r_seq ?_
    refine r_region ?_
    refine ops_ok rfl (s_assign rfl rfl (tyo_ok rfl)) st4 ?_
    refine ops_nil ?_
    refine q_seq ?_
    refine r_ret ?_
    refine q_seq_ret ?_
    obtain rfl := Option.some.inj hF
    refine q_retL1 rfl (rl_tmp gt4 rl_nil) (fin_ext (leV.refl _) rfl ?_)
    exact ⟨rfl, rfl⟩
  · skip
    refine r_skip ?_
    refine q_seq ?_
    refine r_seq ?_
    refine r_seq ?_
    refine r_region ?_
    refine ops_ok rfl (s_move rfl gt0 (tyo_ok rfl)) st11 ?_
    refine ops_len rfl (s_lenSl rfl rfl rfl rfl el28 gt11 lenMap) st12 fun hn4 => ?_
    replace hn4 := lenN hn4
    refine ops_ok rfl (s_move rfl rfl (tyo_ok rfl)) st13 ?_
    refine ops_nil ?_
    refine q_seq ?_
    refine r_block ?_
    refine r_loopLF (fun (n1 : Nat) (s1 : Unit) => [(2, .any), (3, .any), (4, .any), (5, .any), (6, .any), (7, .any), (8, .any), (9, .any), (10, .any), (11, .any), (13, .int .i64 (n1 : Int)), (14, .any), (15, .any), (16, .any), (17, .any), (18, .any), (19, .any), (20, .any), (21, .any), (22, .any), (23, .any), (24, .any), (25, .any)]) (fun s1 => h.ext [] []) hF (fun _ _ => by simp only [upd, List.set_cons_succ, List.set_cons_zero]; try rfl) (wk.le (by exact (.eq (.eq (.drop (.drop (.drop (.drop (.drop (.drop (.drop (.drop (.drop (.drop (.eq (.cons (leV.of_eq rfl) (.drop (.drop (.drop (.drop (.drop (.drop (.drop (.drop (.drop (.drop (.drop (.drop leL.nil)))))))))))))))))))))))))))) ?_
    intro n1 s1 hi1 hF
    refine r_seq ?_
    refine r_region ?_
    refine ops_ok rfl (s_bin rfl gt13 gt12 rfl) st14 ?_
    refine ops_nil ?_
    refine q_seq ?_
    refine r_seq ?_
    refine r_condL gt14 hF (fun x1 o1 hl1 hx1 hF hK1 => ?_) (fun hF => ?_)
    · skip
      refine r_skip ?_
      refine q_seq ?_
      refine r_seq ?_
      refine r_block ?_
      refine r_seq ?_
      refine r_region ?_
      refine ops_ok rfl (s_move rfl gt13 (tyo_ok rfl)) st15 ?_
      refine ops_ok rfl (s_assign rfl gt15 (tyo_ok rfl)) st5 ?_
      refine ops_nil ?_
      refine q_seq ?_
      refine r_seq ?_
      refine r_drawn mixed (by kernel_rfl) ?_
      refine draw_ok rfl (s_move rfl gt0 (tyo_ok rfl)) st16 ?_
      refine draw_ok rfl (s_move rfl gt5 (tyo_ok rfl)) st17 ?_
      refine draw_ok rfl (s_idxRow rfl el28 gt16 gt17 isl (idx_of hx1)) st18 ?_
      refine draw_ok rfl (f_load rfl ty9 gt18 (ldC_one rfl) (tyo_ok rfl)) st19 ?_
      refine draw_ok rfl (s_move rfl gt1 (tyo_ok rfl)) st20 ?_
      refine draw_ok rfl (s_move rfl gt5 (tyo_ok rfl)) st21 ?_
      refine bindF hF (fun y10 hy10 hF => ?_)
      refine draw_ok rfl (s_idxRow rfl el28 gt20 gt21 isl hy10) st22 ?_
      refine draw_ok rfl (f_load rfl ty9 gt22 (ldC_one rfl) (tyo_ok rfl)) st23 ?_
      refine draw_ok rfl (s_bin rfl gt19 gt23 rfl) st24 ?_
      refine draw_nil ?_
      refine q_seq ?_
      refine r_condF gt24 hF (fun hc11 hF => ?_) (fun hc11 hF => ?_)
      · skip
        refine r_seq ?_
        refine r_region ?_
        refine ops_ok rfl (s_assign rfl rfl (tyo_ok rfl)) st4 ?_
        refine ops_nil ?_
        refine q_seq ?_
        refine r_ret ?_
        refine q_block_ret ?_
        refine q_seq_ret ?_
        refine q_loop_ret ?_
        obtain rfl := Option.some.inj hF
        replace hF := hK1
        refine q_block_ret ?_
        refine q_seq_ret ?_
        obtain rfl := Option.some.inj hF
        refine q_retL1 rfl (rl_tmp gt4 rl_nil) (fin_ext (leV.refl _) rfl ?_)
        exact ⟨rfl, rfl⟩
      · skip
        refine r_skip ?_
        refine q_block ?_
        refine q_seq ?_
        refine r_region ?_
        refine ops_ok rfl (s_bin rfl gt13 rfl rfl) st25 ?_
        refine ops_ok rfl (s_move rfl gt25 (tyo_ok rfl)) st13 ?_
        refine ops_nil ?_
        refine q_loop ?_
        obtain rfl := Option.some.inj hF
        exact ⟨(), hl1, hK1, wk.le (by exact (.eq (.eq (.drop (.drop (.drop (.drop (.drop (.drop (.drop (.drop (.drop (.drop (.eq (.cons (leV.of_eq (w64e (by omega) (by omega))) (.drop (.drop (.drop (.drop (.drop (.drop (.drop (.drop (.drop (.drop (.drop (.drop leL.nil)))))))))))))))))))))))))))⟩
    · skip
      refine r_exit ?_
      refine q_seq_exit ?_
      refine q_loop_exit ?_
      refine q_block_hit ?_
      refine q_seq ?_
      refine r_seq ?_
      refine r_region ?_
      refine ops_ok rfl (s_assign rfl rfl (tyo_ok rfl)) st4 ?_
      refine ops_nil ?_
      refine q_seq ?_
      refine r_ret ?_
      obtain rfl := Option.some.inj hF
      refine q_retL1 rfl (rl_tmp gt4 rl_nil) (fin_ext (leV.refl _) rfl ?_)
      exact ⟨rfl, rfl⟩
/-! slices.Equal[[]varve/api.Dot,varve/api.Dot] -/
theorem ok59 {s10 : (List GDot)} {s21 : (List GDot)} {res : Bool} {h : AH}  (hF : slicesEqualDot s10 s21 = some res) : Spec Try.prog 59 [.sl 3 (s10.map GDot.row), .sl 3 (s21.map GDot.row)] h (fun rr hh => rr = .bool res ∧ hh = h) := by
  unfold slicesEqualDot at hF
  refine spec_of_body_ext Try.func59 rfl (by kernel_rfl) (env := [.sl 3 (s10.map GDot.row), .sl 3 (s21.map GDot.row), aundef, aundef, aundef, aundef, aundef, aundef, aundef, aundef, aundef, aundef, aundef, aundef, aundef, aundef, aundef, aundef, aundef, aundef, aundef, aundef, aundef, aundef, aundef, aundef]) (by rfl) ?_
  refine r_seq ?_
  refine r_region ?_
  refine ops_ok rfl (s_assign rfl rfl (tyo_ok rfl)) st4 ?_
  refine ops_nil ?_
  refine q_seq ?_
  refine r_seq ?_
  refine r_seq ?_
  refine r_region ?_
  refine ops_ok rfl (s_move rfl gt0 (tyo_ok rfl)) st6 ?_
  refine ops_len rfl (s_lenSl rfl rfl rfl rfl el29 gt6 lenMap) st7 fun hn1 => ?_
  replace hn1 := lenN hn1
  refine ops_ok rfl (s_move rfl gt1 (tyo_ok rfl)) st8 ?_
  refine ops_len rfl (s_lenSl rfl rfl rfl rfl el29 gt8 lenMap) st9 fun hn2 => ?_
  replace hn2 := lenN hn2
  refine ops_ok rfl (s_bin rfl gt7 gt9 rfl) st10 ?_
  refine ops_nil ?_
  refine q_seq ?_
  refine r_condF gt10 hF (fun hc3 hF => ?_) (fun hc3 hF => ?_)
  · skip
    refine r_seq ?_
    refine r_region ?_
    refine ops_ok rfl (s_assign rfl rfl (tyo_ok rfl)) st4 ?_
    refine ops_nil ?_
    refine q_seq ?_
    refine r_ret ?_
    refine q_seq_ret ?_
    obtain rfl := Option.some.inj hF
    refine q_retL1 rfl (rl_tmp gt4 rl_nil) (fin_ext (leV.refl _) rfl ?_)
    exact ⟨rfl, rfl⟩
  · skip
    refine r_skip ?_
    refine q_seq ?_
    refine r_seq ?_
    refine r_seq ?_
    refine r_region ?_
    refine ops_ok rfl (s_move rfl gt0 (tyo_ok rfl)) st11 ?_
    refine ops_len rfl (s_lenSl rfl rfl rfl rfl el29 gt11 lenMap) st12 fun hn4 => ?_
    replace hn4 := lenN hn4
    refine ops_ok rfl (s_move rfl rfl (tyo_ok rfl)) st13 ?_
    refine ops_nil ?_
    refine q_seq ?_
    refine r_block ?_
    refine r_loopLF (fun (n1 : Nat) (s1 : Unit) => [(2, .any), (3, .any), (4, .any), (5, .any), (6, .any), (7, .any), (8, .any), (9, .any), (10, .any), (11, .any), (13, .int .i64 (n1 : Int)), (14, .any), (15, .any), (16, .any), (17, .any), (18, .any), (19, .any), (20, .any), (21, .any), (22, .any), (23, .any), (24, .any), (25, .any)]) (fun s1 => h.ext [] []) hF (fun _ _ => by simp only [upd, List.set_cons_succ, List.set_cons_zero]; try rfl) (wk.le (by exact (.eq (.eq (.drop (.drop (.drop (.drop (.drop (.drop (.drop (.drop (.drop (.drop (.eq (.cons (leV.of_eq rfl) (.drop (.drop (.drop (.drop (.drop (.drop (.drop (.drop (.drop (.drop (.drop (.drop leL.nil)))))))))))))))))))))))))))) ?_
    intro n1 s1 hi1 hF
    refine r_seq ?_
    refine r_region ?_
    refine ops_ok rfl (s_bin rfl gt13 gt12 rfl) st14 ?_
    refine ops_nil ?_
    refine q_seq ?_
    refine r_seq ?_
    refine r_condL gt14 hF (fun x1 o1 hl1 hx1 hF hK1 => ?_) (fun hF => ?_)
    · skip
      refine r_skip ?_
      refine q_seq ?_
      refine r_seq ?_
      refine r_block ?_
      refine r_seq ?_
      refine r_region ?_
      refine ops_ok rfl (s_move rfl gt13 (tyo_ok rfl)) st15 ?_
      refine ops_ok rfl (s_assign rfl gt15 (tyo_ok rfl)) st5 ?_
      refine ops_nil ?_
      refine q_seq ?_
      refine r_seq ?_
      refine r_drawn mixed (by kernel_rfl) ?_
      refine draw_ok rfl (s_move rfl gt0 (tyo_ok rfl)) st16 ?_
      refine draw_ok rfl (s_move rfl gt5 (tyo_ok rfl)) st17 ?_
      refine draw_ok rfl (s_idxRow rfl el29 gt16 gt17 isl (idx_of hx1)) st18 ?_
      refine draw_ok rfl (f_load rfl ty27.choose_spec.1 gt18 (ldC_agX (cs' := [.int .u8 x1.actor.rep, .int .u32 x1.actor.inc, .int .u64 x1.seq]) ty27.choose_spec.2 rfl rfl) (tyo_ok rfl)) st19 ?_
      refine draw_ok rfl (s_move rfl gt1 (tyo_ok rfl)) st20 ?_
      refine draw_ok rfl (s_move rfl gt5 (tyo_ok rfl)) st21 ?_
      refine bindF hF (fun y10 hy10 hF => ?_)
      refine draw_ok rfl (s_idxRow rfl el29 gt20 gt21 isl hy10) st22 ?_
      refine draw_ok rfl (f_load rfl ty27.choose_spec.1 gt22 (ldC_agX (cs' := [.int .u8 y10.actor.rep, .int .u32 y10.actor.inc, .int .u64 y10.seq]) ty27.choose_spec.2 rfl rfl) (tyo_ok rfl)) st23 ?_
      refine draw_ok rfl (s_bin rfl gt19 gt23 (bin_ne pk27 rfl)) st24 ?_
      refine draw_nil ?_
      refine q_seq ?_
      refine r_condF gt24 hF (fun hc11 hF => ?_) (fun hc11 hF => ?_)
      · skip
        refine r_seq ?_
        refine r_region ?_
        refine ops_ok rfl (s_assign rfl rfl (tyo_ok rfl)) st4 ?_
        refine ops_nil ?_
        refine q_seq ?_
        refine r_ret ?_
        refine q_block_ret ?_
        refine q_seq_ret ?_
        refine q_loop_ret ?_
        obtain rfl := Option.some.inj hF
        replace hF := hK1
        refine q_block_ret ?_
        refine q_seq_ret ?_
        obtain rfl := Option.some.inj hF
        refine q_retL1 rfl (rl_tmp gt4 rl_nil) (fin_ext (leV.refl _) rfl ?_)
        exact ⟨rfl, rfl⟩
      · skip
        refine r_skip ?_
        refine q_block ?_
        refine q_seq ?_
        refine r_region ?_
        refine ops_ok rfl (s_bin rfl gt13 rfl rfl) st25 ?_
        refine ops_ok rfl (s_move rfl gt25 (tyo_ok rfl)) st13 ?_
        refine ops_nil ?_
        refine q_loop ?_
        obtain rfl := Option.some.inj hF
        exact ⟨(), hl1, hK1, wk.le (by exact (.eq (.eq (.drop (.drop (.drop (.drop (.drop (.drop (.drop (.drop (.drop (.drop (.eq (.cons (leV.of_eq (w64e (by omega) (by omega))) (.drop (.drop (.drop (.drop (.drop (.drop (.drop (.drop (.drop (.drop (.drop (.drop leL.nil)))))))))))))))))))))))))))⟩
    · skip
      refine r_exit ?_
      refine q_seq_exit ?_
      refine q_loop_exit ?_
      refine q_block_hit ?_
      refine q_seq ?_
      refine r_seq ?_
      refine r_region ?_
      refine ops_ok rfl (s_assign rfl rfl (tyo_ok rfl)) st4 ?_
      refine ops_nil ?_
      refine q_seq ?_
      refine r_ret ?_
      obtain rfl := Option.some.inj hF
      refine q_retL1 rfl (rl_tmp gt4 rl_nil) (fin_ext (leV.refl _) rfl ?_)
      exact ⟨rfl, rfl⟩
/-! varve/op.Same -/
theorem ok21 {a0 : GOp} {b1 : GOp} {res : Bool} {h : AH}  (hF : opSame a0 b1 = some res) : Spec Try.prog 21 [.agg [.int .u8 a0.kind, .sl 1 (a0.path.map strRow), .int .i64 a0.n, .str a0.text, .sl 3 (a0.dots.map GDot.row)], .agg [.int .u8 b1.kind, .sl 1 (b1.path.map strRow), .int .i64 b1.n, .str b1.text, .sl 3 (b1.dots.map GDot.row)]] h (fun rr hh => rr = .bool res ∧ hh = h) := by
  unfold opSame at hF
  refine spec_of_body_ext Try.func21 rfl (by kernel_rfl) (env := [.agg [.int .u8 a0.kind, .sl 1 (a0.path.map strRow), .int .i64 a0.n, .str a0.text, .sl 3 (a0.dots.map GDot.row)], .agg [.int .u8 b1.kind, .sl 1 (b1.path.map strRow), .int .i64 b1.n, .str b1.text, .sl 3 (b1.dots.map GDot.row)], aundef, aundef, aundef, aundef, aundef, aundef, aundef, aundef, aundef, aundef, aundef, aundef, aundef, aundef, aundef, aundef, aundef, aundef, aundef, aundef, aundef, aundef, aundef, aundef, aundef, aundef, aundef, aundef, aundef, aundef, aundef, aundef, aundef, aundef, aundef, aundef]) (by rfl) ?_
  refine r_seq ?_
  refine r_region ?_
  refine ops_ok rfl (e_box (n := 0) rfl gt0 (tyo_ok rfl) rfl rfl) st2 ?_
  refine ops_ok rfl (e_box (n := 1) rfl gt1 (tyo_ok rfl) rfl rfl) st3 ?_
  refine ops_ok rfl (s_assign rfl rfl (tyo_ok rfl)) st4 ?_
  refine ops_nil ?_
  refine q_seq ?_
  refine r_seq ?_
  refine r_region ?_
  refine ops_ok rfl (s_fieldAddr rfl fo31x0 gt2 rfl) st5 ?_
  refine ops_ok rfl (e_load rfl ty5 gt5 rfl (ldC_one rfl) (tyo_ok rfl)) st6 ?_
  refine ops_ok rfl (s_fieldAddr rfl fo31x0 gt3 rfl) st7 ?_
  refine ops_ok rfl (e_load rfl ty5 gt7 rfl (ldC_one rfl) (tyo_ok rfl)) st8 ?_
  refine ops_ok rfl (s_bin rfl gt6 gt8 rfl) st9 ?_
  refine ops_ok rfl (s_move rfl gt9 (tyo_ok rfl)) st10 ?_
  refine ops_gv rfl (fun hb => s_fieldAddr rfl fo31x1 gt2 rfl) st11 ?_
  refine ops_gv rfl (fun hb => e_load rfl ty28 (evo_gv gt11 hb) rfl (ldC_one rfl) (tyo_ok rfl)) st12 ?_
  refine ops_gv rfl (fun hb => s_fieldAddr rfl fo31x1 gt3 rfl) st13 ?_
  refine ops_gv rfl (fun hb => e_load rfl ty28 (evo_gv gt13 hb) rfl (ldC_one rfl) (tyo_ok rfl)) st14 ?_
  refine gbindF hF (fun v1 hv1 hF => ?_)
  refine ops_gcall rfl (fun hb => s_call0 rfl rfl rfl (argo_cons (evo_gv gt12 hb) (argo_cons (evo_gv gt14 hb) argo_nil)) (.cons (tyo_ok rfl) (.cons (tyo_ok rfl) .nil))) (fun hb => ok58 (hv1 hb)) st15 ?_
  refine ops_ok rfl (s_pick rfl gt10 gt15 rfl (pick_and (fun ht => gT ht))) st16 ?_
  refine ops_ok rfl (s_move rfl gt16 (tyo_ok rfl)) st17 ?_
  refine ops_gv rfl (fun hb => s_fieldAddr rfl fo31x2 gt2 rfl) st18 ?_
  refine ops_gv rfl (fun hb => e_load rfl ty2 (evo_gv gt18 hb) rfl (ldC_one rfl) (tyo_ok rfl)) st19 ?_
  refine ops_gv rfl (fun hb => s_fieldAddr rfl fo31x2 gt3 rfl) st20 ?_
  refine ops_gv rfl (fun hb => e_load rfl ty2 (evo_gv gt20 hb) rfl (ldC_one rfl) (tyo_ok rfl)) st21 ?_
  refine ops_gv rfl (fun hb => s_bin rfl (evo_gv gt19 hb) (evo_gv gt21 hb) rfl) st22 ?_
  refine ops_ok rfl (s_pick rfl gt17 gt22 rfl (pick_and (fun ht => gT ht))) st23 ?_
  refine ops_ok rfl (s_move rfl gt23 (tyo_ok rfl)) st24 ?_
  refine ops_gv rfl (fun hb => s_fieldAddr rfl fo31x3 gt2 rfl) st25 ?_
  refine ops_gv rfl (fun hb => e_load rfl ty9 (evo_gv gt25 hb) rfl (ldC_one rfl) (tyo_ok rfl)) st26 ?_
  refine ops_gv rfl (fun hb => s_fieldAddr rfl fo31x3 gt3 rfl) st27 ?_
  refine ops_gv rfl (fun hb => e_load rfl ty9 (evo_gv gt27 hb) rfl (ldC_one rfl) (tyo_ok rfl)) st28 ?_
  refine ops_gv rfl (fun hb => s_bin rfl (evo_gv gt26 hb) (evo_gv gt28 hb) rfl) st29 ?_
  refine ops_ok rfl (s_pick rfl gt24 gt29 rfl (pick_and (fun ht => gT ht))) st30 ?_
  refine ops_ok rfl (s_move rfl gt30 (tyo_ok rfl)) st31 ?_
  refine ops_gv rfl (fun hb => s_fieldAddr rfl fo31x4 gt2 rfl) st32 ?_
  refine ops_gv rfl (fun hb => e_load rfl ty29 (evo_gv gt32 hb) rfl (ldC_one rfl) (tyo_ok rfl)) st33 ?_
  refine ops_gv rfl (fun hb => s_fieldAddr rfl fo31x4 gt3 rfl) st34 ?_
  refine ops_gv rfl (fun hb => e_load rfl ty29 (evo_gv gt34 hb) rfl (ldC_one rfl) (tyo_ok rfl)) st35 ?_
  refine gbindF hF (fun v2 hv2 hF => ?_)
  refine ops_gcall rfl (fun hb => s_call0 rfl rfl rfl (argo_cons (evo_gv gt33 hb) (argo_cons (evo_gv gt35 hb) argo_nil)) (.cons (tyo_ok rfl) (.cons (tyo_ok rfl) .nil))) (fun hb => ok59 (hv2 hb)) st36 ?_
  refine ops_ok rfl (s_pick rfl gt31 gt36 rfl (pick_and (fun ht => gT ht))) st37 ?_
  refine ops_ok rfl (s_assign rfl gt37 (tyo_ok rfl)) st4 ?_
  refine ops_nil ?_
  refine q_seq ?_
  refine r_ret ?_
  obtain rfl := Option.some.inj hF
  refine q_retL1 rfl (rl_tmp gt4 rl_nil) (fin_ext (leV.refl _) rfl ?_)
  exact ⟨rfl, rfl⟩
/-! varve/varveref04.Same -/
theorem ok22 {a0 : GOp} {b1 : GOp} {res : Bool} {h : AH}  (hF : ref04Same a0 b1 = some res) : Spec Try.prog 22 [.agg [.int .u8 a0.kind, .sl 1 (a0.path.map strRow), .int .i64 a0.n, .str a0.text, .sl 3 (a0.dots.map GDot.row)], .agg [.int .u8 b1.kind, .sl 1 (b1.path.map strRow), .int .i64 b1.n, .str b1.text, .sl 3 (b1.dots.map GDot.row)]] h (fun rr hh => rr = .bool res ∧ hh = h) := by
  unfold ref04Same at hF
  refine spec_of_body_ext Try.func22 rfl (by kernel_rfl) (env := [.agg [.int .u8 a0.kind, .sl 1 (a0.path.map strRow), .int .i64 a0.n, .str a0.text, .sl 3 (a0.dots.map GDot.row)], .agg [.int .u8 b1.kind, .sl 1 (b1.path.map strRow), .int .i64 b1.n, .str b1.text, .sl 3 (b1.dots.map GDot.row)], aundef, aundef, aundef, aundef, aundef, aundef, aundef, aundef, aundef, aundef, aundef, aundef, aundef, aundef, aundef, aundef, aundef, aundef, aundef, aundef, aundef, aundef, aundef, aundef, aundef, aundef, aundef, aundef, aundef, aundef, aundef, aundef, aundef, aundef, aundef, aundef, aundef, aundef, aundef, aundef, aundef, aundef, aundef, aundef, aundef, aundef, aundef, aundef, aundef, aundef, aundef, aundef, aundef, aundef, aundef, aundef, aundef, aundef, aundef, aundef, aundef, aundef, aundef, aundef, aundef, aundef, aundef, aundef, aundef, aundef, aundef, aundef, aundef, aundef, aundef, aundef, aundef, aundef]) (by rfl) ?_
  refine r_seq ?_
  refine r_region ?_
  refine ops_ok rfl (e_box (n := 0) rfl gt0 (tyo_ok rfl) rfl rfl) st2 ?_
  refine ops_ok rfl (e_box (n := 1) rfl gt1 (tyo_ok rfl) rfl rfl) st3 ?_
  refine ops_ok rfl (s_assign rfl rfl (tyo_ok rfl)) st4 ?_
  refine ops_nil ?_
  refine q_seq ?_
  refine r_seq ?_
  refine r_seq ?_
  refine r_region ?_
  refine ops_ok rfl (s_fieldAddr rfl fo31x0 gt2 rfl) st7 ?_
  refine ops_ok rfl (e_load rfl ty5 gt7 rfl (ldC_one rfl) (tyo_ok rfl)) st8 ?_
  refine ops_ok rfl (s_fieldAddr rfl fo31x0 gt3 rfl) st9 ?_
  refine ops_ok rfl (e_load rfl ty5 gt9 rfl (ldC_one rfl) (tyo_ok rfl)) st10 ?_
  refine ops_ok rfl (s_bin rfl gt8 gt10 rfl) st11 ?_
  refine ops_ok rfl (s_move rfl gt11 (tyo_ok rfl)) st12 ?_
  refine ops_gv rfl (fun hb => s_fieldAddr rfl fo31x2 gt2 rfl) st13 ?_
  refine ops_gv rfl (fun hb => e_load rfl ty2 (evo_gv gt13 hb) rfl (ldC_one rfl) (tyo_ok rfl)) st14 ?_
  refine ops_gv rfl (fun hb => s_fieldAddr rfl fo31x2 gt3 rfl) st15 ?_
  refine ops_gv rfl (fun hb => e_load rfl ty2 (evo_gv gt15 hb) rfl (ldC_one rfl) (tyo_ok rfl)) st16 ?_
  refine ops_gv rfl (fun hb => s_bin rfl (evo_gv gt14 hb) (evo_gv gt16 hb) rfl) st17 ?_
  refine ops_ok rfl (s_pick rfl gt12 rfl gt17 (pick_or (fun ht => gF ht))) st18 ?_
  refine ops_ok rfl (s_move rfl gt18 (tyo_ok rfl)) st19 ?_
  refine ops_gv rfl (fun hb => s_fieldAddr rfl fo31x3 gt2 rfl) st20 ?_
  refine ops_gv rfl (fun hb => e_load rfl ty9 (evo_gv gt20 hb) rfl (ldC_one rfl) (tyo_ok rfl)) st21 ?_
  refine ops_gv rfl (fun hb => s_fieldAddr rfl fo31x3 gt3 rfl) st22 ?_
  refine ops_gv rfl (fun hb => e_load rfl ty9 (evo_gv gt22 hb) rfl (ldC_one rfl) (tyo_ok rfl)) st23 ?_
  refine ops_gv rfl (fun hb => s_bin rfl (evo_gv gt21 hb) (evo_gv gt23 hb) rfl) st24 ?_
  refine ops_ok rfl (s_pick rfl gt19 rfl gt24 (pick_or (fun ht => gF ht))) st25 ?_
  refine ops_ok rfl (s_move rfl gt25 (tyo_ok rfl)) st26 ?_
  refine ops_gv rfl (fun hb => s_fieldAddr rfl fo31x1 gt2 rfl) st27 ?_
  refine ops_gv rfl (fun hb => e_load rfl ty28 (evo_gv gt27 hb) rfl (ldC_one rfl) (tyo_ok rfl)) st28 ?_
  refine ops_glen rfl (fun hb => s_lenSl rfl rfl rfl rfl el28 (evo_gv gt28 hb) lenMap) st29 fun hn1 => ?_
  refine ops_gv rfl (fun hb => s_fieldAddr rfl fo31x1 gt3 rfl) st30 ?_
  refine ops_gv rfl (fun hb => e_load rfl ty28 (evo_gv gt30 hb) rfl (ldC_one rfl) (tyo_ok rfl)) st31 ?_
  refine ops_glen rfl (fun hb => s_lenSl rfl rfl rfl rfl el28 (evo_gv gt31 hb) lenMap) st32 fun hn2 => ?_
  refine ops_gv rfl (fun hb => s_bin rfl (evo_gv gt29 hb) (evo_gv gt32 hb) rfl) st33 ?_
  refine ops_ok rfl (s_pick rfl gt26 rfl gt33 (pick_or (fun ht => gF ht))) st34 ?_
  refine ops_ok rfl (s_move rfl gt34 (tyo_ok rfl)) st35 ?_
  refine ops_gv rfl (fun hb => s_fieldAddr rfl fo31x4 gt2 rfl) st36 ?_
  refine ops_gv rfl (fun hb => e_load rfl ty29 (evo_gv gt36 hb) rfl (ldC_one rfl) (tyo_ok rfl)) st37 ?_
  refine ops_glen rfl (fun hb => s_lenSl rfl rfl rfl rfl el29 (evo_gv gt37 hb) lenMap) st38 fun hn3 => ?_
  refine ops_gv rfl (fun hb => s_fieldAddr rfl fo31x4 gt3 rfl) st39 ?_
  refine ops_gv rfl (fun hb => e_load rfl ty29 (evo_gv gt39 hb) rfl (ldC_one rfl) (tyo_ok rfl)) st40 ?_
  refine ops_glen rfl (fun hb => s_lenSl rfl rfl rfl rfl el29 (evo_gv gt40 hb) lenMap) st41 fun hn4 => ?_
  refine ops_gv rfl (fun hb => s_bin rfl (evo_gv gt38 hb) (evo_gv gt41 hb) rfl) st42 ?_
  refine ops_ok rfl (s_pick rfl gt35 rfl gt42 (pick_or (fun ht => gF ht))) st43 ?_
  refine ops_nil ?_
  refine q_seq ?_
  refine r_condF gt43 hF (fun hc5 hF => ?_) (fun hc5 hF => ?_)
  · skip
    refine r_seq ?_
    refine r_region ?_
    refine ops_ok rfl (s_assign rfl rfl (tyo_ok rfl)) st4 ?_
    refine ops_nil ?_
    refine q_seq ?_
    refine r_ret ?_
    refine q_seq_ret ?_
    obtain rfl := Option.some.inj hF
    refine q_retL1 rfl (rl_tmp gt4 rl_nil) (fin_ext (leV.refl _) rfl ?_)
    exact ⟨rfl, rfl⟩
  · skip
    refine r_skip ?_
    refine q_seq ?_
    refine r_seq ?_
    refine r_seq ?_
    refine r_region ?_
    refine ops_ok rfl (s_assign rfl rfl (tyo_ok rfl)) st5 ?_
    refine ops_nil ?_
    refine q_seq ?_
    refine r_block ?_
    refine r_loopLF (fun (n1 : Nat) (s1 : Unit) => [(0, .any), (1, .any), (4, .any), (5, .int .i64 (n1 : Int)), (6, .any), (7, .any), (8, .any), (9, .any), (10, .any), (11, .any), (12, .any), (13, .any), (14, .any), (15, .any), (16, .any), (17, .any), (18, .any), (19, .any), (20, .any), (21, .any), (22, .any), (23, .any), (24, .any), (25, .any), (26, .any), (27, .any), (28, .any), (29, .any), (30, .any), (31, .any), (32, .any), (33, .any), (34, .any), (35, .any), (36, .any), (37, .any), (38, .any), (39, .any), (40, .any), (41, .any), (42, .any), (43, .any), (44, .any), (45, .any), (46, .any), (47, .any), (48, .any), (49, .any), (50, .any), (51, .any), (52, .any), (53, .any), (54, .any), (55, .any), (56, .any), (57, .any), (58, .any), (59, .any), (60, .any), (61, .any), (62, .any), (63, .any), (64, .any), (65, .any), (66, .any), (67, .any), (68, .any), (69, .any), (70, .any), (71, .any), (72, .any), (73, .any), (74, .any), (75, .any), (76, .any), (77, .any), (78, .any), (79, .any)]) (fun s1 => h.ext [.cells [.int .u8 a0.kind, .sl 1 (a0.path.map strRow), .int .i64 a0.n, .str a0.text, .sl 3 (a0.dots.map GDot.row)], .cells [.int .u8 b1.kind, .sl 1 (b1.path.map strRow), .int .i64 b1.n, .str b1.text, .sl 3 (b1.dots.map GDot.row)]] []) hF (fun _ _ => by simp only [upd, List.set_cons_succ, List.set_cons_zero]; try rfl) (wk.le (by exact (.drop (.drop (.eq (.eq (.drop (.cons (leV.of_eq rfl) (.drop (.drop (.drop (.drop (.drop (.drop (.drop (.drop (.drop (.drop (.drop (.drop (.drop (.drop (.drop (.drop (.drop (.drop (.drop (.drop (.drop (.drop (.drop (.drop (.drop (.drop (.drop (.drop (.drop (.drop (.drop (.drop (.drop (.drop (.drop (.drop (.drop (.drop (.drop (.drop (.drop (.drop (.drop (.drop (.drop (.drop (.drop (.drop (.drop (.drop (.drop (.drop (.drop (.drop (.drop (.drop (.drop (.drop (.drop (.drop (.drop (.drop (.drop (.drop (.drop (.drop (.drop (.drop (.drop (.drop (.drop (.drop (.drop (.drop leL.nil)))))))))))))))))))))))))))))))))))))))))))))))))))))))))))))))))))))))))))))))))) ?_
    intro n1 s1 hi1 hF
    refine r_seq ?_
    refine r_seq ?_
    refine r_region ?_
    refine ops_ok rfl (s_move rfl gt5 (tyo_ok rfl)) st44 ?_
    refine ops_ok rfl (s_fieldAddr rfl fo31x1 gt2 rfl) st45 ?_
    refine ops_ok rfl (e_load rfl ty28 gt45 rfl (ldC_one rfl) (tyo_ok rfl)) st46 ?_
    refine ops_len rfl (s_lenSl rfl rfl rfl rfl el28 gt46 lenMap) st47 fun hn23 => ?_
    replace hn23 := lenN hn23
    refine ops_ok rfl (s_bin rfl gt44 gt47 rfl) st48 ?_
    refine ops_nil ?_
    refine q_seq ?_
    refine r_condL gt48 hF (fun x1 o1 hl1 hx1 hF hK1 => ?_) (fun hF => ?_)
    · skip
      refine r_skip ?_
      refine q_seq ?_
      refine r_seq ?_
      refine r_block ?_
      refine r_seq ?_
      refine r_drawn mixed (by kernel_rfl) ?_
      refine draw_ok rfl (s_fieldAddr rfl fo31x1 gt2 rfl) st51 ?_
      refine draw_ok rfl (e_load rfl ty28 gt51 rfl (ldC_one rfl) (tyo_ok rfl)) st52 ?_
      refine draw_ok rfl (s_move rfl gt5 (tyo_ok rfl)) st53 ?_
      refine draw_ok rfl (s_idxRow rfl el28 gt52 gt53 isl (idx_of hx1)) st54 ?_
      refine draw_ok rfl (f_load rfl ty9 gt54 (ldC_one rfl) (tyo_ok rfl)) st55 ?_
      refine draw_ok rfl (s_fieldAddr rfl fo31x1 gt3 rfl) st56 ?_
      refine draw_ok rfl (e_load rfl ty28 gt56 rfl (ldC_one rfl) (tyo_ok rfl)) st57 ?_
      refine draw_ok rfl (s_move rfl gt5 (tyo_ok rfl)) st58 ?_
      refine bindF hF (fun y24 hy24 hF => ?_)
      refine draw_ok rfl (s_idxRow rfl el28 gt57 gt58 isl hy24) st59 ?_
      refine draw_ok rfl (f_load rfl ty9 gt59 (ldC_one rfl) (tyo_ok rfl)) st60 ?_
      refine draw_ok rfl (s_bin rfl gt55 gt60 rfl) st61 ?_
      refine draw_nil ?_
      refine q_seq ?_
      refine r_condF gt61 hF (fun hc25 hF => ?_) (fun hc25 hF => ?_)
      · skip
        refine r_seq ?_
        refine r_region ?_
        refine ops_ok rfl (s_assign rfl rfl (tyo_ok rfl)) st4 ?_
        refine ops_nil ?_
        refine q_seq ?_
        refine r_ret ?_
        refine q_block_ret ?_
        refine q_seq_ret ?_
        refine q_loop_ret ?_
        obtain rfl := Option.some.inj hF
        replace hF := hK1
        refine q_block_ret ?_
        refine q_seq_ret ?_
        obtain rfl := Option.some.inj hF
        refine q_retL1 rfl (rl_tmp gt4 rl_nil) (fin_ext (leV.refl _) rfl ?_)
        exact ⟨rfl, rfl⟩
      · skip
        refine r_skip ?_
        refine q_block ?_
        refine q_seq ?_
        refine r_region ?_
        refine ops_ok rfl (s_move rfl gt5 (tyo_ok rfl)) st49 ?_
        refine ops_ok rfl (s_bin rfl gt49 rfl rfl) st50 ?_
        refine ops_ok rfl (s_assign rfl gt50 (tyo_ok rfl)) st5 ?_
        refine ops_nil ?_
        refine q_loop ?_
        obtain rfl := Option.some.inj hF
        exact ⟨(), hl1, hK1, wk.le (by exact (.drop (.drop (.eq (.eq (.drop (.cons (leV.of_eq (w64e (by omega) (by omega))) (.drop (.drop (.drop (.drop (.drop (.drop (.drop (.drop (.drop (.drop (.drop (.drop (.drop (.drop (.drop (.drop (.drop (.drop (.drop (.drop (.drop (.drop (.drop (.drop (.drop (.drop (.drop (.drop (.drop (.drop (.drop (.drop (.drop (.drop (.drop (.drop (.drop (.drop (.drop (.drop (.drop (.drop (.drop (.drop (.drop (.drop (.drop (.drop (.drop (.drop (.drop (.drop (.drop (.drop (.drop (.drop (.drop (.drop (.drop (.drop (.drop (.drop (.drop (.drop (.drop (.drop (.drop (.drop (.drop (.drop (.drop (.drop (.drop (.drop leL.nil)))))))))))))))))))))))))))))))))))))))))))))))))))))))))))))))))))))))))))))))))⟩
    · skip
      refine r_exit ?_
      refine q_seq_exit ?_
      refine q_loop_exit ?_
      refine q_block_hit ?_
      refine q_seq ?_
      refine r_seq ?_
      refine r_seq ?_
      refine r_region ?_
      refine ops_ok rfl (s_assign rfl rfl (tyo_ok rfl)) st6 ?_
      refine ops_nil ?_
      refine q_seq ?_
      refine r_block ?_
      refine r_loopLF (fun (n2 : Nat) (s2 : Unit) => [(0, .any), (1, .any), (4, .any), (5, .any), (6, .int .i64 (n2 : Int)), (7, .any), (8, .any), (9, .any), (10, .any), (11, .any), (12, .any), (13, .any), (14, .any), (15, .any), (16, .any), (17, .any), (18, .any), (19, .any), (20, .any), (21, .any), (22, .any), (23, .any), (24, .any), (25, .any), (26, .any), (27, .any), (28, .any), (29, .any), (30, .any), (31, .any), (32, .any), (33, .any), (34, .any), (35, .any), (36, .any), (37, .any), (38, .any), (39, .any), (40, .any), (41, .any), (42, .any), (43, .any), (44, .any), (45, .any), (46, .any), (47, .any), (48, .any), (49, .any), (50, .any), (51, .any), (52, .any), (53, .any), (54, .any), (55, .any), (56, .any), (57, .any), (58, .any), (59, .any), (60, .any), (61, .any), (62, .any), (63, .any), (64, .any), (65, .any), (66, .any), (67, .any), (68, .any), (69, .any), (70, .any), (71, .any), (72, .any), (73, .any), (74, .any), (75, .any), (76, .any), (77, .any), (78, .any), (79, .any)]) (fun s2 => h.ext [.cells [.int .u8 a0.kind, .sl 1 (a0.path.map strRow), .int .i64 a0.n, .str a0.text, .sl 3 (a0.dots.map GDot.row)], .cells [.int .u8 b1.kind, .sl 1 (b1.path.map strRow), .int .i64 b1.n, .str b1.text, .sl 3 (b1.dots.map GDot.row)]] []) hF (fun _ _ => by simp only [upd, List.set_cons_succ, List.set_cons_zero]; try rfl) (wk.le (by exact (.drop (.drop (.eq (.eq (.drop (.drop (.cons (leV.of_eq rfl) (.drop (.drop (.drop (.drop (.drop (.drop (.drop (.drop (.drop (.drop (.drop (.drop (.drop (.drop (.drop (.drop (.drop (.drop (.drop (.drop (.drop (.drop (.drop (.drop (.drop (.drop (.drop (.drop (.drop (.drop (.drop (.drop (.drop (.drop (.drop (.drop (.drop (.drop (.drop (.drop (.drop (.drop (.drop (.drop (.drop (.drop (.drop (.drop (.drop (.drop (.drop (.drop (.drop (.drop (.drop (.drop (.drop (.drop (.drop (.drop (.drop (.drop (.drop (.drop (.drop (.drop (.drop (.drop (.drop (.drop (.drop (.drop (.drop leL.nil)))))))))))))))))))))))))))))))))))))))))))))))))))))))))))))))))))))))))))))))))) ?_
      intro n2 s2 hi2 hF
      refine r_seq ?_
      refine r_seq ?_
      refine r_region ?_
      refine ops_ok rfl (s_move rfl gt6 (tyo_ok rfl)) st62 ?_
      refine ops_ok rfl (s_fieldAddr rfl fo31x4 gt2 rfl) st63 ?_
      refine ops_ok rfl (e_load rfl ty29 gt63 rfl (ldC_one rfl) (tyo_ok rfl)) st64 ?_
      refine ops_len rfl (s_lenSl rfl rfl rfl rfl el29 gt64 lenMap) st65 fun hn43 => ?_
      replace hn43 := lenN hn43
      refine ops_ok rfl (s_bin rfl gt62 gt65 rfl) st66 ?_
      refine ops_nil ?_
      refine q_seq ?_
      refine r_condL gt66 hF (fun x2 o2 hl2 hx2 hF hK2 => ?_) (fun hF => ?_)
      · skip
        refine r_skip ?_
        refine q_seq ?_
        refine r_seq ?_
        refine r_block ?_
        refine r_seq ?_
        refine r_drawn mixed (by kernel_rfl) ?_
        refine draw_ok rfl (s_fieldAddr rfl fo31x4 gt2 rfl) st69 ?_
        refine draw_ok rfl (e_load rfl ty29 gt69 rfl (ldC_one rfl) (tyo_ok rfl)) st70 ?_
        refine draw_ok rfl (s_move rfl gt6 (tyo_ok rfl)) st71 ?_
        refine draw_ok rfl (s_idxRow rfl el29 gt70 gt71 isl (idx_of hx2)) st72 ?_
        refine draw_ok rfl (f_load rfl ty27.choose_spec.1 gt72 (ldC_agX (cs' := [.int .u8 x2.actor.rep, .int .u32 x2.actor.inc, .int .u64 x2.seq]) ty27.choose_spec.2 rfl rfl) (tyo_ok rfl)) st73 ?_
        refine draw_ok rfl (s_fieldAddr rfl fo31x4 gt3 rfl) st74 ?_
        refine draw_ok rfl (e_load rfl ty29 gt74 rfl (ldC_one rfl) (tyo_ok rfl)) st75 ?_
        refine draw_ok rfl (s_move rfl gt6 (tyo_ok rfl)) st76 ?_
        refine bindF hF (fun y44 hy44 hF => ?_)
        refine draw_ok rfl (s_idxRow rfl el29 gt75 gt76 isl hy44) st77 ?_
        refine draw_ok rfl (f_load rfl ty27.choose_spec.1 gt77 (ldC_agX (cs' := [.int .u8 y44.actor.rep, .int .u32 y44.actor.inc, .int .u64 y44.seq]) ty27.choose_spec.2 rfl rfl) (tyo_ok rfl)) st78 ?_
        refine draw_ok rfl (s_bin rfl gt73 gt78 (bin_ne pk27 rfl)) st79 ?_
        refine draw_nil ?_
        refine q_seq ?_
        refine r_condF gt79 hF (fun hc45 hF => ?_) (fun hc45 hF => ?_)
        · skip
          refine r_seq ?_
          refine r_region ?_
          refine ops_ok rfl (s_assign rfl rfl (tyo_ok rfl)) st4 ?_
          refine ops_nil ?_
          refine q_seq ?_
          refine r_ret ?_
          refine q_block_ret ?_
          refine q_seq_ret ?_
          refine q_loop_ret ?_
          obtain rfl := Option.some.inj hF
          replace hF := hK2
          refine q_block_ret ?_
          refine q_seq_ret ?_
          obtain rfl := Option.some.inj hF
          refine q_retL1 rfl (rl_tmp gt4 rl_nil) (fin_ext (leV.refl _) rfl ?_)
          exact ⟨rfl, rfl⟩
        · skip
          refine r_skip ?_
          refine q_block ?_
          refine q_seq ?_
          refine r_region ?_
          refine ops_ok rfl (s_move rfl gt6 (tyo_ok rfl)) st67 ?_
          refine ops_ok rfl (s_bin rfl gt67 rfl rfl) st68 ?_
          refine ops_ok rfl (s_assign rfl gt68 (tyo_ok rfl)) st6 ?_
          refine ops_nil ?_
          refine q_loop ?_
          obtain rfl := Option.some.inj hF
          exact ⟨(), hl2, hK2, wk.le (by exact (.drop (.drop (.eq (.eq (.drop (.drop (.cons (leV.of_eq (w64e (by omega) (by omega))) (.drop (.drop (.drop (.drop (.drop (.drop (.drop (.drop (.drop (.drop (.drop (.drop (.drop (.drop (.drop (.drop (.drop (.drop (.drop (.drop (.drop (.drop (.drop (.drop (.drop (.drop (.drop (.drop (.drop (.drop (.drop (.drop (.drop (.drop (.drop (.drop (.drop (.drop (.drop (.drop (.drop (.drop (.drop (.drop (.drop (.drop (.drop (.drop (.drop (.drop (.drop (.drop (.drop (.drop (.drop (.drop (.drop (.drop (.drop (.drop (.drop (.drop (.drop (.drop (.drop (.drop (.drop (.drop (.drop (.drop (.drop (.drop (.drop leL.nil)))))))))))))))))))))))))))))))))))))))))))))))))))))))))))))))))))))))))))))))))⟩
      · skip
        refine r_exit ?_
        refine q_seq_exit ?_
        refine q_loop_exit ?_
        refine q_block_hit ?_
        refine q_seq ?_
        refine r_seq ?_
        refine r_region ?_
        refine ops_ok rfl (s_assign rfl rfl (tyo_ok rfl)) st4 ?_
        refine ops_nil ?_
        refine q_seq ?_
        refine r_ret ?_
        obtain rfl := Option.some.inj hF
        refine q_retL1 rfl (rl_tmp gt4 rl_nil) (fin_ext (leV.refl _) rfl ?_)
        exact ⟨rfl, rfl⟩
/-! varve/varvelaw04.OpMay -/
theorem ok3 {a0 : GEvent} {b1 : GOp} {s2 : Str} {res : Bool} {h : AH}  (hF : law04OpMay a0 b1 s2 = some res) : Spec Try.prog 3 [.agg [.int .u8 a0.dot.actor.rep, .int .u32 a0.dot.actor.inc, .int .u64 a0.dot.seq, .int .u64 a0.time, .int .u8 a0.op.kind, .sl 1 (a0.op.path.map strRow), .int .i64 a0.op.n, .str a0.op.text, .sl 3 (a0.op.dots.map GDot.row)], .agg [.int .u8 b1.kind, .sl 1 (b1.path.map strRow), .int .i64 b1.n, .str b1.text, .sl 3 (b1.dots.map GDot.row)], .str s2] h (fun rr hh => rr = .bool res ∧ hh = h) := by
  unfold law04OpMay at hF
  refine spec_of_body_ext Try.func3 rfl (by kernel_rfl) (env := [.agg [.int .u8 a0.dot.actor.rep, .int .u32 a0.dot.actor.inc, .int .u64 a0.dot.seq, .int .u64 a0.time, .int .u8 a0.op.kind, .sl 1 (a0.op.path.map strRow), .int .i64 a0.op.n, .str a0.op.text, .sl 3 (a0.op.dots.map GDot.row)], .agg [.int .u8 b1.kind, .sl 1 (b1.path.map strRow), .int .i64 b1.n, .str b1.text, .sl 3 (b1.dots.map GDot.row)], .str s2, aundef, aundef, aundef, aundef, aundef, aundef, aundef, aundef, aundef, aundef, aundef, aundef, aundef, aundef, aundef, aundef, aundef, aundef, aundef, aundef, aundef, aundef, aundef, aundef, aundef, aundef, aundef, aundef, aundef, aundef, aundef, aundef, aundef, aundef, aundef, aundef, aundef, aundef, aundef, aundef, aundef, aundef, aundef, aundef, aundef, aundef, aundef, aundef, aundef, aundef, aundef, aundef, aundef, aundef, aundef, aundef, aundef, aundef, aundef, aundef, aundef, aundef, aundef, aundef, aundef, aundef, aundef, aundef, aundef, aundef, aundef, aundef, aundef, aundef, aundef, aundef, aundef]) (by rfl) ?_
  refine r_seq ?_
  refine r_region ?_
  refine ops_ok rfl (e_box (n := 0) rfl gt0 (tyo_ok rfl) rfl rfl) st3 ?_
  refine ops_ok rfl (e_box (n := 1) rfl gt1 (tyo_ok rfl) rfl rfl) st4 ?_
  refine ops_ok rfl (s_assign rfl rfl (tyo_ok rfl)) st6 ?_
  refine ops_nil ?_
  refine q_seq ?_
  refine r_seq ?_
  refine r_seq ?_
  refine r_region ?_
  refine ops_ok rfl (s_fieldAddr rfl fo33x2 gt3 rfl) st7 ?_
  refine ops_ok rfl (e_load rfl ty31.choose_spec.1 gt7 rfl (ldC_agX (cs' := [.int .u8 a0.op.kind, .sl 1 (a0.op.path.map strRow), .int .i64 a0.op.n, .str a0.op.text, .sl 3 (a0.op.dots.map GDot.row)]) ty31.choose_spec.2 rfl rfl) (tyo_ok rfl)) st8 ?_
  refine bindF hF (fun v1 hv1 hF => ?_)
  refine ops_callP rfl (s_call0 rfl rfl rfl (argo_cons gt8 argo_nil) (.cons (tyo_ok rfl) .nil)) (ok9 hv1) st9 ?_
  refine ops_ok rfl (s_move rfl gt9 (tyo_ok rfl)) st10 ?_
  refine ops_gv rfl (fun hb => e_load rfl ty31.choose_spec.1 gt4 rfl (ldC_agX (cs' := [.int .u8 b1.kind, .sl 1 (b1.path.map strRow), .int .i64 b1.n, .str b1.text, .sl 3 (b1.dots.map GDot.row)]) ty31.choose_spec.2 rfl rfl) (tyo_ok rfl)) st11 ?_
  refine gbindF hF (fun v2 hv2 hF => ?_)
  refine ops_gcall rfl (fun hb => s_call0 rfl rfl rfl (argo_cons (evo_gv gt11 hb) argo_nil) (.cons (tyo_ok rfl) .nil)) (fun hb => ok9 (hv2 hb)) st12 ?_
  refine ops_ok rfl (s_pick rfl gt10 rfl gt12 (pick_or (fun ht => gF ht))) st13 ?_
  refine ops_ok rfl (s_move rfl gt13 (tyo_ok rfl)) st14 ?_
  refine ops_gv rfl (fun hb => s_move rfl gt2 (tyo_ok rfl)) st15 ?_
  refine ops_glen rfl (fun hb => s_lenStr rfl rfl rfl rfl ty9 (evo_gv gt15 hb)) st16 fun hn3 => ?_
  refine ops_gv rfl (fun hb => s_bin rfl (evo_gv gt16 hb) rfl rfl) st17 ?_
  refine ops_ok rfl (s_pick rfl gt14 rfl gt17 (pick_or (fun ht => gF ht))) st18 ?_
  refine ops_nil ?_
  refine q_seq ?_
  refine r_condF gt18 hF (fun hc4 hF => ?_) (fun hc4 hF => ?_)
  · skip
    refine r_seq ?_
    refine r_region ?_
    refine bindF hF (fun v5 hv5 hF => ?_)
    refine ops_callP rfl (s_call0 rfl rfl rfl argo_nil .nil) (ok10 hv5) st19 ?_
    refine ops_ok rfl (s_assign rfl gt19 (tyo_ok rfl)) st6 ?_
    refine ops_nil ?_
    refine q_seq ?_
    refine r_ret ?_
    refine q_seq_ret ?_
    obtain rfl := Option.some.inj hF
    refine q_retL1 rfl (rl_tmp gt6 rl_nil) (fin_ext (leV.refl _) rfl ?_)
    exact ⟨rfl, rfl⟩
  · skip
    refine r_skip ?_
    refine q_seq ?_
    refine r_seq ?_
    refine r_drawn mixed (by kernel_rfl) ?_
    refine draw_ok rfl (s_move rfl gt2 (tyo_ok rfl)) st20 ?_
    refine bindF hF (fun v6 hv6 hF => ?_)
    refine draw_call rfl (s_call0 rfl rfl rfl (argo_cons gt20 argo_nil) (.cons (tyo_ok rfl) .nil)) (ok11 hv6) st21 ?_
    refine draw_ok rfl (s_move rfl gt2 (tyo_ok rfl)) st22 ?_
    refine bindF hF (fun v7 hv7 hF => ?_)
    refine draw_call rfl (s_call0 rfl rfl rfl (argo_cons gt22 argo_nil) (.cons (tyo_ok rfl) .nil)) (ok12 hv7) st23 ?_
    refine draw_ok rfl (s_bin rfl gt21 gt23 (bin_boolE ty4)) st24 ?_
    refine draw_ok rfl (s_move rfl gt24 (tyo_ok rfl)) st25 ?_
    refine draw_gv rfl (fun hb => s_fieldAddr rfl fo33x2 gt3 rfl) st26 ?_
    refine draw_gv rfl (fun hb => s_fieldAddr rfl fo31x1 (evo_gv gt26 hb) rfl) st27 ?_
    refine draw_gv rfl (fun hb => e_load rfl ty28 (evo_gv gt27 hb) rfl (ldC_one rfl) (tyo_ok rfl)) st28 ?_
    refine gbindF hF (fun v8 hv8 hF => ?_)
    refine draw_gcall rfl (fun hb => s_call0 rfl rfl rfl (argo_cons (evo_gv gt28 hb) argo_nil) (.cons (tyo_ok rfl) .nil)) (fun hb => ok13 (hv8 hb)) st29 ?_
    refine draw_gv rfl (fun hb => s_fieldAddr rfl fo33x2 gt3 rfl) st30 ?_
    refine draw_gv rfl (fun hb => s_fieldAddr rfl fo31x1 (evo_gv gt30 hb) rfl) st31 ?_
    refine draw_gv rfl (fun hb => e_load rfl ty28 (evo_gv gt31 hb) rfl (ldC_one rfl) (tyo_ok rfl)) st32 ?_
    refine gbindF hF (fun v9 hv9 hF => ?_)
    refine draw_gcall rfl (fun hb => s_call0 rfl rfl rfl (argo_cons (evo_gv gt32 hb) argo_nil) (.cons (tyo_ok rfl) .nil)) (fun hb => ok14 (hv9 hb)) st33 ?_
    refine draw_gv rfl (fun hb => s_bin rfl (evo_gv gt29 hb) (evo_gv gt33 hb) (bin_boolE ty4)) st34 ?_
    refine draw_ok rfl (s_pick rfl gt25 gt34 rfl (pick_and (fun ht => gT ht))) st35 ?_
    refine draw_ok rfl (s_move rfl gt35 (tyo_ok rfl)) st36 ?_
    refine draw_gv rfl (fun hb => s_fieldAddr rfl fo33x2 gt3 rfl) st37 ?_
    refine draw_gv rfl (fun hb => e_load rfl ty31.choose_spec.1 (evo_gv gt37 hb) rfl (ldC_agX (cs' := [.int .u8 a0.op.kind, .sl 1 (a0.op.path.map strRow), .int .i64 a0.op.n, .str a0.op.text, .sl 3 (a0.op.dots.map GDot.row)]) ty31.choose_spec.2 rfl rfl) (tyo_ok rfl)) st38 ?_
    refine gbindF hF (fun v10 hv10 hF => ?_)
    refine draw_gcall rfl (fun hb => s_call0 rfl rfl rfl (argo_cons (evo_gv gt38 hb) argo_nil) (.cons (tyo_ok rfl) .nil)) (fun hb => ok15 (hv10 hb)) st39 ?_
    refine draw_gv rfl (fun hb => s_fieldAddr rfl fo33x2 gt3 rfl) st40 ?_
    refine draw_gv rfl (fun hb => e_load rfl ty31.choose_spec.1 (evo_gv gt40 hb) rfl (ldC_agX (cs' := [.int .u8 a0.op.kind, .sl 1 (a0.op.path.map strRow), .int .i64 a0.op.n, .str a0.op.text, .sl 3 (a0.op.dots.map GDot.row)]) ty31.choose_spec.2 rfl rfl) (tyo_ok rfl)) st41 ?_
    refine gbindF hF (fun v11 hv11 hF => ?_)
    refine draw_gcall rfl (fun hb => s_call0 rfl rfl rfl (argo_cons (evo_gv gt41 hb) argo_nil) (.cons (tyo_ok rfl) .nil)) (fun hb => ok16 (hv11 hb)) st42 ?_
    refine draw_gv rfl (fun hb => s_bin rfl (evo_gv gt39 hb) (evo_gv gt42 hb) (bin_boolE ty4)) st43 ?_
    refine draw_ok rfl (s_pick rfl gt36 gt43 rfl (pick_and (fun ht => gT ht))) st44 ?_
    refine draw_ok rfl (s_move rfl gt44 (tyo_ok rfl)) st45 ?_
    refine draw_gv rfl (fun hb => e_load rfl ty33.choose_spec.1 gt3 rfl (ldC_agX (cs' := [.int .u8 a0.dot.actor.rep, .int .u32 a0.dot.actor.inc, .int .u64 a0.dot.seq, .int .u64 a0.time, .int .u8 a0.op.kind, .sl 1 (a0.op.path.map strRow), .int .i64 a0.op.n, .str a0.op.text, .sl 3 (a0.op.dots.map GDot.row)]) ty33.choose_spec.2 rfl rfl) (tyo_ok rfl)) st46 ?_
    refine gbindF hF (fun v12 hv12 hF => ?_)
    refine draw_gcall rfl (fun hb => s_call0 rfl rfl rfl (argo_cons (evo_gv gt46 hb) argo_nil) (.cons (tyo_ok rfl) .nil)) (fun hb => ok17 (hv12 hb)) st47 ?_
    refine draw_gv rfl (fun hb => e_load rfl ty33.choose_spec.1 gt3 rfl (ldC_agX (cs' := [.int .u8 a0.dot.actor.rep, .int .u32 a0.dot.actor.inc, .int .u64 a0.dot.seq, .int .u64 a0.time, .int .u8 a0.op.kind, .sl 1 (a0.op.path.map strRow), .int .i64 a0.op.n, .str a0.op.text, .sl 3 (a0.op.dots.map GDot.row)]) ty33.choose_spec.2 rfl rfl) (tyo_ok rfl)) st48 ?_
    refine gbindF hF (fun v13 hv13 hF => ?_)
    refine draw_gcall rfl (fun hb => s_call0 rfl rfl rfl (argo_cons (evo_gv gt48 hb) argo_nil) (.cons (tyo_ok rfl) .nil)) (fun hb => ok18 (hv13 hb)) st49 ?_
    refine draw_gv rfl (fun hb => s_bin rfl (evo_gv gt47 hb) (evo_gv gt49 hb) (bin_boolE ty4)) st50 ?_
    refine draw_ok rfl (s_pick rfl gt45 gt50 rfl (pick_and (fun ht => gT ht))) st51 ?_
    refine draw_ok rfl (s_move rfl gt51 (tyo_ok rfl)) st52 ?_
    refine draw_gv rfl (fun hb => s_fieldAddr rfl fo31x0 gt4 rfl) st53 ?_
    refine draw_gv rfl (fun hb => e_load rfl ty5 (evo_gv gt53 hb) rfl (ldC_one rfl) (tyo_ok rfl)) st54 ?_
    refine gbindF hF (fun v14 hv14 hF => ?_)
    refine draw_gcall rfl (fun hb => s_call0 rfl rfl rfl (argo_cons (evo_gv gt54 hb) argo_nil) (.cons (tyo_ok rfl) .nil)) (fun hb => ok19 (hv14 hb)) st55 ?_
    refine draw_gv rfl (fun hb => s_fieldAddr rfl fo31x0 gt4 rfl) st56 ?_
    refine draw_gv rfl (fun hb => e_load rfl ty5 (evo_gv gt56 hb) rfl (ldC_one rfl) (tyo_ok rfl)) st57 ?_
    refine gbindF hF (fun v15 hv15 hF => ?_)
    refine draw_gcall rfl (fun hb => s_call0 rfl rfl rfl (argo_cons (evo_gv gt57 hb) argo_nil) (.cons (tyo_ok rfl) .nil)) (fun hb => ok20 (hv15 hb)) st58 ?_
    refine draw_gv rfl (fun hb => s_bin rfl (evo_gv gt55 hb) (evo_gv gt58 hb) rfl) st59 ?_
    refine draw_ok rfl (s_pick rfl gt52 gt59 rfl (pick_and (fun ht => gT ht))) st60 ?_
    refine draw_ok rfl (s_move rfl gt60 (tyo_ok rfl)) st61 ?_
    refine draw_gv rfl (fun hb => s_fieldAddr rfl fo33x2 gt3 rfl) st62 ?_
    refine draw_gv rfl (fun hb => e_load rfl ty31.choose_spec.1 (evo_gv gt62 hb) rfl (ldC_agX (cs' := [.int .u8 a0.op.kind, .sl 1 (a0.op.path.map strRow), .int .i64 a0.op.n, .str a0.op.text, .sl 3 (a0.op.dots.map GDot.row)]) ty31.choose_spec.2 rfl rfl) (tyo_ok rfl)) st63 ?_
    refine draw_gv rfl (fun hb => e_load rfl ty31.choose_spec.1 gt4 rfl (ldC_agX (cs' := [.int .u8 b1.kind, .sl 1 (b1.path.map strRow), .int .i64 b1.n, .str b1.text, .sl 3 (b1.dots.map GDot.row)]) ty31.choose_spec.2 rfl rfl) (tyo_ok rfl)) st64 ?_
    refine gbindF hF (fun v16 hv16 hF => ?_)
    refine draw_gcall rfl (fun hb => s_call0 rfl rfl rfl (argo_cons (evo_gv gt63 hb) (argo_cons (evo_gv gt64 hb) argo_nil)) (.cons (tyo_ok rfl) (.cons (tyo_ok rfl) .nil))) (fun hb => ok21 (hv16 hb)) st65 ?_
    refine draw_gv rfl (fun hb => s_fieldAddr rfl fo33x2 gt3 rfl) st66 ?_
    refine draw_gv rfl (fun hb => e_load rfl ty31.choose_spec.1 (evo_gv gt66 hb) rfl (ldC_agX (cs' := [.int .u8 a0.op.kind, .sl 1 (a0.op.path.map strRow), .int .i64 a0.op.n, .str a0.op.text, .sl 3 (a0.op.dots.map GDot.row)]) ty31.choose_spec.2 rfl rfl) (tyo_ok rfl)) st67 ?_
    refine draw_gv rfl (fun hb => e_load rfl ty31.choose_spec.1 gt4 rfl (ldC_agX (cs' := [.int .u8 b1.kind, .sl 1 (b1.path.map strRow), .int .i64 b1.n, .str b1.text, .sl 3 (b1.dots.map GDot.row)]) ty31.choose_spec.2 rfl rfl) (tyo_ok rfl)) st68 ?_
    refine gbindF hF (fun v17 hv17 hF => ?_)
    refine draw_gcall rfl (fun hb => s_call0 rfl rfl rfl (argo_cons (evo_gv gt67 hb) (argo_cons (evo_gv gt68 hb) argo_nil)) (.cons (tyo_ok rfl) (.cons (tyo_ok rfl) .nil))) (fun hb => ok22 (hv17 hb)) st69 ?_
    refine draw_gv rfl (fun hb => s_bin rfl (evo_gv gt65 hb) (evo_gv gt69 hb) (bin_boolE ty4)) st70 ?_
    refine draw_ok rfl (s_pick rfl gt61 gt70 rfl (pick_and (fun ht => gT ht))) st71 ?_
    refine draw_ok rfl (s_move rfl gt71 (tyo_ok rfl)) st72 ?_
    refine draw_gv rfl (fun hb => e_load rfl ty31.choose_spec.1 gt4 rfl (ldC_agX (cs' := [.int .u8 b1.kind, .sl 1 (b1.path.map strRow), .int .i64 b1.n, .str b1.text, .sl 3 (b1.dots.map GDot.row)]) ty31.choose_spec.2 rfl rfl) (tyo_ok rfl)) st73 ?_
    refine draw_gv rfl (fun hb => e_load rfl ty31.choose_spec.1 gt4 rfl (ldC_agX (cs' := [.int .u8 b1.kind, .sl 1 (b1.path.map strRow), .int .i64 b1.n, .str b1.text, .sl 3 (b1.dots.map GDot.row)]) ty31.choose_spec.2 rfl rfl) (tyo_ok rfl)) st74 ?_
    refine gbindF hF (fun v18 hv18 hF => ?_)
    refine draw_gcall rfl (fun hb => s_call0 rfl rfl rfl (argo_cons (evo_gv gt73 hb) (argo_cons (evo_gv gt74 hb) argo_nil)) (.cons (tyo_ok rfl) (.cons (tyo_ok rfl) .nil))) (fun hb => ok21 (hv18 hb)) st75 ?_
    refine draw_ok rfl (s_pick rfl gt72 gt75 rfl (pick_and (fun ht => gT ht))) st76 ?_
    refine draw_ok rfl (s_move rfl gt76 (tyo_ok rfl)) st77 ?_
    refine gbindF hF (fun v19 hv19 hF => ?_)
    refine draw_gcall rfl (fun hb => s_call0 rfl rfl rfl argo_nil .nil) (fun hb => ok10 (hv19 hb)) st78 ?_
    refine draw_ok rfl (s_pick rfl gt77 gt78 rfl (pick_and (fun ht => gT ht))) st79 ?_
    refine draw_ok rfl (s_assign rfl gt79 (tyo_ok rfl)) st6 ?_
    refine draw_nil ?_
    refine q_seq ?_
    refine r_ret ?_
    obtain rfl := Option.some.inj hF
    refine q_retL1 rfl (rl_tmp gt6 rl_nil) (fin_ext (leV.refl _) rfl ?_)
    exact ⟨rfl, rfl⟩
end Go.Vv
