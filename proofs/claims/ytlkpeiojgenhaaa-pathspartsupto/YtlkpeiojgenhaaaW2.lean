/- Each function that the law reaches computes what its reading says; printed by a program. -/
import Derived.Test.YtlkpeiojgenhaaaW1
namespace Go.Vv
open Go Go.Proofs
set_option maxRecDepth 100000
set_option maxHeartbeats 1000000
set_option linter.unusedSimpArgs false
set_option linter.unusedVariables false
/-! varve/leaf.items -/
theorem ok138 {l0 : (List GItem)} {timed1 : Bool} {res : Bool} {h : AH}  (hF : leafXitems l0 timed1 = some res) : Spec Try.prog 138 [.sl 5 (l0.map GItem.row), .bool timed1] h (fun rr hh => rr = .bool res ∧ hh = h) := by
  unfold leafXitems at hF
  refine spec_of_body_ext Try.func138 rfl (by kernel_rfl) (env := [.sl 5 (l0.map GItem.row), .bool timed1, aundef, aundef, aundef, aundef, aundef, aundef, aundef, aundef, aundef, aundef, aundef, aundef, aundef, aundef, aundef, aundef, aundef, aundef, aundef, aundef, aundef, aundef, aundef, aundef, aundef, aundef, aundef, aundef, aundef, aundef, aundef, aundef, aundef, aundef, aundef, aundef, aundef, aundef, aundef, aundef, aundef, aundef, aundef, aundef, aundef, aundef, aundef, aundef, aundef, aundef, aundef, aundef, aundef, aundef, aundef, aundef, aundef, aundef, aundef, aundef, aundef, aundef, aundef, aundef]) (by rfl) ?_
  refine r_seq ?_
  refine r_region ?_
  refine ops_ok rfl (s_assign rfl rfl (tyo_ok rfl)) st4 ?_
  refine ops_nil ?_
  refine q_seq ?_
  refine r_seq ?_
  refine r_seq ?_
  refine r_region ?_
  refine ops_ok rfl (s_move rfl gt0 (tyo_ok rfl)) st7 ?_
  refine ops_len rfl (s_lenSl rfl rfl rfl rfl el63 gt7 lenMap) st8 fun hn1 => ?_
  replace hn1 := lenN hn1
  refine ops_ok rfl (s_move rfl rfl (tyo_ok rfl)) st9 ?_
  refine ops_nil ?_
  refine q_seq ?_
  refine r_block ?_
  refine r_loopLF (fun (n1 : Nat) (s1 : Unit) => [(2, .any), (3, .any), (4, .any), (5, .any), (6, .any), (9, .int .i64 (n1 : Int)), (10, .any), (11, .any), (12, .any), (13, .any), (14, .any), (15, .any), (16, .any), (17, .any), (18, .any), (19, .any), (20, .any), (21, .any), (22, .any), (23, .any), (24, .any), (25, .any), (26, .any), (27, .any), (28, .any), (29, .any), (30, .any), (31, .any), (32, .any), (33, .any), (34, .any), (35, .any), (36, .any), (37, .any), (38, .any), (39, .any), (40, .any), (41, .any), (42, .any), (43, .any), (44, .any), (45, .any), (46, .any), (47, .any), (48, .any), (49, .any), (50, .any), (51, .any), (52, .any), (53, .any), (54, .any), (55, .any), (56, .any), (57, .any), (58, .any), (59, .any), (60, .any), (61, .any), (62, .any), (63, .any), (64, .any), (65, .any)]) (fun s1 => h.ext [] []) hF (fun _ _ => by simp only [upd, List.set_cons_succ, List.set_cons_zero]; try rfl) (wk.le (by exact (.eq (.eq (.drop (.drop (.drop (.drop (.drop (.eq (.eq (.cons (leV.of_eq rfl) (.drop (.drop (.drop (.drop (.drop (.drop (.drop (.drop (.drop (.drop (.drop (.drop (.drop (.drop (.drop (.drop (.drop (.drop (.drop (.drop (.drop (.drop (.drop (.drop (.drop (.drop (.drop (.drop (.drop (.drop (.drop (.drop (.drop (.drop (.drop (.drop (.drop (.drop (.drop (.drop (.drop (.drop (.drop (.drop (.drop (.drop (.drop (.drop (.drop (.drop (.drop (.drop (.drop (.drop (.drop (.drop leL.nil)))))))))))))))))))))))))))))))))))))))))))))))))))))))))))))))))))) ?_
  intro n1 s1 hi1 hF
  refine r_seq ?_
  refine r_region ?_
  refine ops_ok rfl (s_bin rfl gt9 gt8 rfl) st10 ?_
  refine ops_nil ?_
  refine q_seq ?_
  refine r_seq ?_
  refine r_condL gt10 hF (fun x1 o1 hl1 hx1 hF hK1 => ?_) (fun hF => ?_)
  · skip
    refine r_skip ?_
    refine q_seq ?_
    refine r_seq ?_
    refine r_block ?_
    refine r_seq ?_
    refine r_region ?_
    refine ops_ok rfl (s_move rfl gt9 (tyo_ok rfl)) st11 ?_
    refine ops_ok rfl (s_idxRow rfl el63 gt7 gt9 isl (idx_of hx1)) st12 ?_
    refine ops_ok rfl (f_load rfl ty73.choose_spec.1 gt12 (ldC_agX (cs' := [.int .u64 x1.time, .int .u8 x1.dot.actor.rep, .int .u32 x1.dot.actor.inc, .int .u64 x1.dot.seq, .str x1.text]) ty73.choose_spec.2 rfl rfl) (tyo_ok rfl)) st13 ?_
    refine ops_ok rfl (e_alloc (n := 0) rfl ze73 rfl) st6 ?_
    refine ops_ok rfl (s_assign rfl gt11 (tyo_ok rfl)) st5 ?_
    refine ops_ok rfl (e_store (cs' := [.int .u64 x1.time, .int .u8 x1.dot.actor.rep, .int .u32 x1.dot.actor.inc, .int .u64 x1.dot.seq, .str x1.text]) rfl ty73.choose_spec.1 gt6 gt13 (tyo_ok rfl) rfl rfl rfl rfl rfl) rfl ?_
    refine ops_nil ?_
    refine q_seq ?_
    refine r_seq ?_
    refine r_seq ?_
    refine r_region ?_
    refine ops_ok rfl (s_fieldAddr rfl fo73x1 gt6 rfl) st14 ?_
    refine ops_ok rfl (e_load rfl ty27.choose_spec.1 gt14 rfl (ldC_agX (cs' := [.int .u8 x1.dot.actor.rep, .int .u32 x1.dot.actor.inc, .int .u64 x1.dot.seq]) ty27.choose_spec.2 rfl rfl) (tyo_ok rfl)) st15 ?_
    refine bindF hF (fun v13 hv13 hF => ?_)
    refine ops_callP rfl (s_call0 rfl rfl rfl (argo_cons gt15 argo_nil) (.cons (tyo_ok rfl) .nil)) (ok57 hv13) st16 ?_
    refine ops_ok rfl (s_un rfl gt16 rfl) st17 ?_
    refine ops_ok rfl (s_move rfl gt17 (tyo_ok rfl)) st18 ?_
    refine ops_gv rfl (fun hb => s_fieldAddr rfl fo73x2 gt6 rfl) st19 ?_
    refine ops_gv rfl (fun hb => e_load rfl ty9 (evo_gv gt19 hb) rfl (ldC_one rfl) (tyo_ok rfl)) st20 ?_
    refine gbindF hF (fun v14 hv14 hF => ?_)
    refine ops_gcall rfl (fun hb => s_call0 rfl rfl rfl (argo_cons (evo_gv gt20 hb) argo_nil) (.cons (tyo_ok rfl) .nil)) (fun hb => ok137 (hv14 hb)) st21 ?_
    refine ops_gv rfl (fun hb => s_un rfl (evo_gv gt21 hb) rfl) st22 ?_
    refine ops_ok rfl (s_pick rfl gt18 rfl gt22 (pick_or (fun ht => gF ht))) st23 ?_
    refine ops_ok rfl (s_move rfl gt23 (tyo_ok rfl)) st24 ?_
    refine ops_gv rfl (fun hb => s_move rfl gt1 (tyo_ok rfl)) st25 ?_
    refine ops_gv rfl (fun hb => s_fieldAddr rfl fo73x0 gt6 rfl) st26 ?_
    refine ops_gv rfl (fun hb => e_load rfl ty25 (evo_gv gt26 hb) rfl (ldC_one rfl) (tyo_ok rfl)) st27 ?_
    refine gbindF hF (fun v15 hv15 hF => ?_)
    refine ops_gcall rfl (fun hb => s_call0 rfl rfl rfl (argo_cons (evo_gv gt27 hb) argo_nil) (.cons (tyo_ok rfl) .nil)) (fun hb => ok136 (hv15 hb)) st28 ?_
    refine ops_gv rfl (fun hb => s_bin rfl (evo_gv gt25 hb) (evo_gv gt28 hb) (bin_boolN ty4)) st29 ?_
    refine ops_ok rfl (s_pick rfl gt24 rfl gt29 (pick_or (fun ht => gF ht))) st30 ?_
    refine ops_ok rfl (s_move rfl gt30 (tyo_ok rfl)) st31 ?_
    refine ops_gv rfl (fun hb => s_move rfl gt1 (tyo_ok rfl)) st32 ?_
    refine ops_gv rfl (fun hb => s_un rfl (evo_gv gt32 hb) rfl) st33 ?_
    refine ops_gv rfl (fun hb => s_move rfl (evo_gv gt33 hb) (tyo_ok rfl)) st34 ?_
    refine ops_gv (aG_gv rfl rfl rfl) (fun hb => s_fieldAddr rfl fo73x0 gt6 rfl) st35 ?_
    refine ops_gv (aG_gv rfl rfl rfl) (fun hb => e_load rfl ty25 (evo_gv gt35 hb) rfl (ldC_one rfl) (tyo_ok rfl)) st36 ?_
    refine ops_gv (aG_gv rfl rfl rfl) (fun hb => s_bin rfl (evo_gv gt36 hb) rfl rfl) st37 ?_
    refine ops_gv rfl (fun hb => s_pick rfl (evo_gv gt34 hb) gt37 rfl (pick_and (fun ht => gT2 hb ht))) st38 ?_
    refine ops_ok rfl (s_pick rfl gt31 rfl gt38 (pick_or (fun ht => gF ht))) st39 ?_
    refine ops_nil ?_
    refine q_seq ?_
    refine r_condF gt39 hF (fun hc16 hF => ?_) (fun hc16 hF => ?_)
    · skip
      refine r_seq ?_
      refine r_region ?_
      refine ops_ok rfl (s_assign rfl rfl (tyo_ok rfl)) st4 ?_
      refine ops_nil ?_
      refine q_seq ?_
      refine r_ret ?_
      refine q_seq_ret ?_
      refine q_block_ret ?_
      refine q_seq_ret ?_
      refine q_loop_ret ?_
      obtain rfl := Option.some.inj hF
      replace hF := hK1
      refine q_block_ret ?_
      refine q_seq_ret ?_
      obtain rfl := Option.some.inj hF
      refine q_retL1 rfl (rl_tmp gt4 rl_nil) (fin_ext (leV.refl _) rfl ?_)
      exact ⟨rfl, rfl⟩
    · skip
      refine r_skip ?_
      refine q_seq ?_
      refine r_seq ?_
      refine r_drawn [] [] trivial mixed (by kernel_rfl) ?_
      refine draw_ok rfl rfl (s_move rfl gt5 (tyo_ok rfl)) (sk st0) ?_
      refine draw_ok rfl rfl (s_bin rfl (gk gt0) rfl rfl) (sk st1) ?_
      refine draw_ok rfl rfl (s_move rfl (gk gt1) (tyo_ok rfl)) (sk st2) ?_
      refine draw_gv rfl rfl (fun hb => s_move rfl gt0 (tyo_ok rfl)) (sk st3) ?_
      refine draw_gv rfl rfl (fun hb => s_move rfl gt5 (tyo_ok rfl)) (sk st4) ?_
      refine draw_gv rfl rfl (fun hb => s_bin rfl (evo_gv (gk gt4) hb) rfl rfl) (sk st5) ?_
      refine chkF hF (fun hg17 hF => ?_)
      refine draw_gv rfl rfl (fun hb => s_gidxRow default rfl el63 (evo_gv (gk gt3) hb) (evo_gv (gk gt5) hb) isl (hg17 hb)) (sk st6) ?_
      refine draw_gv rfl rfl (fun hb => s_fieldAddr rfl fo73x0 (evo_gv (gk gt6) hb) rfl) (sk st7) ?_
      refine draw_gv rfl rfl (fun hb => f_load rfl ty25 (evo_gv (gk gt7) hb) (ldC_one rfl) (tyo_ok rfl)) (sk st8) ?_
      refine draw_gv rfl rfl (fun hb => s_move rfl gt0 (tyo_ok rfl)) (sk st9) ?_
      refine draw_gv rfl rfl (fun hb => s_move rfl gt5 (tyo_ok rfl)) (sk st10) ?_
      refine draw_gv rfl rfl (fun hb => s_bin rfl (evo_gv (gk gt10) hb) rfl rfl) (sk st11) ?_
      refine chkF hF (fun hg18 hF => ?_)
      refine draw_gv rfl rfl (fun hb => s_gidxRow default rfl el63 (evo_gv (gk gt9) hb) (evo_gv (gk gt11) hb) isl (hg18 hb)) (sk st12) ?_
      refine draw_gv rfl rfl (fun hb => s_fieldAddr rfl fo73x1 (evo_gv (gk gt12) hb) rfl) (sk st13) ?_
      refine draw_gv rfl rfl (fun hb => f_load rfl ty27.choose_spec.1 (evo_gv (gk gt13) hb) (ldC_agX (cs' := [.int .u8 (((l0).getD (IntKind.wrap .i64 ((n1 : Int) - (1 : Int))).toNat default).dot.actor.rep), .int .u32 (((l0).getD (IntKind.wrap .i64 ((n1 : Int) - (1 : Int))).toNat default).dot.actor.inc), .int .u64 (((l0).getD (IntKind.wrap .i64 ((n1 : Int) - (1 : Int))).toNat default).dot.seq)]) ty27.choose_spec.2 rfl rfl) (tyo_ok rfl)) (sk st14) ?_
      refine draw_gv rfl rfl (fun hb => s_fieldAddr rfl fo73x0 gt6 rfl) (sk st15) ?_
      refine draw_gv rfl rfl (fun hb => e_load rfl ty25 (evo_gv (gk gt15) hb) rfl (ldC_one rfl) (tyo_ok rfl)) (sk st16) ?_
      refine draw_gv rfl rfl (fun hb => s_fieldAddr rfl fo73x1 gt6 rfl) (sk st17) ?_
      refine draw_gv rfl rfl (fun hb => e_load rfl ty27.choose_spec.1 (evo_gv (gk gt17) hb) rfl (ldC_agX (cs' := [.int .u8 x1.dot.actor.rep, .int .u32 x1.dot.actor.inc, .int .u64 x1.dot.seq]) ty27.choose_spec.2 rfl rfl) (tyo_ok rfl)) (sk st18) ?_
      refine gbindF hF (fun v19 hv19 hF => ?_)
      refine draw_gcall rfl rfl (fun hb => s_call0 rfl rfl rfl (argo_cons (evo_gv (gk gt8) hb) (argo_cons (evo_gv (gk gt14) hb) (argo_cons (evo_gv (gk gt16) hb) (argo_cons (evo_gv (gk gt18) hb) argo_nil)))) (.cons (tyo_ok rfl) (.cons (tyo_ok rfl) (.cons (tyo_ok rfl) (.cons (tyo_ok rfl) .nil))))) (fun hb => ok149 (hv19 hb)) (sk st19) ?_
      refine draw_gv rfl rfl (fun hb => s_un rfl (evo_gv (gk gt19) hb) rfl) (sk st20) ?_
      refine draw_ok rfl rfl (s_pick rfl (gk gt2) (gk gt20) rfl (pick_and (fun ht => gT ht))) (sk st21) ?_
      refine draw_nil ?_
      refine q_seq ?_
      refine r_condF (gk gt21) hF (fun hc20 hF => ?_) (fun hc20 hF => ?_)
      · skip
        refine r_seq ?_
        refine r_region ?_
        refine ops_ok rfl (s_assign rfl rfl (tyo_ok rfl)) st4 ?_
        refine ops_nil ?_
        refine q_seq ?_
        refine r_ret ?_
        refine q_block_ret ?_
        refine q_seq_ret ?_
        refine q_loop_ret ?_
        obtain rfl := Option.some.inj hF
        replace hF := hK1
        refine q_block_ret ?_
        refine q_seq_ret ?_
        obtain rfl := Option.some.inj hF
        refine q_retL1 rfl (rl_tmp gt4 rl_nil) (fin_ext (leV.refl _) rfl ?_)
        exact ⟨rfl, rfl⟩
      · skip
        refine r_skip ?_
        refine q_block ?_
        refine q_seq ?_
        refine r_region ?_
        refine ops_ok rfl (s_bin rfl gt9 rfl rfl) (sk st22) ?_
        refine ops_ok rfl (s_move rfl (gk gt22) (tyo_ok rfl)) st9 ?_
        refine ops_nil ?_
        refine q_loop ?_
        obtain rfl := Option.some.inj hF
        exact ⟨(), hl1, hK1, wk.trans (wk.le (by exact (.eq (.eq (.drop (.drop (.drop (.drop (.drop (.eq (.eq (.cons (leV.of_eq (w64e (by omega) (by omega))) (.drop (.drop (.drop (.drop (.drop (.drop (.drop (.drop (.drop (.drop (.drop (.drop (.drop (.drop (.drop (.drop (.drop (.drop (.drop (.drop (.drop (.drop (.drop (.drop (.drop (.drop (.drop (.drop (.drop (.drop (.drop (.drop (.drop (.drop (.drop (.drop (.drop (.drop (.drop (.drop (.drop (.drop (.drop (.drop (.drop (.drop (.drop (.drop (.drop (.drop (.drop (.drop (.drop (.drop (.drop (.drop leL.nil)))))))))))))))))))))))))))))))))))))))))))))))))))))))))))))))))))) (wk_ext3 (by simp [lowL, AV.low]) rfl rfl (by simp [Blk.low, lowL, AV.low]))⟩
  · skip
    refine r_exit ?_
    refine q_seq_exit ?_
    refine q_loop_exit ?_
    refine q_block_hit ?_
    refine q_seq ?_
    refine r_seq ?_
    refine r_region ?_
    refine ops_ok rfl (s_move rfl gt0 (tyo_ok rfl)) (sk st23) ?_
    refine bindF hF (fun v21 hv21 hF => ?_)
    refine ops_callP rfl (s_call0 rfl rfl rfl (argo_cons (gk gt23) argo_nil) (.cons (tyo_ok rfl) .nil)) (ok150 hv21) (sk st24) ?_
    refine ops_ok rfl (s_un rfl (gk gt24) rfl) (sk st25) ?_
    refine ops_ok rfl (s_assign rfl (gk gt25) (tyo_ok rfl)) st4 ?_
    refine ops_nil ?_
    refine q_seq ?_
    refine r_ret ?_
    obtain rfl := Option.some.inj hF
    refine q_retL1 rfl (rl_tmp gt4 rl_nil) (fin_ext (leV.refl _) rfl ?_)
    exact ⟨rfl, rfl⟩
/-! slices.IndexFunc[[]varve/api.Item,varve/api.Item] -/
theorem ok160 {s0 : (List GItem)} {f1 : (GItem → Option Bool)} {ff1 : FuncId} {af1 kf1 : List AV} {res : Int} {h : AH} (hf1 : ∀ x0 v (L : List Blk) (M : List Nat), f1 x0 = some v → Spec Try.prog ff1 (af1 ++ [.agg [.int .u64 x0.time, .int .u8 x0.dot.actor.rep, .int .u32 x0.dot.actor.inc, .int .u64 x0.dot.seq, .str x0.text]] ++ kf1) (h.ext L M) (fun rr hh => rr = .bool v ∧ hh = h.ext L M)) (hF : slicesIndexFuncItem s0 f1 = some res) : Spec Try.prog 160 [.sl 5 (s0.map GItem.row), .fn (.func ff1) af1 kf1] h (fun rr hh => rr = .int .i64 res ∧ hh = h) := by
  unfold slicesIndexFuncItem at hF
  refine spec_of_body_extC Try.func160 rfl (by kernel_rfl) (env := [.sl 5 (s0.map GItem.row), .fn (.func ff1) af1 kf1, aundef, aundef, aundef, aundef, aundef, aundef, aundef, aundef, aundef, aundef, aundef, aundef, aundef, aundef, aundef, aundef, aundef]) (by rfl) (fun hlow hC => ?_)
  simp only [lowL, AV.low, Bool.and_eq_true, Bool.true_and, and_true] at hlow
  have hlaf1 : ∀ n m, h.blks.length ≤ n → h.toks.length ≤ m → lowL n m af1 = true := fun n m h1 h2 => lowL_up h1 h2 _ (by simp [hlow])
  have hlkf1 : ∀ n m, h.blks.length ≤ n → h.toks.length ≤ m → lowL n m kf1 = true := fun n m h1 h2 => lowL_up h1 h2 _ (by simp [hlow])
  refine r_seq ?_
  refine r_region ?_
  refine ops_ok rfl (s_assign rfl rfl (tyo_ok rfl)) st4 ?_
  refine ops_nil ?_
  refine q_seq ?_
  refine r_seq ?_
  refine r_seq ?_
  refine r_region ?_
  refine ops_ok rfl (s_move rfl gt0 (tyo_ok rfl)) st6 ?_
  refine ops_len rfl (s_lenSl rfl rfl rfl rfl el63 gt6 lenMap) st7 fun hn1 => ?_
  replace hn1 := lenN hn1
  refine ops_ok rfl (s_move rfl rfl (tyo_ok rfl)) st8 ?_
  refine ops_nil ?_
  refine q_seq ?_
  refine r_block ?_
  refine r_loopLF (fun (n1 : Nat) (s1 : Unit) => [(2, .any), (3, .any), (4, .any), (5, .any), (6, .any), (8, .int .i64 (n1 : Int)), (9, .any), (10, .any), (11, .any), (12, .any), (13, .any), (14, .any), (15, .any), (16, .any), (17, .any), (18, .any)]) (fun s1 => h.ext [] []) hF (fun _ _ => by simp only [upd, List.set_cons_succ, List.set_cons_zero]; try rfl) (wk.le (by exact (.eq (.eq (.drop (.drop (.drop (.drop (.drop (.eq (.cons (leV.of_eq rfl) (.drop (.drop (.drop (.drop (.drop (.drop (.drop (.drop (.drop (.drop leL.nil))))))))))))))))))))) ?_
  intro n1 s1 hi1 hF
  refine r_seq ?_
  refine r_region ?_
  refine ops_ok rfl (s_bin rfl gt8 gt7 rfl) st9 ?_
  refine ops_nil ?_
  refine q_seq ?_
  refine r_seq ?_
  refine r_condL gt9 hF (fun x1 o1 hl1 hx1 hF hK1 => ?_) (fun hF => ?_)
  · skip
    refine r_skip ?_
    refine q_seq ?_
    refine r_seq ?_
    refine r_block ?_
    refine r_seq ?_
    refine r_region ?_
    refine ops_ok rfl (s_move rfl gt8 (tyo_ok rfl)) st10 ?_
    refine ops_ok rfl (s_assign rfl gt10 (tyo_ok rfl)) st5 ?_
    refine ops_nil ?_
    refine q_seq ?_
    refine r_seq ?_
    refine r_region ?_
    refine ops_ok rfl (s_move rfl gt1 (tyo_ok rfl)) st11 ?_
    refine ops_ok rfl (s_move rfl gt0 (tyo_ok rfl)) st12 ?_
    refine ops_ok rfl (s_move rfl gt5 (tyo_ok rfl)) st13 ?_
    refine ops_ok rfl (s_idxRow rfl el63 gt12 gt13 isl (idx_of hx1)) st14 ?_
    refine ops_ok rfl (f_load rfl ty73.choose_spec.1 gt14 (ldC_agX (cs' := [.int .u64 x1.time, .int .u8 x1.dot.actor.rep, .int .u32 x1.dot.actor.inc, .int .u64 x1.dot.seq, .str x1.text]) ty73.choose_spec.2 rfl rfl) (tyo_ok rfl)) st15 ?_
    refine bindF hF (fun v7 hv7 hF => ?_)
    refine ops_callP rfl (s_callC rfl rfl gt11 (argo_cons gt15 argo_nil) (.cons (tyo_ok rfl) .nil) rfl) (hf1 _ _ _ _ hv7) st16 ?_
    refine ops_nil ?_
    refine q_seq ?_
    refine r_condF gt16 hF (fun hc8 hF => ?_) (fun hc8 hF => ?_)
    · skip
      refine r_seq ?_
      refine r_region ?_
      refine ops_ok rfl (s_move rfl gt5 (tyo_ok rfl)) st17 ?_
      refine ops_ok rfl (s_assign rfl gt17 (tyo_ok rfl)) st4 ?_
      refine ops_nil ?_
      refine q_seq ?_
      refine r_ret ?_
      refine q_block_ret ?_
      refine q_seq_ret ?_
      refine q_loop_ret ?_
      obtain rfl := Option.some.inj hF
      replace hF := hK1
      refine q_block_ret ?_
      refine q_seq_ret ?_
      obtain rfl := Option.some.inj hF
      refine q_retL1 rfl (rl_tmp gt4 rl_nil) (fin_ext (leV.refl _) rfl ?_)
      exact ⟨rfl, rfl⟩
    · skip
      refine r_skip ?_
      refine q_block ?_
      refine q_seq ?_
      refine r_region ?_
      refine ops_ok rfl (s_bin rfl gt8 rfl rfl) st18 ?_
      refine ops_ok rfl (s_move rfl gt18 (tyo_ok rfl)) st8 ?_
      refine ops_nil ?_
      refine q_loop ?_
      obtain rfl := Option.some.inj hF
      exact ⟨(), hl1, hK1, wk.le (by exact (.eq (.eq (.drop (.drop (.drop (.drop (.drop (.eq (.cons (leV.of_eq (w64e (by omega) (by omega))) (.drop (.drop (.drop (.drop (.drop (.drop (.drop (.drop (.drop (.drop leL.nil))))))))))))))))))))⟩
  · skip
    refine r_exit ?_
    refine q_seq_exit ?_
    refine q_loop_exit ?_
    refine q_block_hit ?_
    refine q_seq ?_
    refine r_seq ?_
    refine r_region ?_
    refine ops_ok rfl (s_assign rfl rfl (tyo_ok rfl)) st4 ?_
    refine ops_nil ?_
    refine q_seq ?_
    refine r_ret ?_
    obtain rfl := Option.some.inj hF
    refine q_retL1 rfl (rl_tmp gt4 rl_nil) (fin_ext (leV.refl _) rfl ?_)
    exact ⟨rfl, rfl⟩
/-! slices.ContainsFunc[[]varve/api.Item,varve/api.Item] -/
theorem ok158 {s0 : (List GItem)} {f1 : (GItem → Option Bool)} {ff1 : FuncId} {af1 kf1 : List AV} {res : Bool} {h : AH} (hf1 : ∀ x0 v (L : List Blk) (M : List Nat), f1 x0 = some v → Spec Try.prog ff1 (af1 ++ [.agg [.int .u64 x0.time, .int .u8 x0.dot.actor.rep, .int .u32 x0.dot.actor.inc, .int .u64 x0.dot.seq, .str x0.text]] ++ kf1) (h.ext L M) (fun rr hh => rr = .bool v ∧ hh = h.ext L M)) (hF : slicesContainsFuncItem s0 f1 = some res) : Spec Try.prog 158 [.sl 5 (s0.map GItem.row), .fn (.func ff1) af1 kf1] h (fun rr hh => rr = .bool res ∧ hh = h) := by
  unfold slicesContainsFuncItem at hF
  refine spec_of_body_extC Try.func158 rfl (by kernel_rfl) (env := [.sl 5 (s0.map GItem.row), .fn (.func ff1) af1 kf1, aundef, aundef, aundef, aundef, aundef, aundef, aundef]) (by rfl) (fun hlow hC => ?_)
  simp only [lowL, AV.low, Bool.and_eq_true, Bool.true_and, and_true] at hlow
  have hlaf1 : ∀ n m, h.blks.length ≤ n → h.toks.length ≤ m → lowL n m af1 = true := fun n m h1 h2 => lowL_up h1 h2 _ (by simp [hlow])
  have hlkf1 : ∀ n m, h.blks.length ≤ n → h.toks.length ≤ m → lowL n m kf1 = true := fun n m h1 h2 => lowL_up h1 h2 _ (by simp [hlow])
  refine r_seq ?_
  refine r_region ?_
  refine ops_ok rfl (s_assign rfl rfl (tyo_ok rfl)) st4 ?_
  refine ops_nil ?_
  refine q_seq ?_
  refine r_seq ?_
  refine r_region ?_
  refine ops_ok rfl (s_move rfl gt0 (tyo_ok rfl)) st5 ?_
  refine ops_ok rfl (s_move rfl gt1 (tyo_ok rfl)) st6 ?_
  refine bindF hF (fun v1 hv1 hF => ?_)
  refine ops_callP rfl (s_call0 rfl rfl rfl (argo_cons gt5 (argo_cons gt6 argo_nil)) (.cons (tyo_ok rfl) (.cons (tyo_ok rfl) .nil))) (ok160 (fun x0 v L M hv => by rw [ext_ext]; exact hf1 x0 v _ _ hv) hv1) st7 ?_
  refine ops_ok rfl (s_bin rfl gt7 rfl rfl) st8 ?_
  refine ops_ok rfl (s_assign rfl gt8 (tyo_ok rfl)) st4 ?_
  refine ops_nil ?_
  refine q_seq ?_
  refine r_ret ?_
  obtain rfl := Option.some.inj hF
  refine q_retL1 rfl (rl_tmp gt4 rl_nil) (fin_ext (leV.refl _) rfl ?_)
  exact ⟨rfl, rfl⟩
/-! varve/leaf.has 1 -/
theorem ok159 {x0 : GItem} {c0 : GDot} {i0 : Nat} {res : Bool} {h : AH} (hb0 : h.blk i0 = some (.cells [.int .u8 c0.actor.rep, .int .u32 c0.actor.inc, .int .u64 c0.seq])) (hF : leafXhasC1 x0 c0 = some res) : Spec Try.prog 159 [.agg [.int .u64 x0.time, .int .u8 x0.dot.actor.rep, .int .u32 x0.dot.actor.inc, .int .u64 x0.dot.seq, .str x0.text], .ptr i0 0] h (fun rr hh => rr = .bool res ∧ hh = h) := by
  unfold leafXhasC1 at hF
  refine spec_of_body_ext Try.func159 rfl (by kernel_rfl) (env := [.agg [.int .u64 x0.time, .int .u8 x0.dot.actor.rep, .int .u32 x0.dot.actor.inc, .int .u64 x0.dot.seq, .str x0.text], .ptr i0 0, aundef, aundef, aundef, aundef, aundef, aundef]) (by rfl) ?_
  refine r_seq ?_
  refine r_region ?_
  refine ops_ok rfl (e_box (n := 0) rfl gt0 (tyo_ok rfl) rfl rfl) st2 ?_
  refine ops_ok rfl (s_assign rfl rfl (tyo_ok rfl)) st3 ?_
  refine ops_nil ?_
  refine q_seq ?_
  refine r_seq ?_
  refine r_region ?_
  refine ops_ok rfl (s_fieldAddr rfl fo73x1 gt2 rfl) st4 ?_
  refine ops_ok rfl (e_load rfl ty27.choose_spec.1 gt4 rfl (ldC_agX (cs' := [.int .u8 x0.dot.actor.rep, .int .u32 x0.dot.actor.inc, .int .u64 x0.dot.seq]) ty27.choose_spec.2 rfl rfl) (tyo_ok rfl)) st5 ?_
  refine ops_ok rfl (b_load rfl ty27.choose_spec.1 gt1 hb0 (ldC_agX (cs' := [.int .u8 c0.actor.rep, .int .u32 c0.actor.inc, .int .u64 c0.seq]) ty27.choose_spec.2 rfl rfl) (tyo_ok rfl)) st6 ?_
  refine ops_ok rfl (s_bin rfl gt5 gt6 (bin_eq pk27 rfl)) st7 ?_
  refine ops_ok rfl (s_assign rfl gt7 (tyo_ok rfl)) st3 ?_
  refine ops_nil ?_
  refine q_seq ?_
  refine r_ret ?_
  obtain rfl := Option.some.inj hF
  refine q_retL1 rfl (rl_tmp gt3 rl_nil) (fin_ext (leV.refl _) rfl ?_)
  exact ⟨rfl, rfl⟩
/-! varve/leaf.has -/
theorem ok151 {l0 : (List GItem)} {d1 : GDot} {res : Bool} {h : AH}  (hF : leafXhas l0 d1 = some res) : Spec Try.prog 151 [.sl 5 (l0.map GItem.row), .agg [.int .u8 d1.actor.rep, .int .u32 d1.actor.inc, .int .u64 d1.seq]] h (fun rr hh => rr = .bool res ∧ hh = h) := by
  unfold leafXhas at hF
  refine spec_of_body_ext Try.func151 rfl (by kernel_rfl) (env := [.sl 5 (l0.map GItem.row), .agg [.int .u8 d1.actor.rep, .int .u32 d1.actor.inc, .int .u64 d1.seq], aundef, aundef, aundef, aundef, aundef, aundef]) (by rfl) ?_
  refine r_seq ?_
  refine r_region ?_
  refine ops_ok rfl (e_box (n := 0) rfl gt1 (tyo_ok rfl) rfl rfl) st3 ?_
  refine ops_ok rfl (s_assign rfl rfl (tyo_ok rfl)) st4 ?_
  refine ops_nil ?_
  refine q_seq ?_
  refine r_seq ?_
  refine r_region ?_
  refine ops_ok rfl (s_move rfl gt0 (tyo_ok rfl)) st5 ?_
  refine ops_ok rfl (s_makeFunc rfl rfl rfl) st6 ?_
  refine bindF hF (fun v1 hv1 hF => ?_)
  refine ops_callP rfl (s_call0 rfl rfl rfl (argo_cons gt5 (argo_cons gt6 argo_nil)) (.cons (tyo_ok rfl) (.cons (tyo_ok rfl) .nil))) (ok158 (fun _ v L M hv => ok159 (blk_ext2 (j := 0) rfl) hv) hv1) st7 ?_
  refine ops_ok rfl (s_assign rfl gt7 (tyo_ok rfl)) st4 ?_
  refine ops_nil ?_
  refine q_seq ?_
  refine r_ret ?_
  obtain rfl := Option.some.inj hF
  refine q_retL1 rfl (rl_tmp gt4 rl_nil) (fin_ext (leV.refl _) rfl ?_)
  exact ⟨rfl, rfl⟩
/-! varve/leaf.tombs -/
theorem ok139 {l0 : GLeaf} {res : Bool} {h : AH}  (hF : leafXtombs l0 = some res) : Spec Try.prog 139 [.agg [.int .u8 l0.typ, .int .i64 l0.n, .int .u64 l0.time, .int .u8 l0.dot.actor.rep, .int .u32 l0.dot.actor.inc, .int .u64 l0.dot.seq, .str l0.text, .sl 5 (l0.items.map GItem.row), .sl 3 (l0.tombs.map GDot.row)]] h (fun rr hh => rr = .bool res ∧ hh = h) := by
  unfold leafXtombs at hF
  refine spec_of_body_ext Try.func139 rfl (by kernel_rfl) (env := [.agg [.int .u8 l0.typ, .int .i64 l0.n, .int .u64 l0.time, .int .u8 l0.dot.actor.rep, .int .u32 l0.dot.actor.inc, .int .u64 l0.dot.seq, .str l0.text, .sl 5 (l0.items.map GItem.row), .sl 3 (l0.tombs.map GDot.row)], aundef, aundef, aundef, aundef, aundef, aundef, aundef, aundef, aundef, aundef, aundef, aundef, aundef, aundef, aundef, aundef, aundef, aundef, aundef, aundef, aundef, aundef, aundef, aundef, aundef, aundef, aundef, aundef, aundef, aundef, aundef, aundef, aundef, aundef, aundef, aundef, aundef]) (by rfl) ?_
  refine r_seq ?_
  refine r_region ?_
  refine ops_ok rfl (e_box (n := 0) rfl gt0 (tyo_ok rfl) rfl rfl) st1 ?_
  refine ops_ok rfl (s_assign rfl rfl (tyo_ok rfl)) st2 ?_
  refine ops_nil ?_
  refine q_seq ?_
  refine r_seq ?_
  refine r_seq ?_
  refine r_region ?_
  refine ops_ok rfl (s_fieldAddr rfl fo65x6 gt1 rfl) st5 ?_
  refine ops_ok rfl (e_load rfl ty29 gt5 rfl (ldC_one rfl) (tyo_ok rfl)) st6 ?_
  refine ops_len rfl (s_lenSl rfl rfl rfl rfl el29 gt6 lenMap) st7 fun hn1 => ?_
  replace hn1 := lenN hn1
  refine ops_ok rfl (s_move rfl rfl (tyo_ok rfl)) st8 ?_
  refine ops_nil ?_
  refine q_seq ?_
  refine r_block ?_
  refine r_loopLF (fun (n1 : Nat) (s1 : Unit) => [(0, .any), (2, .any), (3, .any), (4, .any), (5, .any), (8, .int .i64 (n1 : Int)), (9, .any), (10, .any), (11, .any), (12, .any), (13, .any), (14, .any), (15, .any), (16, .any), (17, .any), (18, .any), (19, .any), (20, .any), (21, .any), (22, .any), (23, .any), (24, .any), (25, .any), (26, .any), (27, .any), (28, .any), (29, .any), (30, .any), (31, .any), (32, .any), (33, .any), (34, .any), (35, .any), (36, .any), (37, .any)]) (fun s1 => h.ext [.cells [.int .u8 l0.typ, .int .i64 l0.n, .int .u64 l0.time, .int .u8 l0.dot.actor.rep, .int .u32 l0.dot.actor.inc, .int .u64 l0.dot.seq, .str l0.text, .sl 5 (l0.items.map GItem.row), .sl 3 (l0.tombs.map GDot.row)]] []) hF (fun _ _ => by simp only [upd, List.set_cons_succ, List.set_cons_zero]; try rfl) (wk.le (by exact (.drop (.eq (.drop (.drop (.drop (.drop (.eq (.eq (.cons (leV.of_eq rfl) (.drop (.drop (.drop (.drop (.drop (.drop (.drop (.drop (.drop (.drop (.drop (.drop (.drop (.drop (.drop (.drop (.drop (.drop (.drop (.drop (.drop (.drop (.drop (.drop (.drop (.drop (.drop (.drop (.drop leL.nil)))))))))))))))))))))))))))))))))))))))) ?_
  intro n1 s1 hi1 hF
  refine r_seq ?_
  refine r_region ?_
  refine ops_ok rfl (s_bin rfl gt8 gt7 rfl) st9 ?_
  refine ops_nil ?_
  refine q_seq ?_
  refine r_seq ?_
  refine r_condL gt9 hF (fun x1 o1 hl1 hx1 hF hK1 => ?_) (fun hF => ?_)
  · skip
    refine r_skip ?_
    refine q_seq ?_
    refine r_seq ?_
    refine r_block ?_
    refine r_seq ?_
    refine r_region ?_
    refine ops_ok rfl (s_move rfl gt8 (tyo_ok rfl)) st10 ?_
    refine ops_ok rfl (s_idxRow rfl el29 gt6 gt8 isl (idx_of hx1)) st11 ?_
    refine ops_ok rfl (f_load rfl ty27.choose_spec.1 gt11 (ldC_agX (cs' := [.int .u8 x1.actor.rep, .int .u32 x1.actor.inc, .int .u64 x1.seq]) ty27.choose_spec.2 rfl rfl) (tyo_ok rfl)) st12 ?_
    refine ops_ok rfl (e_alloc (n := 1) rfl ze27 rfl) st4 ?_
    refine ops_ok rfl (s_assign rfl gt10 (tyo_ok rfl)) st3 ?_
    refine ops_ok rfl (e_store (cs' := [.int .u8 x1.actor.rep, .int .u32 x1.actor.inc, .int .u64 x1.seq]) rfl ty27.choose_spec.1 gt4 gt12 (tyo_ok rfl) rfl rfl rfl rfl rfl) rfl ?_
    refine ops_nil ?_
    refine q_seq ?_
    refine r_seq ?_
    refine r_drawn [1] [] trivial mixed (by kernel_rfl) ?_
    refine draw_ok rfl rfl (e_load rfl ty27.choose_spec.1 gt4 rfl (ldC_agX (cs' := [.int .u8 x1.actor.rep, .int .u32 x1.actor.inc, .int .u64 x1.seq]) ty27.choose_spec.2 rfl rfl) (tyo_ok rfl)) st13 ?_
    refine bindF hF (fun v19 hv19 hF => ?_)
    refine draw_callN rfl rfl (fun _ => s_call0 rfl rfl rfl (argo_cons gt13 argo_nil) (.cons (tyo_ok rfl) .nil)) (by rintro _ ⟨B2, T2, rfl, hk2⟩; exact ok57 hv19) st14 ?_
    refine draw_ok rfl rfl (s_un rfl gt14 rfl) st15 ?_
    refine draw_ok rfl rfl (s_move rfl gt15 (tyo_ok rfl)) st16 ?_
    refine draw_gv rfl rfl (fun hb => s_move rfl gt3 (tyo_ok rfl)) st17 ?_
    refine draw_gv rfl rfl (fun hb => s_bin rfl (evo_gv gt17 hb) rfl rfl) st18 ?_
    refine draw_gv rfl rfl (fun hb => s_move rfl (evo_gv gt18 hb) (tyo_ok rfl)) st19 ?_
    refine draw_gv rfl (aG_gv rfl rfl rfl) (fun hb => s_fieldAddr rfl fo65x6 gt1 rfl) st20 ?_
    refine draw_gv rfl (aG_gv rfl rfl rfl) (fun hb => e_load rfl ty29 (evo_gv gt20 hb) rfl (ldC_one rfl) (tyo_ok rfl)) st21 ?_
    refine draw_gv rfl (aG_gv rfl rfl rfl) (fun hb => s_move rfl gt3 (tyo_ok rfl)) st22 ?_
    refine draw_gv rfl (aG_gv rfl rfl rfl) (fun hb => s_bin rfl (evo_gv gt22 hb) rfl rfl) st23 ?_
    refine chkF hF (fun hg20 hF => ?_)
    refine draw_gv rfl (aG_gv rfl rfl rfl) (fun hb => s_gidxRow default rfl el29 (evo_gv gt21 hb) (evo_gv gt23 hb) isl (hg20 hb)) st24 ?_
    refine draw_gv rfl (aG_gv rfl rfl rfl) (fun hb => f_load rfl ty27.choose_spec.1 (evo_gv gt24 hb) (ldC_agX (cs' := [.int .u8 (((l0.tombs).getD (IntKind.wrap .i64 ((n1 : Int) - (1 : Int))).toNat default).actor.rep), .int .u32 (((l0.tombs).getD (IntKind.wrap .i64 ((n1 : Int) - (1 : Int))).toNat default).actor.inc), .int .u64 (((l0.tombs).getD (IntKind.wrap .i64 ((n1 : Int) - (1 : Int))).toNat default).seq)]) ty27.choose_spec.2 rfl rfl) (tyo_ok rfl)) st25 ?_
    refine draw_gv rfl (aG_gv rfl rfl rfl) (fun hb => e_load rfl ty27.choose_spec.1 gt4 rfl (ldC_agX (cs' := [.int .u8 x1.actor.rep, .int .u32 x1.actor.inc, .int .u64 x1.seq]) ty27.choose_spec.2 rfl rfl) (tyo_ok rfl)) st26 ?_
    refine gbindF hF (fun v21 hv21 hF => ?_)
    refine draw_gcall rfl (aG_gv rfl rfl rfl) (fun hb => s_call0 rfl rfl rfl (argo_cons (evo_gv gt25 hb) (argo_cons (evo_gv gt26 hb) argo_nil)) (.cons (tyo_ok rfl) (.cons (tyo_ok rfl) .nil))) (fun hb => ok116 (hv21 hb)) st27 ?_
    refine draw_gv rfl (aG_gv rfl rfl rfl) (fun hb => s_bin rfl (evo_gv gt27 hb) rfl rfl) st28 ?_
    refine draw_gv rfl rfl (fun hb => s_pick rfl (evo_gv gt19 hb) gt28 rfl (pick_and (fun ht => gT2 hb ht))) st29 ?_
    refine draw_ok rfl rfl (s_pick rfl gt16 rfl gt29 (pick_or (fun ht => gF ht))) st30 ?_
    refine draw_ok rfl rfl (s_move rfl gt30 (tyo_ok rfl)) st31 ?_
    refine draw_gv rfl rfl (fun hb => s_fieldAddr rfl fo65x5 gt1 rfl) st32 ?_
    refine draw_gv rfl rfl (fun hb => e_load rfl ty63 (evo_gv gt32 hb) rfl (ldC_one rfl) (tyo_ok rfl)) st33 ?_
    refine draw_gv rfl rfl (fun hb => e_load rfl ty27.choose_spec.1 gt4 rfl (ldC_agX (cs' := [.int .u8 x1.actor.rep, .int .u32 x1.actor.inc, .int .u64 x1.seq]) ty27.choose_spec.2 rfl rfl) (tyo_ok rfl)) st34 ?_
    refine gbindF hF (fun v22 hv22 hF => ?_)
    refine draw_gcall rfl rfl (fun hb => s_call0 rfl rfl rfl (argo_cons (evo_gv gt33 hb) (argo_cons (evo_gv gt34 hb) argo_nil)) (.cons (tyo_ok rfl) (.cons (tyo_ok rfl) .nil))) (fun hb => ok151 (hv22 hb)) st35 ?_
    refine draw_ok rfl rfl (s_pick rfl gt31 rfl gt35 (pick_or (fun ht => gF ht))) st36 ?_
    refine draw_nil ?_
    refine q_seq ?_
    refine r_condF gt36 hF (fun hc23 hF => ?_) (fun hc23 hF => ?_)
    · skip
      refine r_seq ?_
      refine r_region ?_
      refine ops_ok rfl (s_assign rfl rfl (tyo_ok rfl)) st2 ?_
      refine ops_nil ?_
      refine q_seq ?_
      refine r_ret ?_
      refine q_block_ret ?_
      refine q_seq_ret ?_
      refine q_loop_ret ?_
      obtain rfl := Option.some.inj hF
      replace hF := hK1
      refine q_block_ret ?_
      refine q_seq_ret ?_
      obtain rfl := Option.some.inj hF
      refine q_retL1 rfl (rl_tmp gt2 rl_nil) (fin_ext (leV.refl _) rfl ?_)
      exact ⟨rfl, rfl⟩
    · skip
      refine r_skip ?_
      refine q_block ?_
      refine q_seq ?_
      refine r_region ?_
      refine ops_ok rfl (s_bin rfl gt8 rfl rfl) st37 ?_
      refine ops_ok rfl (s_move rfl gt37 (tyo_ok rfl)) st8 ?_
      refine ops_nil ?_
      refine q_loop ?_
      obtain rfl := Option.some.inj hF
      exact ⟨(), hl1, hK1, wk.trans (wk.le (by exact (.drop (.eq (.drop (.drop (.drop (.drop (.eq (.eq (.cons (leV.of_eq (w64e (by omega) (by omega))) (.drop (.drop (.drop (.drop (.drop (.drop (.drop (.drop (.drop (.drop (.drop (.drop (.drop (.drop (.drop (.drop (.drop (.drop (.drop (.drop (.drop (.drop (.drop (.drop (.drop (.drop (.drop (.drop (.drop leL.nil)))))))))))))))))))))))))))))))))))))))) (wk_ext3 (by simp [lowL, AV.low]) rfl rfl (by simp [Blk.low, lowL, AV.low]))⟩
  · skip
    refine r_exit ?_
    refine q_seq_exit ?_
    refine q_loop_exit ?_
    refine q_block_hit ?_
    refine q_seq ?_
    refine r_seq ?_
    refine r_region ?_
    refine ops_ok rfl (s_assign rfl rfl (tyo_ok rfl)) st2 ?_
    refine ops_nil ?_
    refine q_seq ?_
    refine r_ret ?_
    obtain rfl := Option.some.inj hF
    refine q_retL1 rfl (rl_tmp gt2 rl_nil) (fin_ext (leV.refl _) rfl ?_)
    exact ⟨rfl, rfl⟩
/-! slices.Equal[[]varve/api.Item,varve/api.Item] -/
theorem ok152 {s10 : (List GItem)} {s21 : (List GItem)} {res : Bool} {h : AH}  (hF : slicesEqualItem s10 s21 = some res) : Spec Try.prog 152 [.sl 5 (s10.map GItem.row), .sl 5 (s21.map GItem.row)] h (fun rr hh => rr = .bool res ∧ hh = h) := by
  unfold slicesEqualItem at hF
  refine spec_of_body_ext Try.func152 rfl (by kernel_rfl) (env := [.sl 5 (s10.map GItem.row), .sl 5 (s21.map GItem.row), aundef, aundef, aundef, aundef, aundef, aundef, aundef, aundef, aundef, aundef, aundef, aundef, aundef, aundef, aundef, aundef, aundef, aundef, aundef, aundef, aundef, aundef, aundef, aundef]) (by rfl) ?_
  refine r_seq ?_
  refine r_region ?_
  refine ops_ok rfl (s_assign rfl rfl (tyo_ok rfl)) st4 ?_
  refine ops_nil ?_
  refine q_seq ?_
  refine r_seq ?_
  refine r_seq ?_
  refine r_region ?_
  refine ops_ok rfl (s_move rfl gt0 (tyo_ok rfl)) st6 ?_
  refine ops_len rfl (s_lenSl rfl rfl rfl rfl el63 gt6 lenMap) st7 fun hn1 => ?_
  replace hn1 := lenN hn1
  refine ops_ok rfl (s_move rfl gt1 (tyo_ok rfl)) st8 ?_
  refine ops_len rfl (s_lenSl rfl rfl rfl rfl el63 gt8 lenMap) st9 fun hn2 => ?_
  replace hn2 := lenN hn2
  refine ops_ok rfl (s_bin rfl gt7 gt9 rfl) st10 ?_
  refine ops_nil ?_
  refine q_seq ?_
  refine r_condF gt10 hF (fun hc3 hF => ?_) (fun hc3 hF => ?_)
  · skip
    refine r_seq ?_
    refine r_region ?_
    refine ops_ok rfl (s_assign rfl rfl (tyo_ok rfl)) st4 ?_
    refine ops_nil ?_
    refine q_seq ?_
    refine r_ret ?_
    refine q_seq_ret ?_
    obtain rfl := Option.some.inj hF
    refine q_retL1 rfl (rl_tmp gt4 rl_nil) (fin_ext (leV.refl _) rfl ?_)
    exact ⟨rfl, rfl⟩
  · skip
    refine r_skip ?_
    refine q_seq ?_
    refine r_seq ?_
    refine r_seq ?_
    refine r_region ?_
    refine ops_ok rfl (s_move rfl gt0 (tyo_ok rfl)) st11 ?_
    refine ops_len rfl (s_lenSl rfl rfl rfl rfl el63 gt11 lenMap) st12 fun hn4 => ?_
    replace hn4 := lenN hn4
    refine ops_ok rfl (s_move rfl rfl (tyo_ok rfl)) st13 ?_
    refine ops_nil ?_
    refine q_seq ?_
    refine r_block ?_
    refine r_loopLF (fun (n1 : Nat) (s1 : Unit) => [(2, .any), (3, .any), (4, .any), (5, .any), (6, .any), (7, .any), (8, .any), (9, .any), (10, .any), (11, .any), (13, .int .i64 (n1 : Int)), (14, .any), (15, .any), (16, .any), (17, .any), (18, .any), (19, .any), (20, .any), (21, .any), (22, .any), (23, .any), (24, .any), (25, .any)]) (fun s1 => h.ext [] []) hF (fun _ _ => by simp only [upd, List.set_cons_succ, List.set_cons_zero]; try rfl) (wk.le (by exact (.eq (.eq (.drop (.drop (.drop (.drop (.drop (.drop (.drop (.drop (.drop (.drop (.eq (.cons (leV.of_eq rfl) (.drop (.drop (.drop (.drop (.drop (.drop (.drop (.drop (.drop (.drop (.drop (.drop leL.nil)))))))))))))))))))))))))))) ?_
    intro n1 s1 hi1 hF
    refine r_seq ?_
    refine r_region ?_
    refine ops_ok rfl (s_bin rfl gt13 gt12 rfl) st14 ?_
    refine ops_nil ?_
    refine q_seq ?_
    refine r_seq ?_
    refine r_condL gt14 hF (fun x1 o1 hl1 hx1 hF hK1 => ?_) (fun hF => ?_)
    · skip
      refine r_skip ?_
      refine q_seq ?_
      refine r_seq ?_
      refine r_block ?_
      refine r_seq ?_
      refine r_region ?_
      refine ops_ok rfl (s_move rfl gt13 (tyo_ok rfl)) st15 ?_
      refine ops_ok rfl (s_assign rfl gt15 (tyo_ok rfl)) st5 ?_
      refine ops_nil ?_
      refine q_seq ?_
      refine r_seq ?_
      refine r_drawn [] [] trivial mixed (by kernel_rfl) ?_
      refine draw_ok rfl rfl (s_move rfl gt0 (tyo_ok rfl)) st16 ?_
      refine draw_ok rfl rfl (s_move rfl gt5 (tyo_ok rfl)) st17 ?_
      refine draw_ok rfl rfl (s_idxRow rfl el63 gt16 gt17 isl (idx_of hx1)) st18 ?_
      refine draw_ok rfl rfl (f_load rfl ty73.choose_spec.1 gt18 (ldC_agX (cs' := [.int .u64 x1.time, .int .u8 x1.dot.actor.rep, .int .u32 x1.dot.actor.inc, .int .u64 x1.dot.seq, .str x1.text]) ty73.choose_spec.2 rfl rfl) (tyo_ok rfl)) st19 ?_
      refine draw_ok rfl rfl (s_move rfl gt1 (tyo_ok rfl)) st20 ?_
      refine draw_ok rfl rfl (s_move rfl gt5 (tyo_ok rfl)) st21 ?_
      refine bindF hF (fun y10 hy10 hF => ?_)
      refine draw_ok rfl rfl (s_idxRow rfl el63 gt20 gt21 isl hy10) st22 ?_
      refine draw_ok rfl rfl (f_load rfl ty73.choose_spec.1 gt22 (ldC_agX (cs' := [.int .u64 y10.time, .int .u8 y10.dot.actor.rep, .int .u32 y10.dot.actor.inc, .int .u64 y10.dot.seq, .str y10.text]) ty73.choose_spec.2 rfl rfl) (tyo_ok rfl)) st23 ?_
      refine draw_ok rfl rfl (s_bin rfl gt19 gt23 (bin_ne pk73 rfl)) st24 ?_
      refine draw_nil ?_
      refine q_seq ?_
      refine r_condF gt24 hF (fun hc11 hF => ?_) (fun hc11 hF => ?_)
      · skip
        refine r_seq ?_
        refine r_region ?_
        refine ops_ok rfl (s_assign rfl rfl (tyo_ok rfl)) st4 ?_
        refine ops_nil ?_
        refine q_seq ?_
        refine r_ret ?_
        refine q_block_ret ?_
        refine q_seq_ret ?_
        refine q_loop_ret ?_
        obtain rfl := Option.some.inj hF
        replace hF := hK1
        refine q_block_ret ?_
        refine q_seq_ret ?_
        obtain rfl := Option.some.inj hF
        refine q_retL1 rfl (rl_tmp gt4 rl_nil) (fin_ext (leV.refl _) rfl ?_)
        exact ⟨rfl, rfl⟩
      · skip
        refine r_skip ?_
        refine q_block ?_
        refine q_seq ?_
        refine r_region ?_
        refine ops_ok rfl (s_bin rfl gt13 rfl rfl) st25 ?_
        refine ops_ok rfl (s_move rfl gt25 (tyo_ok rfl)) st13 ?_
        refine ops_nil ?_
        refine q_loop ?_
        obtain rfl := Option.some.inj hF
        exact ⟨(), hl1, hK1, wk.le (by exact (.eq (.eq (.drop (.drop (.drop (.drop (.drop (.drop (.drop (.drop (.drop (.drop (.eq (.cons (leV.of_eq (w64e (by omega) (by omega))) (.drop (.drop (.drop (.drop (.drop (.drop (.drop (.drop (.drop (.drop (.drop (.drop leL.nil)))))))))))))))))))))))))))⟩
    · skip
      refine r_exit ?_
      refine q_seq_exit ?_
      refine q_loop_exit ?_
      refine q_block_hit ?_
      refine q_seq ?_
      refine r_seq ?_
      refine r_region ?_
      refine ops_ok rfl (s_assign rfl rfl (tyo_ok rfl)) st4 ?_
      refine ops_nil ?_
      refine q_seq ?_
      refine r_ret ?_
      obtain rfl := Option.some.inj hF
      refine q_retL1 rfl (rl_tmp gt4 rl_nil) (fin_ext (leV.refl _) rfl ?_)
      exact ⟨rfl, rfl⟩
/-! slices.Equal[[]varve/api.Dot,varve/api.Dot] -/
theorem ok59 {s10 : (List GDot)} {s21 : (List GDot)} {res : Bool} {h : AH}  (hF : slicesEqualDot s10 s21 = some res) : Spec Try.prog 59 [.sl 3 (s10.map GDot.row), .sl 3 (s21.map GDot.row)] h (fun rr hh => rr = .bool res ∧ hh = h) := by
  unfold slicesEqualDot at hF
  refine spec_of_body_ext Try.func59 rfl (by kernel_rfl) (env := [.sl 3 (s10.map GDot.row), .sl 3 (s21.map GDot.row), aundef, aundef, aundef, aundef, aundef, aundef, aundef, aundef, aundef, aundef, aundef, aundef, aundef, aundef, aundef, aundef, aundef, aundef, aundef, aundef, aundef, aundef, aundef, aundef]) (by rfl) ?_
  refine r_seq ?_
  refine r_region ?_
  refine ops_ok rfl (s_assign rfl rfl (tyo_ok rfl)) st4 ?_
  refine ops_nil ?_
  refine q_seq ?_
  refine r_seq ?_
  refine r_seq ?_
  refine r_region ?_
  refine ops_ok rfl (s_move rfl gt0 (tyo_ok rfl)) st6 ?_
  refine ops_len rfl (s_lenSl rfl rfl rfl rfl el29 gt6 lenMap) st7 fun hn1 => ?_
  replace hn1 := lenN hn1
  refine ops_ok rfl (s_move rfl gt1 (tyo_ok rfl)) st8 ?_
  refine ops_len rfl (s_lenSl rfl rfl rfl rfl el29 gt8 lenMap) st9 fun hn2 => ?_
  replace hn2 := lenN hn2
  refine ops_ok rfl (s_bin rfl gt7 gt9 rfl) st10 ?_
  refine ops_nil ?_
  refine q_seq ?_
  refine r_condF gt10 hF (fun hc3 hF => ?_) (fun hc3 hF => ?_)
  · skip
    refine r_seq ?_
    refine r_region ?_
    refine ops_ok rfl (s_assign rfl rfl (tyo_ok rfl)) st4 ?_
    refine ops_nil ?_
    refine q_seq ?_
    refine r_ret ?_
    refine q_seq_ret ?_
    obtain rfl := Option.some.inj hF
    refine q_retL1 rfl (rl_tmp gt4 rl_nil) (fin_ext (leV.refl _) rfl ?_)
    exact ⟨rfl, rfl⟩
  · skip
    refine r_skip ?_
    refine q_seq ?_
    refine r_seq ?_
    refine r_seq ?_
    refine r_region ?_
    refine ops_ok rfl (s_move rfl gt0 (tyo_ok rfl)) st11 ?_
    refine ops_len rfl (s_lenSl rfl rfl rfl rfl el29 gt11 lenMap) st12 fun hn4 => ?_
    replace hn4 := lenN hn4
    refine ops_ok rfl (s_move rfl rfl (tyo_ok rfl)) st13 ?_
    refine ops_nil ?_
    refine q_seq ?_
    refine r_block ?_
    refine r_loopLF (fun (n1 : Nat) (s1 : Unit) => [(2, .any), (3, .any), (4, .any), (5, .any), (6, .any), (7, .any), (8, .any), (9, .any), (10, .any), (11, .any), (13, .int .i64 (n1 : Int)), (14, .any), (15, .any), (16, .any), (17, .any), (18, .any), (19, .any), (20, .any), (21, .any), (22, .any), (23, .any), (24, .any), (25, .any)]) (fun s1 => h.ext [] []) hF (fun _ _ => by simp only [upd, List.set_cons_succ, List.set_cons_zero]; try rfl) (wk.le (by exact (.eq (.eq (.drop (.drop (.drop (.drop (.drop (.drop (.drop (.drop (.drop (.drop (.eq (.cons (leV.of_eq rfl) (.drop (.drop (.drop (.drop (.drop (.drop (.drop (.drop (.drop (.drop (.drop (.drop leL.nil)))))))))))))))))))))))))))) ?_
    intro n1 s1 hi1 hF
    refine r_seq ?_
    refine r_region ?_
    refine ops_ok rfl (s_bin rfl gt13 gt12 rfl) st14 ?_
    refine ops_nil ?_
    refine q_seq ?_
    refine r_seq ?_
    refine r_condL gt14 hF (fun x1 o1 hl1 hx1 hF hK1 => ?_) (fun hF => ?_)
    · skip
      refine r_skip ?_
      refine q_seq ?_
      refine r_seq ?_
      refine r_block ?_
      refine r_seq ?_
      refine r_region ?_
      refine ops_ok rfl (s_move rfl gt13 (tyo_ok rfl)) st15 ?_
      refine ops_ok rfl (s_assign rfl gt15 (tyo_ok rfl)) st5 ?_
      refine ops_nil ?_
      refine q_seq ?_
      refine r_seq ?_
      refine r_drawn [] [] trivial mixed (by kernel_rfl) ?_
      refine draw_ok rfl rfl (s_move rfl gt0 (tyo_ok rfl)) st16 ?_
      refine draw_ok rfl rfl (s_move rfl gt5 (tyo_ok rfl)) st17 ?_
      refine draw_ok rfl rfl (s_idxRow rfl el29 gt16 gt17 isl (idx_of hx1)) st18 ?_
      refine draw_ok rfl rfl (f_load rfl ty27.choose_spec.1 gt18 (ldC_agX (cs' := [.int .u8 x1.actor.rep, .int .u32 x1.actor.inc, .int .u64 x1.seq]) ty27.choose_spec.2 rfl rfl) (tyo_ok rfl)) st19 ?_
      refine draw_ok rfl rfl (s_move rfl gt1 (tyo_ok rfl)) st20 ?_
      refine draw_ok rfl rfl (s_move rfl gt5 (tyo_ok rfl)) st21 ?_
      refine bindF hF (fun y10 hy10 hF => ?_)
      refine draw_ok rfl rfl (s_idxRow rfl el29 gt20 gt21 isl hy10) st22 ?_
      refine draw_ok rfl rfl (f_load rfl ty27.choose_spec.1 gt22 (ldC_agX (cs' := [.int .u8 y10.actor.rep, .int .u32 y10.actor.inc, .int .u64 y10.seq]) ty27.choose_spec.2 rfl rfl) (tyo_ok rfl)) st23 ?_
      refine draw_ok rfl rfl (s_bin rfl gt19 gt23 (bin_ne pk27 rfl)) st24 ?_
      refine draw_nil ?_
      refine q_seq ?_
      refine r_condF gt24 hF (fun hc11 hF => ?_) (fun hc11 hF => ?_)
      · skip
        refine r_seq ?_
        refine r_region ?_
        refine ops_ok rfl (s_assign rfl rfl (tyo_ok rfl)) st4 ?_
        refine ops_nil ?_
        refine q_seq ?_
        refine r_ret ?_
        refine q_block_ret ?_
        refine q_seq_ret ?_
        refine q_loop_ret ?_
        obtain rfl := Option.some.inj hF
        replace hF := hK1
        refine q_block_ret ?_
        refine q_seq_ret ?_
        obtain rfl := Option.some.inj hF
        refine q_retL1 rfl (rl_tmp gt4 rl_nil) (fin_ext (leV.refl _) rfl ?_)
        exact ⟨rfl, rfl⟩
      · skip
        refine r_skip ?_
        refine q_block ?_
        refine q_seq ?_
        refine r_region ?_
        refine ops_ok rfl (s_bin rfl gt13 rfl rfl) st25 ?_
        refine ops_ok rfl (s_move rfl gt25 (tyo_ok rfl)) st13 ?_
        refine ops_nil ?_
        refine q_loop ?_
        obtain rfl := Option.some.inj hF
        exact ⟨(), hl1, hK1, wk.le (by exact (.eq (.eq (.drop (.drop (.drop (.drop (.drop (.drop (.drop (.drop (.drop (.drop (.eq (.cons (leV.of_eq (w64e (by omega) (by omega))) (.drop (.drop (.drop (.drop (.drop (.drop (.drop (.drop (.drop (.drop (.drop (.drop leL.nil)))))))))))))))))))))))))))⟩
    · skip
      refine r_exit ?_
      refine q_seq_exit ?_
      refine q_loop_exit ?_
      refine q_block_hit ?_
      refine q_seq ?_
      refine r_seq ?_
      refine r_region ?_
      refine ops_ok rfl (s_assign rfl rfl (tyo_ok rfl)) st4 ?_
      refine ops_nil ?_
      refine q_seq ?_
      refine r_ret ?_
      obtain rfl := Option.some.inj hF
      refine q_retL1 rfl (rl_tmp gt4 rl_nil) (fin_ext (leV.refl _) rfl ?_)
      exact ⟨rfl, rfl⟩
/-! varve/leaf.Same -/
theorem ok140 {a0 : GLeaf} {b1 : GLeaf} {res : Bool} {h : AH}  (hF : leafSame a0 b1 = some res) : Spec Try.prog 140 [.agg [.int .u8 a0.typ, .int .i64 a0.n, .int .u64 a0.time, .int .u8 a0.dot.actor.rep, .int .u32 a0.dot.actor.inc, .int .u64 a0.dot.seq, .str a0.text, .sl 5 (a0.items.map GItem.row), .sl 3 (a0.tombs.map GDot.row)], .agg [.int .u8 b1.typ, .int .i64 b1.n, .int .u64 b1.time, .int .u8 b1.dot.actor.rep, .int .u32 b1.dot.actor.inc, .int .u64 b1.dot.seq, .str b1.text, .sl 5 (b1.items.map GItem.row), .sl 3 (b1.tombs.map GDot.row)]] h (fun rr hh => rr = .bool res ∧ hh = h) := by
  unfold leafSame at hF
  refine spec_of_body_ext Try.func140 rfl (by kernel_rfl) (env := [.agg [.int .u8 a0.typ, .int .i64 a0.n, .int .u64 a0.time, .int .u8 a0.dot.actor.rep, .int .u32 a0.dot.actor.inc, .int .u64 a0.dot.seq, .str a0.text, .sl 5 (a0.items.map GItem.row), .sl 3 (a0.tombs.map GDot.row)], .agg [.int .u8 b1.typ, .int .i64 b1.n, .int .u64 b1.time, .int .u8 b1.dot.actor.rep, .int .u32 b1.dot.actor.inc, .int .u64 b1.dot.seq, .str b1.text, .sl 5 (b1.items.map GItem.row), .sl 3 (b1.tombs.map GDot.row)], aundef, aundef, aundef, aundef, aundef, aundef, aundef, aundef, aundef, aundef, aundef, aundef, aundef, aundef, aundef, aundef, aundef, aundef, aundef, aundef, aundef, aundef, aundef, aundef, aundef, aundef, aundef, aundef, aundef, aundef, aundef, aundef, aundef, aundef, aundef, aundef, aundef, aundef, aundef, aundef, aundef, aundef, aundef, aundef, aundef, aundef, aundef, aundef, aundef, aundef]) (by rfl) ?_
  refine r_seq ?_
  refine r_region ?_
  refine ops_ok rfl (e_box (n := 0) rfl gt0 (tyo_ok rfl) rfl rfl) st2 ?_
  refine ops_ok rfl (e_box (n := 1) rfl gt1 (tyo_ok rfl) rfl rfl) st3 ?_
  refine ops_ok rfl (s_assign rfl rfl (tyo_ok rfl)) st4 ?_
  refine ops_nil ?_
  refine q_seq ?_
  refine r_seq ?_
  refine r_region ?_
  refine ops_ok rfl (s_fieldAddr rfl fo65x0 gt2 rfl) st5 ?_
  refine ops_ok rfl (e_load rfl ty5 gt5 rfl (ldC_one rfl) (tyo_ok rfl)) st6 ?_
  refine ops_ok rfl (s_fieldAddr rfl fo65x0 gt3 rfl) st7 ?_
  refine ops_ok rfl (e_load rfl ty5 gt7 rfl (ldC_one rfl) (tyo_ok rfl)) st8 ?_
  refine ops_ok rfl (s_bin rfl gt6 gt8 rfl) st9 ?_
  refine ops_ok rfl (s_move rfl gt9 (tyo_ok rfl)) st10 ?_
  refine ops_gv rfl (fun hb => s_fieldAddr rfl fo65x1 gt2 rfl) st11 ?_
  refine ops_gv rfl (fun hb => e_load rfl ty2 (evo_gv gt11 hb) rfl (ldC_one rfl) (tyo_ok rfl)) st12 ?_
  refine ops_gv rfl (fun hb => s_fieldAddr rfl fo65x1 gt3 rfl) st13 ?_
  refine ops_gv rfl (fun hb => e_load rfl ty2 (evo_gv gt13 hb) rfl (ldC_one rfl) (tyo_ok rfl)) st14 ?_
  refine ops_gv rfl (fun hb => s_bin rfl (evo_gv gt12 hb) (evo_gv gt14 hb) rfl) st15 ?_
  refine ops_ok rfl (s_pick rfl gt10 gt15 rfl (pick_and (fun ht => gT ht))) st16 ?_
  refine ops_ok rfl (s_move rfl gt16 (tyo_ok rfl)) st17 ?_
  refine ops_gv rfl (fun hb => s_fieldAddr rfl fo65x2 gt2 rfl) st18 ?_
  refine ops_gv rfl (fun hb => e_load rfl ty25 (evo_gv gt18 hb) rfl (ldC_one rfl) (tyo_ok rfl)) st19 ?_
  refine ops_gv rfl (fun hb => s_fieldAddr rfl fo65x2 gt3 rfl) st20 ?_
  refine ops_gv rfl (fun hb => e_load rfl ty25 (evo_gv gt20 hb) rfl (ldC_one rfl) (tyo_ok rfl)) st21 ?_
  refine ops_gv rfl (fun hb => s_bin rfl (evo_gv gt19 hb) (evo_gv gt21 hb) rfl) st22 ?_
  refine ops_ok rfl (s_pick rfl gt17 gt22 rfl (pick_and (fun ht => gT ht))) st23 ?_
  refine ops_ok rfl (s_move rfl gt23 (tyo_ok rfl)) st24 ?_
  refine ops_gv rfl (fun hb => s_fieldAddr rfl fo65x3 gt2 rfl) st25 ?_
  refine ops_gv rfl (fun hb => e_load rfl ty27.choose_spec.1 (evo_gv gt25 hb) rfl (ldC_agX (cs' := [.int .u8 a0.dot.actor.rep, .int .u32 a0.dot.actor.inc, .int .u64 a0.dot.seq]) ty27.choose_spec.2 rfl rfl) (tyo_ok rfl)) st26 ?_
  refine ops_gv rfl (fun hb => s_fieldAddr rfl fo65x3 gt3 rfl) st27 ?_
  refine ops_gv rfl (fun hb => e_load rfl ty27.choose_spec.1 (evo_gv gt27 hb) rfl (ldC_agX (cs' := [.int .u8 b1.dot.actor.rep, .int .u32 b1.dot.actor.inc, .int .u64 b1.dot.seq]) ty27.choose_spec.2 rfl rfl) (tyo_ok rfl)) st28 ?_
  refine ops_gv rfl (fun hb => s_bin rfl (evo_gv gt26 hb) (evo_gv gt28 hb) (bin_eq pk27 rfl)) st29 ?_
  refine ops_ok rfl (s_pick rfl gt24 gt29 rfl (pick_and (fun ht => gT ht))) st30 ?_
  refine ops_ok rfl (s_move rfl gt30 (tyo_ok rfl)) st31 ?_
  refine ops_gv rfl (fun hb => s_fieldAddr rfl fo65x4 gt2 rfl) st32 ?_
  refine ops_gv rfl (fun hb => e_load rfl ty9 (evo_gv gt32 hb) rfl (ldC_one rfl) (tyo_ok rfl)) st33 ?_
  refine ops_gv rfl (fun hb => s_fieldAddr rfl fo65x4 gt3 rfl) st34 ?_
  refine ops_gv rfl (fun hb => e_load rfl ty9 (evo_gv gt34 hb) rfl (ldC_one rfl) (tyo_ok rfl)) st35 ?_
  refine ops_gv rfl (fun hb => s_bin rfl (evo_gv gt33 hb) (evo_gv gt35 hb) rfl) st36 ?_
  refine ops_ok rfl (s_pick rfl gt31 gt36 rfl (pick_and (fun ht => gT ht))) st37 ?_
  refine ops_ok rfl (s_move rfl gt37 (tyo_ok rfl)) st38 ?_
  refine ops_gv rfl (fun hb => s_fieldAddr rfl fo65x5 gt2 rfl) st39 ?_
  refine ops_gv rfl (fun hb => e_load rfl ty63 (evo_gv gt39 hb) rfl (ldC_one rfl) (tyo_ok rfl)) (sk st0) ?_
  refine ops_gv rfl (fun hb => s_fieldAddr rfl fo65x5 gt3 rfl) (sk st1) ?_
  refine ops_gv rfl (fun hb => e_load rfl ty63 (evo_gv (gk gt1) hb) rfl (ldC_one rfl) (tyo_ok rfl)) (sk st2) ?_
  refine gbindF hF (fun v1 hv1 hF => ?_)
  refine ops_gcall rfl (fun hb => s_call0 rfl rfl rfl (argo_cons (evo_gv (gk gt0) hb) (argo_cons (evo_gv (gk gt2) hb) argo_nil)) (.cons (tyo_ok rfl) (.cons (tyo_ok rfl) .nil))) (fun hb => ok152 (hv1 hb)) (sk st3) ?_
  refine ops_ok rfl (s_pick rfl gt38 (gk gt3) rfl (pick_and (fun ht => gT ht))) (sk st4) ?_
  refine ops_ok rfl (s_move rfl (gk gt4) (tyo_ok rfl)) (sk st5) ?_
  refine ops_gv rfl (fun hb => s_fieldAddr rfl fo65x6 gt2 rfl) (sk st6) ?_
  refine ops_gv rfl (fun hb => e_load rfl ty29 (evo_gv (gk gt6) hb) rfl (ldC_one rfl) (tyo_ok rfl)) (sk st7) ?_
  refine ops_gv rfl (fun hb => s_fieldAddr rfl fo65x6 gt3 rfl) (sk st8) ?_
  refine ops_gv rfl (fun hb => e_load rfl ty29 (evo_gv (gk gt8) hb) rfl (ldC_one rfl) (tyo_ok rfl)) (sk st9) ?_
  refine gbindF hF (fun v2 hv2 hF => ?_)
  refine ops_gcall rfl (fun hb => s_call0 rfl rfl rfl (argo_cons (evo_gv (gk gt7) hb) (argo_cons (evo_gv (gk gt9) hb) argo_nil)) (.cons (tyo_ok rfl) (.cons (tyo_ok rfl) .nil))) (fun hb => ok59 (hv2 hb)) (sk st10) ?_
  refine ops_ok rfl (s_pick rfl (gk gt5) (gk gt10) rfl (pick_and (fun ht => gT ht))) (sk st11) ?_
  refine ops_ok rfl (s_assign rfl (gk gt11) (tyo_ok rfl)) st4 ?_
  refine ops_nil ?_
  refine q_seq ?_
  refine r_ret ?_
  obtain rfl := Option.some.inj hF
  refine q_retL1 rfl (rl_tmp gt4 rl_nil) (fin_ext (leV.refl _) rfl ?_)
  exact ⟨rfl, rfl⟩
/-! varve/leaf.May -/
theorem ok123 {l0 : GLeaf} {res : Bool} {h : AH}  (hF : leafMay l0 = some res) : Spec Try.prog 123 [.agg [.int .u8 l0.typ, .int .i64 l0.n, .int .u64 l0.time, .int .u8 l0.dot.actor.rep, .int .u32 l0.dot.actor.inc, .int .u64 l0.dot.seq, .str l0.text, .sl 5 (l0.items.map GItem.row), .sl 3 (l0.tombs.map GDot.row)]] h (fun rr hh => rr = .bool res ∧ hh = h) := by
  unfold leafMay at hF
  refine spec_of_body_ext Try.func123 rfl (by kernel_rfl) (env := [.agg [.int .u8 l0.typ, .int .i64 l0.n, .int .u64 l0.time, .int .u8 l0.dot.actor.rep, .int .u32 l0.dot.actor.inc, .int .u64 l0.dot.seq, .str l0.text, .sl 5 (l0.items.map GItem.row), .sl 3 (l0.tombs.map GDot.row)], aundef, aundef, aundef, aundef, aundef, aundef, aundef, aundef, aundef, aundef, aundef, aundef, aundef, aundef, aundef, aundef, aundef, aundef, aundef, aundef, aundef, aundef, aundef, aundef, aundef, aundef, aundef, aundef, aundef, aundef, aundef, aundef, aundef, aundef, aundef, aundef, aundef, aundef, aundef, aundef, aundef, aundef, aundef, aundef, aundef, aundef, aundef, aundef, aundef, aundef, aundef, aundef, aundef, aundef, aundef, aundef, aundef, aundef, aundef, aundef, aundef, aundef, aundef, aundef, aundef, aundef, aundef, aundef, aundef, aundef, aundef, aundef, aundef, aundef, aundef, aundef, aundef, aundef, aundef, aundef, aundef, aundef, aundef, aundef, aundef, aundef, aundef, aundef]) (by rfl) ?_
  refine r_seq ?_
  refine r_region ?_
  refine ops_ok rfl (e_box (n := 0) rfl gt0 (tyo_ok rfl) rfl rfl) st1 ?_
  refine ops_ok rfl (s_assign rfl rfl (tyo_ok rfl)) st2 ?_
  refine ops_nil ?_
  refine q_seq ?_
  refine r_seq ?_
  refine r_region ?_
  refine ops_ok rfl (s_fieldAddr rfl fo65x0 gt1 rfl) st4 ?_
  refine ops_ok rfl (e_load rfl ty5 gt4 rfl (ldC_one rfl) (tyo_ok rfl)) st5 ?_
  refine ops_ok rfl (s_build (cs' := [.int .u8 l0.typ, .int .i64 (0 : Int), .int .u64 (0 : Int), .int .u8 (0 : Int), .int .u32 (0 : Int), .int .u64 (0 : Int), .str ([] : Str), .osl none 5 (([] : List GItem).map GItem.row), .osl none 3 (([] : List GDot).map GDot.row)]) rfl su65 ze65 pl65 (parto_cons gt5 parto_nil) (.cons (tyo_ok rfl) .nil) rfl rfl) st6 ?_
  refine ops_ok rfl (e_alloc (n := 1) rfl ze65 rfl) st3 ?_
  refine ops_ok rfl (e_store (cs' := [.int .u8 l0.typ, .int .i64 (0 : Int), .int .u64 (0 : Int), .int .u8 (0 : Int), .int .u32 (0 : Int), .int .u64 (0 : Int), .str ([] : Str), .osl none 5 (([] : List GItem).map GItem.row), .osl none 3 (([] : List GDot).map GDot.row)]) rfl ty65.choose_spec.1 gt3 gt6 (tyo_ok rfl) rfl rfl rfl rfl rfl) rfl ?_
  refine ops_nil ?_
  refine q_seq ?_
  refine r_seq ?_
  refine r_seq ?_
  refine r_region ?_
  refine ops_ok rfl (s_fieldAddr rfl fo65x0 gt1 rfl) st7 ?_
  refine ops_ok rfl (e_load rfl ty5 gt7 rfl (ldC_one rfl) (tyo_ok rfl)) st8 ?_
  refine ops_nil ?_
  refine q_seq ?_
  refine r_block ?_
  refine r_seq ?_
  refine r_region ?_
  refine ops_ok rfl (s_bin rfl gt8 rfl rfl) st10 ?_
  refine ops_ok rfl (s_assign rfl gt10 (tyo_ok rfl)) st9 ?_
  refine ops_nil ?_
  refine q_seq ?_
  refine r_condF gt9 hF (fun hc1 hF => ?_) (fun hc1 hF => ?_)
  · skip
    refine r_region ?_
    refine ops_ok rfl (s_fieldAddr rfl fo65x1 gt1 rfl) st11 ?_
    refine ops_ok rfl (e_load rfl ty2 gt11 rfl (ldC_one rfl) (tyo_ok rfl)) st12 ?_
    refine ops_ok rfl (s_fieldAddr rfl fo65x1 gt3 rfl) st13 ?_
    refine ops_ok rfl (e_store (cs' := [.int .u8 l0.typ, .int .i64 l0.n, .int .u64 (0 : Int), .int .u8 (0 : Int), .int .u32 (0 : Int), .int .u64 (0 : Int), .str ([] : Str), .osl none 5 (([] : List GItem).map GItem.row), .osl none 3 (([] : List GDot).map GDot.row)]) rfl ty2 gt13 gt12 (tyo_ok rfl) rfl rfl rfl rfl rfl) rfl ?_
    refine ops_nil ?_
    refine q_block ?_
    refine q_seq ?_
    refine r_seq ?_
    refine r_region ?_
    refine ops_ok rfl (e_load rfl ty65.choose_spec.1 gt1 rfl (ldC_agX (cs' := [.int .u8 l0.typ, .int .i64 l0.n, .int .u64 l0.time, .int .u8 l0.dot.actor.rep, .int .u32 l0.dot.actor.inc, .int .u64 l0.dot.seq, .str l0.text, .sl 5 (l0.items.map GItem.row), .sl 3 (l0.tombs.map GDot.row)]) ty65.choose_spec.2 rfl rfl) (tyo_ok rfl)) (sk (sk st6)) ?_
    refine ops_ok rfl (e_load rfl ty65.choose_spec.1 gt3 rfl (ldC_agX (cs' := [.int .u8 l0.typ, .int .i64 l0.n, .int .u64 (0 : Int), .int .u8 (0 : Int), .int .u32 (0 : Int), .int .u64 (0 : Int), .str ([] : Str), .osl none 5 (([] : List GItem).map GItem.row), .osl none 3 (([] : List GDot).map GDot.row)]) ty65.choose_spec.2 rfl rfl) (tyo_ok rfl)) (sk (sk st7)) ?_
    refine bindF hF (fun v2 hv2 hF => ?_)
    refine ops_callP rfl (s_call0 rfl rfl rfl (argo_cons (gk (gk gt6)) (argo_cons (gk (gk gt7)) argo_nil)) (.cons (tyo_ok rfl) (.cons (tyo_ok rfl) .nil))) ((ok140 hv2).le (.eq (.cons (leV.agg (.eq (.eq (.eq (.eq (.eq (.eq (.eq (.cons (leV.osl _ _ _) (.cons (leV.osl _ _ _) leL.nil))))))))) rfl) leL.nil))) (sk (sk st8)) ?_
    refine ops_ok rfl (s_assign rfl (gk (gk gt8)) (tyo_ok rfl)) st2 ?_
    refine ops_nil ?_
    refine q_seq ?_
    refine r_ret ?_
    obtain rfl := Option.some.inj hF
    refine q_retL1 rfl (rl_tmp gt2 rl_nil) (fin_ext (leV.refl _) rfl ?_)
    exact ⟨rfl, rfl⟩
  · skip
    refine r_seq ?_
    refine r_region ?_
    refine ops_ok rfl (s_bin rfl gt8 rfl rfl) st15 ?_
    refine ops_ok rfl (s_assign rfl gt15 (tyo_ok rfl)) st14 ?_
    refine ops_nil ?_
    refine q_seq ?_
    refine r_condF gt14 hF (fun hc3 hF => ?_) (fun hc3 hF => ?_)
    · skip
      refine r_seq ?_
      refine r_drawn [3, 5] [(3, [(0, .cells [.int .u8 l0.typ, .int .i64 l0.n, .int .u64 l0.time, .int .u8 l0.dot.actor.rep, .int .u32 l0.dot.actor.inc, .int .u64 l0.dot.seq, .str l0.text, .sl 5 (l0.items.map GItem.row), .sl 3 (l0.tombs.map GDot.row)])]), (5, [(0, .cells [.int .u8 l0.typ, .int .i64 l0.n, .int .u64 l0.time, .int .u8 l0.dot.actor.rep, .int .u32 l0.dot.actor.inc, .int .u64 l0.dot.seq, .str l0.text, .sl 5 (l0.items.map GItem.row), .sl 3 (l0.tombs.map GDot.row)])])] ⟨⟨rfl, trivial⟩, ⟨rfl, trivial⟩, trivial⟩ mixed (by kernel_rfl) ?_
      refine draw_ok rfl rfl (s_fieldAddr rfl fo65x2 gt1 rfl) st16 ?_
      refine draw_ok rfl rfl (e_load rfl ty25 gt16 rfl (ldC_one rfl) (tyo_ok rfl)) st17 ?_
      refine draw_ok rfl rfl (s_fieldAddr rfl fo65x3 gt1 rfl) st18 ?_
      refine draw_okN rfl rfl (by rintro _ ⟨B2, T2, rfl, hk2⟩; exact e_load rfl ty27.choose_spec.1 gt18 (keeps1 hk2) (ldC_agX (cs' := [.int .u8 l0.dot.actor.rep, .int .u32 l0.dot.actor.inc, .int .u64 l0.dot.seq]) ty27.choose_spec.2 rfl rfl) (tyo_ok rfl)) st19 ?_
      refine draw_ok rfl rfl (s_fieldAddr rfl fo65x4 gt1 rfl) st20 ?_
      refine draw_okN rfl rfl (by rintro _ ⟨B2, T2, rfl, hk2⟩; exact e_load rfl ty9 gt20 (keeps1 hk2) (ldC_one rfl) (tyo_ok rfl)) st21 ?_
      refine draw_ok rfl rfl (s_fieldAddr rfl fo65x2 gt3 rfl) st22 ?_
      refine draw_eff rfl (FOk.cons (.inr (keepB ⟨rfl, trivial⟩)) (FOk.cons (.inr (keepB ⟨rfl, trivial⟩)) FOk.nil)) (by kernel_rfl) rfl (e_store (cs' := [.int .u8 l0.typ, .int .i64 (0 : Int), .int .u64 l0.time, .int .u8 (0 : Int), .int .u32 (0 : Int), .int .u64 (0 : Int), .str ([] : Str), .osl none 5 (([] : List GItem).map GItem.row), .osl none 3 (([] : List GDot).map GDot.row)]) rfl ty25 gt22 gt17 (tyo_ok rfl) rfl rfl rfl rfl rfl) rfl ?_
      refine draw_ok rfl rfl (s_fieldAddr rfl fo65x3 gt3 rfl) st23 ?_
      refine draw_eff rfl (FOk.cons (.inr (keepB ⟨rfl, trivial⟩)) (FOk.cons (.inr (keepB ⟨rfl, trivial⟩)) FOk.nil)) (by kernel_rfl) rfl (e_store (cs' := [.int .u8 l0.typ, .int .i64 (0 : Int), .int .u64 l0.time, .int .u8 l0.dot.actor.rep, .int .u32 l0.dot.actor.inc, .int .u64 l0.dot.seq, .str ([] : Str), .osl none 5 (([] : List GItem).map GItem.row), .osl none 3 (([] : List GDot).map GDot.row)]) rfl ty27.choose_spec.1 gt23 gt19 (tyo_ok rfl) rfl rfl rfl rfl rfl) rfl ?_
      refine draw_ok rfl rfl (s_fieldAddr rfl fo65x4 gt3 rfl) st24 ?_
      refine draw_eff rfl (FOk.cons (.inr (keepB ⟨rfl, trivial⟩)) (FOk.cons (.inr (keepB ⟨rfl, trivial⟩)) FOk.nil)) (by kernel_rfl) rfl (e_store (cs' := [.int .u8 l0.typ, .int .i64 (0 : Int), .int .u64 l0.time, .int .u8 l0.dot.actor.rep, .int .u32 l0.dot.actor.inc, .int .u64 l0.dot.seq, .str l0.text, .osl none 5 (([] : List GItem).map GItem.row), .osl none 3 (([] : List GDot).map GDot.row)]) rfl ty9 gt24 gt21 (tyo_ok rfl) rfl rfl rfl rfl rfl) rfl ?_
      refine draw_nil ?_
      refine q_seq ?_
      refine r_seq ?_
      refine r_region ?_
      refine ops_ok rfl (s_fieldAddr rfl fo65x2 gt1 rfl) st25 ?_
      refine ops_ok rfl (e_load rfl ty25 gt25 rfl (ldC_one rfl) (tyo_ok rfl)) st26 ?_
      refine ops_ok rfl (s_bin rfl gt26 rfl rfl) st27 ?_
      refine ops_ok rfl (s_move rfl gt27 (tyo_ok rfl)) st28 ?_
      refine ops_gv rfl (fun hb => s_fieldAddr rfl fo65x2 gt1 rfl) st29 ?_
      refine ops_gv rfl (fun hb => e_load rfl ty25 (evo_gv gt29 hb) rfl (ldC_one rfl) (tyo_ok rfl)) st30 ?_
      refine gbindF hF (fun v4 hv4 hF => ?_)
      refine ops_gcall rfl (fun hb => s_call0 rfl rfl rfl (argo_cons (evo_gv gt30 hb) argo_nil) (.cons (tyo_ok rfl) .nil)) (fun hb => ok136 (hv4 hb)) st31 ?_
      refine ops_gv rfl (fun hb => s_move rfl (evo_gv gt31 hb) (tyo_ok rfl)) st32 ?_
      refine ops_gv (aG_gv rfl rfl rfl) (fun hb => s_fieldAddr rfl fo65x3 gt1 rfl) st33 ?_
      refine ops_gv (aG_gv rfl rfl rfl) (fun hb => e_load rfl ty27.choose_spec.1 (evo_gv gt33 hb) rfl (ldC_agX (cs' := [.int .u8 l0.dot.actor.rep, .int .u32 l0.dot.actor.inc, .int .u64 l0.dot.seq]) ty27.choose_spec.2 rfl rfl) (tyo_ok rfl)) st34 ?_
      refine gbindF hF (fun v5 hv5 hF => ?_)
      refine ops_gcall (aG_gv rfl rfl rfl) (fun hb => s_call0 rfl rfl rfl (argo_cons (evo_gv gt34 hb) argo_nil) (.cons (tyo_ok rfl) .nil)) (fun hb => ok57 (hv5 hb)) st35 ?_
      refine ops_gv rfl (fun hb => s_pick rfl (evo_gv gt32 hb) gt35 rfl (pick_and (fun ht => gT2 hb ht))) st36 ?_
      refine ops_gv rfl (fun hb => s_move rfl (evo_gv gt36 hb) (tyo_ok rfl)) st37 ?_
      refine ops_gv (aG_gv rfl rfl rfl) (fun hb => s_fieldAddr rfl fo65x4 gt1 rfl) st38 ?_
      refine ops_gv (aG_gv rfl rfl rfl) (fun hb => e_load rfl ty9 (evo_gv gt38 hb) rfl (ldC_one rfl) (tyo_ok rfl)) st39 ?_
      refine gbindF hF (fun v6 hv6 hF => ?_)
      refine ops_gcall (aG_gv rfl rfl rfl) (fun hb => s_call0 rfl rfl rfl (argo_cons (evo_gv gt39 hb) argo_nil) (.cons (tyo_ok rfl) .nil)) (fun hb => ok137 (hv6 hb)) (sk st0) ?_
      refine ops_gv rfl (fun hb => s_pick rfl (evo_gv gt37 hb) (gk gt0) rfl (pick_and (fun ht => gT2 hb ht))) (sk st1) ?_
      refine ops_gv rfl (fun hb => s_un rfl (evo_gv (gk gt1) hb) rfl) (sk st2) ?_
      refine ops_ok rfl (s_pick rfl gt28 (gk gt2) rfl (pick_and (fun ht => gT ht))) (sk st3) ?_
      refine ops_ok rfl (s_move rfl (gk gt3) (tyo_ok rfl)) (sk st4) ?_
      refine ops_gv rfl (fun hb => s_fieldAddr rfl fo65x2 gt1 rfl) (sk st5) ?_
      refine ops_gv rfl (fun hb => e_load rfl ty25 (evo_gv (gk gt5) hb) rfl (ldC_one rfl) (tyo_ok rfl)) (sk st6) ?_
      refine ops_gv rfl (fun hb => s_bin rfl (evo_gv (gk gt6) hb) rfl rfl) (sk st7) ?_
      refine ops_gv rfl (fun hb => s_move rfl (evo_gv (gk gt7) hb) (tyo_ok rfl)) (sk st8) ?_
      refine ops_gv (aG_gv rfl rfl rfl) (fun hb => s_fieldAddr rfl fo65x3 gt1 rfl) (sk st9) ?_
      refine ops_gv (aG_gv rfl rfl rfl) (fun hb => e_load rfl ty27.choose_spec.1 (evo_gv (gk gt9) hb) rfl (ldC_agX (cs' := [.int .u8 l0.dot.actor.rep, .int .u32 l0.dot.actor.inc, .int .u64 l0.dot.seq]) ty27.choose_spec.2 rfl rfl) (tyo_ok rfl)) (sk st10) ?_
      refine ops_gv (aG_gv rfl rfl rfl) (fun hb => s_build (cs' := [.int .u8 (0 : Int), .int .u32 (0 : Int), .int .u64 (0 : Int)]) rfl su27 ze27 pl27 parto_nil .nil rfl rfl) (sk st11) ?_
      refine ops_gv (aG_gv rfl rfl rfl) (fun hb => s_bin rfl (evo_gv (gk gt10) hb) (evo_gv (gk gt11) hb) (bin_ne pk27 rfl)) (sk st12) ?_
      refine ops_gv (aG_gv rfl rfl rfl) (fun hb => s_move rfl (evo_gv (gk gt12) hb) (tyo_ok rfl)) (sk st13) ?_
      refine ops_gv (aG_gv rfl rfl rfl) (fun hb => s_fieldAddr rfl fo65x4 gt1 rfl) (sk st14) ?_
      refine ops_gv (aG_gv rfl rfl rfl) (fun hb => e_load rfl ty9 (evo_gv (gk gt14) hb) rfl (ldC_one rfl) (tyo_ok rfl)) (sk st15) ?_
      refine ops_gv (aG_gv rfl rfl rfl) (fun hb => s_bin rfl (evo_gv (gk gt15) hb) rfl rfl) (sk st16) ?_
      refine ops_gv (aG_gv rfl rfl rfl) (fun hb => s_pick rfl (evo_gv (gk gt13) hb) rfl (gk gt16) (pick_or (fun ht => gF2 hb ht))) (sk st17) ?_
      refine ops_gv rfl (fun hb => s_pick rfl (evo_gv (gk gt8) hb) (gk gt17) rfl (pick_and (fun ht => gT2 hb ht))) (sk st18) ?_
      refine ops_ok rfl (s_pick rfl (gk gt4) rfl (gk gt18) (pick_or (fun ht => gF ht))) (sk st19) ?_
      refine ops_nil ?_
      refine q_seq ?_
      refine r_condF (gk gt19) hF (fun hc7 hF => ?_) (fun hc7 hF => ?_)
      · skip
        refine r_seq ?_
        refine r_region ?_
        refine ops_ok rfl (s_assign rfl rfl (tyo_ok rfl)) st2 ?_
        refine ops_nil ?_
        refine q_seq ?_
        refine r_ret ?_
        refine q_block_ret ?_
        refine q_seq_ret ?_
        obtain rfl := Option.some.inj hF
        refine q_retL1 rfl (rl_tmp gt2 rl_nil) (fin_ext (leV.refl _) rfl ?_)
        exact ⟨rfl, rfl⟩
      · skip
        refine r_skip ?_
        refine q_block ?_
        refine q_seq ?_
        refine r_seq ?_
        refine r_region ?_
        refine ops_ok rfl (e_load rfl ty65.choose_spec.1 gt1 rfl (ldC_agX (cs' := [.int .u8 l0.typ, .int .i64 l0.n, .int .u64 l0.time, .int .u8 l0.dot.actor.rep, .int .u32 l0.dot.actor.inc, .int .u64 l0.dot.seq, .str l0.text, .sl 5 (l0.items.map GItem.row), .sl 3 (l0.tombs.map GDot.row)]) ty65.choose_spec.2 rfl rfl) (tyo_ok rfl)) (sk (sk st6)) ?_
        refine ops_ok rfl (e_load rfl ty65.choose_spec.1 gt3 rfl (ldC_agX (cs' := [.int .u8 l0.typ, .int .i64 (0 : Int), .int .u64 l0.time, .int .u8 l0.dot.actor.rep, .int .u32 l0.dot.actor.inc, .int .u64 l0.dot.seq, .str l0.text, .osl none 5 (([] : List GItem).map GItem.row), .osl none 3 (([] : List GDot).map GDot.row)]) ty65.choose_spec.2 rfl rfl) (tyo_ok rfl)) (sk (sk st7)) ?_
        refine bindF hF (fun v8 hv8 hF => ?_)
        refine ops_callP rfl (s_call0 rfl rfl rfl (argo_cons (gk (gk gt6)) (argo_cons (gk (gk gt7)) argo_nil)) (.cons (tyo_ok rfl) (.cons (tyo_ok rfl) .nil))) ((ok140 hv8).le (.eq (.cons (leV.agg (.eq (.eq (.eq (.eq (.eq (.eq (.eq (.cons (leV.osl _ _ _) (.cons (leV.osl _ _ _) leL.nil))))))))) rfl) leL.nil))) (sk (sk st8)) ?_
        refine ops_ok rfl (s_assign rfl (gk (gk gt8)) (tyo_ok rfl)) st2 ?_
        refine ops_nil ?_
        refine q_seq ?_
        refine r_ret ?_
        obtain rfl := Option.some.inj hF
        refine q_retL1 rfl (rl_tmp gt2 rl_nil) (fin_ext (leV.refl _) rfl ?_)
        exact ⟨rfl, rfl⟩
    · skip
      refine r_seq ?_
      refine r_region ?_
      refine ops_ok rfl (s_bin rfl gt8 rfl rfl) (sk st21) ?_
      refine ops_ok rfl (s_assign rfl (gk gt21) (tyo_ok rfl)) (sk st20) ?_
      refine ops_nil ?_
      refine q_seq ?_
      refine r_condF (gk gt20) hF (fun hc9 hF => ?_) (fun hc9 hF => ?_)
      · skip
        refine r_seq ?_
        refine r_drawn [3] [(3, [(0, .cells [.int .u8 l0.typ, .int .i64 l0.n, .int .u64 l0.time, .int .u8 l0.dot.actor.rep, .int .u32 l0.dot.actor.inc, .int .u64 l0.dot.seq, .str l0.text, .sl 5 (l0.items.map GItem.row), .sl 3 (l0.tombs.map GDot.row)])])] ⟨⟨rfl, trivial⟩, trivial⟩ mixed (by kernel_rfl) ?_
        refine draw_ok rfl rfl (s_fieldAddr rfl fo65x5 gt1 rfl) (sk st22) ?_
        refine draw_ok rfl rfl (e_load rfl ty63 (gk gt22) rfl (ldC_one rfl) (tyo_ok rfl)) (sk st23) ?_
        refine draw_ok rfl rfl (s_fieldAddr rfl fo65x6 gt1 rfl) (sk st24) ?_
        refine draw_okN rfl rfl (by rintro _ ⟨B2, T2, rfl, hk2⟩; exact e_load rfl ty29 (gk gt24) (keeps1 hk2) (ldC_one rfl) (tyo_ok rfl)) (sk st25) ?_
        refine draw_ok rfl rfl (s_fieldAddr rfl fo65x5 gt3 rfl) (sk st26) ?_
        refine draw_eff rfl (FOk.cons (.inr (keepB ⟨rfl, trivial⟩)) FOk.nil) (by kernel_rfl) rfl (e_store (cs' := [.int .u8 l0.typ, .int .i64 (0 : Int), .int .u64 (0 : Int), .int .u8 (0 : Int), .int .u32 (0 : Int), .int .u64 (0 : Int), .str ([] : Str), .sl 5 (l0.items.map GItem.row), .osl none 3 (([] : List GDot).map GDot.row)]) rfl ty63 (gk gt26) (gk gt23) (tyo_ok rfl) rfl rfl rfl rfl rfl) rfl ?_
        refine draw_ok rfl rfl (s_fieldAddr rfl fo65x6 gt3 rfl) (sk st27) ?_
        refine draw_eff rfl (FOk.cons (.inr (keepB ⟨rfl, trivial⟩)) FOk.nil) (by kernel_rfl) rfl (e_store (cs' := [.int .u8 l0.typ, .int .i64 (0 : Int), .int .u64 (0 : Int), .int .u8 (0 : Int), .int .u32 (0 : Int), .int .u64 (0 : Int), .str ([] : Str), .sl 5 (l0.items.map GItem.row), .sl 3 (l0.tombs.map GDot.row)]) rfl ty29 (gk gt27) (gk gt25) (tyo_ok rfl) rfl rfl rfl rfl rfl) rfl ?_
        refine draw_nil ?_
        refine q_seq ?_
        refine r_seq ?_
        refine r_region ?_
        refine ops_ok rfl (s_fieldAddr rfl fo65x5 gt1 rfl) (sk st28) ?_
        refine ops_ok rfl (e_load rfl ty63 (gk gt28) rfl (ldC_one rfl) (tyo_ok rfl)) (sk st29) ?_
        refine bindF hF (fun v10 hv10 hF => ?_)
        refine ops_callP rfl (s_call0 rfl rfl rfl (argo_cons (gk gt29) (argo_cons rfl argo_nil)) (.cons (tyo_ok rfl) (.cons (tyo_ok rfl) .nil))) (ok138 hv10) (sk st30) ?_
        refine ops_ok rfl (s_un rfl (gk gt30) rfl) (sk st31) ?_
        refine ops_ok rfl (s_move rfl (gk gt31) (tyo_ok rfl)) (sk st32) ?_
        refine ops_gv rfl (fun hb => e_load rfl ty65.choose_spec.1 gt1 rfl (ldC_agX (cs' := [.int .u8 l0.typ, .int .i64 l0.n, .int .u64 l0.time, .int .u8 l0.dot.actor.rep, .int .u32 l0.dot.actor.inc, .int .u64 l0.dot.seq, .str l0.text, .sl 5 (l0.items.map GItem.row), .sl 3 (l0.tombs.map GDot.row)]) ty65.choose_spec.2 rfl rfl) (tyo_ok rfl)) (sk st33) ?_
        refine gbindF hF (fun v11 hv11 hF => ?_)
        refine ops_gcall rfl (fun hb => s_call0 rfl rfl rfl (argo_cons (evo_gv (gk gt33) hb) argo_nil) (.cons (tyo_ok rfl) .nil)) (fun hb => ok139 (hv11 hb)) (sk st34) ?_
        refine ops_gv rfl (fun hb => s_un rfl (evo_gv (gk gt34) hb) rfl) (sk st35) ?_
        refine ops_ok rfl (s_pick rfl (gk gt32) rfl (gk gt35) (pick_or (fun ht => gF ht))) (sk st36) ?_
        refine ops_nil ?_
        refine q_seq ?_
        refine r_condF (gk gt36) hF (fun hc12 hF => ?_) (fun hc12 hF => ?_)
        · skip
          refine r_seq ?_
          refine r_region ?_
          refine ops_ok rfl (s_assign rfl rfl (tyo_ok rfl)) st2 ?_
          refine ops_nil ?_
          refine q_seq ?_
          refine r_ret ?_
          refine q_block_ret ?_
          refine q_seq_ret ?_
          obtain rfl := Option.some.inj hF
          refine q_retL1 rfl (rl_tmp gt2 rl_nil) (fin_ext (leV.refl _) rfl ?_)
          exact ⟨rfl, rfl⟩
        · skip
          refine r_skip ?_
          refine q_block ?_
          refine q_seq ?_
          refine r_seq ?_
          refine r_region ?_
          refine ops_ok rfl (e_load rfl ty65.choose_spec.1 gt1 rfl (ldC_agX (cs' := [.int .u8 l0.typ, .int .i64 l0.n, .int .u64 l0.time, .int .u8 l0.dot.actor.rep, .int .u32 l0.dot.actor.inc, .int .u64 l0.dot.seq, .str l0.text, .sl 5 (l0.items.map GItem.row), .sl 3 (l0.tombs.map GDot.row)]) ty65.choose_spec.2 rfl rfl) (tyo_ok rfl)) (sk (sk st6)) ?_
          refine ops_ok rfl (e_load rfl ty65.choose_spec.1 gt3 rfl (ldC_agX (cs' := [.int .u8 l0.typ, .int .i64 (0 : Int), .int .u64 (0 : Int), .int .u8 (0 : Int), .int .u32 (0 : Int), .int .u64 (0 : Int), .str ([] : Str), .sl 5 (l0.items.map GItem.row), .sl 3 (l0.tombs.map GDot.row)]) ty65.choose_spec.2 rfl rfl) (tyo_ok rfl)) (sk (sk st7)) ?_
          refine bindF hF (fun v13 hv13 hF => ?_)
          refine ops_callP rfl (s_call0 rfl rfl rfl (argo_cons (gk (gk gt6)) (argo_cons (gk (gk gt7)) argo_nil)) (.cons (tyo_ok rfl) (.cons (tyo_ok rfl) .nil))) (ok140 hv13) (sk (sk st8)) ?_
          refine ops_ok rfl (s_assign rfl (gk (gk gt8)) (tyo_ok rfl)) st2 ?_
          refine ops_nil ?_
          refine q_seq ?_
          refine r_ret ?_
          obtain rfl := Option.some.inj hF
          refine q_retL1 rfl (rl_tmp gt2 rl_nil) (fin_ext (leV.refl _) rfl ?_)
          exact ⟨rfl, rfl⟩
      · skip
        refine r_seq ?_
        refine r_region ?_
        refine ops_ok rfl (s_bin rfl gt8 rfl rfl) (sk st38) ?_
        refine ops_ok rfl (s_assign rfl (gk gt38) (tyo_ok rfl)) (sk st37) ?_
        refine ops_nil ?_
        refine q_seq ?_
        refine r_condF (gk gt37) hF (fun hc14 hF => ?_) (fun hc14 hF => ?_)
        · skip
          refine r_seq ?_
          refine r_region ?_
          refine ops_ok rfl (s_fieldAddr rfl fo65x5 gt1 rfl) (sk st39) ?_
          refine ops_ok rfl (e_load rfl ty63 (gk gt39) rfl (ldC_one rfl) (tyo_ok rfl)) (sk (sk st0)) ?_
          refine ops_ok rfl (s_fieldAddr rfl fo65x5 gt3 rfl) (sk (sk st1)) ?_
          refine ops_ok rfl (e_store (cs' := [.int .u8 l0.typ, .int .i64 (0 : Int), .int .u64 (0 : Int), .int .u8 (0 : Int), .int .u32 (0 : Int), .int .u64 (0 : Int), .str ([] : Str), .sl 5 (l0.items.map GItem.row), .osl none 3 (([] : List GDot).map GDot.row)]) rfl ty63 (gk (gk gt1)) (gk (gk gt0)) (tyo_ok rfl) rfl rfl rfl rfl rfl) rfl ?_
          refine ops_nil ?_
          refine q_seq ?_
          refine r_seq ?_
          refine r_region ?_
          refine ops_ok rfl (s_fieldAddr rfl fo65x5 gt1 rfl) (sk (sk st2)) ?_
          refine ops_ok rfl (e_load rfl ty63 (gk (gk gt2)) rfl (ldC_one rfl) (tyo_ok rfl)) (sk (sk st3)) ?_
          refine bindF hF (fun v15 hv15 hF => ?_)
          refine ops_callP rfl (s_call0 rfl rfl rfl (argo_cons (gk (gk gt3)) (argo_cons rfl argo_nil)) (.cons (tyo_ok rfl) (.cons (tyo_ok rfl) .nil))) (ok138 hv15) (sk (sk st4)) ?_
          refine ops_ok rfl (s_un rfl (gk (gk gt4)) rfl) (sk (sk st5)) ?_
          refine ops_nil ?_
          refine q_seq ?_
          refine r_condF (gk (gk gt5)) hF (fun hc16 hF => ?_) (fun hc16 hF => ?_)
          · skip
            refine r_seq ?_
            refine r_region ?_
            refine ops_ok rfl (s_assign rfl rfl (tyo_ok rfl)) st2 ?_
            refine ops_nil ?_
            refine q_seq ?_
            refine r_ret ?_
            refine q_block_ret ?_
            refine q_seq_ret ?_
            obtain rfl := Option.some.inj hF
            refine q_retL1 rfl (rl_tmp gt2 rl_nil) (fin_ext (leV.refl _) rfl ?_)
            exact ⟨rfl, rfl⟩
          · skip
            refine r_skip ?_
            refine q_block ?_
            refine q_seq ?_
            refine r_seq ?_
            refine r_region ?_
            refine ops_ok rfl (e_load rfl ty65.choose_spec.1 gt1 rfl (ldC_agX (cs' := [.int .u8 l0.typ, .int .i64 l0.n, .int .u64 l0.time, .int .u8 l0.dot.actor.rep, .int .u32 l0.dot.actor.inc, .int .u64 l0.dot.seq, .str l0.text, .sl 5 (l0.items.map GItem.row), .sl 3 (l0.tombs.map GDot.row)]) ty65.choose_spec.2 rfl rfl) (tyo_ok rfl)) (sk (sk st6)) ?_
            refine ops_ok rfl (e_load rfl ty65.choose_spec.1 gt3 rfl (ldC_agX (cs' := [.int .u8 l0.typ, .int .i64 (0 : Int), .int .u64 (0 : Int), .int .u8 (0 : Int), .int .u32 (0 : Int), .int .u64 (0 : Int), .str ([] : Str), .sl 5 (l0.items.map GItem.row), .osl none 3 (([] : List GDot).map GDot.row)]) ty65.choose_spec.2 rfl rfl) (tyo_ok rfl)) (sk (sk st7)) ?_
            refine bindF hF (fun v17 hv17 hF => ?_)
            refine ops_callP rfl (s_call0 rfl rfl rfl (argo_cons (gk (gk gt6)) (argo_cons (gk (gk gt7)) argo_nil)) (.cons (tyo_ok rfl) (.cons (tyo_ok rfl) .nil))) ((ok140 hv17).le (.eq (.cons (leV.agg (.eq (.eq (.eq (.eq (.eq (.eq (.eq (.eq (.cons (leV.osl _ _ _) leL.nil))))))))) rfl) leL.nil))) (sk (sk st8)) ?_
            refine ops_ok rfl (s_assign rfl (gk (gk gt8)) (tyo_ok rfl)) st2 ?_
            refine ops_nil ?_
            refine q_seq ?_
            refine r_ret ?_
            obtain rfl := Option.some.inj hF
            refine q_retL1 rfl (rl_tmp gt2 rl_nil) (fin_ext (leV.refl _) rfl ?_)
            exact ⟨rfl, rfl⟩
        · skip
          refine r_seq ?_
          refine r_region ?_
          refine ops_ok rfl (s_assign rfl rfl (tyo_ok rfl)) st2 ?_
          refine ops_nil ?_
          refine q_seq ?_
          refine r_ret ?_
          refine q_block_ret ?_
          refine q_seq_ret ?_
          obtain rfl := Option.some.inj hF
          refine q_retL1 rfl (rl_tmp gt2 rl_nil) (fin_ext (leV.refl _) rfl ?_)
          exact ⟨rfl, rfl⟩
/-! varve/tree.may -/
theorem ok105N (n : Nat) : ∀ {t0 : (List GNode)} {deep1 : Int} {res : Bool} {h : AH} , treeXmayN n t0 deep1 = some res → Spec Try.prog 105 [.sl 3 (t0.map GNode.row), .int .i64 deep1] h (fun rr hh => rr = .bool res ∧ hh = h) := by
  induction n with
  | zero => intro t0 deep1 res h  hF; simp [treeXmayN] at hF
  | succ n ih =>
    intro t0 deep1 res h  hF
    unfold treeXmayN at hF
    refine spec_of_body_ext Try.func105 rfl (by kernel_rfl) (env := [.sl 3 (t0.map GNode.row), .int .i64 deep1, aundef, aundef, aundef, aundef, aundef, aundef, aundef, aundef, aundef, aundef, aundef, aundef, aundef, aundef, aundef, aundef, aundef, aundef, aundef, aundef, aundef, aundef, aundef, aundef, aundef, aundef, aundef, aundef, aundef, aundef, aundef, aundef, aundef, aundef, aundef, aundef, aundef, aundef, aundef, aundef, aundef, aundef, aundef, aundef, aundef, aundef, aundef, aundef, aundef, aundef, aundef, aundef, aundef, aundef, aundef, aundef, aundef, aundef, aundef, aundef, aundef, aundef, aundef, aundef, aundef, aundef, aundef, aundef, aundef, aundef, aundef, aundef, aundef, aundef, aundef, aundef, aundef, aundef, aundef, aundef, aundef, aundef, aundef, aundef, aundef, aundef, aundef]) (by rfl) ?_
    refine r_seq ?_
    refine r_region ?_
    refine ops_ok rfl (s_assign rfl rfl (tyo_ok rfl)) st4 ?_
    refine ops_nil ?_
    refine q_seq ?_
    refine r_seq ?_
    refine r_seq ?_
    refine r_region ?_
    refine ops_ok rfl (s_move rfl gt0 (tyo_ok rfl)) st9 ?_
    refine ops_len rfl (s_lenSl rfl rfl rfl rfl el54 gt9 lenMap) st10 fun hn1 => ?_
    replace hn1 := lenN hn1
    refine ops_ok rfl (s_bin rfl gt10 rfl rfl) st11 ?_
    refine ops_ok rfl (s_move rfl gt11 (tyo_ok rfl)) st12 ?_
    refine ops_gv rfl (fun hb => s_move rfl gt1 (tyo_ok rfl)) st13 ?_
    refine ops_gv rfl (fun hb => s_bin rfl (evo_gv gt13 hb) rfl rfl) st14 ?_
    refine ops_ok rfl (s_pick rfl gt12 gt14 rfl (pick_and (fun ht => gT ht))) st15 ?_
    refine ops_nil ?_
    refine q_seq ?_
    refine r_condF gt15 hF (fun hc2 hF => ?_) (fun hc2 hF => ?_)
    · skip
      refine r_seq ?_
      refine r_region ?_
      refine ops_ok rfl (s_assign rfl rfl (tyo_ok rfl)) st4 ?_
      refine ops_nil ?_
      refine q_seq ?_
      refine r_ret ?_
      refine q_seq_ret ?_
      obtain rfl := Option.some.inj hF
      refine q_retL1 rfl (rl_tmp gt4 rl_nil) (fin_ext (leV.refl _) rfl ?_)
      exact ⟨rfl, rfl⟩
    · skip
      refine r_skip ?_
      refine q_seq ?_
      refine r_seq ?_
      refine r_seq ?_
      refine r_region ?_
      refine ops_ok rfl (s_move rfl gt0 (tyo_ok rfl)) st16 ?_
      refine ops_len rfl (s_lenSl rfl rfl rfl rfl el54 gt16 lenMap) st17 fun hn3 => ?_
      replace hn3 := lenN hn3
      refine ops_ok rfl (s_move rfl rfl (tyo_ok rfl)) st18 ?_
      refine ops_nil ?_
      refine q_seq ?_
      refine r_block ?_
      refine r_loopLF (fun (n1 : Nat) (s1 : Unit) => [(2, .any), (3, .any), (4, .any), (5, .any), (6, .any), (7, .any), (8, .any), (9, .any), (10, .any), (11, .any), (12, .any), (13, .any), (14, .any), (15, .any), (18, .int .i64 (n1 : Int)), (19, .any), (20, .any), (21, .any), (22, .any), (23, .any), (24, .any), (25, .any), (26, .any), (27, .any), (28, .any), (29, .any), (30, .any), (31, .any), (32, .any), (33, .any), (34, .any), (35, .any), (36, .any), (37, .any), (38, .any), (39, .any), (40, .any), (41, .any), (42, .any), (43, .any), (44, .any), (45, .any), (46, .any), (47, .any), (48, .any), (49, .any), (50, .any), (51, .any), (52, .any), (53, .any), (54, .any), (55, .any), (56, .any), (57, .any), (58, .any), (59, .any), (60, .any), (61, .any), (62, .any), (63, .any), (64, .any), (65, .any), (66, .any), (67, .any), (68, .any), (69, .any), (70, .any), (71, .any), (72, .any), (73, .any), (74, .any), (75, .any), (76, .any), (77, .any), (78, .any), (79, .any), (80, .any), (81, .any), (82, .any), (83, .any), (84, .any), (85, .any), (86, .any), (87, .any), (88, .any)]) (fun s1 => h.ext [] []) hF (fun _ _ => by simp only [upd, List.set_cons_succ, List.set_cons_zero]; try rfl) (wk.le (by exact (.eq (.eq (.drop (.drop (.drop (.drop (.drop (.drop (.drop (.drop (.drop (.drop (.drop (.drop (.drop (.drop (.eq (.eq (.cons (leV.of_eq rfl) (.drop (.drop (.drop (.drop (.drop (.drop (.drop (.drop (.drop (.drop (.drop (.drop (.drop (.drop (.drop (.drop (.drop (.drop (.drop (.drop (.drop (.drop (.drop (.drop (.drop (.drop (.drop (.drop (.drop (.drop (.drop (.drop (.drop (.drop (.drop (.drop (.drop (.drop (.drop (.drop (.drop (.drop (.drop (.drop (.drop (.drop (.drop (.drop (.drop (.drop (.drop (.drop (.drop (.drop (.drop (.drop (.drop (.drop (.drop (.drop (.drop (.drop (.drop (.drop (.drop (.drop (.drop (.drop (.drop (.drop leL.nil))))))))))))))))))))))))))))))))))))))))))))))))))))))))))))))))))))))))))))))))))))))))))) ?_
      intro n1 s1 hi1 hF
      refine r_seq ?_
      refine r_region ?_
      refine ops_ok rfl (s_bin rfl gt18 gt17 rfl) st19 ?_
      refine ops_nil ?_
      refine q_seq ?_
      refine r_seq ?_
      refine r_condL gt19 hF (fun x1 o1 hl1 hx1 hF hK1 => ?_) (fun hF => ?_)
      · skip
        refine r_skip ?_
        refine q_seq ?_
        refine r_seq ?_
        refine r_block ?_
        refine r_seq ?_
        refine r_region ?_
        refine ops_ok rfl (s_move rfl gt18 (tyo_ok rfl)) st20 ?_
        refine ops_ok rfl (s_idxRowE rfl el54 gt16 gt18 isl (idx_of hx1) (GNode.row_eq _)) st21 ?_
        refine ops_ok rfl (f_load rfl ty85.choose_spec.1 gt21 (ldC_agX (cs' := [.str x1.name, .sl 9 (x1.leaves.map GLeaf.row), .sl 3 (x1.subs.map GNode.row)]) ty85.choose_spec.2 rfl rfl) (tyo_ok rfl)) st22 ?_
        refine ops_ok rfl (e_alloc (n := 0) rfl ze85 rfl) st6 ?_
        refine ops_ok rfl (s_assign rfl gt20 (tyo_ok rfl)) st5 ?_
        refine ops_ok rfl (e_store (cs' := [.str x1.name, .sl 9 (x1.leaves.map GLeaf.row), .sl 3 (x1.subs.map GNode.row)]) rfl ty85.choose_spec.1 gt6 gt22 (tyo_ok rfl) rfl rfl rfl rfl rfl) rfl ?_
        refine ops_nil ?_
        refine q_seq ?_
        refine r_seq ?_
        refine r_seq ?_
        refine r_drawn [2] [] trivial mixed (by kernel_rfl) ?_
        refine draw_ok rfl rfl (s_fieldAddr rfl fo85x0 gt6 rfl) st23 ?_
        refine draw_ok rfl rfl (e_load rfl ty9 gt23 rfl (ldC_one rfl) (tyo_ok rfl)) st24 ?_
        refine bindF hF (fun v27 hv27 hF => ?_)
        refine draw_callN rfl rfl (fun _ => s_call0 rfl rfl rfl (argo_cons gt24 argo_nil) (.cons (tyo_ok rfl) .nil)) (by rintro _ ⟨B2, T2, rfl, hk2⟩; exact ok11 hv27) st25 ?_
        refine draw_ok rfl rfl (s_un rfl gt25 rfl) st26 ?_
        refine draw_ok rfl rfl (s_move rfl gt26 (tyo_ok rfl)) st27 ?_
        refine draw_gv rfl rfl (fun hb => s_move rfl gt5 (tyo_ok rfl)) st28 ?_
        refine draw_gv rfl rfl (fun hb => s_bin rfl (evo_gv gt28 hb) rfl rfl) st29 ?_
        refine draw_gv rfl rfl (fun hb => s_move rfl (evo_gv gt29 hb) (tyo_ok rfl)) st30 ?_
        refine draw_gv rfl (aG_gv rfl rfl rfl) (fun hb => s_move rfl gt0 (tyo_ok rfl)) st31 ?_
        refine draw_gv rfl (aG_gv rfl rfl rfl) (fun hb => s_move rfl gt5 (tyo_ok rfl)) st32 ?_
        refine draw_gv rfl (aG_gv rfl rfl rfl) (fun hb => s_bin rfl (evo_gv gt32 hb) rfl rfl) st33 ?_
        refine chkF hF (fun hg28 hF => ?_)
        refine draw_gv rfl (aG_gv rfl rfl rfl) (fun hb => s_gidxRowE default rfl el54 (evo_gv gt31 hb) (evo_gv gt33 hb) isl (hg28 hb) (GNode.row_eq _)) st34 ?_
        refine draw_gv rfl (aG_gv rfl rfl rfl) (fun hb => s_fieldAddr rfl fo85x0 (evo_gv gt34 hb) rfl) st35 ?_
        refine draw_gv rfl (aG_gv rfl rfl rfl) (fun hb => f_load rfl ty9 (evo_gv gt35 hb) (ldC_one rfl) (tyo_ok rfl)) st36 ?_
        refine draw_gv rfl (aG_gv rfl rfl rfl) (fun hb => s_fieldAddr rfl fo85x0 gt6 rfl) st37 ?_
        refine draw_gv rfl (aG_gv rfl rfl rfl) (fun hb => e_load rfl ty9 (evo_gv gt37 hb) rfl (ldC_one rfl) (tyo_ok rfl)) st38 ?_
        refine draw_gv rfl (aG_gv rfl rfl rfl) (fun hb => s_bin rfl (evo_gv gt36 hb) (evo_gv gt38 hb) rfl) st39 ?_
        refine draw_gv rfl rfl (fun hb => s_pick rfl (evo_gv gt30 hb) gt39 rfl (pick_and (fun ht => gT2 hb ht))) (sk st0) ?_
        refine draw_ok rfl rfl (s_pick rfl gt27 rfl (gk gt0) (pick_or (fun ht => gF ht))) (sk st1) ?_
        refine draw_ok rfl rfl (s_move rfl (gk gt1) (tyo_ok rfl)) (sk st2) ?_
        refine draw_gv rfl rfl (fun hb => s_fieldAddr rfl fo85x1 gt6 rfl) (sk st3) ?_
        refine draw_gv rfl rfl (fun hb => e_load rfl ty83 (evo_gv (gk gt3) hb) rfl (ldC_one rfl) (tyo_ok rfl)) (sk st4) ?_
        refine draw_glen rfl rfl (fun hb => s_lenSl rfl rfl rfl rfl el83 (evo_gv (gk gt4) hb) lenMap) (sk st5) ?_
        refine draw_gv rfl rfl (fun hb => s_fieldAddr rfl fo85x2 gt6 rfl) (sk st6) ?_
        refine draw_gv rfl rfl (fun hb => e_load rfl ty54 (evo_gv (gk gt6) hb) rfl (ldC_one rfl) (tyo_ok rfl)) (sk st7) ?_
        refine draw_glen rfl rfl (fun hb => s_lenSl rfl rfl rfl rfl el54 (evo_gv (gk gt7) hb) lenMap) (sk st8) ?_
        refine draw_gv rfl rfl (fun hb => s_bin rfl (evo_gv (gk gt5) hb) (evo_gv (gk gt8) hb) rfl) (sk st9) ?_
        refine draw_gv rfl rfl (fun hb => s_bin rfl (evo_gv (gk gt9) hb) rfl rfl) (sk st10) ?_
        refine draw_ok rfl rfl (s_pick rfl (gk gt2) rfl (gk gt10) (pick_or (fun ht => gF ht))) (sk st11) ?_
        refine draw_ok rfl rfl (s_move rfl (gk gt11) (tyo_ok rfl)) (sk st12) ?_
        refine draw_gv rfl rfl (fun hb => s_fieldAddr rfl fo85x2 gt6 rfl) (sk st13) ?_
        refine draw_gv rfl rfl (fun hb => e_load rfl ty54 (evo_gv (gk gt13) hb) rfl (ldC_one rfl) (tyo_ok rfl)) (sk st14) ?_
        refine draw_gv rfl rfl (fun hb => s_move rfl gt1 (tyo_ok rfl)) (sk st15) ?_
        refine draw_gv rfl rfl (fun hb => s_bin rfl (evo_gv (gk gt15) hb) rfl rfl) (sk st16) ?_
        refine gbindF hF (fun v31 hv31 hF => ?_)
        refine draw_gcall rfl rfl (fun hb => s_call0 rfl rfl rfl (argo_cons (evo_gv (gk gt14) hb) (argo_cons (evo_gv (gk gt16) hb) argo_nil)) (.cons (tyo_ok rfl) (.cons (tyo_ok rfl) .nil))) (fun hb => ih (hv31 hb)) (sk st17) ?_
        refine draw_gv rfl rfl (fun hb => s_un rfl (evo_gv (gk gt17) hb) rfl) (sk st18) ?_
        refine draw_ok rfl rfl (s_pick rfl (gk gt12) rfl (gk gt18) (pick_or (fun ht => gF ht))) (sk st19) ?_
        refine draw_nil ?_
        refine q_seq ?_
        refine r_condF (gk gt19) hF (fun hc32 hF => ?_) (fun hc32 hF => ?_)
        · skip
          refine r_seq ?_
          refine r_region ?_
          refine ops_ok rfl (s_assign rfl rfl (tyo_ok rfl)) st4 ?_
          refine ops_nil ?_
          refine q_seq ?_
          refine r_ret ?_
          refine q_seq_ret ?_
          refine q_block_ret ?_
          refine q_seq_ret ?_
          refine q_loop_ret ?_
          obtain rfl := Option.some.inj hF
          replace hF := hK1
          refine q_block_ret ?_
          refine q_seq_ret ?_
          obtain rfl := Option.some.inj hF
          refine q_retL1 rfl (rl_tmp gt4 rl_nil) (fin_ext (leV.refl _) rfl ?_)
          exact ⟨rfl, rfl⟩
        · skip
          refine r_skip ?_
          refine q_seq ?_
          refine r_seq ?_
          refine r_region ?_
          refine ops_ok rfl (s_fieldAddr rfl fo85x1 gt6 rfl) (sk st20) ?_
          refine ops_ok rfl (e_load rfl ty83 (gk gt20) rfl (ldC_one rfl) (tyo_ok rfl)) (sk st21) ?_
          refine ops_len rfl (s_lenSl rfl rfl rfl rfl el83 (gk gt21) lenMap) (sk st22) fun hn33 => ?_
          replace hn33 := lenN hn33
          refine ops_ok rfl (s_move rfl rfl (tyo_ok rfl)) (sk st23) ?_
          refine ops_nil ?_
          refine q_seq ?_
          refine r_block ?_
          refine r_loopLF (fun (n2 : Nat) (s2 : Unit) => [(2, .any), (3, .any), (4, .any), (5, .any), (7, .any), (8, .any), (9, .any), (10, .any), (11, .any), (12, .any), (13, .any), (14, .any), (15, .any), (19, .any), (20, .any), (21, .any), (22, .any), (23, .any), (24, .any), (25, .any), (26, .any), (27, .any), (28, .any), (29, .any), (30, .any), (31, .any), (32, .any), (33, .any), (34, .any), (35, .any), (36, .any), (37, .any), (38, .any), (39, .any), (40, .any), (41, .any), (42, .any), (43, .any), (44, .any), (45, .any), (46, .any), (47, .any), (48, .any), (49, .any), (50, .any), (51, .any), (52, .any), (53, .any), (54, .any), (55, .any), (56, .any), (57, .any), (58, .any), (59, .any), (60, .any), (63, .int .i64 (n2 : Int)), (64, .any), (65, .any), (66, .any), (67, .any), (68, .any), (69, .any), (70, .any), (71, .any), (72, .any), (73, .any), (74, .any), (75, .any), (76, .any), (77, .any), (78, .any), (79, .any), (80, .any), (81, .any), (82, .any), (83, .any), (84, .any), (85, .any), (86, .any), (87, .any), (88, .any)]) (fun s2 => h.ext [.cells [.str x1.name, .sl 9 (x1.leaves.map GLeaf.row), .sl 3 (x1.subs.map GNode.row)]] []) hF (fun _ _ => by simp only [upd, List.set_cons_succ, List.set_cons_zero]; try rfl) (wk.le (by exact (.eq (.eq (.drop (.drop (.drop (.drop (.eq (.drop (.drop (.drop (.drop (.drop (.drop (.drop (.drop (.drop (.eq (.eq (.eq (.drop (.drop (.drop (.drop (.drop (.drop (.drop (.drop (.drop (.drop (.drop (.drop (.drop (.drop (.drop (.drop (.drop (.drop (.drop (.drop (.drop (.drop (.drop (.drop (.drop (.drop (.drop (.drop (.drop (.drop (.drop (.drop (.drop (.drop (.drop (.drop (.drop (.drop (.drop (.drop (.drop (.drop (.eq (.eq (.cons (leV.of_eq rfl) (.drop (.drop (.drop (.drop (.drop (.drop (.drop (.drop (.drop (.drop (.drop (.drop (.drop (.drop (.drop (.drop (.drop (.drop (.drop (.drop (.drop (.drop (.drop (.drop (.drop leL.nil))))))))))))))))))))))))))))))))))))))))))))))))))))))))))))))))))))))))))))))))))))))))))) ?_
          intro n2 s2 hi2 hF
          refine r_seq ?_
          refine r_region ?_
          refine ops_ok rfl (s_bin rfl (gk gt23) (gk gt22) rfl) (sk st24) ?_
          refine ops_nil ?_
          refine q_seq ?_
          refine r_seq ?_
          refine r_condL (gk gt24) hF (fun x2 o2 hl2 hx2 hF hK2 => ?_) (fun hF => ?_)
          · skip
            refine r_skip ?_
            refine q_seq ?_
            refine r_seq ?_
            refine r_block ?_
            refine r_seq ?_
            refine r_region ?_
            refine ops_ok rfl (s_move rfl (gk gt23) (tyo_ok rfl)) (sk st25) ?_
            refine ops_ok rfl (s_idxRow rfl el83 (gk gt21) (gk gt23) isl (idx_of hx2)) (sk st26) ?_
            refine ops_ok rfl (f_load rfl ty65.choose_spec.1 (gk gt26) (ldC_agX (cs' := [.int .u8 x2.typ, .int .i64 x2.n, .int .u64 x2.time, .int .u8 x2.dot.actor.rep, .int .u32 x2.dot.actor.inc, .int .u64 x2.dot.seq, .str x2.text, .sl 5 (x2.items.map GItem.row), .sl 3 (x2.tombs.map GDot.row)]) ty65.choose_spec.2 rfl rfl) (tyo_ok rfl)) (sk st27) ?_
            refine ops_ok rfl (e_alloc (n := 1) rfl ze65 rfl) st8 ?_
            refine ops_ok rfl (s_assign rfl (gk gt25) (tyo_ok rfl)) st7 ?_
            refine ops_ok rfl (e_store (cs' := [.int .u8 x2.typ, .int .i64 x2.n, .int .u64 x2.time, .int .u8 x2.dot.actor.rep, .int .u32 x2.dot.actor.inc, .int .u64 x2.dot.seq, .str x2.text, .sl 5 (x2.items.map GItem.row), .sl 3 (x2.tombs.map GDot.row)]) rfl ty65.choose_spec.1 gt8 (gk gt27) (tyo_ok rfl) rfl rfl rfl rfl rfl) rfl ?_
            refine ops_nil ?_
            refine q_seq ?_
            refine r_seq ?_
            refine r_drawn [1] [] trivial mixed (by kernel_rfl) ?_
            refine draw_ok rfl rfl (e_load rfl ty65.choose_spec.1 gt8 rfl (ldC_agX (cs' := [.int .u8 x2.typ, .int .i64 x2.n, .int .u64 x2.time, .int .u8 x2.dot.actor.rep, .int .u32 x2.dot.actor.inc, .int .u64 x2.dot.seq, .str x2.text, .sl 5 (x2.items.map GItem.row), .sl 3 (x2.tombs.map GDot.row)]) ty65.choose_spec.2 rfl rfl) (tyo_ok rfl)) (sk st28) ?_
            refine bindF hF (fun v43 hv43 hF => ?_)
            refine draw_callN rfl rfl (fun _ => s_call0 rfl rfl rfl (argo_cons (gk gt28) argo_nil) (.cons (tyo_ok rfl) .nil)) (by rintro _ ⟨B2, T2, rfl, hk2⟩; exact ok123 hv43) (sk st29) ?_
            refine draw_ok rfl rfl (s_un rfl (gk gt29) rfl) (sk st30) ?_
            refine draw_ok rfl rfl (s_move rfl (gk gt30) (tyo_ok rfl)) (sk st31) ?_
            refine draw_gv rfl rfl (fun hb => s_move rfl gt7 (tyo_ok rfl)) (sk st32) ?_
            refine draw_gv rfl rfl (fun hb => s_bin rfl (evo_gv (gk gt32) hb) rfl rfl) (sk st33) ?_
            refine draw_gv rfl rfl (fun hb => s_move rfl (evo_gv (gk gt33) hb) (tyo_ok rfl)) (sk st34) ?_
            refine draw_gv rfl (aG_gv rfl rfl rfl) (fun hb => s_fieldAddr rfl fo85x1 gt6 rfl) (sk st35) ?_
            refine draw_gv rfl (aG_gv rfl rfl rfl) (fun hb => e_load rfl ty83 (evo_gv (gk gt35) hb) rfl (ldC_one rfl) (tyo_ok rfl)) (sk st36) ?_
            refine draw_gv rfl (aG_gv rfl rfl rfl) (fun hb => s_move rfl gt7 (tyo_ok rfl)) (sk st37) ?_
            refine draw_gv rfl (aG_gv rfl rfl rfl) (fun hb => s_bin rfl (evo_gv (gk gt37) hb) rfl rfl) (sk st38) ?_
            refine chkF hF (fun hg44 hF => ?_)
            refine draw_gv rfl (aG_gv rfl rfl rfl) (fun hb => s_gidxRow default rfl el83 (evo_gv (gk gt36) hb) (evo_gv (gk gt38) hb) isl (hg44 hb)) (sk st39) ?_
            refine draw_gv rfl (aG_gv rfl rfl rfl) (fun hb => s_fieldAddr rfl fo65x0 (evo_gv (gk gt39) hb) rfl) (sk (sk st0)) ?_
            refine draw_gv rfl (aG_gv rfl rfl rfl) (fun hb => f_load rfl ty5 (evo_gv (gk (gk gt0)) hb) (ldC_one rfl) (tyo_ok rfl)) (sk (sk st1)) ?_
            refine draw_gv rfl (aG_gv rfl rfl rfl) (fun hb => s_fieldAddr rfl fo65x0 gt8 rfl) (sk (sk st2)) ?_
            refine draw_gv rfl (aG_gv rfl rfl rfl) (fun hb => e_load rfl ty5 (evo_gv (gk (gk gt2)) hb) rfl (ldC_one rfl) (tyo_ok rfl)) (sk (sk st3)) ?_
            refine draw_gv rfl (aG_gv rfl rfl rfl) (fun hb => s_bin rfl (evo_gv (gk (gk gt1)) hb) (evo_gv (gk (gk gt3)) hb) rfl) (sk (sk st4)) ?_
            refine draw_gv rfl rfl (fun hb => s_pick rfl (evo_gv (gk gt34) hb) (gk (gk gt4)) rfl (pick_and (fun ht => gT2 hb ht))) (sk (sk st5)) ?_
            refine draw_ok rfl rfl (s_pick rfl (gk gt31) rfl (gk (gk gt5)) (pick_or (fun ht => gF ht))) (sk (sk st6)) ?_
            refine draw_nil ?_
            refine q_seq ?_
            refine r_condF (gk (gk gt6)) hF (fun hc45 hF => ?_) (fun hc45 hF => ?_)
            · skip
              refine r_seq ?_
              refine r_region ?_
              refine ops_ok rfl (s_assign rfl rfl (tyo_ok rfl)) st4 ?_
              refine ops_nil ?_
              refine q_seq ?_
              refine r_ret ?_
              refine q_block_ret ?_
              refine q_seq_ret ?_
              refine q_loop_ret ?_
              obtain rfl := Option.some.inj hF
              replace hF := hK2
              refine q_block_ret ?_
              refine q_block_ret ?_
              refine q_seq_ret ?_
              refine q_loop_ret ?_
              obtain rfl := Option.some.inj hF
              replace hF := hK1
              refine q_block_ret ?_
              refine q_seq_ret ?_
              obtain rfl := Option.some.inj hF
              refine q_retL1 rfl (rl_tmp gt4 rl_nil) (fin_ext (leV.refl _) rfl ?_)
              exact ⟨rfl, rfl⟩
            · skip
              refine r_skip ?_
              refine q_block ?_
              refine q_seq ?_
              refine r_region ?_
              refine ops_ok rfl (s_bin rfl (gk gt23) rfl rfl) (sk (sk st7)) ?_
              refine ops_ok rfl (s_move rfl (gk (gk gt7)) (tyo_ok rfl)) (sk st23) ?_
              refine ops_nil ?_
              refine q_loop ?_
              obtain rfl := Option.some.inj hF
              exact ⟨(), hl2, hK2, wk.trans (wk.le (by exact (.eq (.eq (.drop (.drop (.drop (.drop (.eq (.drop (.drop (.drop (.drop (.drop (.drop (.drop (.drop (.drop (.eq (.eq (.eq (.drop (.drop (.drop (.drop (.drop (.drop (.drop (.drop (.drop (.drop (.drop (.drop (.drop (.drop (.drop (.drop (.drop (.drop (.drop (.drop (.drop (.drop (.drop (.drop (.drop (.drop (.drop (.drop (.drop (.drop (.drop (.drop (.drop (.drop (.drop (.drop (.drop (.drop (.drop (.drop (.drop (.drop (.eq (.eq (.cons (leV.of_eq (w64e (by omega) (by omega))) (.drop (.drop (.drop (.drop (.drop (.drop (.drop (.drop (.drop (.drop (.drop (.drop (.drop (.drop (.drop (.drop (.drop (.drop (.drop (.drop (.drop (.drop (.drop (.drop (.drop leL.nil))))))))))))))))))))))))))))))))))))))))))))))))))))))))))))))))))))))))))))))))))))))))))) (wk_ext3 (by simp [lowL, AV.low]) rfl rfl (by simp [Blk.low, lowL, AV.low]))⟩
          · skip
            refine r_exit ?_
            refine q_seq_exit ?_
            refine q_loop_exit ?_
            refine q_block_hit ?_
            refine q_block ?_
            refine q_seq ?_
            refine r_region ?_
            refine ops_ok rfl (s_bin rfl gt18 rfl rfl) (sk (sk st8)) ?_
            refine ops_ok rfl (s_move rfl (gk (gk gt8)) (tyo_ok rfl)) st18 ?_
            refine ops_nil ?_
            refine q_loop ?_
            obtain rfl := Option.some.inj hF
            exact ⟨(), hl1, hK1, wk.trans (wk.le (by exact (.eq (.eq (.drop (.drop (.drop (.drop (.drop (.drop (.drop (.drop (.drop (.drop (.drop (.drop (.drop (.drop (.eq (.eq (.cons (leV.of_eq (w64e (by omega) (by omega))) (.drop (.drop (.drop (.drop (.drop (.drop (.drop (.drop (.drop (.drop (.drop (.drop (.drop (.drop (.drop (.drop (.drop (.drop (.drop (.drop (.drop (.drop (.drop (.drop (.drop (.drop (.drop (.drop (.drop (.drop (.drop (.drop (.drop (.drop (.drop (.drop (.drop (.drop (.drop (.drop (.drop (.drop (.drop (.drop (.drop (.drop (.drop (.drop (.drop (.drop (.drop (.drop (.drop (.drop (.drop (.drop (.drop (.drop (.drop (.drop (.drop (.drop (.drop (.drop (.drop (.drop (.drop (.drop (.drop (.drop leL.nil))))))))))))))))))))))))))))))))))))))))))))))))))))))))))))))))))))))))))))))))))))))))))) (wk_ext3 (by simp [lowL, AV.low]) rfl rfl (by simp [Blk.low, lowL, AV.low]))⟩
      · skip
        refine r_exit ?_
        refine q_seq_exit ?_
        refine q_loop_exit ?_
        refine q_block_hit ?_
        refine q_seq ?_
        refine r_seq ?_
        refine r_region ?_
        refine ops_ok rfl (s_assign rfl rfl (tyo_ok rfl)) st4 ?_
        refine ops_nil ?_
        refine q_seq ?_
        refine r_ret ?_
        obtain rfl := Option.some.inj hF
        refine q_retL1 rfl (rl_tmp gt4 rl_nil) (fin_ext (leV.refl _) rfl ?_)
        exact ⟨rfl, rfl⟩
theorem ok105 {t0 : (List GNode)} {deep1 : Int} {res : Bool} {h : AH}  (hF : treeXmay t0 deep1 = some res) : Spec Try.prog 105 [.sl 3 (t0.map GNode.row), .int .i64 deep1] h (fun rr hh => rr = .bool res ∧ hh = h) := by
  obtain ⟨n, hn⟩ := anyN_is hF
  exact ok105N n  hn
/-! varve/tree.May -/
theorem ok75 {t0 : (List GNode)} {res : Bool} {h : AH}  (hF : treeMay t0 = some res) : Spec Try.prog 75 [.sl 3 (t0.map GNode.row)] h (fun rr hh => rr = .bool res ∧ hh = h) := by
  unfold treeMay at hF
  refine spec_of_body_ext Try.func75 rfl (by kernel_rfl) (env := [.sl 3 (t0.map GNode.row), aundef, aundef, aundef, aundef]) (by rfl) ?_
  refine r_seq ?_
  refine r_region ?_
  refine ops_ok rfl (s_assign rfl rfl (tyo_ok rfl)) st2 ?_
  refine ops_nil ?_
  refine q_seq ?_
  refine r_seq ?_
  refine r_region ?_
  refine ops_ok rfl (s_move rfl gt0 (tyo_ok rfl)) st3 ?_
  refine bindF hF (fun v1 hv1 hF => ?_)
  refine ops_callP rfl (s_call0 rfl rfl rfl (argo_cons gt3 (argo_cons rfl argo_nil)) (.cons (tyo_ok rfl) (.cons (tyo_ok rfl) .nil))) (ok105 hv1) st4 ?_
  refine ops_ok rfl (s_assign rfl gt4 (tyo_ok rfl)) st2 ?_
  refine ops_nil ?_
  refine q_seq ?_
  refine r_ret ?_
  obtain rfl := Option.some.inj hF
  refine q_retL1 rfl (rl_tmp gt2 rl_nil) (fin_ext (leV.refl _) rfl ?_)
  exact ⟨rfl, rfl⟩
/-! slices.Clone[[]string,string] -/
theorem ok106 {s0 : (List Str)} {res : (List Str)} {h : AH}  (hF : slicesCloneString s0 = some res) : Spec Try.prog 106 [.sl 1 (s0.map strRow)] h (OwnK h 1 res.length (res.map strRow)) := by
  unfold slicesCloneString at hF
  refine spec_of_body_ext Try.func106 rfl (by kernel_rfl) (env := [.sl 1 (s0.map strRow), aundef, aundef, aundef, aundef, aundef, aundef, aundef]) (by rfl) ?_
  refine r_seq ?_
  refine r_region ?_
  refine ops_ok rfl (s_assign rfl rfl (ty_nil el28)) st2 ?_
  refine ops_nil ?_
  refine q_seq ?_
  refine r_seq ?_
  refine r_seq ?_
  refine r_region ?_
  refine ops_ok rfl (s_move rfl gt0 (tyo_ok rfl)) st3 ?_
  refine ops_nilqE rfl rfl el28 gt3 isl rfl (fun _ => st4) hF (fun b1 hb1 hF => ?_)
  refine ops_nil ?_
  refine q_seq ?_
  refine r_condF gt4 hF (fun hc2 hF => ?_) (fun hc2 hF => ?_)
  · skip
    refine r_seq ?_
    refine r_region ?_
    refine ops_ok rfl (s_assign rfl rfl (ty_nil el28)) st2 ?_
    refine ops_nil ?_
    refine q_seq ?_
    refine r_ret ?_
    refine q_seq_ret ?_
    obtain rfl := Option.some.inj hF
    refine q_retL1 rfl (rl_tmp gt2 rl_nil) (fin_own0 (row := strRow) (L := ([] : List Str)) ?_)
    exact ⟨rfl, rfl⟩
  · skip
    refine r_skip ?_
    refine q_seq ?_
    refine r_seq ?_
    refine r_region ?_
    refine ops_ok rfl (s_buildSlice (es := ([] : List Str).map strRow) rfl el28 ze9 rfl rfl parto_nil .nil rfl rfl rfl) st5 ?_
    refine ops_ok rfl (s_move rfl gt0 (tyo_ok rfl)) st6 ?_
    refine chkF hF (fun hm3 hF => ?_)
    refine ops_ok rfl (e_appN (m := 0) (T' := [((([] : List Str) ++ s0)).length]) rfl rfl rfl rfl el28 el28 gt5 gt6 (tyo_ok rfl) (tyo_ok rfl) news_sl hm3 rfl rfl) st7 ?_
    refine ops_ok rfl (s_assign rfl gt7 (tyo_ok rfl)) st2 ?_
    refine ops_nil ?_
    refine q_seq ?_
    refine r_ret ?_
    obtain rfl := Option.some.inj hF
    refine q_retL1 rfl (rl_tmp gt2 rl_nil) (fin_own ?_)
    exact ⟨rfl, rfl⟩
/-! slices.Clone[[]varve/api.Item,varve/api.Item] -/
theorem ok124 {s0 : (List GItem)} {res : (List GItem)} {h : AH}  (hF : slicesCloneItem s0 = some res) : Spec Try.prog 124 [.sl 5 (s0.map GItem.row)] h (OwnK h 5 res.length (res.map GItem.row)) := by
  unfold slicesCloneItem at hF
  refine spec_of_body_ext Try.func124 rfl (by kernel_rfl) (env := [.sl 5 (s0.map GItem.row), aundef, aundef, aundef, aundef, aundef, aundef, aundef]) (by rfl) ?_
  refine r_seq ?_
  refine r_region ?_
  refine ops_ok rfl (s_assign rfl rfl (ty_nil el63)) st2 ?_
  refine ops_nil ?_
  refine q_seq ?_
  refine r_seq ?_
  refine r_seq ?_
  refine r_region ?_
  refine ops_ok rfl (s_move rfl gt0 (tyo_ok rfl)) st3 ?_
  refine ops_nilqE rfl rfl el63 gt3 isl rfl (fun _ => st4) hF (fun b1 hb1 hF => ?_)
  refine ops_nil ?_
  refine q_seq ?_
  refine r_condF gt4 hF (fun hc2 hF => ?_) (fun hc2 hF => ?_)
  · skip
    refine r_seq ?_
    refine r_region ?_
    refine ops_ok rfl (s_assign rfl rfl (ty_nil el63)) st2 ?_
    refine ops_nil ?_
    refine q_seq ?_
    refine r_ret ?_
    refine q_seq_ret ?_
    obtain rfl := Option.some.inj hF
    refine q_retL1 rfl (rl_tmp gt2 rl_nil) (fin_own0 (row := GItem.row) (L := ([] : List GItem)) ?_)
    exact ⟨rfl, rfl⟩
  · skip
    refine r_skip ?_
    refine q_seq ?_
    refine r_seq ?_
    refine r_region ?_
    refine ops_ok rfl (s_buildSlice (es := ([] : List GItem).map GItem.row) rfl el63 ze73 rfl rfl parto_nil .nil rfl rfl rfl) st5 ?_
    refine ops_ok rfl (s_move rfl gt0 (tyo_ok rfl)) st6 ?_
    refine chkF hF (fun hm3 hF => ?_)
    refine ops_ok rfl (e_appN (m := 0) (T' := [((([] : List GItem) ++ s0)).length]) rfl rfl rfl rfl el63 el63 gt5 gt6 (tyo_ok rfl) (tyo_ok rfl) news_sl hm3 rfl rfl) st7 ?_
    refine ops_ok rfl (s_assign rfl gt7 (tyo_ok rfl)) st2 ?_
    refine ops_nil ?_
    refine q_seq ?_
    refine r_ret ?_
    obtain rfl := Option.some.inj hF
    refine q_retL1 rfl (rl_tmp gt2 rl_nil) (fin_own ?_)
    exact ⟨rfl, rfl⟩
/-! slices.Clone[[]varve/api.Dot,varve/api.Dot] -/
theorem ok125 {s0 : (List GDot)} {res : (List GDot)} {h : AH}  (hF : slicesCloneDot s0 = some res) : Spec Try.prog 125 [.sl 3 (s0.map GDot.row)] h (OwnK h 3 res.length (res.map GDot.row)) := by
  unfold slicesCloneDot at hF
  refine spec_of_body_ext Try.func125 rfl (by kernel_rfl) (env := [.sl 3 (s0.map GDot.row), aundef, aundef, aundef, aundef, aundef, aundef, aundef]) (by rfl) ?_
  refine r_seq ?_
  refine r_region ?_
  refine ops_ok rfl (s_assign rfl rfl (ty_nil el29)) st2 ?_
  refine ops_nil ?_
  refine q_seq ?_
  refine r_seq ?_
  refine r_seq ?_
  refine r_region ?_
  refine ops_ok rfl (s_move rfl gt0 (tyo_ok rfl)) st3 ?_
  refine ops_nilqE rfl rfl el29 gt3 isl rfl (fun _ => st4) hF (fun b1 hb1 hF => ?_)
  refine ops_nil ?_
  refine q_seq ?_
  refine r_condF gt4 hF (fun hc2 hF => ?_) (fun hc2 hF => ?_)
  · skip
    refine r_seq ?_
    refine r_region ?_
    refine ops_ok rfl (s_assign rfl rfl (ty_nil el29)) st2 ?_
    refine ops_nil ?_
    refine q_seq ?_
    refine r_ret ?_
    refine q_seq_ret ?_
    obtain rfl := Option.some.inj hF
    refine q_retL1 rfl (rl_tmp gt2 rl_nil) (fin_own0 (row := GDot.row) (L := ([] : List GDot)) ?_)
    exact ⟨rfl, rfl⟩
  · skip
    refine r_skip ?_
    refine q_seq ?_
    refine r_seq ?_
    refine r_region ?_
    refine ops_ok rfl (s_buildSlice (es := ([] : List GDot).map GDot.row) rfl el29 ze27 rfl rfl parto_nil .nil rfl rfl rfl) st5 ?_
    refine ops_ok rfl (s_move rfl gt0 (tyo_ok rfl)) st6 ?_
    refine chkF hF (fun hm3 hF => ?_)
    refine ops_ok rfl (e_appN (m := 0) (T' := [((([] : List GDot) ++ s0)).length]) rfl rfl rfl rfl el29 el29 gt5 gt6 (tyo_ok rfl) (tyo_ok rfl) news_sl hm3 rfl rfl) st7 ?_
    refine ops_ok rfl (s_assign rfl gt7 (tyo_ok rfl)) st2 ?_
    refine ops_nil ?_
    refine q_seq ?_
    refine r_ret ?_
    obtain rfl := Option.some.inj hF
    refine q_retL1 rfl (rl_tmp gt2 rl_nil) (fin_own ?_)
    exact ⟨rfl, rfl⟩
/-! varve/paths.own -/
theorem ok107 {l0 : GLeaf} {res : GLeaf} {h : AH}  (hF : pathsXown l0 = some res) : Spec Try.prog 107 [.agg [.int .u8 l0.typ, .int .i64 l0.n, .int .u64 l0.time, .int .u8 l0.dot.actor.rep, .int .u32 l0.dot.actor.inc, .int .u64 l0.dot.seq, .str l0.text, .sl 5 (l0.items.map GItem.row), .sl 3 (l0.tombs.map GDot.row)]] h (fun rr hh => rr = .agg [.int .u8 res.typ, .int .i64 res.n, .int .u64 res.time, .int .u8 res.dot.actor.rep, .int .u32 res.dot.actor.inc, .int .u64 res.dot.seq, .str res.text, .sl 5 (res.items.map GItem.row), .sl 3 (res.tombs.map GDot.row)] ∧ hh = h) := by
  unfold pathsXown at hF
  refine spec_of_body_ext Try.func107 rfl (by kernel_rfl) (env := [.agg [.int .u8 l0.typ, .int .i64 l0.n, .int .u64 l0.time, .int .u8 l0.dot.actor.rep, .int .u32 l0.dot.actor.inc, .int .u64 l0.dot.seq, .str l0.text, .sl 5 (l0.items.map GItem.row), .sl 3 (l0.tombs.map GDot.row)], aundef, aundef, aundef, aundef, aundef, aundef, aundef, aundef, aundef, aundef, aundef]) (by rfl) ?_
  refine r_seq ?_
  refine r_region ?_
  refine ops_ok rfl (e_box (n := 0) rfl gt0 (tyo_ok rfl) rfl rfl) st1 ?_
  refine ops_ok rfl (e_alloc (n := 1) rfl ze65 rfl) st2 ?_
  refine ops_nil ?_
  refine q_seq ?_
  refine r_seq ?_
  refine r_drawn [] [] trivial mixed (by kernel_rfl) ?_
  refine draw_ok rfl rfl (s_fieldAddr rfl fo65x5 gt1 rfl) st3 ?_
  refine draw_ok rfl rfl (e_load rfl ty63 gt3 rfl (ldC_one rfl) (tyo_ok rfl)) st4 ?_
  refine bindF hF (fun v1 hv1 hF => ?_)
  refine draw_callH rfl FOk.nil (by rfl) rfl (s_call0 rfl rfl rfl (argo_cons gt4 argo_nil) (.cons (tyo_ok rfl) .nil)) (own_ext (T' := [(v1).length]) (ok124 hv1) (m := 0) rfl rfl) st5 ?_
  refine draw_ok rfl rfl (s_fieldAddr rfl fo65x6 gt1 rfl) st6 ?_
  refine draw_ok rfl rfl (e_load rfl ty29 gt6 rfl (ldC_one rfl) (tyo_ok rfl)) st7 ?_
  refine bindF hF (fun v2 hv2 hF => ?_)
  refine draw_callH rfl FOk.nil (by rfl) rfl (s_call0 rfl rfl rfl (argo_cons gt7 argo_nil) (.cons (tyo_ok rfl) .nil)) (own_ext (T' := [(v1).length, (v2).length]) (ok125 hv2) (m := 1) rfl rfl) st8 ?_
  refine draw_ok rfl rfl (s_fieldAddr rfl fo65x5 gt1 rfl) st9 ?_
  refine draw_eff rfl FOk.nil (by kernel_rfl) rfl (e_store (cs' := [.int .u8 l0.typ, .int .i64 l0.n, .int .u64 l0.time, .int .u8 l0.dot.actor.rep, .int .u32 l0.dot.actor.inc, .int .u64 l0.dot.seq, .str l0.text, .osl (some (h.toks.length + 0)) 5 (v1.map GItem.row), .sl 3 (l0.tombs.map GDot.row)]) rfl ty63 gt9 gt5 (tyo_ok rfl) rfl rfl rfl rfl rfl) rfl ?_
  refine draw_ok rfl rfl (s_fieldAddr rfl fo65x6 gt1 rfl) st10 ?_
  refine draw_eff rfl FOk.nil (by kernel_rfl) rfl (e_store (cs' := [.int .u8 l0.typ, .int .i64 l0.n, .int .u64 l0.time, .int .u8 l0.dot.actor.rep, .int .u32 l0.dot.actor.inc, .int .u64 l0.dot.seq, .str l0.text, .osl (some (h.toks.length + 0)) 5 (v1.map GItem.row), .osl (some (h.toks.length + 1)) 3 (v2.map GDot.row)]) rfl ty29 gt10 gt8 (tyo_ok rfl) rfl rfl rfl rfl rfl) rfl ?_
  refine draw_nil ?_
  refine q_seq ?_
  refine r_seq ?_
  refine r_region ?_
  refine ops_ok rfl (e_load rfl ty65.choose_spec.1 gt1 rfl (ldC_agX (cs' := [.int .u8 l0.typ, .int .i64 l0.n, .int .u64 l0.time, .int .u8 l0.dot.actor.rep, .int .u32 l0.dot.actor.inc, .int .u64 l0.dot.seq, .str l0.text, .osl (some (h.toks.length + 0)) 5 (v1.map GItem.row), .osl (some (h.toks.length + 1)) 3 (v2.map GDot.row)]) ty65.choose_spec.2 rfl rfl) (tyo_ok rfl)) st11 ?_
  refine ops_ok rfl (e_store (cs' := [.int .u8 l0.typ, .int .i64 l0.n, .int .u64 l0.time, .int .u8 l0.dot.actor.rep, .int .u32 l0.dot.actor.inc, .int .u64 l0.dot.seq, .str l0.text, .osl (some (h.toks.length + 0)) 5 (v1.map GItem.row), .osl (some (h.toks.length + 1)) 3 (v2.map GDot.row)]) rfl ty65.choose_spec.1 gt2 gt11 (tyo_ok rfl) rfl rfl rfl rfl rfl) rfl ?_
  refine ops_nil ?_
  refine q_seq ?_
  refine r_ret ?_
  obtain rfl := Option.some.inj hF
  refine q_retL1 rfl (rl_cell ty65.choose_spec.1 gt2 rfl (ldC_agX (cs' := [.int .u8 l0.typ, .int .i64 l0.n, .int .u64 l0.time, .int .u8 l0.dot.actor.rep, .int .u32 l0.dot.actor.inc, .int .u64 l0.dot.seq, .str l0.text, .osl (some (h.toks.length + 0)) 5 (v1.map GItem.row), .osl (some (h.toks.length + 1)) 3 (v2.map GDot.row)]) ty65.choose_spec.2 rfl rfl) (tyo_ok rfl) rl_nil) (fin_ext (leV.agg (.eq (.eq (.eq (.eq (.eq (.eq (.eq (.cons (leV.osl _ _ _) (.cons (leV.osl _ _ _) leL.nil))))))))) rfl) rfl ?_)
  exact ⟨rfl, rfl⟩
/-! varve/paths.kept -/
theorem ok76N (n : Nat) : ∀ {t0 : (List GNode)} {ahead1 : (List Str)} {is2 : ((List Str) → Option Bool)} {fis2 : FuncId} {ais2 kis2 : List AV} {res : (List GNode)} {h : AH} (his2 : ∀ x0 v (L : List Blk) (M : List Nat), is2 x0 = some v → Spec Try.prog fis2 (ais2 ++ [.sl 1 (x0.map strRow)] ++ kis2) (h.ext L M) (fun rr hh => rr = .bool v ∧ hh = h.ext L M)), pathsXkeptN n t0 ahead1 is2 = some res → Spec Try.prog 76 [.sl 3 (t0.map GNode.row), .sl 1 (ahead1.map strRow), .fn (.func fis2) ais2 kis2] h (fun rr hh => rr = .sl 3 (res.map GNode.row) ∧ hh = h) := by
  induction n with
  | zero => intro t0 ahead1 is2 fis2 ais2 kis2 res h his2 hF; simp [pathsXkeptN] at hF
  | succ n ih =>
    intro t0 ahead1 is2 fis2 ais2 kis2 res h his2 hF
    unfold pathsXkeptN at hF
    refine spec_of_body_extC Try.func76 rfl (by kernel_rfl) (env := [.sl 3 (t0.map GNode.row), .sl 1 (ahead1.map strRow), .fn (.func fis2) ais2 kis2, aundef, aundef, aundef, aundef, aundef, aundef, aundef, aundef, aundef, aundef, aundef, aundef, aundef, aundef, aundef, aundef, aundef, aundef, aundef, aundef, aundef, aundef, aundef, aundef, aundef, aundef, aundef, aundef, aundef, aundef, aundef, aundef, aundef, aundef, aundef, aundef, aundef, aundef, aundef, aundef, aundef, aundef, aundef, aundef, aundef, aundef, aundef, aundef, aundef, aundef, aundef, aundef, aundef, aundef, aundef, aundef, aundef, aundef, aundef, aundef, aundef, aundef]) (by rfl) (fun hlow hC => ?_)
    simp only [lowL, AV.low, Bool.and_eq_true, Bool.true_and, and_true] at hlow
    have hlais2 : ∀ n m, h.blks.length ≤ n → h.toks.length ≤ m → lowL n m ais2 = true := fun n m h1 h2 => lowL_up h1 h2 _ (by simp [hlow])
    have hlkis2 : ∀ n m, h.blks.length ≤ n → h.toks.length ≤ m → lowL n m kis2 = true := fun n m h1 h2 => lowL_up h1 h2 _ (by simp [hlow])
    refine r_seq ?_
    refine r_region ?_
    refine ops_ok rfl (s_assign rfl rfl (ty_nil el54)) st6 ?_
    refine ops_nil ?_
    refine q_seq ?_
    refine r_seq ?_
    refine r_seq ?_
    refine r_region ?_
    refine ops_ok rfl (s_move rfl gt0 (tyo_ok rfl)) st13 ?_
    refine ops_len rfl (s_lenSl rfl rfl rfl rfl el54 gt13 lenMap) st14 fun hn1 => ?_
    replace hn1 := lenN hn1
    refine ops_ok rfl (s_move rfl rfl (tyo_ok rfl)) st15 ?_
    refine ops_nil ?_
    refine q_seq ?_
    refine r_block ?_
    refine r_loopLF (fun (n1 : Nat) (s1 : (List GNode)) => [(0, .any), (3, .any), (4, .any), (5, .any), (6, .osl (some (h.toks.length + 0)) 3 (s1.map GNode.row)), (7, .any), (8, .any), (9, .any), (10, .any), (11, .any), (12, .any), (15, .int .i64 (n1 : Int)), (16, .any), (17, .any), (18, .any), (19, .any), (20, .any), (21, .any), (22, .any), (23, .any), (24, .any), (25, .any), (26, .any), (27, .any), (28, .any), (29, .any), (30, .any), (31, .any), (32, .any), (33, .any), (34, .any), (35, .any), (36, .any), (37, .any), (38, .any), (39, .any), (40, .any), (41, .any), (42, .any), (43, .any), (44, .any), (45, .any), (46, .any), (47, .any), (48, .any), (49, .any), (50, .any), (51, .any), (52, .any), (53, .any), (54, .any), (55, .any), (56, .any), (57, .any), (58, .any), (59, .any), (60, .any), (61, .any), (62, .any), (63, .any), (64, .any)]) (fun s1 => h.ext [] [(s1).length]) hF (fun _ _ => by simp only [upd, List.set_cons_succ, List.set_cons_zero]; try rfl) (wk.trans (wk_tok gt6 rfl st6 rfl) (wk.le (by exact (.drop (.eq (.eq (.drop (.drop (.drop (.cons (leV.of_eq rfl) (.drop (.drop (.drop (.drop (.drop (.drop (.eq (.eq (.cons (leV.of_eq rfl) (.drop (.drop (.drop (.drop (.drop (.drop (.drop (.drop (.drop (.drop (.drop (.drop (.drop (.drop (.drop (.drop (.drop (.drop (.drop (.drop (.drop (.drop (.drop (.drop (.drop (.drop (.drop (.drop (.drop (.drop (.drop (.drop (.drop (.drop (.drop (.drop (.drop (.drop (.drop (.drop (.drop (.drop (.drop (.drop (.drop (.drop (.drop (.drop (.drop leL.nil)))))))))))))))))))))))))))))))))))))))))))))))))))))))))))))))))))) ?_
    intro n1 s1 hi1 hF
    refine r_seq ?_
    refine r_region ?_
    refine ops_ok rfl (s_bin rfl gt15 gt14 rfl) st16 ?_
    refine ops_nil ?_
    refine q_seq ?_
    refine r_seq ?_
    refine r_condL gt16 hF (fun x1 o1 hl1 hx1 hF hK1 => ?_) (fun hF => ?_)
    · skip
      refine r_skip ?_
      refine q_seq ?_
      refine r_seq ?_
      refine r_block ?_
      refine r_seq ?_
      refine r_region ?_
      refine ops_ok rfl (s_idxRowE rfl el54 gt13 gt15 isl (idx_of hx1) (GNode.row_eq _)) st17 ?_
      refine ops_ok rfl (f_load rfl ty85.choose_spec.1 gt17 (ldC_agX (cs' := [.str x1.name, .sl 9 (x1.leaves.map GLeaf.row), .sl 3 (x1.subs.map GNode.row)]) ty85.choose_spec.2 rfl rfl) (tyo_ok rfl)) st18 ?_
      refine ops_ok rfl (e_alloc (n := 0) rfl ze85 rfl) st8 ?_
      refine ops_ok rfl (e_store (cs' := [.str x1.name, .sl 9 (x1.leaves.map GLeaf.row), .sl 3 (x1.subs.map GNode.row)]) rfl ty85.choose_spec.1 gt8 gt18 (tyo_ok rfl) rfl rfl rfl rfl rfl) rfl ?_
      refine ops_nil ?_
      refine q_seq ?_
      refine r_seq ?_
      refine r_drawn [] [] trivial mixed (by kernel_rfl) ?_
      refine draw_ok rfl rfl (s_move rfl gt1 (tyo_ok rfl)) st19 ?_
      refine bindF hF (fun v32 hv32 hF => ?_)
      refine draw_callH rfl FOk.nil (by rfl) rfl (s_call0 rfl rfl rfl (argo_cons gt19 argo_nil) (.cons (tyo_ok rfl) .nil)) (own_ext (T' := [(s1).length, (v32).length]) (ok106 hv32) (m := 1) rfl rfl) st20 ?_
      refine draw_ok rfl rfl (s_fieldAddr rfl fo85x0 gt8 rfl) st21 ?_
      refine draw_ok rfl rfl (e_load rfl ty9 gt21 rfl (ldC_one rfl) (tyo_ok rfl)) st22 ?_
      refine draw_ok rfl rfl (s_buildSlice (es := ([x1.name] : List Str).map strRow) rfl el28 ze9 rfl rfl (parto_cons gt22 parto_nil) (.cons (tyo_ok rfl) .nil) rfl rfl rfl) st23 ?_
      refine chkF hF (fun hm33 hF => ?_)
      refine draw_okH rfl FOk.nil (by rfl) rfl (e_appT (j := 1) (T' := [(s1).length, ((v32 ++ ([x1.name] : List Str))).length]) rfl rfl rfl rfl el28 el28 gt20 gt23 (tyo_ok rfl) (tyo_ok rfl) news_osl hm33 rfl rfl) st24 ?_
      refine draw_ok rfl rfl (s_assign rfl gt24 (tyo_ok rfl)) st9 ?_
      refine draw_nil ?_
      refine q_seq ?_
      refine r_seq ?_
      refine r_drawn [1, 3, 6] [(1, [(0, .cells [.str x1.name, .sl 9 (x1.leaves.map GLeaf.row), .sl 3 (x1.subs.map GNode.row)])]), (3, [(0, .cells [.str x1.name, .sl 9 (x1.leaves.map GLeaf.row), .sl 3 (x1.subs.map GNode.row)])])] ⟨⟨rfl, trivial⟩, ⟨rfl, trivial⟩, trivial⟩ mixed (by kernel_rfl) ?_
      refine draw_ok rfl rfl (s_fieldAddr rfl fo85x0 gt8 rfl) st25 ?_
      refine draw_okN rfl rfl (by rintro _ ⟨B2, T2, rfl, hk2⟩; exact e_load rfl ty9 gt25 (keeps1 hk2) (ldC_one rfl) (tyo_ok rfl)) st26 ?_
      refine draw_ok rfl rfl (s_fieldAddr rfl fo85x2 gt8 rfl) st27 ?_
      refine draw_okN rfl rfl (by rintro _ ⟨B2, T2, rfl, hk2⟩; exact e_load rfl ty54 gt27 (keeps1 hk2) (ldC_one rfl) (tyo_ok rfl)) st28 ?_
      refine draw_ok rfl rfl (s_move rfl gt9 (tyo_ok rfl)) st29 ?_
      refine draw_ok rfl rfl (s_move rfl gt2 (tyo_ok rfl)) st30 ?_
      refine bindF hF (fun v34 hv34 hF => ?_)
      refine draw_callN rfl rfl (fun _ => s_call0 rfl rfl rfl (argo_cons gt28 (argo_cons gt29 (argo_cons gt30 argo_nil))) (.cons (tyo_ok rfl) (.cons (tyo_ok rfl) (.cons (tyo_ok rfl) .nil)))) (by rintro _ ⟨B2, T2, rfl, hk2⟩; exact (ih (fun x0 v L M hv => by rw [ext_ext]; exact his2 x0 v _ _ hv) hv34).le (.eq (.cons (leV.osl _ _ _) (.eq leL.nil)))) st31 ?_
      refine draw_ok rfl rfl (s_build (cs' := [.str x1.name, .osl none 9 (([] : List GLeaf).map GLeaf.row), .sl 3 (v34.map GNode.row)]) rfl su85 ze85 pl85 (parto_cons gt26 (parto_cons gt31 parto_nil)) (.cons (tyo_ok rfl) (.cons (tyo_ok rfl) .nil)) rfl rfl) st32 ?_
      refine draw_eff rfl (FOk.cons (.inr (keepB ⟨rfl, trivial⟩)) (FOk.cons (.inr (keepB ⟨rfl, trivial⟩)) (FOk.cons (.inr (keepB trivial)) FOk.nil))) (by kernel_rfl) rfl (e_alloc (n := 1) rfl ze85 rfl) st10 ?_
      refine draw_eff rfl (FOk.cons (.inr (keepB ⟨rfl, trivial⟩)) (FOk.cons (.inr (keepB ⟨rfl, trivial⟩)) (FOk.cons (.inr (keepB trivial)) FOk.nil))) (by kernel_rfl) rfl (e_store (cs' := [.str x1.name, .osl none 9 (([] : List GLeaf).map GLeaf.row), .sl 3 (v34.map GNode.row)]) rfl ty85.choose_spec.1 gt10 gt32 (tyo_ok rfl) rfl rfl rfl rfl rfl) rfl ?_
      refine draw_nil ?_
      refine q_seq ?_
      refine r_seq ?_
      refine r_seq ?_
      refine r_region ?_
      refine ops_ok rfl (s_fieldAddr rfl fo85x1 gt8 rfl) st33 ?_
      refine ops_ok rfl (e_load rfl ty83 gt33 rfl (ldC_one rfl) (tyo_ok rfl)) st34 ?_
      refine ops_len rfl (s_lenSl rfl rfl rfl rfl el83 gt34 lenMap) st35 fun hn35 => ?_
      replace hn35 := lenN hn35
      refine ops_ok rfl (s_move rfl rfl (tyo_ok rfl)) st36 ?_
      refine ops_nil ?_
      refine q_seq ?_
      refine r_block ?_
      refine r_loopLF (fun (n2 : Nat) (s2 : (List GLeaf)) => [(0, .any), (3, .any), (4, .any), (5, .any), (7, .any), (8, .any), (11, .any), (12, .any), (16, .any), (17, .any), (18, .any), (19, .any), (20, .any), (21, .any), (22, .any), (23, .any), (24, .any), (25, .any), (26, .any), (27, .any), (28, .any), (29, .any), (30, .any), (31, .any), (32, .any), (33, .any), (36, .int .i64 (n2 : Int)), (37, .any), (38, .any), (39, .any), (40, .any), (41, .any), (42, .any), (43, .any), (44, .any), (45, .any), (46, .any), (47, .any), (48, .any), (49, .any), (50, .any), (51, .any), (52, .any), (53, .any), (54, .any), (55, .any), (56, .any), (57, .any), (58, .any), (59, .any), (60, .any), (61, .any), (62, .any), (63, .any), (64, .any)]) (fun s2 => h.ext [.cells [.str x1.name, .sl 9 (x1.leaves.map GLeaf.row), .sl 3 (x1.subs.map GNode.row)], .cells [.str x1.name, .osl (some (h.toks.length + 2)) 9 (s2.map GLeaf.row), .sl 3 (v34.map GNode.row)]] [(s1).length, ((v32 ++ ([x1.name] : List Str))).length, (s2).length]) hF (fun _ _ => by simp only [upd, List.set_cons_succ, List.set_cons_zero]; try rfl) (wk.trans (wk_tokB (j := 1) rfl gt1 rfl st1 rfl rfl) (wk.le (by exact (.drop (.eq (.eq (.drop (.drop (.drop (.eq (.drop (.drop (.eq (.eq (.drop (.drop (.eq (.eq (.eq (.drop (.drop (.drop (.drop (.drop (.drop (.drop (.drop (.drop (.drop (.drop (.drop (.drop (.drop (.drop (.drop (.drop (.drop (.eq (.eq (.cons (leV.of_eq rfl) (.drop (.drop (.drop (.drop (.drop (.drop (.drop (.drop (.drop (.drop (.drop (.drop (.drop (.drop (.drop (.drop (.drop (.drop (.drop (.drop (.drop (.drop (.drop (.drop (.drop (.drop (.drop (.drop leL.nil)))))))))))))))))))))))))))))))))))))))))))))))))))))))))))))))))))) ?_
      intro n2 s2 hi2 hF
      refine r_seq ?_
      refine r_region ?_
      refine ops_ok rfl (s_bin rfl gt36 gt35 rfl) st37 ?_
      refine ops_nil ?_
      refine q_seq ?_
      refine r_seq ?_
      refine r_condL gt37 hF (fun x2 o2 hl2 hx2 hF hK2 => ?_) (fun hF => ?_)
      · skip
        refine r_skip ?_
        refine q_seq ?_
        refine r_seq ?_
        refine r_block ?_
        refine r_seq ?_
        refine r_region ?_
        refine ops_ok rfl (s_idxRow rfl el83 gt34 gt36 isl (idx_of hx2)) st38 ?_
        refine ops_ok rfl (f_load rfl ty65.choose_spec.1 gt38 (ldC_agX (cs' := [.int .u8 x2.typ, .int .i64 x2.n, .int .u64 x2.time, .int .u8 x2.dot.actor.rep, .int .u32 x2.dot.actor.inc, .int .u64 x2.dot.seq, .str x2.text, .sl 5 (x2.items.map GItem.row), .sl 3 (x2.tombs.map GDot.row)]) ty65.choose_spec.2 rfl rfl) (tyo_ok rfl)) st39 ?_
        refine ops_ok rfl (e_alloc (n := 2) rfl ze65 rfl) st12 ?_
        refine ops_ok rfl (e_store (cs' := [.int .u8 x2.typ, .int .i64 x2.n, .int .u64 x2.time, .int .u8 x2.dot.actor.rep, .int .u32 x2.dot.actor.inc, .int .u64 x2.dot.seq, .str x2.text, .sl 5 (x2.items.map GItem.row), .sl 3 (x2.tombs.map GDot.row)]) rfl ty65.choose_spec.1 gt12 gt39 (tyo_ok rfl) rfl rfl rfl rfl rfl) rfl ?_
        refine ops_nil ?_
        refine q_seq ?_
        refine r_seq ?_
        refine r_region ?_
        refine ops_ok rfl (s_move rfl gt2 (tyo_ok rfl)) (sk st0) ?_
        refine ops_ok rfl (s_move rfl gt9 (tyo_ok rfl)) (sk st1) ?_
        refine bindF hF (fun v49 hv49 hF => ?_)
        refine ops_callP rfl (s_callC rfl rfl (gk gt0) (argo_cons (gk gt1) argo_nil) (.cons (tyo_ok rfl) .nil) rfl) ((his2 _ _ _ _ hv49).le (leL.app (leL.pre (.cons (leV.osl _ _ _) leL.nil)))) (sk st2) ?_
        refine ops_nil ?_
        refine q_seq ?_
        refine r_condF (gk gt2) hF (fun hc50 hF => ?_) (fun hc50 hF => ?_)
        · skip
          refine r_drawn [3] [] trivial mixed (by kernel_rfl) ?_
          refine draw_ok rfl rfl (s_fieldAddr rfl fo85x1 gt10 rfl) (sk st3) ?_
          refine draw_ok rfl rfl (e_load rfl ty83 (gk gt3) rfl (ldC_one rfl) (tyo_ok rfl)) (sk st4) ?_
          refine draw_ok rfl rfl (e_load rfl ty65.choose_spec.1 gt12 rfl (ldC_agX (cs' := [.int .u8 x2.typ, .int .i64 x2.n, .int .u64 x2.time, .int .u8 x2.dot.actor.rep, .int .u32 x2.dot.actor.inc, .int .u64 x2.dot.seq, .str x2.text, .sl 5 (x2.items.map GItem.row), .sl 3 (x2.tombs.map GDot.row)]) ty65.choose_spec.2 rfl rfl) (tyo_ok rfl)) (sk st5) ?_
          refine bindF hF (fun v51 hv51 hF => ?_)
          refine draw_callN rfl rfl (fun _ => s_call0 rfl rfl rfl (argo_cons (gk gt5) argo_nil) (.cons (tyo_ok rfl) .nil)) (by rintro _ ⟨B2, T2, rfl, hk2⟩; exact ok107 hv51) (sk st6) ?_
          refine draw_ok rfl rfl (s_buildSlice (es := ([v51] : List GLeaf).map GLeaf.row) rfl el83 ze65 rfl rfl (parto_cons (gk gt6) parto_nil) (.cons (tyo_ok rfl) .nil) rfl rfl rfl) (sk st7) ?_
          refine chkF hF (fun hm52 hF => ?_)
          refine draw_okH rfl (FOk.cons (.inr (keepB trivial)) FOk.nil) (by rfl) rfl (e_appT (j := 2) (T' := [(s1).length, ((v32 ++ ([x1.name] : List Str))).length, ((s2 ++ ([v51] : List GLeaf))).length]) rfl rfl rfl rfl el83 el83 (gk gt4) (gk gt7) (tyo_ok rfl) (tyo_ok rfl) news_osl hm52 rfl rfl) (sk st8) ?_
          refine draw_ok rfl rfl (s_fieldAddr rfl fo85x1 gt10 rfl) (sk st9) ?_
          refine draw_eff rfl (FOk.cons (.inr (keepB trivial)) FOk.nil) (by kernel_rfl) rfl (e_store (cs' := [.str x1.name, .osl (some (h.toks.length + 2)) 9 ((s2 ++ ([v51] : List GLeaf)).map GLeaf.row), .sl 3 (v34.map GNode.row)]) rfl ty83 (gk gt9) (gk gt8) (tyo_ok rfl) rfl rfl rfl rfl rfl) rfl ?_
          refine draw_nil ?_
          refine q_block ?_
          refine q_seq ?_
          refine r_region ?_
          refine ops_ok rfl (s_bin rfl gt36 rfl rfl) (sk st10) ?_
          refine ops_ok rfl (s_move rfl (gk gt10) (tyo_ok rfl)) st36 ?_
          refine ops_nil ?_
          refine q_loop ?_
          obtain rfl := Option.some.inj hF
          exact ⟨(s2 ++ ([v51] : List GLeaf)), hl2, hK2, wk.trans (wk.le (by exact (.drop (.eq (.eq (.drop (.drop (.drop (.eq (.drop (.drop (.eq (.eq (.drop (.drop (.eq (.eq (.eq (.drop (.drop (.drop (.drop (.drop (.drop (.drop (.drop (.drop (.drop (.drop (.drop (.drop (.drop (.drop (.drop (.drop (.drop (.eq (.eq (.cons (leV.of_eq (w64e (by omega) (by omega))) (.drop (.drop (.drop (.drop (.drop (.drop (.drop (.drop (.drop (.drop (.drop (.drop (.drop (.drop (.drop (.drop (.drop (.drop (.drop (.drop (.drop (.drop (.drop (.drop (.drop (.drop (.drop (.drop leL.nil))))))))))))))))))))))))))))))))))))))))))))))))))))))))))))))))))) (wk_ext3 (by simp [lowL, AV.low, hlais2, hlkis2]) rfl rfl (by simp [Blk.low, lowL, AV.low, hlais2, hlkis2]))⟩
        · skip
          refine r_skip ?_
          refine q_block ?_
          refine q_seq ?_
          refine r_region ?_
          refine ops_ok rfl (s_bin rfl gt36 rfl rfl) (sk st10) ?_
          refine ops_ok rfl (s_move rfl (gk gt10) (tyo_ok rfl)) st36 ?_
          refine ops_nil ?_
          refine q_loop ?_
          obtain rfl := Option.some.inj hF
          exact ⟨s2, hl2, hK2, wk.trans (wk.le (by exact (.drop (.eq (.eq (.drop (.drop (.drop (.eq (.drop (.drop (.eq (.eq (.drop (.drop (.eq (.eq (.eq (.drop (.drop (.drop (.drop (.drop (.drop (.drop (.drop (.drop (.drop (.drop (.drop (.drop (.drop (.drop (.drop (.drop (.drop (.eq (.eq (.cons (leV.of_eq (w64e (by omega) (by omega))) (.drop (.drop (.drop (.drop (.drop (.drop (.drop (.drop (.drop (.drop (.drop (.drop (.drop (.drop (.drop (.drop (.drop (.drop (.drop (.drop (.drop (.drop (.drop (.drop (.drop (.drop (.drop (.drop leL.nil))))))))))))))))))))))))))))))))))))))))))))))))))))))))))))))))))) (wk_ext3 (by simp [lowL, AV.low, hlais2, hlkis2]) rfl rfl (by simp [Blk.low, lowL, AV.low, hlais2, hlkis2]))⟩
      · skip
        refine r_exit ?_
        refine q_seq_exit ?_
        refine q_loop_exit ?_
        refine q_block_hit ?_
        refine q_seq ?_
        refine r_seq ?_
        refine r_region ?_
        refine ops_ok rfl (s_fieldAddr rfl fo85x1 gt10 rfl) (sk st11) ?_
        refine ops_ok rfl (e_load rfl ty83 (gk gt11) rfl (ldC_one rfl) (tyo_ok rfl)) (sk st12) ?_
        refine ops_len rfl (s_lenSl rfl rfl rfl rfl el83 (gk gt12) lenMapO) (sk st13) fun hn53 => ?_
        replace hn53 := lenN hn53
        refine ops_ok rfl (s_fieldAddr rfl fo85x2 gt10 rfl) (sk st14) ?_
        refine ops_ok rfl (e_load rfl ty54 (gk gt14) rfl (ldC_one rfl) (tyo_ok rfl)) (sk st15) ?_
        refine ops_len rfl (s_lenSl rfl rfl rfl rfl el54 (gk gt15) lenMap) (sk st16) fun hn54 => ?_
        replace hn54 := lenN hn54
        refine ops_ok rfl (s_bin rfl (gk gt13) (gk gt16) rfl) (sk st17) ?_
        refine ops_ok rfl (s_bin rfl (gk gt17) rfl rfl) (sk st18) ?_
        refine ops_nil ?_
        refine q_seq ?_
        refine r_condF (gk gt18) hF (fun hc55 hF => ?_) (fun hc55 hF => ?_)
        · skip
          refine r_region ?_
          refine ops_ok rfl (s_move rfl gt6 (tyo_ok rfl)) (sk st19) ?_
          refine ops_ok rfl (e_load rfl ty85.choose_spec.1 gt10 rfl (ldC_agX (cs' := [.str x1.name, .osl (some (h.toks.length + 2)) 9 (s2.map GLeaf.row), .sl 3 (v34.map GNode.row)]) ty85.choose_spec.2 rfl rfl) (tyo_ok rfl)) (sk st20) ?_
          refine ops_ok rfl (s_buildSlice (es := ([(GNode.mk x1.name s2 v34)] : List GNode).map GNode.row) rfl el54 ze85 rfl rfl (parto_cons (gk gt20) parto_nil) (.cons (tyo_ok rfl) .nil) rfl rfl (by simp only [List.map_cons, List.map_nil, GNode.row_eq]; rfl)) (sk st21) ?_
          refine chkF hF (fun hm56 hF => ?_)
          refine ops_ok rfl (e_appT (j := 0) (T' := [((s1 ++ ([(GNode.mk x1.name s2 v34)] : List GNode))).length, ((v32 ++ ([x1.name] : List Str))).length, (s2).length]) rfl rfl rfl rfl el54 el54 (gk gt19) (gk gt21) (tyo_ok rfl) (tyo_ok rfl) news_osl hm56 rfl rfl) (sk st22) ?_
          refine ops_ok rfl (s_assign rfl (gk gt22) (tyo_ok rfl)) st6 ?_
          refine ops_nil ?_
          refine q_block ?_
          refine q_seq ?_
          refine r_region ?_
          refine ops_ok rfl (s_bin rfl gt15 rfl rfl) (sk st23) ?_
          refine ops_ok rfl (s_move rfl (gk gt23) (tyo_ok rfl)) st15 ?_
          refine ops_nil ?_
          refine q_loop ?_
          obtain rfl := Option.some.inj hF
          exact ⟨(s1 ++ ([(GNode.mk x1.name s2 v34)] : List GNode)), hl1, hK1, wk.trans (wk.le (by exact (.drop (.eq (.eq (.drop (.drop (.drop (.cons (leV.of_eq rfl) (.drop (.drop (.drop (.drop (.drop (.drop (.eq (.eq (.cons (leV.of_eq (w64e (by omega) (by omega))) (.drop (.drop (.drop (.drop (.drop (.drop (.drop (.drop (.drop (.drop (.drop (.drop (.drop (.drop (.drop (.drop (.drop (.drop (.drop (.drop (.drop (.drop (.drop (.drop (.drop (.drop (.drop (.drop (.drop (.drop (.drop (.drop (.drop (.drop (.drop (.drop (.drop (.drop (.drop (.drop (.drop (.drop (.drop (.drop (.drop (.drop (.drop (.drop (.drop leL.nil))))))))))))))))))))))))))))))))))))))))))))))))))))))))))))))))))) (wk_ext3 (by simp [lowL, AV.low, hlais2, hlkis2]) rfl rfl (by simp [Blk.low, lowL, AV.low, hlais2, hlkis2]))⟩
        · skip
          refine r_skip ?_
          refine q_block ?_
          refine q_seq ?_
          refine r_region ?_
          refine ops_ok rfl (s_bin rfl gt15 rfl rfl) (sk st23) ?_
          refine ops_ok rfl (s_move rfl (gk gt23) (tyo_ok rfl)) st15 ?_
          refine ops_nil ?_
          refine q_loop ?_
          obtain rfl := Option.some.inj hF
          exact ⟨s1, hl1, hK1, wk.trans (wk.le (by exact (.drop (.eq (.eq (.drop (.drop (.drop (.cons (leV.of_eq rfl) (.drop (.drop (.drop (.drop (.drop (.drop (.eq (.eq (.cons (leV.of_eq (w64e (by omega) (by omega))) (.drop (.drop (.drop (.drop (.drop (.drop (.drop (.drop (.drop (.drop (.drop (.drop (.drop (.drop (.drop (.drop (.drop (.drop (.drop (.drop (.drop (.drop (.drop (.drop (.drop (.drop (.drop (.drop (.drop (.drop (.drop (.drop (.drop (.drop (.drop (.drop (.drop (.drop (.drop (.drop (.drop (.drop (.drop (.drop (.drop (.drop (.drop (.drop (.drop leL.nil))))))))))))))))))))))))))))))))))))))))))))))))))))))))))))))))))) (wk_ext3 (by simp [lowL, AV.low, hlais2, hlkis2]) rfl rfl (by simp [Blk.low, lowL, AV.low, hlais2, hlkis2]))⟩
    · skip
      refine r_exit ?_
      refine q_seq_exit ?_
      refine q_loop_exit ?_
      refine q_block_hit ?_
      refine q_seq ?_
      refine r_seq ?_
      refine r_region ?_
      refine ops_ok rfl (s_move rfl gt6 (tyo_ok rfl)) (sk st24) ?_
      refine ops_ok rfl (s_assign rfl (gk gt24) (tyo_ok rfl)) st6 ?_
      refine ops_nil ?_
      refine q_seq ?_
      refine r_ret ?_
      obtain rfl := Option.some.inj hF
      refine q_retL1 rfl (rl_tmp gt6 rl_nil) (fin_ext (leV.osl _ _ _) rfl ?_)
      exact ⟨rfl, rfl⟩
theorem ok76 {t0 : (List GNode)} {ahead1 : (List Str)} {is2 : ((List Str) → Option Bool)} {fis2 : FuncId} {ais2 kis2 : List AV} {res : (List GNode)} {h : AH} (his2 : ∀ x0 v (L : List Blk) (M : List Nat), is2 x0 = some v → Spec Try.prog fis2 (ais2 ++ [.sl 1 (x0.map strRow)] ++ kis2) (h.ext L M) (fun rr hh => rr = .bool v ∧ hh = h.ext L M)) (hF : pathsXkept t0 ahead1 is2 = some res) : Spec Try.prog 76 [.sl 3 (t0.map GNode.row), .sl 1 (ahead1.map strRow), .fn (.func fis2) ais2 kis2] h (fun rr hh => rr = .sl 3 (res.map GNode.row) ∧ hh = h) := by
  obtain ⟨n, hn⟩ := anyN_is hF
  exact ok76N n his2 hn
/-! varve/paths.Select 1 -/
theorem ok77 {path0 : (List Str)} {c0 : (List Str)} {i0 : Nat} {res : Bool} {h : AH} (hb0 : h.blk i0 = some (.cells [.sl 1 (c0.map strRow)])) (hF : pathsSelectC1 path0 c0 = some res) : Spec Try.prog 77 [.sl 1 (path0.map strRow), .ptr i0 0] h (fun rr hh => rr = .bool res ∧ hh = h) := by
  unfold pathsSelectC1 at hF
  refine spec_of_body_ext Try.func77 rfl (by kernel_rfl) (env := [.sl 1 (path0.map strRow), .ptr i0 0, aundef, aundef, aundef, aundef, aundef]) (by rfl) ?_
  refine r_seq ?_
  refine r_region ?_
  refine ops_ok rfl (s_assign rfl rfl (tyo_ok rfl)) st3 ?_
  refine ops_nil ?_
  refine q_seq ?_
  refine r_seq ?_
  refine r_region ?_
  refine ops_ok rfl (b_load rfl ty28 gt1 hb0 (ldC_one rfl) (tyo_ok rfl)) st4 ?_
  refine ops_ok rfl (s_move rfl gt0 (tyo_ok rfl)) st5 ?_
  refine bindF hF (fun v1 hv1 hF => ?_)
  refine ops_callP rfl (s_call0 rfl rfl rfl (argo_cons gt4 (argo_cons gt5 argo_nil)) (.cons (tyo_ok rfl) (.cons (tyo_ok rfl) .nil))) (ok38 hv1) st6 ?_
  refine ops_ok rfl (s_assign rfl gt6 (tyo_ok rfl)) st3 ?_
  refine ops_nil ?_
  refine q_seq ?_
  refine r_ret ?_
  obtain rfl := Option.some.inj hF
  refine q_retL1 rfl (rl_tmp gt3 rl_nil) (fin_ext (leV.refl _) rfl ?_)
  exact ⟨rfl, rfl⟩
/-! varve/paths.Select -/
theorem ok35 {t0 : (List GNode)} {p1 : (List Str)} {res : ((List GNode) × Int)} {h : AH}  (hF : pathsSelect t0 p1 = some res) : Spec Try.prog 35 [.sl 3 (t0.map GNode.row), .sl 1 (p1.map strRow)] h (fun rr hh => rr = .tup [.sl 3 (res.1.map GNode.row), .int .i64 res.2] ∧ hh = h) := by
  unfold pathsSelect at hF
  refine spec_of_body_ext Try.func35 rfl (by kernel_rfl) (env := [.sl 3 (t0.map GNode.row), .sl 1 (p1.map strRow), aundef, aundef, aundef, aundef, aundef, aundef, aundef, aundef, aundef, aundef, aundef, aundef, aundef, aundef, aundef]) (by rfl) ?_
  refine r_seq ?_
  refine r_region ?_
  refine ops_ok rfl (e_box (n := 0) rfl gt1 (tyo_ok rfl) rfl rfl) st3 ?_
  refine ops_ok rfl (s_assign rfl rfl (ty_nil el54)) st4 ?_
  refine ops_ok rfl (s_assign rfl rfl (tyo_ok rfl)) st5 ?_
  refine ops_nil ?_
  refine q_seq ?_
  refine r_seq ?_
  refine r_seq ?_
  refine r_region ?_
  refine ops_ok rfl (s_move rfl gt0 (tyo_ok rfl)) st6 ?_
  refine bindF hF (fun v1 hv1 hF => ?_)
  refine ops_callP rfl (s_call0 rfl rfl rfl (argo_cons gt6 argo_nil) (.cons (tyo_ok rfl) .nil)) (ok75 hv1) st7 ?_
  refine ops_ok rfl (s_un rfl gt7 rfl) st8 ?_
  refine ops_ok rfl (s_move rfl gt8 (tyo_ok rfl)) st9 ?_
  refine ops_gv rfl (fun hb => e_load rfl ty28 gt3 rfl (ldC_one rfl) (tyo_ok rfl)) st10 ?_
  refine gbindF hF (fun v2 hv2 hF => ?_)
  refine ops_gcall rfl (fun hb => s_call0 rfl rfl rfl (argo_cons (evo_gv gt10 hb) argo_nil) (.cons (tyo_ok rfl) .nil)) (fun hb => ok32 (hv2 hb)) st11 ?_
  refine ops_gv rfl (fun hb => s_un rfl (evo_gv gt11 hb) rfl) st12 ?_
  refine ops_ok rfl (s_pick rfl gt9 rfl gt12 (pick_or (fun ht => gF ht))) st13 ?_
  refine ops_nil ?_
  refine q_seq ?_
  refine r_condF gt13 hF (fun hc3 hF => ?_) (fun hc3 hF => ?_)
  · skip
    refine r_seq ?_
    refine r_region ?_
    refine ops_ok rfl (s_assign rfl rfl (ty_nil el54)) st4 ?_
    refine ops_ok rfl (s_assign rfl rfl (tyo_ok rfl)) st5 ?_
    refine ops_nil ?_
    refine q_seq ?_
    refine r_ret ?_
    refine q_seq_ret ?_
    obtain rfl := Option.some.inj hF
    refine q_retL rfl (rl_tmp gt4 (rl_tmp gt5 rl_nil)) (fin_ext (leV.tup (.cons (leV.osl _ _ _) (.eq leL.nil))) rfl ?_)
    exact ⟨rfl, rfl⟩
  · skip
    refine r_skip ?_
    refine q_seq ?_
    refine r_seq ?_
    refine r_region ?_
    refine ops_ok rfl (s_move rfl gt0 (tyo_ok rfl)) st14 ?_
    refine ops_ok rfl (s_makeFunc rfl rfl rfl) st15 ?_
    refine bindF hF (fun v4 hv4 hF => ?_)
    refine ops_callP rfl (s_call0 rfl rfl rfl (argo_cons gt14 (argo_cons rfl (argo_cons gt15 argo_nil))) (.cons (tyo_ok rfl) (.cons (ty_nil el28) (.cons (tyo_ok rfl) .nil)))) ((ok76 (fun _ v L M hv => ok77 (blk_ext2 (j := 0) rfl) hv) hv4).le (.eq (.cons (leV.osl _ _ _) (.eq leL.nil)))) st16 ?_
    refine ops_ok rfl (s_assign rfl gt16 (tyo_ok rfl)) st4 ?_
    refine ops_ok rfl (s_assign rfl rfl (tyo_ok rfl)) st5 ?_
    refine ops_nil ?_
    refine q_seq ?_
    refine r_ret ?_
    obtain rfl := Option.some.inj hF
    refine q_retL rfl (rl_tmp gt4 (rl_tmp gt5 rl_nil)) (fin_ext (leV.refl _) rfl ?_)
    exact ⟨rfl, rfl⟩
/-! varve/varveref05.Same -/
theorem ok78 {a0 : GLeaf} {b1 : GLeaf} {res : Bool} {h : AH}  (hF : ref05Same a0 b1 = some res) : Spec Try.prog 78 [.agg [.int .u8 a0.typ, .int .i64 a0.n, .int .u64 a0.time, .int .u8 a0.dot.actor.rep, .int .u32 a0.dot.actor.inc, .int .u64 a0.dot.seq, .str a0.text, .sl 5 (a0.items.map GItem.row), .sl 3 (a0.tombs.map GDot.row)], .agg [.int .u8 b1.typ, .int .i64 b1.n, .int .u64 b1.time, .int .u8 b1.dot.actor.rep, .int .u32 b1.dot.actor.inc, .int .u64 b1.dot.seq, .str b1.text, .sl 5 (b1.items.map GItem.row), .sl 3 (b1.tombs.map GDot.row)]] h (fun rr hh => rr = .bool res ∧ hh = h) := by
  unfold ref05Same at hF
  refine spec_of_body_ext Try.func78 rfl (by kernel_rfl) (env := [.agg [.int .u8 a0.typ, .int .i64 a0.n, .int .u64 a0.time, .int .u8 a0.dot.actor.rep, .int .u32 a0.dot.actor.inc, .int .u64 a0.dot.seq, .str a0.text, .sl 5 (a0.items.map GItem.row), .sl 3 (a0.tombs.map GDot.row)], .agg [.int .u8 b1.typ, .int .i64 b1.n, .int .u64 b1.time, .int .u8 b1.dot.actor.rep, .int .u32 b1.dot.actor.inc, .int .u64 b1.dot.seq, .str b1.text, .sl 5 (b1.items.map GItem.row), .sl 3 (b1.tombs.map GDot.row)], aundef, aundef, aundef, aundef, aundef, aundef, aundef, aundef, aundef, aundef, aundef, aundef, aundef, aundef, aundef, aundef, aundef, aundef, aundef, aundef, aundef, aundef, aundef, aundef, aundef, aundef, aundef, aundef, aundef, aundef, aundef, aundef, aundef, aundef, aundef, aundef, aundef, aundef, aundef, aundef, aundef, aundef, aundef, aundef, aundef, aundef, aundef, aundef, aundef, aundef, aundef, aundef, aundef, aundef, aundef, aundef, aundef, aundef, aundef, aundef, aundef, aundef, aundef, aundef, aundef, aundef, aundef, aundef, aundef, aundef, aundef, aundef, aundef, aundef, aundef, aundef, aundef, aundef, aundef, aundef, aundef, aundef, aundef, aundef, aundef, aundef, aundef, aundef, aundef, aundef, aundef, aundef]) (by rfl) ?_
  refine r_seq ?_
  refine r_region ?_
  refine ops_ok rfl (e_box (n := 0) rfl gt0 (tyo_ok rfl) rfl rfl) st2 ?_
  refine ops_ok rfl (e_box (n := 1) rfl gt1 (tyo_ok rfl) rfl rfl) st3 ?_
  refine ops_ok rfl (s_assign rfl rfl (tyo_ok rfl)) st4 ?_
  refine ops_nil ?_
  refine q_seq ?_
  refine r_seq ?_
  refine r_seq ?_
  refine r_region ?_
  refine ops_ok rfl (s_fieldAddr rfl fo65x0 gt2 rfl) st7 ?_
  refine ops_ok rfl (e_load rfl ty5 gt7 rfl (ldC_one rfl) (tyo_ok rfl)) st8 ?_
  refine ops_ok rfl (s_fieldAddr rfl fo65x0 gt3 rfl) st9 ?_
  refine ops_ok rfl (e_load rfl ty5 gt9 rfl (ldC_one rfl) (tyo_ok rfl)) st10 ?_
  refine ops_ok rfl (s_bin rfl gt8 gt10 rfl) st11 ?_
  refine ops_ok rfl (s_move rfl gt11 (tyo_ok rfl)) st12 ?_
  refine ops_gv rfl (fun hb => s_fieldAddr rfl fo65x1 gt2 rfl) st13 ?_
  refine ops_gv rfl (fun hb => e_load rfl ty2 (evo_gv gt13 hb) rfl (ldC_one rfl) (tyo_ok rfl)) st14 ?_
  refine ops_gv rfl (fun hb => s_fieldAddr rfl fo65x1 gt3 rfl) st15 ?_
  refine ops_gv rfl (fun hb => e_load rfl ty2 (evo_gv gt15 hb) rfl (ldC_one rfl) (tyo_ok rfl)) st16 ?_
  refine ops_gv rfl (fun hb => s_bin rfl (evo_gv gt14 hb) (evo_gv gt16 hb) rfl) st17 ?_
  refine ops_ok rfl (s_pick rfl gt12 rfl gt17 (pick_or (fun ht => gF ht))) st18 ?_
  refine ops_ok rfl (s_move rfl gt18 (tyo_ok rfl)) st19 ?_
  refine ops_gv rfl (fun hb => s_fieldAddr rfl fo65x2 gt2 rfl) st20 ?_
  refine ops_gv rfl (fun hb => e_load rfl ty25 (evo_gv gt20 hb) rfl (ldC_one rfl) (tyo_ok rfl)) st21 ?_
  refine ops_gv rfl (fun hb => s_fieldAddr rfl fo65x2 gt3 rfl) st22 ?_
  refine ops_gv rfl (fun hb => e_load rfl ty25 (evo_gv gt22 hb) rfl (ldC_one rfl) (tyo_ok rfl)) st23 ?_
  refine ops_gv rfl (fun hb => s_bin rfl (evo_gv gt21 hb) (evo_gv gt23 hb) rfl) st24 ?_
  refine ops_ok rfl (s_pick rfl gt19 rfl gt24 (pick_or (fun ht => gF ht))) st25 ?_
  refine ops_ok rfl (s_move rfl gt25 (tyo_ok rfl)) st26 ?_
  refine ops_gv rfl (fun hb => s_fieldAddr rfl fo65x3 gt2 rfl) st27 ?_
  refine ops_gv rfl (fun hb => e_load rfl ty27.choose_spec.1 (evo_gv gt27 hb) rfl (ldC_agX (cs' := [.int .u8 a0.dot.actor.rep, .int .u32 a0.dot.actor.inc, .int .u64 a0.dot.seq]) ty27.choose_spec.2 rfl rfl) (tyo_ok rfl)) st28 ?_
  refine ops_gv rfl (fun hb => s_fieldAddr rfl fo65x3 gt3 rfl) st29 ?_
  refine ops_gv rfl (fun hb => e_load rfl ty27.choose_spec.1 (evo_gv gt29 hb) rfl (ldC_agX (cs' := [.int .u8 b1.dot.actor.rep, .int .u32 b1.dot.actor.inc, .int .u64 b1.dot.seq]) ty27.choose_spec.2 rfl rfl) (tyo_ok rfl)) st30 ?_
  refine ops_gv rfl (fun hb => s_bin rfl (evo_gv gt28 hb) (evo_gv gt30 hb) (bin_ne pk27 rfl)) st31 ?_
  refine ops_ok rfl (s_pick rfl gt26 rfl gt31 (pick_or (fun ht => gF ht))) st32 ?_
  refine ops_ok rfl (s_move rfl gt32 (tyo_ok rfl)) st33 ?_
  refine ops_gv rfl (fun hb => s_fieldAddr rfl fo65x4 gt2 rfl) st34 ?_
  refine ops_gv rfl (fun hb => e_load rfl ty9 (evo_gv gt34 hb) rfl (ldC_one rfl) (tyo_ok rfl)) st35 ?_
  refine ops_gv rfl (fun hb => s_fieldAddr rfl fo65x4 gt3 rfl) st36 ?_
  refine ops_gv rfl (fun hb => e_load rfl ty9 (evo_gv gt36 hb) rfl (ldC_one rfl) (tyo_ok rfl)) st37 ?_
  refine ops_gv rfl (fun hb => s_bin rfl (evo_gv gt35 hb) (evo_gv gt37 hb) rfl) st38 ?_
  refine ops_ok rfl (s_pick rfl gt33 rfl gt38 (pick_or (fun ht => gF ht))) st39 ?_
  refine ops_ok rfl (s_move rfl gt39 (tyo_ok rfl)) (sk st0) ?_
  refine ops_gv rfl (fun hb => s_fieldAddr rfl fo65x5 gt2 rfl) (sk st1) ?_
  refine ops_gv rfl (fun hb => e_load rfl ty63 (evo_gv (gk gt1) hb) rfl (ldC_one rfl) (tyo_ok rfl)) (sk st2) ?_
  refine ops_glen rfl (fun hb => s_lenSl rfl rfl rfl rfl el63 (evo_gv (gk gt2) hb) lenMap) (sk st3) fun hn1 => ?_
  refine ops_gv rfl (fun hb => s_fieldAddr rfl fo65x5 gt3 rfl) (sk st4) ?_
  refine ops_gv rfl (fun hb => e_load rfl ty63 (evo_gv (gk gt4) hb) rfl (ldC_one rfl) (tyo_ok rfl)) (sk st5) ?_
  refine ops_glen rfl (fun hb => s_lenSl rfl rfl rfl rfl el63 (evo_gv (gk gt5) hb) lenMap) (sk st6) fun hn2 => ?_
  refine ops_gv rfl (fun hb => s_bin rfl (evo_gv (gk gt3) hb) (evo_gv (gk gt6) hb) rfl) (sk st7) ?_
  refine ops_ok rfl (s_pick rfl (gk gt0) rfl (gk gt7) (pick_or (fun ht => gF ht))) (sk st8) ?_
  refine ops_ok rfl (s_move rfl (gk gt8) (tyo_ok rfl)) (sk st9) ?_
  refine ops_gv rfl (fun hb => s_fieldAddr rfl fo65x6 gt2 rfl) (sk st10) ?_
  refine ops_gv rfl (fun hb => e_load rfl ty29 (evo_gv (gk gt10) hb) rfl (ldC_one rfl) (tyo_ok rfl)) (sk st11) ?_
  refine ops_glen rfl (fun hb => s_lenSl rfl rfl rfl rfl el29 (evo_gv (gk gt11) hb) lenMap) (sk st12) fun hn3 => ?_
  refine ops_gv rfl (fun hb => s_fieldAddr rfl fo65x6 gt3 rfl) (sk st13) ?_
  refine ops_gv rfl (fun hb => e_load rfl ty29 (evo_gv (gk gt13) hb) rfl (ldC_one rfl) (tyo_ok rfl)) (sk st14) ?_
  refine ops_glen rfl (fun hb => s_lenSl rfl rfl rfl rfl el29 (evo_gv (gk gt14) hb) lenMap) (sk st15) fun hn4 => ?_
  refine ops_gv rfl (fun hb => s_bin rfl (evo_gv (gk gt12) hb) (evo_gv (gk gt15) hb) rfl) (sk st16) ?_
  refine ops_ok rfl (s_pick rfl (gk gt9) rfl (gk gt16) (pick_or (fun ht => gF ht))) (sk st17) ?_
  refine ops_nil ?_
  refine q_seq ?_
  refine r_condF (gk gt17) hF (fun hc5 hF => ?_) (fun hc5 hF => ?_)
  · skip
    refine r_seq ?_
    refine r_region ?_
    refine ops_ok rfl (s_assign rfl rfl (tyo_ok rfl)) st4 ?_
    refine ops_nil ?_
    refine q_seq ?_
    refine r_ret ?_
    refine q_seq_ret ?_
    obtain rfl := Option.some.inj hF
    refine q_retL1 rfl (rl_tmp gt4 rl_nil) (fin_ext (leV.refl _) rfl ?_)
    exact ⟨rfl, rfl⟩
  · skip
    refine r_skip ?_
    refine q_seq ?_
    refine r_seq ?_
    refine r_seq ?_
    refine r_region ?_
    refine ops_ok rfl (s_assign rfl rfl (tyo_ok rfl)) st5 ?_
    refine ops_nil ?_
    refine q_seq ?_
    refine r_block ?_
    refine r_loopLF (fun (n1 : Nat) (s1 : Unit) => [(0, .any), (1, .any), (4, .any), (5, .int .i64 (n1 : Int)), (6, .any), (7, .any), (8, .any), (9, .any), (10, .any), (11, .any), (12, .any), (13, .any), (14, .any), (15, .any), (16, .any), (17, .any), (18, .any), (19, .any), (20, .any), (21, .any), (22, .any), (23, .any), (24, .any), (25, .any), (26, .any), (27, .any), (28, .any), (29, .any), (30, .any), (31, .any), (32, .any), (33, .any), (34, .any), (35, .any), (36, .any), (37, .any), (38, .any), (39, .any), (40, .any), (41, .any), (42, .any), (43, .any), (44, .any), (45, .any), (46, .any), (47, .any), (48, .any), (49, .any), (50, .any), (51, .any), (52, .any), (53, .any), (54, .any), (55, .any), (56, .any), (57, .any), (58, .any), (59, .any), (60, .any), (61, .any), (62, .any), (63, .any), (64, .any), (65, .any), (66, .any), (67, .any), (68, .any), (69, .any), (70, .any), (71, .any), (72, .any), (73, .any), (74, .any), (75, .any), (76, .any), (77, .any), (78, .any), (79, .any), (80, .any), (81, .any), (82, .any), (83, .any), (84, .any), (85, .any), (86, .any), (87, .any), (88, .any), (89, .any), (90, .any), (91, .any), (92, .any), (93, .any)]) (fun s1 => h.ext [.cells [.int .u8 a0.typ, .int .i64 a0.n, .int .u64 a0.time, .int .u8 a0.dot.actor.rep, .int .u32 a0.dot.actor.inc, .int .u64 a0.dot.seq, .str a0.text, .sl 5 (a0.items.map GItem.row), .sl 3 (a0.tombs.map GDot.row)], .cells [.int .u8 b1.typ, .int .i64 b1.n, .int .u64 b1.time, .int .u8 b1.dot.actor.rep, .int .u32 b1.dot.actor.inc, .int .u64 b1.dot.seq, .str b1.text, .sl 5 (b1.items.map GItem.row), .sl 3 (b1.tombs.map GDot.row)]] []) hF (fun _ _ => by simp only [upd, List.set_cons_succ, List.set_cons_zero]; try rfl) (wk.le (by exact (.drop (.drop (.eq (.eq (.drop (.cons (leV.of_eq rfl) (.drop (.drop (.drop (.drop (.drop (.drop (.drop (.drop (.drop (.drop (.drop (.drop (.drop (.drop (.drop (.drop (.drop (.drop (.drop (.drop (.drop (.drop (.drop (.drop (.drop (.drop (.drop (.drop (.drop (.drop (.drop (.drop (.drop (.drop (.drop (.drop (.drop (.drop (.drop (.drop (.drop (.drop (.drop (.drop (.drop (.drop (.drop (.drop (.drop (.drop (.drop (.drop (.drop (.drop (.drop (.drop (.drop (.drop (.drop (.drop (.drop (.drop (.drop (.drop (.drop (.drop (.drop (.drop (.drop (.drop (.drop (.drop (.drop (.drop (.drop (.drop (.drop (.drop (.drop (.drop (.drop (.drop (.drop (.drop (.drop (.drop (.drop (.drop leL.nil)))))))))))))))))))))))))))))))))))))))))))))))))))))))))))))))))))))))))))))))))))))))))))))))) ?_
    intro n1 s1 hi1 hF
    refine r_seq ?_
    refine r_seq ?_
    refine r_region ?_
    refine ops_ok rfl (s_move rfl gt5 (tyo_ok rfl)) (sk st18) ?_
    refine ops_ok rfl (s_fieldAddr rfl fo65x5 gt2 rfl) (sk st19) ?_
    refine ops_ok rfl (e_load rfl ty63 (gk gt19) rfl (ldC_one rfl) (tyo_ok rfl)) (sk st20) ?_
    refine ops_len rfl (s_lenSl rfl rfl rfl rfl el63 (gk gt20) lenMap) (sk st21) fun hn31 => ?_
    replace hn31 := lenN hn31
    refine ops_ok rfl (s_bin rfl (gk gt18) (gk gt21) rfl) (sk st22) ?_
    refine ops_nil ?_
    refine q_seq ?_
    refine r_condL (gk gt22) hF (fun x1 o1 hl1 hx1 hF hK1 => ?_) (fun hF => ?_)
    · skip
      refine r_skip ?_
      refine q_seq ?_
      refine r_seq ?_
      refine r_block ?_
      refine r_seq ?_
      refine r_drawn [] [] trivial mixed (by kernel_rfl) ?_
      refine draw_ok rfl rfl (s_fieldAddr rfl fo65x5 gt2 rfl) (sk st25) ?_
      refine draw_ok rfl rfl (e_load rfl ty63 (gk gt25) rfl (ldC_one rfl) (tyo_ok rfl)) (sk st26) ?_
      refine draw_ok rfl rfl (s_move rfl gt5 (tyo_ok rfl)) (sk st27) ?_
      refine draw_ok rfl rfl (s_idxRow rfl el63 (gk gt26) (gk gt27) isl (idx_of hx1)) (sk st28) ?_
      refine draw_ok rfl rfl (f_load rfl ty73.choose_spec.1 (gk gt28) (ldC_agX (cs' := [.int .u64 x1.time, .int .u8 x1.dot.actor.rep, .int .u32 x1.dot.actor.inc, .int .u64 x1.dot.seq, .str x1.text]) ty73.choose_spec.2 rfl rfl) (tyo_ok rfl)) (sk st29) ?_
      refine draw_ok rfl rfl (s_fieldAddr rfl fo65x5 gt3 rfl) (sk st30) ?_
      refine draw_ok rfl rfl (e_load rfl ty63 (gk gt30) rfl (ldC_one rfl) (tyo_ok rfl)) (sk st31) ?_
      refine draw_ok rfl rfl (s_move rfl gt5 (tyo_ok rfl)) (sk st32) ?_
      refine bindF hF (fun y32 hy32 hF => ?_)
      refine draw_ok rfl rfl (s_idxRow rfl el63 (gk gt31) (gk gt32) isl hy32) (sk st33) ?_
      refine draw_ok rfl rfl (f_load rfl ty73.choose_spec.1 (gk gt33) (ldC_agX (cs' := [.int .u64 y32.time, .int .u8 y32.dot.actor.rep, .int .u32 y32.dot.actor.inc, .int .u64 y32.dot.seq, .str y32.text]) ty73.choose_spec.2 rfl rfl) (tyo_ok rfl)) (sk st34) ?_
      refine draw_ok rfl rfl (s_bin rfl (gk gt29) (gk gt34) (bin_ne pk73 rfl)) (sk st35) ?_
      refine draw_nil ?_
      refine q_seq ?_
      refine r_condF (gk gt35) hF (fun hc33 hF => ?_) (fun hc33 hF => ?_)
      · skip
        refine r_seq ?_
        refine r_region ?_
        refine ops_ok rfl (s_assign rfl rfl (tyo_ok rfl)) st4 ?_
        refine ops_nil ?_
        refine q_seq ?_
        refine r_ret ?_
        refine q_block_ret ?_
        refine q_seq_ret ?_
        refine q_loop_ret ?_
        obtain rfl := Option.some.inj hF
        replace hF := hK1
        refine q_block_ret ?_
        refine q_seq_ret ?_
        obtain rfl := Option.some.inj hF
        refine q_retL1 rfl (rl_tmp gt4 rl_nil) (fin_ext (leV.refl _) rfl ?_)
        exact ⟨rfl, rfl⟩
      · skip
        refine r_skip ?_
        refine q_block ?_
        refine q_seq ?_
        refine r_region ?_
        refine ops_ok rfl (s_move rfl gt5 (tyo_ok rfl)) (sk st23) ?_
        refine ops_ok rfl (s_bin rfl (gk gt23) rfl rfl) (sk st24) ?_
        refine ops_ok rfl (s_assign rfl (gk gt24) (tyo_ok rfl)) st5 ?_
        refine ops_nil ?_
        refine q_loop ?_
        obtain rfl := Option.some.inj hF
        exact ⟨(), hl1, hK1, wk.le (by exact (.drop (.drop (.eq (.eq (.drop (.cons (leV.of_eq (w64e (by omega) (by omega))) (.drop (.drop (.drop (.drop (.drop (.drop (.drop (.drop (.drop (.drop (.drop (.drop (.drop (.drop (.drop (.drop (.drop (.drop (.drop (.drop (.drop (.drop (.drop (.drop (.drop (.drop (.drop (.drop (.drop (.drop (.drop (.drop (.drop (.drop (.drop (.drop (.drop (.drop (.drop (.drop (.drop (.drop (.drop (.drop (.drop (.drop (.drop (.drop (.drop (.drop (.drop (.drop (.drop (.drop (.drop (.drop (.drop (.drop (.drop (.drop (.drop (.drop (.drop (.drop (.drop (.drop (.drop (.drop (.drop (.drop (.drop (.drop (.drop (.drop (.drop (.drop (.drop (.drop (.drop (.drop (.drop (.drop (.drop (.drop (.drop (.drop (.drop (.drop leL.nil)))))))))))))))))))))))))))))))))))))))))))))))))))))))))))))))))))))))))))))))))))))))))))))))⟩
    · skip
      refine r_exit ?_
      refine q_seq_exit ?_
      refine q_loop_exit ?_
      refine q_block_hit ?_
      refine q_seq ?_
      refine r_seq ?_
      refine r_seq ?_
      refine r_region ?_
      refine ops_ok rfl (s_assign rfl rfl (tyo_ok rfl)) st6 ?_
      refine ops_nil ?_
      refine q_seq ?_
      refine r_block ?_
      refine r_loopLF (fun (n2 : Nat) (s2 : Unit) => [(0, .any), (1, .any), (4, .any), (5, .any), (6, .int .i64 (n2 : Int)), (7, .any), (8, .any), (9, .any), (10, .any), (11, .any), (12, .any), (13, .any), (14, .any), (15, .any), (16, .any), (17, .any), (18, .any), (19, .any), (20, .any), (21, .any), (22, .any), (23, .any), (24, .any), (25, .any), (26, .any), (27, .any), (28, .any), (29, .any), (30, .any), (31, .any), (32, .any), (33, .any), (34, .any), (35, .any), (36, .any), (37, .any), (38, .any), (39, .any), (40, .any), (41, .any), (42, .any), (43, .any), (44, .any), (45, .any), (46, .any), (47, .any), (48, .any), (49, .any), (50, .any), (51, .any), (52, .any), (53, .any), (54, .any), (55, .any), (56, .any), (57, .any), (58, .any), (59, .any), (60, .any), (61, .any), (62, .any), (63, .any), (64, .any), (65, .any), (66, .any), (67, .any), (68, .any), (69, .any), (70, .any), (71, .any), (72, .any), (73, .any), (74, .any), (75, .any), (76, .any), (77, .any), (78, .any), (79, .any), (80, .any), (81, .any), (82, .any), (83, .any), (84, .any), (85, .any), (86, .any), (87, .any), (88, .any), (89, .any), (90, .any), (91, .any), (92, .any), (93, .any)]) (fun s2 => h.ext [.cells [.int .u8 a0.typ, .int .i64 a0.n, .int .u64 a0.time, .int .u8 a0.dot.actor.rep, .int .u32 a0.dot.actor.inc, .int .u64 a0.dot.seq, .str a0.text, .sl 5 (a0.items.map GItem.row), .sl 3 (a0.tombs.map GDot.row)], .cells [.int .u8 b1.typ, .int .i64 b1.n, .int .u64 b1.time, .int .u8 b1.dot.actor.rep, .int .u32 b1.dot.actor.inc, .int .u64 b1.dot.seq, .str b1.text, .sl 5 (b1.items.map GItem.row), .sl 3 (b1.tombs.map GDot.row)]] []) hF (fun _ _ => by simp only [upd, List.set_cons_succ, List.set_cons_zero]; try rfl) (wk.le (by exact (.drop (.drop (.eq (.eq (.drop (.drop (.cons (leV.of_eq rfl) (.drop (.drop (.drop (.drop (.drop (.drop (.drop (.drop (.drop (.drop (.drop (.drop (.drop (.drop (.drop (.drop (.drop (.drop (.drop (.drop (.drop (.drop (.drop (.drop (.drop (.drop (.drop (.drop (.drop (.drop (.drop (.drop (.drop (.drop (.drop (.drop (.drop (.drop (.drop (.drop (.drop (.drop (.drop (.drop (.drop (.drop (.drop (.drop (.drop (.drop (.drop (.drop (.drop (.drop (.drop (.drop (.drop (.drop (.drop (.drop (.drop (.drop (.drop (.drop (.drop (.drop (.drop (.drop (.drop (.drop (.drop (.drop (.drop (.drop (.drop (.drop (.drop (.drop (.drop (.drop (.drop (.drop (.drop (.drop (.drop (.drop (.drop leL.nil)))))))))))))))))))))))))))))))))))))))))))))))))))))))))))))))))))))))))))))))))))))))))))))))) ?_
      intro n2 s2 hi2 hF
      refine r_seq ?_
      refine r_seq ?_
      refine r_region ?_
      refine ops_ok rfl (s_move rfl gt6 (tyo_ok rfl)) (sk st36) ?_
      refine ops_ok rfl (s_fieldAddr rfl fo65x6 gt2 rfl) (sk st37) ?_
      refine ops_ok rfl (e_load rfl ty29 (gk gt37) rfl (ldC_one rfl) (tyo_ok rfl)) (sk st38) ?_
      refine ops_len rfl (s_lenSl rfl rfl rfl rfl el29 (gk gt38) lenMap) (sk st39) fun hn59 => ?_
      replace hn59 := lenN hn59
      refine ops_ok rfl (s_bin rfl (gk gt36) (gk gt39) rfl) (sk (sk st0)) ?_
      refine ops_nil ?_
      refine q_seq ?_
      refine r_condL (gk (gk gt0)) hF (fun x2 o2 hl2 hx2 hF hK2 => ?_) (fun hF => ?_)
      · skip
        refine r_skip ?_
        refine q_seq ?_
        refine r_seq ?_
        refine r_block ?_
        refine r_seq ?_
        refine r_drawn [] [] trivial mixed (by kernel_rfl) ?_
        refine draw_ok rfl rfl (s_fieldAddr rfl fo65x6 gt2 rfl) (sk (sk st3)) ?_
        refine draw_ok rfl rfl (e_load rfl ty29 (gk (gk gt3)) rfl (ldC_one rfl) (tyo_ok rfl)) (sk (sk st4)) ?_
        refine draw_ok rfl rfl (s_move rfl gt6 (tyo_ok rfl)) (sk (sk st5)) ?_
        refine draw_ok rfl rfl (s_idxRow rfl el29 (gk (gk gt4)) (gk (gk gt5)) isl (idx_of hx2)) (sk (sk st6)) ?_
        refine draw_ok rfl rfl (f_load rfl ty27.choose_spec.1 (gk (gk gt6)) (ldC_agX (cs' := [.int .u8 x2.actor.rep, .int .u32 x2.actor.inc, .int .u64 x2.seq]) ty27.choose_spec.2 rfl rfl) (tyo_ok rfl)) (sk (sk st7)) ?_
        refine draw_ok rfl rfl (s_fieldAddr rfl fo65x6 gt3 rfl) (sk (sk st8)) ?_
        refine draw_ok rfl rfl (e_load rfl ty29 (gk (gk gt8)) rfl (ldC_one rfl) (tyo_ok rfl)) (sk (sk st9)) ?_
        refine draw_ok rfl rfl (s_move rfl gt6 (tyo_ok rfl)) (sk (sk st10)) ?_
        refine bindF hF (fun y60 hy60 hF => ?_)
        refine draw_ok rfl rfl (s_idxRow rfl el29 (gk (gk gt9)) (gk (gk gt10)) isl hy60) (sk (sk st11)) ?_
        refine draw_ok rfl rfl (f_load rfl ty27.choose_spec.1 (gk (gk gt11)) (ldC_agX (cs' := [.int .u8 y60.actor.rep, .int .u32 y60.actor.inc, .int .u64 y60.seq]) ty27.choose_spec.2 rfl rfl) (tyo_ok rfl)) (sk (sk st12)) ?_
        refine draw_ok rfl rfl (s_bin rfl (gk (gk gt7)) (gk (gk gt12)) (bin_ne pk27 rfl)) (sk (sk st13)) ?_
        refine draw_nil ?_
        refine q_seq ?_
        refine r_condF (gk (gk gt13)) hF (fun hc61 hF => ?_) (fun hc61 hF => ?_)
        · skip
          refine r_seq ?_
          refine r_region ?_
          refine ops_ok rfl (s_assign rfl rfl (tyo_ok rfl)) st4 ?_
          refine ops_nil ?_
          refine q_seq ?_
          refine r_ret ?_
          refine q_block_ret ?_
          refine q_seq_ret ?_
          refine q_loop_ret ?_
          obtain rfl := Option.some.inj hF
          replace hF := hK2
          refine q_block_ret ?_
          refine q_seq_ret ?_
          obtain rfl := Option.some.inj hF
          refine q_retL1 rfl (rl_tmp gt4 rl_nil) (fin_ext (leV.refl _) rfl ?_)
          exact ⟨rfl, rfl⟩
        · skip
          refine r_skip ?_
          refine q_block ?_
          refine q_seq ?_
          refine r_region ?_
          refine ops_ok rfl (s_move rfl gt6 (tyo_ok rfl)) (sk (sk st1)) ?_
          refine ops_ok rfl (s_bin rfl (gk (gk gt1)) rfl rfl) (sk (sk st2)) ?_
          refine ops_ok rfl (s_assign rfl (gk (gk gt2)) (tyo_ok rfl)) st6 ?_
          refine ops_nil ?_
          refine q_loop ?_
          obtain rfl := Option.some.inj hF
          exact ⟨(), hl2, hK2, wk.le (by exact (.drop (.drop (.eq (.eq (.drop (.drop (.cons (leV.of_eq (w64e (by omega) (by omega))) (.drop (.drop (.drop (.drop (.drop (.drop (.drop (.drop (.drop (.drop (.drop (.drop (.drop (.drop (.drop (.drop (.drop (.drop (.drop (.drop (.drop (.drop (.drop (.drop (.drop (.drop (.drop (.drop (.drop (.drop (.drop (.drop (.drop (.drop (.drop (.drop (.drop (.drop (.drop (.drop (.drop (.drop (.drop (.drop (.drop (.drop (.drop (.drop (.drop (.drop (.drop (.drop (.drop (.drop (.drop (.drop (.drop (.drop (.drop (.drop (.drop (.drop (.drop (.drop (.drop (.drop (.drop (.drop (.drop (.drop (.drop (.drop (.drop (.drop (.drop (.drop (.drop (.drop (.drop (.drop (.drop (.drop (.drop (.drop (.drop (.drop (.drop leL.nil)))))))))))))))))))))))))))))))))))))))))))))))))))))))))))))))))))))))))))))))))))))))))))))))⟩
      · skip
        refine r_exit ?_
        refine q_seq_exit ?_
        refine q_loop_exit ?_
        refine q_block_hit ?_
        refine q_seq ?_
        refine r_seq ?_
        refine r_region ?_
        refine ops_ok rfl (s_assign rfl rfl (tyo_ok rfl)) st4 ?_
        refine ops_nil ?_
        refine q_seq ?_
        refine r_ret ?_
        obtain rfl := Option.some.inj hF
        refine q_retL1 rfl (rl_tmp gt4 rl_nil) (fin_ext (leV.refl _) rfl ?_)
        exact ⟨rfl, rfl⟩
/-! varve/varveref07.Same -/
theorem ok36N (n : Nat) : ∀ {a0 : (List GNode)} {b1 : (List GNode)} {res : Bool} {h : AH} , ref07SameN n a0 b1 = some res → Spec Try.prog 36 [.sl 3 (a0.map GNode.row), .sl 3 (b1.map GNode.row)] h (fun rr hh => rr = .bool res ∧ hh = h) := by
  induction n with
  | zero => intro a0 b1 res h  hF; simp [ref07SameN] at hF
  | succ n ih =>
    intro a0 b1 res h  hF
    unfold ref07SameN at hF
    refine spec_of_body_ext Try.func36 rfl (by kernel_rfl) (env := [.sl 3 (a0.map GNode.row), .sl 3 (b1.map GNode.row), aundef, aundef, aundef, aundef, aundef, aundef, aundef, aundef, aundef, aundef, aundef, aundef, aundef, aundef, aundef, aundef, aundef, aundef, aundef, aundef, aundef, aundef, aundef, aundef, aundef, aundef, aundef, aundef, aundef, aundef, aundef, aundef, aundef, aundef, aundef, aundef, aundef, aundef, aundef, aundef, aundef, aundef, aundef, aundef, aundef, aundef, aundef, aundef, aundef, aundef, aundef, aundef, aundef, aundef, aundef, aundef, aundef, aundef, aundef, aundef, aundef, aundef, aundef, aundef, aundef, aundef, aundef, aundef, aundef, aundef, aundef, aundef, aundef, aundef, aundef, aundef, aundef, aundef, aundef, aundef, aundef, aundef, aundef, aundef]) (by rfl) ?_
    refine r_seq ?_
    refine r_region ?_
    refine ops_ok rfl (s_assign rfl rfl (tyo_ok rfl)) st4 ?_
    refine ops_nil ?_
    refine q_seq ?_
    refine r_seq ?_
    refine r_seq ?_
    refine r_region ?_
    refine ops_ok rfl (s_move rfl gt0 (tyo_ok rfl)) st7 ?_
    refine ops_len rfl (s_lenSl rfl rfl rfl rfl el54 gt7 lenMap) st8 fun hn1 => ?_
    replace hn1 := lenN hn1
    refine ops_ok rfl (s_move rfl gt1 (tyo_ok rfl)) st9 ?_
    refine ops_len rfl (s_lenSl rfl rfl rfl rfl el54 gt9 lenMap) st10 fun hn2 => ?_
    replace hn2 := lenN hn2
    refine ops_ok rfl (s_bin rfl gt8 gt10 rfl) st11 ?_
    refine ops_nil ?_
    refine q_seq ?_
    refine r_condF gt11 hF (fun hc3 hF => ?_) (fun hc3 hF => ?_)
    · skip
      refine r_seq ?_
      refine r_region ?_
      refine ops_ok rfl (s_assign rfl rfl (tyo_ok rfl)) st4 ?_
      refine ops_nil ?_
      refine q_seq ?_
      refine r_ret ?_
      refine q_seq_ret ?_
      obtain rfl := Option.some.inj hF
      refine q_retL1 rfl (rl_tmp gt4 rl_nil) (fin_ext (leV.refl _) rfl ?_)
      exact ⟨rfl, rfl⟩
    · skip
      refine r_skip ?_
      refine q_seq ?_
      refine r_seq ?_
      refine r_seq ?_
      refine r_region ?_
      refine ops_ok rfl (s_assign rfl rfl (tyo_ok rfl)) st5 ?_
      refine ops_nil ?_
      refine q_seq ?_
      refine r_block ?_
      refine r_loopLF (fun (n1 : Nat) (s1 : Unit) => [(2, .any), (3, .any), (4, .any), (5, .int .i64 (n1 : Int)), (6, .any), (7, .any), (8, .any), (9, .any), (10, .any), (11, .any), (12, .any), (13, .any), (14, .any), (15, .any), (16, .any), (17, .any), (18, .any), (19, .any), (20, .any), (21, .any), (22, .any), (23, .any), (24, .any), (25, .any), (26, .any), (27, .any), (28, .any), (29, .any), (30, .any), (31, .any), (32, .any), (33, .any), (34, .any), (35, .any), (36, .any), (37, .any), (38, .any), (39, .any), (40, .any), (41, .any), (42, .any), (43, .any), (44, .any), (45, .any), (46, .any), (47, .any), (48, .any), (49, .any), (50, .any), (51, .any), (52, .any), (53, .any), (54, .any), (55, .any), (56, .any), (57, .any), (58, .any), (59, .any), (60, .any), (61, .any), (62, .any), (63, .any), (64, .any), (65, .any), (66, .any), (67, .any), (68, .any), (69, .any), (70, .any), (71, .any), (72, .any), (73, .any), (74, .any), (75, .any), (76, .any), (77, .any), (78, .any), (79, .any), (80, .any), (81, .any), (82, .any), (83, .any), (84, .any), (85, .any)]) (fun s1 => h.ext [] []) hF (fun _ _ => by simp only [upd, List.set_cons_succ, List.set_cons_zero]; try rfl) (wk.le (by exact (.eq (.eq (.drop (.drop (.drop (.cons (leV.of_eq rfl) (.drop (.drop (.drop (.drop (.drop (.drop (.drop (.drop (.drop (.drop (.drop (.drop (.drop (.drop (.drop (.drop (.drop (.drop (.drop (.drop (.drop (.drop (.drop (.drop (.drop (.drop (.drop (.drop (.drop (.drop (.drop (.drop (.drop (.drop (.drop (.drop (.drop (.drop (.drop (.drop (.drop (.drop (.drop (.drop (.drop (.drop (.drop (.drop (.drop (.drop (.drop (.drop (.drop (.drop (.drop (.drop (.drop (.drop (.drop (.drop (.drop (.drop (.drop (.drop (.drop (.drop (.drop (.drop (.drop (.drop (.drop (.drop (.drop (.drop (.drop (.drop (.drop (.drop (.drop (.drop leL.nil)))))))))))))))))))))))))))))))))))))))))))))))))))))))))))))))))))))))))))))))))))))))) ?_
      intro n1 s1 hi1 hF
      refine r_seq ?_
      refine r_seq ?_
      refine r_region ?_
      refine ops_ok rfl (s_move rfl gt5 (tyo_ok rfl)) st12 ?_
      refine ops_ok rfl (s_move rfl gt0 (tyo_ok rfl)) st13 ?_
      refine ops_len rfl (s_lenSl rfl rfl rfl rfl el54 gt13 lenMap) st14 fun hn40 => ?_
      replace hn40 := lenN hn40
      refine ops_ok rfl (s_bin rfl gt12 gt14 rfl) st15 ?_
      refine ops_nil ?_
      refine q_seq ?_
      refine r_condL gt15 hF (fun x1 o1 hl1 hx1 hF hK1 => ?_) (fun hF => ?_)
      · skip
        refine r_skip ?_
        refine q_seq ?_
        refine r_seq ?_
        refine r_block ?_
        refine r_seq ?_
        refine r_seq ?_
        refine r_drawn [] [] trivial mixed (by kernel_rfl) ?_
        refine draw_ok rfl rfl (s_move rfl gt0 (tyo_ok rfl)) st18 ?_
        refine draw_ok rfl rfl (s_move rfl gt5 (tyo_ok rfl)) st19 ?_
        refine draw_ok rfl rfl (s_idxRowE rfl el54 gt18 gt19 isl (idx_of hx1) (GNode.row_eq _)) st20 ?_
        refine draw_ok rfl rfl (s_fieldAddr rfl fo85x0 gt20 rfl) st21 ?_
        refine draw_ok rfl rfl (f_load rfl ty9 gt21 (ldC_one rfl) (tyo_ok rfl)) st22 ?_
        refine draw_ok rfl rfl (s_move rfl gt1 (tyo_ok rfl)) st23 ?_
        refine draw_ok rfl rfl (s_move rfl gt5 (tyo_ok rfl)) st24 ?_
        refine bindF hF (fun y41 hy41 hF => ?_)
        refine draw_ok rfl rfl (s_idxRowE rfl el54 gt23 gt24 isl hy41 (GNode.row_eq _)) st25 ?_
        refine draw_ok rfl rfl (s_fieldAddr rfl fo85x0 gt25 rfl) st26 ?_
        refine draw_ok rfl rfl (f_load rfl ty9 gt26 (ldC_one rfl) (tyo_ok rfl)) st27 ?_
        refine draw_ok rfl rfl (s_bin rfl gt22 gt27 rfl) st28 ?_
        refine draw_ok rfl rfl (s_move rfl gt28 (tyo_ok rfl)) st29 ?_
        refine draw_gv rfl rfl (fun hb => s_move rfl gt0 (tyo_ok rfl)) st30 ?_
        refine draw_gv rfl rfl (fun hb => s_move rfl gt5 (tyo_ok rfl)) st31 ?_
        refine chkF hF (fun hg42 hF => ?_)
        refine draw_gv rfl rfl (fun hb => s_gidxRowE default rfl el54 (evo_gv gt30 hb) (evo_gv gt31 hb) isl (hg42 hb) (GNode.row_eq _)) st32 ?_
        refine draw_gv rfl rfl (fun hb => s_fieldAddr rfl fo85x1 (evo_gv gt32 hb) rfl) st33 ?_
        refine draw_gv rfl rfl (fun hb => f_load rfl ty83 (evo_gv gt33 hb) (ldC_one rfl) (tyo_ok rfl)) st34 ?_
        refine draw_glen rfl rfl (fun hb => s_lenSl rfl rfl rfl rfl el83 (evo_gv gt34 hb) lenMap) st35 ?_
        refine draw_gv rfl rfl (fun hb => s_move rfl gt1 (tyo_ok rfl)) st36 ?_
        refine draw_gv rfl rfl (fun hb => s_move rfl gt5 (tyo_ok rfl)) st37 ?_
        refine chkF hF (fun hg44 hF => ?_)
        refine draw_gv rfl rfl (fun hb => s_gidxRowE default rfl el54 (evo_gv gt36 hb) (evo_gv gt37 hb) isl (hg44 hb) (GNode.row_eq _)) st38 ?_
        refine draw_gv rfl rfl (fun hb => s_fieldAddr rfl fo85x1 (evo_gv gt38 hb) rfl) st39 ?_
        refine draw_gv rfl rfl (fun hb => f_load rfl ty83 (evo_gv gt39 hb) (ldC_one rfl) (tyo_ok rfl)) (sk st0) ?_
        refine draw_glen rfl rfl (fun hb => s_lenSl rfl rfl rfl rfl el83 (evo_gv (gk gt0) hb) lenMap) (sk st1) ?_
        refine draw_gv rfl rfl (fun hb => s_bin rfl (evo_gv gt35 hb) (evo_gv (gk gt1) hb) rfl) (sk st2) ?_
        refine draw_ok rfl rfl (s_pick rfl gt29 rfl (gk gt2) (pick_or (fun ht => gF ht))) (sk st3) ?_
        refine draw_ok rfl rfl (s_move rfl (gk gt3) (tyo_ok rfl)) (sk st4) ?_
        refine draw_gv rfl rfl (fun hb => s_move rfl gt0 (tyo_ok rfl)) (sk st5) ?_
        refine draw_gv rfl rfl (fun hb => s_move rfl gt5 (tyo_ok rfl)) (sk st6) ?_
        refine chkF hF (fun hg46 hF => ?_)
        refine draw_gv rfl rfl (fun hb => s_gidxRowE default rfl el54 (evo_gv (gk gt5) hb) (evo_gv (gk gt6) hb) isl (hg46 hb) (GNode.row_eq _)) (sk st7) ?_
        refine draw_gv rfl rfl (fun hb => s_fieldAddr rfl fo85x2 (evo_gv (gk gt7) hb) rfl) (sk st8) ?_
        refine draw_gv rfl rfl (fun hb => f_load rfl ty54 (evo_gv (gk gt8) hb) (ldC_one rfl) (tyo_ok rfl)) (sk st9) ?_
        refine draw_gv rfl rfl (fun hb => s_move rfl gt1 (tyo_ok rfl)) (sk st10) ?_
        refine draw_gv rfl rfl (fun hb => s_move rfl gt5 (tyo_ok rfl)) (sk st11) ?_
        refine chkF hF (fun hg47 hF => ?_)
        refine draw_gv rfl rfl (fun hb => s_gidxRowE default rfl el54 (evo_gv (gk gt10) hb) (evo_gv (gk gt11) hb) isl (hg47 hb) (GNode.row_eq _)) (sk st12) ?_
        refine draw_gv rfl rfl (fun hb => s_fieldAddr rfl fo85x2 (evo_gv (gk gt12) hb) rfl) (sk st13) ?_
        refine draw_gv rfl rfl (fun hb => f_load rfl ty54 (evo_gv (gk gt13) hb) (ldC_one rfl) (tyo_ok rfl)) (sk st14) ?_
        refine gbindF hF (fun v48 hv48 hF => ?_)
        refine draw_gcall rfl rfl (fun hb => s_call0 rfl rfl rfl (argo_cons (evo_gv (gk gt9) hb) (argo_cons (evo_gv (gk gt14) hb) argo_nil)) (.cons (tyo_ok rfl) (.cons (tyo_ok rfl) .nil))) (fun hb => ih (hv48 hb)) (sk st15) ?_
        refine draw_gv rfl rfl (fun hb => s_un rfl (evo_gv (gk gt15) hb) rfl) (sk st16) ?_
        refine draw_ok rfl rfl (s_pick rfl (gk gt4) rfl (gk gt16) (pick_or (fun ht => gF ht))) (sk st17) ?_
        refine draw_nil ?_
        refine q_seq ?_
        refine r_condF (gk gt17) hF (fun hc49 hF => ?_) (fun hc49 hF => ?_)
        · skip
          refine r_seq ?_
          refine r_region ?_
          refine ops_ok rfl (s_assign rfl rfl (tyo_ok rfl)) st4 ?_
          refine ops_nil ?_
          refine q_seq ?_
          refine r_ret ?_
          refine q_seq_ret ?_
          refine q_block_ret ?_
          refine q_seq_ret ?_
          refine q_loop_ret ?_
          obtain rfl := Option.some.inj hF
          replace hF := hK1
          refine q_block_ret ?_
          refine q_seq_ret ?_
          obtain rfl := Option.some.inj hF
          refine q_retL1 rfl (rl_tmp gt4 rl_nil) (fin_ext (leV.refl _) rfl ?_)
          exact ⟨rfl, rfl⟩
        · skip
          refine r_skip ?_
          refine q_seq ?_
          refine r_seq ?_
          refine r_region ?_
          refine ops_ok rfl (s_assign rfl rfl (tyo_ok rfl)) st6 ?_
          refine ops_nil ?_
          refine q_seq ?_
          refine r_block ?_
          refine r_loopLF (fun (n2 : Nat) (s2 : Unit) => [(2, .any), (3, .any), (4, .any), (6, .int .i64 (n2 : Int)), (7, .any), (8, .any), (9, .any), (10, .any), (11, .any), (12, .any), (13, .any), (14, .any), (15, .any), (16, .any), (17, .any), (18, .any), (19, .any), (20, .any), (21, .any), (22, .any), (23, .any), (24, .any), (25, .any), (26, .any), (27, .any), (28, .any), (29, .any), (30, .any), (31, .any), (32, .any), (33, .any), (34, .any), (35, .any), (36, .any), (37, .any), (38, .any), (39, .any), (40, .any), (41, .any), (42, .any), (43, .any), (44, .any), (45, .any), (46, .any), (47, .any), (48, .any), (49, .any), (50, .any), (51, .any), (52, .any), (53, .any), (54, .any), (55, .any), (56, .any), (57, .any), (58, .any), (59, .any), (60, .any), (61, .any), (62, .any), (63, .any), (64, .any), (65, .any), (66, .any), (67, .any), (68, .any), (69, .any), (70, .any), (71, .any), (72, .any), (73, .any), (74, .any), (75, .any), (76, .any), (77, .any), (78, .any), (79, .any), (80, .any), (81, .any), (82, .any), (83, .any), (84, .any), (85, .any)]) (fun s2 => h.ext [] []) hF (fun _ _ => by simp only [upd, List.set_cons_succ, List.set_cons_zero]; try rfl) (wk.le (by exact (.eq (.eq (.drop (.drop (.drop (.eq (.cons (leV.of_eq rfl) (.drop (.drop (.drop (.drop (.drop (.drop (.drop (.drop (.drop (.drop (.drop (.drop (.drop (.drop (.drop (.drop (.drop (.drop (.drop (.drop (.drop (.drop (.drop (.drop (.drop (.drop (.drop (.drop (.drop (.drop (.drop (.drop (.drop (.drop (.drop (.drop (.drop (.drop (.drop (.drop (.drop (.drop (.drop (.drop (.drop (.drop (.drop (.drop (.drop (.drop (.drop (.drop (.drop (.drop (.drop (.drop (.drop (.drop (.drop (.drop (.drop (.drop (.drop (.drop (.drop (.drop (.drop (.drop (.drop (.drop (.drop (.drop (.drop (.drop (.drop (.drop (.drop (.drop (.drop leL.nil)))))))))))))))))))))))))))))))))))))))))))))))))))))))))))))))))))))))))))))))))))))))) ?_
          intro n2 s2 hi2 hF
          refine r_seq ?_
          refine r_seq ?_
          refine r_region ?_
          refine ops_ok rfl (s_move rfl gt6 (tyo_ok rfl)) (sk st18) ?_
          refine ops_ok rfl (s_move rfl gt0 (tyo_ok rfl)) (sk st19) ?_
          refine ops_ok rfl (s_move rfl gt5 (tyo_ok rfl)) (sk st20) ?_
          refine ops_ok rfl (s_idxRowE rfl el54 (gk gt19) (gk gt20) isl (idx_of hx1) (GNode.row_eq _)) (sk st21) ?_
          refine ops_ok rfl (s_fieldAddr rfl fo85x1 (gk gt21) rfl) (sk st22) ?_
          refine ops_ok rfl (f_load rfl ty83 (gk gt22) (ldC_one rfl) (tyo_ok rfl)) (sk st23) ?_
          refine ops_len rfl (s_lenSl rfl rfl rfl rfl el83 (gk gt23) lenMap) (sk st24) fun hn59 => ?_
          replace hn59 := lenN hn59
          refine ops_ok rfl (s_bin rfl (gk gt18) (gk gt24) rfl) (sk st25) ?_
          refine ops_nil ?_
          refine q_seq ?_
          refine r_condL (gk gt25) hF (fun x2 o2 hl2 hx2 hF hK2 => ?_) (fun hF => ?_)
          · skip
            refine r_skip ?_
            refine q_seq ?_
            refine r_seq ?_
            refine r_block ?_
            refine r_seq ?_
            refine r_drawn [16] [] trivial mixed (by kernel_rfl) ?_
            refine draw_ok rfl rfl (s_move rfl gt0 (tyo_ok rfl)) (sk st28) ?_
            refine draw_ok rfl rfl (s_move rfl gt5 (tyo_ok rfl)) (sk st29) ?_
            refine draw_ok rfl rfl (s_idxRowE rfl el54 (gk gt28) (gk gt29) isl (idx_of hx1) (GNode.row_eq _)) (sk st30) ?_
            refine draw_ok rfl rfl (s_fieldAddr rfl fo85x1 (gk gt30) rfl) (sk st31) ?_
            refine draw_ok rfl rfl (f_load rfl ty83 (gk gt31) (ldC_one rfl) (tyo_ok rfl)) (sk st32) ?_
            refine draw_ok rfl rfl (s_move rfl gt6 (tyo_ok rfl)) (sk st33) ?_
            refine draw_ok rfl rfl (s_idxRow rfl el83 (gk gt32) (gk gt33) isl (idx_of hx2)) (sk st34) ?_
            refine draw_ok rfl rfl (f_load rfl ty65.choose_spec.1 (gk gt34) (ldC_agX (cs' := [.int .u8 x2.typ, .int .i64 x2.n, .int .u64 x2.time, .int .u8 x2.dot.actor.rep, .int .u32 x2.dot.actor.inc, .int .u64 x2.dot.seq, .str x2.text, .sl 5 (x2.items.map GItem.row), .sl 3 (x2.tombs.map GDot.row)]) ty65.choose_spec.2 rfl rfl) (tyo_ok rfl)) (sk st35) ?_
            refine draw_ok rfl rfl (s_move rfl gt1 (tyo_ok rfl)) (sk st36) ?_
            refine draw_ok rfl rfl (s_move rfl gt5 (tyo_ok rfl)) (sk st37) ?_
            refine bindF hF (fun y60 hy60 hF => ?_)
            refine draw_ok rfl rfl (s_idxRowE rfl el54 (gk gt36) (gk gt37) isl hy60 (GNode.row_eq _)) (sk st38) ?_
            refine draw_ok rfl rfl (s_fieldAddr rfl fo85x1 (gk gt38) rfl) (sk st39) ?_
            refine draw_ok rfl rfl (f_load rfl ty83 (gk gt39) (ldC_one rfl) (tyo_ok rfl)) (sk (sk st0)) ?_
            refine draw_ok rfl rfl (s_move rfl gt6 (tyo_ok rfl)) (sk (sk st1)) ?_
            refine bindF hF (fun y61 hy61 hF => ?_)
            refine draw_ok rfl rfl (s_idxRow rfl el83 (gk (gk gt0)) (gk (gk gt1)) isl hy61) (sk (sk st2)) ?_
            refine draw_ok rfl rfl (f_load rfl ty65.choose_spec.1 (gk (gk gt2)) (ldC_agX (cs' := [.int .u8 y61.typ, .int .i64 y61.n, .int .u64 y61.time, .int .u8 y61.dot.actor.rep, .int .u32 y61.dot.actor.inc, .int .u64 y61.dot.seq, .str y61.text, .sl 5 (y61.items.map GItem.row), .sl 3 (y61.tombs.map GDot.row)]) ty65.choose_spec.2 rfl rfl) (tyo_ok rfl)) (sk (sk st3)) ?_
            refine bindF hF (fun v62 hv62 hF => ?_)
            refine draw_callN rfl rfl (fun _ => s_call0 rfl rfl rfl (argo_cons (gk gt35) (argo_cons (gk (gk gt3)) argo_nil)) (.cons (tyo_ok rfl) (.cons (tyo_ok rfl) .nil))) (by rintro _ ⟨B2, T2, rfl, hk2⟩; exact ok78 hv62) (sk (sk st4)) ?_
            refine draw_ok rfl rfl (s_un rfl (gk (gk gt4)) rfl) (sk (sk st5)) ?_
            refine draw_nil ?_
            refine q_seq ?_
            refine r_condF (gk (gk gt5)) hF (fun hc63 hF => ?_) (fun hc63 hF => ?_)
            · skip
              refine r_seq ?_
              refine r_region ?_
              refine ops_ok rfl (s_assign rfl rfl (tyo_ok rfl)) st4 ?_
              refine ops_nil ?_
              refine q_seq ?_
              refine r_ret ?_
              refine q_block_ret ?_
              refine q_seq_ret ?_
              refine q_loop_ret ?_
              obtain rfl := Option.some.inj hF
              replace hF := hK2
              refine q_block_ret ?_
              refine q_block_ret ?_
              refine q_seq_ret ?_
              refine q_loop_ret ?_
              obtain rfl := Option.some.inj hF
              replace hF := hK1
              refine q_block_ret ?_
              refine q_seq_ret ?_
              obtain rfl := Option.some.inj hF
              refine q_retL1 rfl (rl_tmp gt4 rl_nil) (fin_ext (leV.refl _) rfl ?_)
              exact ⟨rfl, rfl⟩
            · skip
              refine r_skip ?_
              refine q_block ?_
              refine q_seq ?_
              refine r_region ?_
              refine ops_ok rfl (s_move rfl gt6 (tyo_ok rfl)) (sk st26) ?_
              refine ops_ok rfl (s_bin rfl (gk gt26) rfl rfl) (sk st27) ?_
              refine ops_ok rfl (s_assign rfl (gk gt27) (tyo_ok rfl)) st6 ?_
              refine ops_nil ?_
              refine q_loop ?_
              obtain rfl := Option.some.inj hF
              exact ⟨(), hl2, hK2, wk.le (by exact (.eq (.eq (.drop (.drop (.drop (.eq (.cons (leV.of_eq (w64e (by omega) (by omega))) (.drop (.drop (.drop (.drop (.drop (.drop (.drop (.drop (.drop (.drop (.drop (.drop (.drop (.drop (.drop (.drop (.drop (.drop (.drop (.drop (.drop (.drop (.drop (.drop (.drop (.drop (.drop (.drop (.drop (.drop (.drop (.drop (.drop (.drop (.drop (.drop (.drop (.drop (.drop (.drop (.drop (.drop (.drop (.drop (.drop (.drop (.drop (.drop (.drop (.drop (.drop (.drop (.drop (.drop (.drop (.drop (.drop (.drop (.drop (.drop (.drop (.drop (.drop (.drop (.drop (.drop (.drop (.drop (.drop (.drop (.drop (.drop (.drop (.drop (.drop (.drop (.drop (.drop (.drop leL.nil)))))))))))))))))))))))))))))))))))))))))))))))))))))))))))))))))))))))))))))))))))))))⟩
          · skip
            refine r_exit ?_
            refine q_seq_exit ?_
            refine q_loop_exit ?_
            refine q_block_hit ?_
            refine q_block ?_
            refine q_seq ?_
            refine r_region ?_
            refine ops_ok rfl (s_move rfl gt5 (tyo_ok rfl)) st16 ?_
            refine ops_ok rfl (s_bin rfl gt16 rfl rfl) st17 ?_
            refine ops_ok rfl (s_assign rfl gt17 (tyo_ok rfl)) st5 ?_
            refine ops_nil ?_
            refine q_loop ?_
            obtain rfl := Option.some.inj hF
            exact ⟨(), hl1, hK1, wk.le (by exact (.eq (.eq (.drop (.drop (.drop (.cons (leV.of_eq (w64e (by omega) (by omega))) (.drop (.drop (.drop (.drop (.drop (.drop (.drop (.drop (.drop (.drop (.drop (.drop (.drop (.drop (.drop (.drop (.drop (.drop (.drop (.drop (.drop (.drop (.drop (.drop (.drop (.drop (.drop (.drop (.drop (.drop (.drop (.drop (.drop (.drop (.drop (.drop (.drop (.drop (.drop (.drop (.drop (.drop (.drop (.drop (.drop (.drop (.drop (.drop (.drop (.drop (.drop (.drop (.drop (.drop (.drop (.drop (.drop (.drop (.drop (.drop (.drop (.drop (.drop (.drop (.drop (.drop (.drop (.drop (.drop (.drop (.drop (.drop (.drop (.drop (.drop (.drop (.drop (.drop (.drop (.drop leL.nil)))))))))))))))))))))))))))))))))))))))))))))))))))))))))))))))))))))))))))))))))))))))⟩
      · skip
        refine r_exit ?_
        refine q_seq_exit ?_
        refine q_loop_exit ?_
        refine q_block_hit ?_
        refine q_seq ?_
        refine r_seq ?_
        refine r_region ?_
        refine ops_ok rfl (s_assign rfl rfl (tyo_ok rfl)) st4 ?_
        refine ops_nil ?_
        refine q_seq ?_
        refine r_ret ?_
        obtain rfl := Option.some.inj hF
        refine q_retL1 rfl (rl_tmp gt4 rl_nil) (fin_ext (leV.refl _) rfl ?_)
        exact ⟨rfl, rfl⟩
theorem ok36 {a0 : (List GNode)} {b1 : (List GNode)} {res : Bool} {h : AH}  (hF : ref07Same a0 b1 = some res) : Spec Try.prog 36 [.sl 3 (a0.map GNode.row), .sl 3 (b1.map GNode.row)] h (fun rr hh => rr = .bool res ∧ hh = h) := by
  obtain ⟨n, hn⟩ := anyN_is hF
  exact ok36N n  hn
/-! varve/paths.rows -/
theorem ok80 {t0 : (List GNode)} {ahead1 : (List Str)} {res : ((List GNode) × (List Str))} {h : AH}  (hF : pathsXrows t0 ahead1 = some res) : Spec Try.prog 80 [.sl 3 (t0.map GNode.row), .sl 1 (ahead1.map strRow)] h (CloK h 109 [.cells [.sl 3 (res.1.map GNode.row)], .cells [.sl 1 (res.2.map strRow)]]) := by
  unfold pathsXrows at hF
  refine spec_of_body_ext Try.func80 rfl (by kernel_rfl) (env := [.sl 3 (t0.map GNode.row), .sl 1 (ahead1.map strRow), aundef, aundef, aundef, aundef]) (by rfl) ?_
  refine r_seq ?_
  refine r_region ?_
  refine ops_ok rfl (e_box (n := 0) rfl gt0 (tyo_ok rfl) rfl rfl) st2 ?_
  refine ops_ok rfl (e_box (n := 1) rfl gt1 (tyo_ok rfl) rfl rfl) st3 ?_
  refine ops_ok rfl (s_assign rfl rfl (tyo_ok rfl)) st4 ?_
  refine ops_nil ?_
  refine q_seq ?_
  refine r_seq ?_
  refine r_region ?_
  refine ops_ok rfl (s_makeFunc rfl rfl rfl) st5 ?_
  refine ops_ok rfl (s_assign rfl gt5 (tyo_ok rfl)) st4 ?_
  refine ops_nil ?_
  refine q_seq ?_
  refine r_ret ?_
  obtain rfl := Option.some.inj hF
  refine q_retL1 rfl (rl_tmp gt4 rl_nil) (fin_clo (bs := [.cells [.sl 3 (t0.map GNode.row)], .cells [.sl 1 (ahead1.map strRow)]]) (by simp [AV.low, lowL]) rfl (by simp [Blk.low, lowL, AV.low]) ?_)
  exact ⟨rfl, rfl⟩
/-! varve/paths.rows 1 -/
theorem ok109N (n : Nat) : ∀ {S : Type} {Hy : S → AH} {nb nt : Nat} {yield0 : S → GRow → Option (Bool × S)} {idy : Nat} {c0 : (List GNode)} {i0 : Nat} {c1 : (List Str)} {i1 : Nat} {s0 : S} {res : S} (hN : ∀ s, (Hy s).blks.length = nb) (hNt : ∀ s, (Hy s).toks.length = nt) (hC : ∀ s, (Hy s).closed nb nt) (hly : idy < nb) (hy : ∀ s x b s' L M, yield0 s x = some (b, s') → SpecY Try.prog idy [.agg [.sl 1 (x.path.map strRow), .int .u8 x.leaf.typ, .int .i64 x.leaf.n, .int .u64 x.leaf.time, .int .u8 x.leaf.dot.actor.rep, .int .u32 x.leaf.dot.actor.inc, .int .u64 x.leaf.dot.seq, .str x.leaf.text, .sl 5 (x.leaf.items.map GItem.row), .sl 3 (x.leaf.tombs.map GDot.row)]] ((Hy s).ext L M) (fun rr hh => rr = .bool b ∧ hh = (Hy s').ext L M)) (hb0 : ∀ s, (Hy s).blk i0 = some (.cells [.sl 3 (c0.map GNode.row)])) (hb1 : ∀ s, (Hy s).blk i1 = some (.cells [.sl 1 (c1.map strRow)])), pathsXrowsC1N n S yield0 c0 c1 s0 = some res → Spec Try.prog 109 [.yld idy, .ptr i0 0, .ptr i1 0] (Hy s0) (fun rr hh => rr = .tup [] ∧ hh = Hy res) := by
  induction n with
  | zero => intro S Hy nb nt yield0 idy c0 i0 c1 i1 s0 res hN hNt hC hly hy hb0 hb1 hF; simp [pathsXrowsC1N] at hF
  | succ n ih =>
    intro S Hy nb nt yield0 idy c0 i0 c1 i1 s0 res hN hNt hC hly hy hb0 hb1 hF
    unfold pathsXrowsC1N at hF
    refine spec_of_body_ext Try.func109 rfl (by kernel_rfl) (env := [.yld idy, .ptr i0 0, .ptr i1 0, aundef, aundef, aundef, aundef, aundef, aundef, aundef, aundef, aundef, aundef, aundef, aundef, aundef, aundef, aundef, aundef, aundef, aundef, aundef, aundef, aundef, aundef, aundef, aundef, aundef, aundef, aundef, aundef, aundef, aundef, aundef, aundef, aundef, aundef, aundef, aundef, aundef, aundef, aundef, aundef, aundef, aundef, aundef, aundef, aundef]) (by rfl) ?_
    have hly2 : ∀ k, idy < nb + k := fun k => Nat.lt_of_lt_of_le hly (Nat.le_add_right _ _)
    have hli0 := blk_lt (hb0 s0) (hN s0)
    have hli0b : ∀ k, i0 < nb + k := fun k => Nat.lt_of_lt_of_le hli0 (Nat.le_add_right _ _)
    have hli1 := blk_lt (hb1 s0) (hN s0)
    have hli1b : ∀ k, i1 < nb + k := fun k => Nat.lt_of_lt_of_le hli1 (Nat.le_add_right _ _)
    refine r_seq ?_
    refine r_region ?_
    refine ops_ok rfl (n_box (hN _) (n := 0) rfl gt0 (tyo_ok rfl) rfl rfl) st3 ?_
    refine ops_nil ?_
    refine q_seq ?_
    refine r_seq ?_
    refine r_region ?_
    refine ops_ok rfl (b_load rfl ty54 gt1 (hb0 _) (ldC_one rfl) (tyo_ok rfl)) st10 ?_
    refine ops_len rfl (s_lenSl rfl rfl rfl rfl el54 gt10 lenMap) st11 fun hn1 => ?_
    replace hn1 := lenN hn1
    refine ops_ok rfl (s_move rfl rfl (tyo_ok rfl)) st12 ?_
    refine ops_nil ?_
    refine q_seq ?_
    refine r_block ?_
    refine r_loopLF (fun (n1 : Nat) (s1 : S) => [(0, .any), (1, .any), (4, .any), (5, .any), (6, .any), (7, .any), (8, .any), (9, .any), (12, .int .i64 (n1 : Int)), (13, .any), (14, .any), (15, .any), (16, .any), (17, .any), (18, .any), (19, .any), (20, .any), (21, .any), (22, .any), (23, .any), (24, .any), (25, .any), (26, .any), (27, .any), (28, .any), (29, .any), (30, .any), (31, .any), (32, .any), (33, .any), (34, .any), (35, .any), (36, .any), (37, .any), (38, .any), (39, .any), (40, .any), (41, .any), (42, .any), (43, .any), (44, .any), (45, .any), (46, .any), (47, .any)]) (fun s1 => (Hy s1).ext [.cells [.yld idy]] []) hF (fun _ _ => by simp only [upd, List.set_cons_succ, List.set_cons_zero]; try rfl) (wk.le (by exact (.drop (.drop (.eq (.eq (.drop (.drop (.drop (.drop (.drop (.drop (.eq (.eq (.cons (leV.of_eq rfl) (.drop (.drop (.drop (.drop (.drop (.drop (.drop (.drop (.drop (.drop (.drop (.drop (.drop (.drop (.drop (.drop (.drop (.drop (.drop (.drop (.drop (.drop (.drop (.drop (.drop (.drop (.drop (.drop (.drop (.drop (.drop (.drop (.drop (.drop (.drop leL.nil)))))))))))))))))))))))))))))))))))))))))))))))))) ?_
    intro n1 s1 hi1 hF
    refine r_seq ?_
    refine r_region ?_
    refine ops_ok rfl (s_bin rfl gt12 gt11 rfl) st13 ?_
    refine ops_nil ?_
    refine q_seq ?_
    refine r_seq ?_
    refine r_condL gt13 hF (fun x1 o1 hl1 hx1 hF hK1 => ?_) (fun hF => ?_)
    · skip
      refine r_skip ?_
      refine q_seq ?_
      refine r_seq ?_
      refine r_block ?_
      refine r_seq ?_
      refine r_region ?_
      refine ops_ok rfl (s_idxRowE rfl el54 gt10 gt12 isl (idx_of hx1) (GNode.row_eq _)) st14 ?_
      refine ops_ok rfl (f_load rfl ty85.choose_spec.1 gt14 (ldC_agX (cs' := [.str x1.name, .sl 9 (x1.leaves.map GLeaf.row), .sl 3 (x1.subs.map GNode.row)]) ty85.choose_spec.2 rfl rfl) (tyo_ok rfl)) st15 ?_
      refine ops_ok rfl (n_alloc (hN _) (n := 1) rfl ze85 rfl) st5 ?_
      refine ops_ok rfl (n_store (hN _) (cs' := [.str x1.name, .sl 9 (x1.leaves.map GLeaf.row), .sl 3 (x1.subs.map GNode.row)]) rfl ty85.choose_spec.1 gt5 gt15 (tyo_ok rfl) rfl rfl rfl rfl rfl) rfl ?_
      refine ops_nil ?_
      refine q_seq ?_
      refine r_seq ?_
      refine r_drawn [] [] trivial mixed (by kernel_rfl) ?_
      refine draw_ok rfl rfl (b_load rfl ty28 gt2 (hb1 _) (ldC_one rfl) (tyo_ok rfl)) st16 ?_
      refine bindF hF (fun v37 hv37 hF => ?_)
      refine draw_callH rfl FOk.nil (by rfl) rfl (s_call0 rfl rfl rfl (argo_cons gt16 argo_nil) (.cons (tyo_ok rfl) .nil)) (n_own (hNt _) (T' := [(v37).length]) (ok106 hv37) (m := 0) rfl rfl) st17 ?_
      refine draw_ok rfl rfl (s_fieldAddr rfl fo85x0 gt5 rfl) st18 ?_
      refine draw_ok rfl rfl (n_load (hN _) rfl ty9 gt18 rfl (ldC_one rfl) (tyo_ok rfl)) st19 ?_
      refine draw_ok rfl rfl (s_buildSlice (es := ([x1.name] : List Str).map strRow) rfl el28 ze9 rfl rfl (parto_cons gt19 parto_nil) (.cons (tyo_ok rfl) .nil) rfl rfl rfl) st20 ?_
      refine chkF hF (fun hm38 hF => ?_)
      refine draw_okH rfl FOk.nil (by rfl) rfl (n_appT (hNt _) (j := 0) (T' := [((v37 ++ ([x1.name] : List Str))).length]) rfl rfl rfl rfl el28 el28 gt17 gt20 (tyo_ok rfl) (tyo_ok rfl) news_osl hm38 rfl rfl) st21 ?_
      refine draw_ok rfl rfl (s_assign rfl gt21 (tyo_ok rfl)) st6 ?_
      refine draw_nil ?_
      refine q_seq ?_
      refine r_seq ?_
      refine r_seq ?_
      refine r_region ?_
      refine ops_ok rfl (s_fieldAddr rfl fo85x1 gt5 rfl) st22 ?_
      refine ops_ok rfl (n_load (hN _) rfl ty83 gt22 rfl (ldC_one rfl) (tyo_ok rfl)) st23 ?_
      refine ops_len rfl (s_lenSl rfl rfl rfl rfl el83 gt23 lenMap) st24 fun hn39 => ?_
      replace hn39 := lenN hn39
      refine ops_ok rfl (s_move rfl rfl (tyo_ok rfl)) st25 ?_
      refine ops_nil ?_
      refine q_seq ?_
      refine r_block ?_
      refine r_loopLF (fun (n2 : Nat) (s2 : S) => [(0, .any), (1, .any), (4, .any), (7, .any), (8, .any), (9, .any), (13, .any), (14, .any), (15, .any), (16, .any), (17, .any), (18, .any), (19, .any), (20, .any), (21, .any), (22, .any), (25, .int .i64 (n2 : Int)), (26, .any), (27, .any), (28, .any), (29, .any), (30, .any), (31, .any), (32, .any), (33, .any), (34, .any), (35, .any), (36, .any), (37, .any), (38, .any), (39, .any), (40, .any), (41, .any), (42, .any), (43, .any), (44, .any), (45, .any), (46, .any), (47, .any)]) (fun s2 => (Hy s2).ext [.cells [.yld idy], .cells [.str x1.name, .sl 9 (x1.leaves.map GLeaf.row), .sl 3 (x1.subs.map GNode.row)]] [((v37 ++ ([x1.name] : List Str))).length]) hF (fun _ _ => by simp only [upd, List.set_cons_succ, List.set_cons_zero]; try rfl) (wk.le (by exact (.drop (.drop (.eq (.eq (.drop (.eq (.eq (.drop (.drop (.drop (.eq (.eq (.eq (.drop (.drop (.drop (.drop (.drop (.drop (.drop (.drop (.drop (.drop (.eq (.eq (.cons (leV.of_eq rfl) (.drop (.drop (.drop (.drop (.drop (.drop (.drop (.drop (.drop (.drop (.drop (.drop (.drop (.drop (.drop (.drop (.drop (.drop (.drop (.drop (.drop (.drop leL.nil)))))))))))))))))))))))))))))))))))))))))))))))))) ?_
      intro n2 s2 hi2 hF
      refine r_seq ?_
      refine r_region ?_
      refine ops_ok rfl (s_bin rfl gt25 gt24 rfl) st26 ?_
      refine ops_nil ?_
      refine q_seq ?_
      refine r_seq ?_
      refine r_condL gt26 hF (fun x2 o2 hl2 hx2 hF hK2 => ?_) (fun hF => ?_)
      · skip
        refine r_skip ?_
        refine q_seq ?_
        refine r_seq ?_
        refine r_block ?_
        refine r_seq ?_
        refine r_region ?_
        refine ops_ok rfl (s_idxRow rfl el83 gt23 gt25 isl (idx_of hx2)) st27 ?_
        refine ops_ok rfl (f_load rfl ty65.choose_spec.1 gt27 (ldC_agX (cs' := [.int .u8 x2.typ, .int .i64 x2.n, .int .u64 x2.time, .int .u8 x2.dot.actor.rep, .int .u32 x2.dot.actor.inc, .int .u64 x2.dot.seq, .str x2.text, .sl 5 (x2.items.map GItem.row), .sl 3 (x2.tombs.map GDot.row)]) ty65.choose_spec.2 rfl rfl) (tyo_ok rfl)) st28 ?_
        refine ops_ok rfl (n_alloc (hN _) (n := 2) rfl ze65 rfl) st8 ?_
        refine ops_ok rfl (n_store (hN _) (cs' := [.int .u8 x2.typ, .int .i64 x2.n, .int .u64 x2.time, .int .u8 x2.dot.actor.rep, .int .u32 x2.dot.actor.inc, .int .u64 x2.dot.seq, .str x2.text, .sl 5 (x2.items.map GItem.row), .sl 3 (x2.tombs.map GDot.row)]) rfl ty65.choose_spec.1 gt8 gt28 (tyo_ok rfl) rfl rfl rfl rfl rfl) rfl ?_
        refine ops_nil ?_
        refine q_seq ?_
        refine r_seq ?_
        refine r_drawn [4] [] trivial mixed (by kernel_rfl) ?_
        refine draw_ok rfl rfl (n_load (hN _) rfl ty138 gt3 rfl (ldC_one rfl) (tyo_ok rfl)) st29 ?_
        refine draw_ok rfl rfl (s_move rfl gt6 (tyo_ok rfl)) st30 ?_
        refine bindF hF (fun v51 hv51 hF => ?_)
        refine draw_callH rfl (FOk.cons (.inr (keepB trivial)) FOk.nil) (by rfl) rfl (s_call0 rfl rfl rfl (argo_cons gt30 argo_nil) (.cons (tyo_ok rfl) .nil)) (n_own (hNt _) (T' := [((v37 ++ ([x1.name] : List Str))).length, (v51).length]) ((ok106 hv51).le (.cons (leV.osl _ _ _) leL.nil)) (m := 1) rfl rfl) st31 ?_
        refine draw_ok rfl rfl (n_load (hN _) rfl ty65.choose_spec.1 gt8 rfl (ldC_agX (cs' := [.int .u8 x2.typ, .int .i64 x2.n, .int .u64 x2.time, .int .u8 x2.dot.actor.rep, .int .u32 x2.dot.actor.inc, .int .u64 x2.dot.seq, .str x2.text, .sl 5 (x2.items.map GItem.row), .sl 3 (x2.tombs.map GDot.row)]) ty65.choose_spec.2 rfl rfl) (tyo_ok rfl)) st32 ?_
        refine bindF hF (fun v52 hv52 hF => ?_)
        refine draw_callN rfl rfl (fun _ => s_call0 rfl rfl rfl (argo_cons gt32 argo_nil) (.cons (tyo_ok rfl) .nil)) (by rintro _ ⟨B2, T2, rfl, hk2⟩; exact ok107 hv52) st33 ?_
        refine draw_ok rfl rfl (s_build (cs' := [.osl (some (nt + 1)) 1 (v51.map strRow), .int .u8 v52.typ, .int .i64 v52.n, .int .u64 v52.time, .int .u8 v52.dot.actor.rep, .int .u32 v52.dot.actor.inc, .int .u64 v52.dot.seq, .str v52.text, .sl 5 (v52.items.map GItem.row), .sl 3 (v52.tombs.map GDot.row)]) rfl su67 ze67 pl67 (parto_cons gt31 (parto_cons gt33 parto_nil)) (.cons (tyo_ok rfl) (.cons (tyo_ok rfl) .nil)) rfl rfl) st34 ?_
        refine bindF hF (fun v53 hv53 hF => ?_)
        refine draw_round rfl (FOk.cons (.inl (by kernel_rfl)) FOk.nil) (by kernel_rfl) rfl (s_yield rfl rfl gt29 (argo_cons gt34 argo_nil) (.cons (tyo_ok rfl) .nil)) ((hy _ _ _ _ _ _ hv53).le (.cons (leV.agg (.cons (leV.osl _ _ _) (.eq (.eq (.eq (.eq (.eq (.eq (.eq (.eq (.eq leL.nil)))))))))) rfl) leL.nil)) st35 ?_
        refine draw_ok rfl rfl (s_un rfl gt35 rfl) st36 ?_
        refine draw_nil ?_
        refine q_seq ?_
        refine r_condF gt36 hF (fun hc54 hF => ?_) (fun hc54 hF => ?_)
        · skip
          refine r_ret ?_
          refine q_block_ret ?_
          refine q_seq_ret ?_
          refine q_loop_ret ?_
          obtain rfl := Option.some.inj hF
          replace hF := hK2
          refine q_block_ret ?_
          refine q_seq_ret ?_
          refine q_block_ret ?_
          refine q_seq_ret ?_
          refine q_loop_ret ?_
          obtain rfl := Option.some.inj hF
          replace hF := hK1
          refine q_block_ret ?_
          obtain rfl := Option.some.inj hF
          refine q_retL0 rfl rl_nil (fin_exts (hN _) (hNt _) (hN _) (hNt _) (hC _) (leV.refl _) rfl ?_)
          exact ⟨rfl, rfl⟩
        · skip
          refine r_skip ?_
          refine q_block ?_
          refine q_seq ?_
          refine r_region ?_
          refine ops_ok rfl (s_bin rfl gt25 rfl rfl) st37 ?_
          refine ops_ok rfl (s_move rfl gt37 (tyo_ok rfl)) st25 ?_
          refine ops_nil ?_
          refine q_loop ?_
          obtain rfl := Option.some.inj hF
          exact ⟨v53.2, hl2, hK2, wk.trans (wk.le (by exact (.drop (.drop (.eq (.eq (.drop (.eq (.eq (.drop (.drop (.drop (.eq (.eq (.eq (.drop (.drop (.drop (.drop (.drop (.drop (.drop (.drop (.drop (.drop (.eq (.eq (.cons (leV.of_eq (w64e (by omega) (by omega))) (.drop (.drop (.drop (.drop (.drop (.drop (.drop (.drop (.drop (.drop (.drop (.drop (.drop (.drop (.drop (.drop (.drop (.drop (.drop (.drop (.drop (.drop leL.nil)))))))))))))))))))))))))))))))))))))))))))))))))) (wk_ext3s (hN _) (hNt _) (hN _) (hNt _) (hC _) (by simp [lowL, AV.low, hly, hly2, hli0, hli0b, hli1, hli1b]) rfl rfl (by simp [Blk.low, lowL, AV.low, hly, hly2, hli0, hli0b, hli1, hli1b]))⟩
      · skip
        refine r_exit ?_
        refine q_seq_exit ?_
        refine q_loop_exit ?_
        refine q_block_hit ?_
        refine q_seq ?_
        refine r_seq ?_
        refine r_region ?_
        refine ops_ok rfl (s_fieldAddr rfl fo85x2 gt5 rfl) st38 ?_
        refine ops_ok rfl (n_load (hN _) rfl ty54 gt38 rfl (ldC_one rfl) (tyo_ok rfl)) st39 ?_
        refine ops_ok rfl (s_move rfl gt6 (tyo_ok rfl)) (sk st0) ?_
        refine bindF hF (fun v55 hv55 hF => ?_)
        refine ops_callH rfl (s_call0 rfl rfl rfl (argo_cons gt39 (argo_cons (gk gt0) argo_nil)) (.cons (tyo_ok rfl) (.cons (tyo_ok rfl) .nil))) (clo_ext (hN _) (n := 2) (B' := [.cells [.yld idy], .cells [.str x1.name, .sl 9 (x1.leaves.map GLeaf.row), .sl 3 (x1.subs.map GNode.row)], .cells [.sl 3 (v55.1.map GNode.row)], .cells [.sl 1 (v55.2.map strRow)]]) (caps := [.ptr (nb + 2) 0, .ptr (nb + 3) 0]) ((ok80 hv55).le (.eq (.cons (leV.osl _ _ _) leL.nil))) rfl rfl rfl) (sk st1) ?_
        refine ops_nil ?_
        refine q_seq ?_
        refine r_block ?_
        refine r_range (fun (s3 : S) => (Hy s3)) (fun (s3 : S) => [.cells [.yld idy], .cells [.str x1.name, .sl 9 (x1.leaves.map GLeaf.row), .sl 3 (x1.subs.map GNode.row)], .cells [.sl 3 (v55.1.map GNode.row)], .cells [.sl 1 (v55.2.map strRow)]]) (fun (s3 : S) => [((v37 ++ ([x1.name] : List Str))).length]) s2 hF (wk.le (by exact (.drop (.drop (.eq (.eq (.drop (.drop (.drop (.drop (.drop (.drop (.eq (.eq (.eq (.drop (.drop (.drop (.drop (.drop (.drop (.drop (.drop (.drop (.drop (.drop (.drop (.drop (.drop (.drop (.drop (.drop (.drop (.drop (.drop (.drop (.drop (.drop (.drop (.drop (.drop (.drop (.drop (.eq (.drop (.drop (.drop (.drop (.drop (.drop leL.nil)))))))))))))))))))))))))))))))))))))))))))))))))) (fun _ => (hN _)) rfl rfl rfl (fun _ => rfl) rfl (gk gt1) rfl (fun lp3 hlp3 r3 hr3q => ?_) (fun s3 H1 hH hF => ?_) (fun j3 s3 H1 hH hF => ?_)
        · skip
          have hlowlp3 : ∀ q1 q2, (lp3 q1 q2).low (nb + 5) (nt + 1) = true := by intro q1 q2; rw [hlp3]; simp [Blk.low, lowL, AV.low, hly, hly2, hli0, hli0b, hli1, hli1b]
          refine Spec.mono (ih (Hy := (fam (fun (s3 : S) => (Hy s3)) (fun (s3 : S) => [.cells [.yld idy], .cells [.str x1.name, .sl 9 (x1.leaves.map GLeaf.row), .sl 3 (x1.subs.map GNode.row)], .cells [.sl 3 (v55.1.map GNode.row)], .cells [.sl 1 (v55.2.map strRow)]]) (fun (s3 : S) => [((v37 ++ ([x1.name] : List Str))).length]) lp3)) (nb := nb + 5) (nt := nt + 1) (fun _ => by simp only [fam]; rw [ext_len (hN _)]; rfl) (fun _ => by simp only [fam]; rw [ext_tlen (hNt _)]; rfl) (fun _ => closed_ext (hC _) (Nat.le_add_right _ _) (Nat.le_add_right _ _) (by simp only [List.all_append, List.all_cons, List.all_nil, Bool.and_true, List.length_cons, List.length_nil, Nat.reduceAdd, Nat.zero_add, hlowlp3] <;> simp [Blk.low, lowL, AV.low, hly, hly2, hli0, hli0b, hli1, hli1b])) (Nat.lt_succ_self _) (y_body hlp3 (xs := fun (x : GRow) => [.agg [.sl 1 (x.path.map strRow), .int .u8 x.leaf.typ, .int .i64 x.leaf.n, .int .u64 x.leaf.time, .int .u8 x.leaf.dot.actor.rep, .int .u32 x.leaf.dot.actor.inc, .int .u64 x.leaf.dot.seq, .str x.leaf.text, .sl 5 (x.leaf.items.map GItem.row), .sl 3 (x.leaf.tombs.map GDot.row)]]) (fun _ => (hN _)) (fun _ => rfl) rfl (fun _ => rfl) (fun _ => by simp only [setL, List.set_cons_succ, List.set_cons_zero]; try rfl) (fun s3 x3 o3 L3 M3 H1 hH hF => ?_)) (fun _ => by simp only [fam]; exact n_blk (j := 2) (hN _) rfl) (fun _ => by simp only [fam]; exact n_blk (j := 3) (hN _) rfl) hr3q) (fun _ _ h => h.2)
          obtain rfl : H1 = (((Hy s3).ext ([.cells [.yld idy], .cells [.str x1.name, .sl 9 (x1.leaves.map GLeaf.row), .sl 3 (x1.subs.map GNode.row)], .cells [.sl 3 (v55.1.map GNode.row)], .cells [.sl 1 (v55.2.map strRow)]] ++ [lp3 .ready none]) [((v37 ++ ([x1.name] : List Str))).length]).ext L3 M3).ext [] [] := hH
          refine r_region ?_
          refine ops_ok rfl (n_alloc (deep_len (hN _) rfl) (n := 0) rfl ze67 rfl) st9 ?_
          refine ops_ok rfl (n_store (deep_len (hN _) rfl) (cs' := [.sl 1 (x3.path.map strRow), .int .u8 x3.leaf.typ, .int .i64 x3.leaf.n, .int .u64 x3.leaf.time, .int .u8 x3.leaf.dot.actor.rep, .int .u32 x3.leaf.dot.actor.inc, .int .u64 x3.leaf.dot.seq, .str x3.leaf.text, .sl 5 (x3.leaf.items.map GItem.row), .sl 3 (x3.leaf.tombs.map GDot.row)]) rfl ty67.choose_spec.1 gt9 (gk gt2) (tyo_ok rfl) rfl rfl rfl rfl rfl) rfl ?_
          refine ops_nil ?_
          refine q_assign (hN _) rfl ?_
          refine r_block ?_
          refine r_seq ?_
          refine r_region ?_
          refine ops_ok rfl (d_load (hN _) rfl ty138 gt3 rfl (ldC_one rfl) (tyo_ok rfl)) (sk st3) ?_
          refine ops_ok rfl (n_load (deep_len (hN _) rfl) rfl ty67.choose_spec.1 gt9 rfl (ldC_agX (cs' := [.sl 1 (x3.path.map strRow), .int .u8 x3.leaf.typ, .int .i64 x3.leaf.n, .int .u64 x3.leaf.time, .int .u8 x3.leaf.dot.actor.rep, .int .u32 x3.leaf.dot.actor.inc, .int .u64 x3.leaf.dot.seq, .str x3.leaf.text, .sl 5 (x3.leaf.items.map GItem.row), .sl 3 (x3.leaf.tombs.map GDot.row)]) ty67.choose_spec.2 rfl rfl) (tyo_ok rfl)) (sk st4) ?_
          refine bindF hF (fun v64 hv64 hF => ?_)
          refine ops_round rfl (s_yield rfl rfl (gk gt3) (argo_cons (gk gt4) argo_nil) (.cons (tyo_ok rfl) .nil)) (SpecY.deep fun A B => hy _ _ _ _ A B hv64) (sk st5) ?_
          refine ops_ok rfl (s_un rfl (gk gt5) rfl) (sk st6) ?_
          refine ops_nil ?_
          refine q_seq ?_
          refine r_condF (gk gt6) hF (fun hc65 hF => ?_) (fun hc65 hF => ?_)
          · skip
            refine r_ret ?_
            refine q_block_ret ?_
            obtain rfl := Option.some.inj hF
            exact q_roundR (hC _) (hN _) (hNt _) (hN _) (hNt _) rfl rfl rfl rfl rfl rfl rfl (by simp only [List.all_append, List.all_cons, List.all_nil, Bool.and_true, List.length_cons, List.length_nil, Nat.reduceAdd, Nat.zero_add, hlowlp3] <;> simp [Blk.low, lowL, AV.low, hly, hly2, hli0, hli0b, hli1, hli1b])
          · skip
            refine r_skip ?_
            refine q_block ?_
            obtain rfl := Option.some.inj hF
            exact q_roundN (hC _) (hN _) (hNt _) (hN _) (hNt _) rfl rfl rfl rfl rfl rfl rfl (by simp only [List.all_append, List.all_cons, List.all_nil, Bool.and_true, List.length_cons, List.length_nil, Nat.reduceAdd, Nat.zero_add, hlowlp3] <;> simp [Blk.low, lowL, AV.low, hly, hly2, hli0, hli0b, hli1, hli1b])
        · skip
          obtain rfl : H1 = (Hy s3).ext [.cells [.yld idy], .cells [.str x1.name, .sl 9 (x1.leaves.map GLeaf.row), .sl 3 (x1.subs.map GNode.row)], .cells [.sl 3 (v55.1.map GNode.row)], .cells [.sl 1 (v55.2.map strRow)], .dead] [((v37 ++ ([x1.name] : List Str))).length] := hH
          refine q_block ?_
          refine q_block ?_
          refine q_seq ?_
          refine r_region ?_
          refine ops_ok rfl (s_bin rfl gt12 rfl rfl) (sk st7) ?_
          refine ops_ok rfl (s_move rfl (gk gt7) (tyo_ok rfl)) st12 ?_
          refine ops_nil ?_
          refine q_loop ?_
          obtain rfl := Option.some.inj hF
          exact ⟨s3, hl1, hK1, wk.trans (wk.le (by exact (.drop (.drop (.eq (.eq (.drop (.drop (.drop (.drop (.drop (.drop (.eq (.eq (.cons (leV.of_eq (w64e (by omega) (by omega))) (.drop (.drop (.drop (.drop (.drop (.drop (.drop (.drop (.drop (.drop (.drop (.drop (.drop (.drop (.drop (.drop (.drop (.drop (.drop (.drop (.drop (.drop (.drop (.drop (.drop (.drop (.drop (.drop (.drop (.drop (.drop (.drop (.drop (.drop (.drop leL.nil)))))))))))))))))))))))))))))))))))))))))))))))))) (wk_ext3s (hN _) (hNt _) (hN _) (hNt _) (hC _) (by simp [lowL, AV.low, hly, hly2, hli0, hli0b, hli1, hli1b]) rfl rfl (by simp [Blk.low, lowL, AV.low, hly, hly2, hli0, hli0b, hli1, hli1b]))⟩
        · skip
          obtain rfl : H1 = (Hy s3).ext [.cells [.yld idy], .cells [.str x1.name, .sl 9 (x1.leaves.map GLeaf.row), .sl 3 (x1.subs.map GNode.row)], .cells [.sl 3 (v55.1.map GNode.row)], .cells [.sl 1 (v55.2.map strRow)], .dead] [((v37 ++ ([x1.name] : List Str))).length] := hH
          refine jmp1 (G := fun j => jumpQ _ j _ _) hF (fun hF => ?_)
          refine jmp_ret ?_
          refine q_block_ret ?_
          refine q_block_ret ?_
          refine q_seq_ret ?_
          refine q_loop_ret ?_
          obtain rfl := Option.some.inj hF
          replace hF := hK1
          refine q_block_ret ?_
          obtain rfl := Option.some.inj hF
          refine q_retL0 rfl rl_nil (fin_exts (hN _) (hNt _) (hN _) (hNt _) (hC _) (leV.refl _) rfl ?_)
          exact ⟨rfl, rfl⟩
    · skip
      refine r_exit ?_
      refine q_seq_exit ?_
      refine q_loop_exit ?_
      refine q_block_hit ?_
      refine q_end ?_
      obtain rfl := Option.some.inj hF
      refine q_retL0 rfl rl_nil (fin_exts (hN _) (hNt _) (hN _) (hNt _) (hC _) (leV.refl _) rfl ?_)
      exact ⟨rfl, rfl⟩
theorem ok109 {S : Type} {Hy : S → AH} {nb nt : Nat} {yield0 : S → GRow → Option (Bool × S)} {idy : Nat} {c0 : (List GNode)} {i0 : Nat} {c1 : (List Str)} {i1 : Nat} {s0 : S} {res : S} (hN : ∀ s, (Hy s).blks.length = nb) (hNt : ∀ s, (Hy s).toks.length = nt) (hC : ∀ s, (Hy s).closed nb nt) (hly : idy < nb) (hy : ∀ s x b s' L M, yield0 s x = some (b, s') → SpecY Try.prog idy [.agg [.sl 1 (x.path.map strRow), .int .u8 x.leaf.typ, .int .i64 x.leaf.n, .int .u64 x.leaf.time, .int .u8 x.leaf.dot.actor.rep, .int .u32 x.leaf.dot.actor.inc, .int .u64 x.leaf.dot.seq, .str x.leaf.text, .sl 5 (x.leaf.items.map GItem.row), .sl 3 (x.leaf.tombs.map GDot.row)]] ((Hy s).ext L M) (fun rr hh => rr = .bool b ∧ hh = (Hy s').ext L M)) (hb0 : ∀ s, (Hy s).blk i0 = some (.cells [.sl 3 (c0.map GNode.row)])) (hb1 : ∀ s, (Hy s).blk i1 = some (.cells [.sl 1 (c1.map strRow)])) (hF : pathsXrowsC1 S yield0 c0 c1 s0 = some res) : Spec Try.prog 109 [.yld idy, .ptr i0 0, .ptr i1 0] (Hy s0) (fun rr hh => rr = .tup [] ∧ hh = Hy res) := by
  obtain ⟨n, hn⟩ := anyN_is hF
  exact ok109N n hN hNt hC hly hy hb0 hb1 hn
/-! slices.AppendSeq[[]varve/api.Row,varve/api.Row] -/
theorem ok108 {s0 : (List GRow)} {seq1 : (S : Type) → (S → GRow → Option (Bool × S)) → S → Option S} {fseq1 : FuncId} {aseq1 kseq1 : List AV} {res : (List GRow)} {h : AH} (hseq1 : ∀ (S : Type) (Hy : S → AH) (nb nt : Nat), (∀ s, (Hy s).blks.length = nb) → (∀ s, (Hy s).toks.length = nt) → (∀ s, (Hy s).closed nb nt) → (∀ s, ∃ L M, Hy s = h.ext L M) → ∀ (y : S → GRow → Option (Bool × S)) (idy : Nat), idy < nb → (∀ s x b s' L M, y s x = some (b, s') → SpecY Try.prog idy [.agg [.sl 1 (x.path.map strRow), .int .u8 x.leaf.typ, .int .i64 x.leaf.n, .int .u64 x.leaf.time, .int .u8 x.leaf.dot.actor.rep, .int .u32 x.leaf.dot.actor.inc, .int .u64 x.leaf.dot.seq, .str x.leaf.text, .sl 5 (x.leaf.items.map GItem.row), .sl 3 (x.leaf.tombs.map GDot.row)]] ((Hy s).ext L M) (fun rr hh => rr = .bool b ∧ hh = (Hy s').ext L M)) → ∀ s s', seq1 S y s = some s' → Spec Try.prog fseq1 (aseq1 ++ [.yld idy] ++ kseq1) (Hy s) (fun rr hh => rr = .tup [] ∧ hh = Hy s')) (hF : slicesAppendSeqRow s0 seq1 = some res) : Spec Try.prog 108 [.osl none 10 (s0.map GRow.row), .fn (.func fseq1) aseq1 kseq1] h (fun rr hh => rr = .sl 10 (res.map GRow.row) ∧ hh = h) := by
  unfold slicesAppendSeqRow at hF
  refine spec_of_body_extC Try.func108 rfl (by kernel_rfl) (env := [.osl none 10 (s0.map GRow.row), .fn (.func fseq1) aseq1 kseq1, aundef, aundef, aundef, aundef, aundef, aundef, aundef, aundef, aundef, aundef, aundef]) (by rfl) (fun hlow hC => ?_)
  simp only [lowL, AV.low, Bool.and_eq_true, Bool.true_and, and_true] at hlow
  have hlaseq1 : ∀ n m, h.blks.length ≤ n → h.toks.length ≤ m → lowL n m aseq1 = true := fun n m h1 h2 => lowL_up h1 h2 _ (by simp [hlow])
  have hlkseq1 : ∀ n m, h.blks.length ≤ n → h.toks.length ≤ m → lowL n m kseq1 = true := fun n m h1 h2 => lowL_up h1 h2 _ (by simp [hlow])
  refine r_seq ?_
  refine r_region ?_
  refine ops_ok rfl (e_box (n := 0) rfl gt0 (tyo_ok rfl) rfl rfl) st2 ?_
  refine ops_ok rfl (s_assign rfl rfl (ty_nil el61)) st4 ?_
  refine ops_nil ?_
  refine q_seq ?_
  refine r_seq ?_
  refine r_seq ?_
  refine r_region ?_
  refine ops_ok rfl (s_move rfl gt1 (tyo_ok rfl)) st6 ?_
  refine ops_nil ?_
  refine q_seq ?_
  refine r_block ?_
  refine r_range (fun (s1 : (List GRow)) => h) (fun (s1 : (List GRow)) => [.cells [.osl (some (h.toks.length + 0)) 10 (s1.map GRow.row)]]) (fun (s1 : (List GRow)) => [(s1).length]) s0 hF (wk.trans (wk_tokB (j := 0) rfl gt0 rfl st0 rfl rfl) (wk.le (by exact (.drop (.drop (.eq (.drop (.drop (.drop (.eq (.drop (.drop (.drop (.drop (.drop (.drop leL.nil)))))))))))))))) (fun _ => rfl) rfl rfl rfl (fun _ => rfl) rfl gt6 rfl (fun lp1 hlp1 r1 hr1q => ?_) (fun s1 H1 hH hF => ?_) (fun j1 s1 H1 hH hF => ?_)
  · skip
    have hlowlp1 : ∀ q1 q2, (lp1 q1 q2).low (h.blks.length + 2) (h.toks.length + 1) = true := by intro q1 q2; rw [hlp1]; simp [Blk.low, lowL, AV.low, hlaseq1, hlkseq1]
    refine Spec.mono (hseq1 _ (fam (fun (s1 : (List GRow)) => h) (fun (s1 : (List GRow)) => [.cells [.osl (some (h.toks.length + 0)) 10 (s1.map GRow.row)]]) (fun (s1 : (List GRow)) => [(s1).length]) lp1) (h.blks.length + 2) (h.toks.length + 1) (fun _ => by simp only [fam]; rw [ext_len rfl]; rfl) (fun _ => by simp only [fam]; rw [ext_tlen rfl]; rfl) (fun _ => closed_ext hC (Nat.le_add_right _ _) (Nat.le_add_right _ _) (by simp only [List.all_append, List.all_cons, List.all_nil, Bool.and_true, List.length_cons, List.length_nil, Nat.reduceAdd, Nat.zero_add, hlowlp1] <;> simp [Blk.low, lowL, AV.low, hlaseq1, hlkseq1])) (fun _ => ⟨_, _, rfl⟩) _ _ (Nat.lt_succ_self _) (y_body hlp1 (xs := fun (x : GRow) => [.agg [.sl 1 (x.path.map strRow), .int .u8 x.leaf.typ, .int .i64 x.leaf.n, .int .u64 x.leaf.time, .int .u8 x.leaf.dot.actor.rep, .int .u32 x.leaf.dot.actor.inc, .int .u64 x.leaf.dot.seq, .str x.leaf.text, .sl 5 (x.leaf.items.map GItem.row), .sl 3 (x.leaf.tombs.map GDot.row)]]) (fun _ => rfl) (fun _ => rfl) rfl (fun _ => rfl) (fun _ => by simp only [setL, List.set_cons_succ, List.set_cons_zero]; try rfl) (fun s1 x1 o1 L1 M1 H1 hH hF => ?_)) _ _ hr1q) (fun _ _ h => h.2)
    obtain rfl : H1 = ((h.ext ([.cells [.osl (some (h.toks.length + 0)) 10 (s1.map GRow.row)]] ++ [lp1 .ready none]) [(s1).length]).ext L1 M1).ext [] [] := hH
    refine r_region ?_
    refine ops_ok rfl (n_alloc (deep_len rfl rfl) (n := 0) rfl ze67 rfl) st5 ?_
    refine ops_ok rfl (n_store (deep_len rfl rfl) (cs' := [.sl 1 (x1.path.map strRow), .int .u8 x1.leaf.typ, .int .i64 x1.leaf.n, .int .u64 x1.leaf.time, .int .u8 x1.leaf.dot.actor.rep, .int .u32 x1.leaf.dot.actor.inc, .int .u64 x1.leaf.dot.seq, .str x1.leaf.text, .sl 5 (x1.leaf.items.map GItem.row), .sl 3 (x1.leaf.tombs.map GDot.row)]) rfl ty67.choose_spec.1 gt5 gt7 (tyo_ok rfl) rfl rfl rfl rfl rfl) rfl ?_
    refine ops_nil ?_
    refine q_assign rfl rfl ?_
    refine r_block ?_
    refine r_region ?_
    refine ops_ok rfl (d_load rfl rfl ty61 gt2 rfl (ldC_one rfl) (tyo_ok rfl)) st8 ?_
    refine ops_ok rfl (n_load (deep_len rfl rfl) rfl ty67.choose_spec.1 gt5 rfl (ldC_agX (cs' := [.sl 1 (x1.path.map strRow), .int .u8 x1.leaf.typ, .int .i64 x1.leaf.n, .int .u64 x1.leaf.time, .int .u8 x1.leaf.dot.actor.rep, .int .u32 x1.leaf.dot.actor.inc, .int .u64 x1.leaf.dot.seq, .str x1.leaf.text, .sl 5 (x1.leaf.items.map GItem.row), .sl 3 (x1.leaf.tombs.map GDot.row)]) ty67.choose_spec.2 rfl rfl) (tyo_ok rfl)) st9 ?_
    refine ops_ok rfl (s_buildSlice (es := ([x1] : List GRow).map GRow.row) rfl el61 ze67 rfl rfl (parto_cons gt9 parto_nil) (.cons (tyo_ok rfl) .nil) rfl rfl rfl) st10 ?_
    refine chkF hF (fun hm3 hF => ?_)
    refine ops_ok rfl (d_appT (j := 0) (T' := [((s1 ++ ([x1] : List GRow))).length]) rfl rfl rfl rfl rfl el61 el61 gt8 gt10 (tyo_ok rfl) (tyo_ok rfl) news_osl hm3 rfl rfl) st11 ?_
    refine ops_ok rfl (d_store (A' := [.cells [.osl (some (h.toks.length + 0)) 10 ((s1 ++ ([x1] : List GRow)).map GRow.row)]] ++ [lp1 .busy none]) (cs' := [.osl (some (h.toks.length + 0)) 10 ((s1 ++ ([x1] : List GRow)).map GRow.row)]) rfl rfl ty61 gt2 gt11 (tyo_ok rfl) rfl rfl rfl rfl rfl rfl) rfl ?_
    refine ops_nil ?_
    refine q_block ?_
    obtain rfl := Option.some.inj hF
    exact q_roundN hC rfl rfl rfl rfl rfl rfl rfl rfl rfl rfl rfl (by simp only [List.all_append, List.all_cons, List.all_nil, Bool.and_true, List.length_cons, List.length_nil, Nat.reduceAdd, Nat.zero_add, hlowlp1] <;> simp [Blk.low, lowL, AV.low, hlaseq1, hlkseq1])
  · skip
    obtain rfl : H1 = h.ext [.cells [.osl (some (h.toks.length + 0)) 10 (s1.map GRow.row)], .dead] [(s1).length] := hH
    refine q_block ?_
    refine q_seq ?_
    refine r_seq ?_
    refine r_region ?_
    refine ops_ok rfl (e_load rfl ty61 gt2 rfl (ldC_one rfl) (tyo_ok rfl)) st12 ?_
    refine ops_ok rfl (s_assign rfl gt12 (tyo_ok rfl)) st4 ?_
    refine ops_nil ?_
    refine q_seq ?_
    refine r_ret ?_
    obtain rfl := Option.some.inj hF
    refine q_retL1 rfl (rl_tmp gt4 rl_nil) (fin_ext (leV.osl _ _ _) rfl ?_)
    exact ⟨rfl, rfl⟩
  · skip
    obtain rfl : H1 = h.ext [.cells [.osl (some (h.toks.length + 0)) 10 (s1.map GRow.row)], .dead] [(s1).length] := hH
    cases hF
/-! slices.Collect[varve/api.Row] -/
theorem ok79 {seq0 : (S : Type) → (S → GRow → Option (Bool × S)) → S → Option S} {fseq0 : FuncId} {aseq0 kseq0 : List AV} {res : (List GRow)} {h : AH} (hseq0 : ∀ (S : Type) (Hy : S → AH) (nb nt : Nat), (∀ s, (Hy s).blks.length = nb) → (∀ s, (Hy s).toks.length = nt) → (∀ s, (Hy s).closed nb nt) → (∀ s, ∃ L M, Hy s = h.ext L M) → ∀ (y : S → GRow → Option (Bool × S)) (idy : Nat), idy < nb → (∀ s x b s' L M, y s x = some (b, s') → SpecY Try.prog idy [.agg [.sl 1 (x.path.map strRow), .int .u8 x.leaf.typ, .int .i64 x.leaf.n, .int .u64 x.leaf.time, .int .u8 x.leaf.dot.actor.rep, .int .u32 x.leaf.dot.actor.inc, .int .u64 x.leaf.dot.seq, .str x.leaf.text, .sl 5 (x.leaf.items.map GItem.row), .sl 3 (x.leaf.tombs.map GDot.row)]] ((Hy s).ext L M) (fun rr hh => rr = .bool b ∧ hh = (Hy s').ext L M)) → ∀ s s', seq0 S y s = some s' → Spec Try.prog fseq0 (aseq0 ++ [.yld idy] ++ kseq0) (Hy s) (fun rr hh => rr = .tup [] ∧ hh = Hy s')) (hF : slicesCollectRow seq0 = some res) : Spec Try.prog 79 [.fn (.func fseq0) aseq0 kseq0] h (fun rr hh => rr = .sl 10 (res.map GRow.row) ∧ hh = h) := by
  unfold slicesCollectRow at hF
  refine spec_of_body_extC Try.func79 rfl (by kernel_rfl) (env := [.fn (.func fseq0) aseq0 kseq0, aundef, aundef, aundef, aundef]) (by rfl) (fun hlow hC => ?_)
  simp only [lowL, AV.low, Bool.and_eq_true, Bool.true_and, and_true] at hlow
  have hlaseq0 : ∀ n m, h.blks.length ≤ n → h.toks.length ≤ m → lowL n m aseq0 = true := fun n m h1 h2 => lowL_up h1 h2 _ (by simp [hlow])
  have hlkseq0 : ∀ n m, h.blks.length ≤ n → h.toks.length ≤ m → lowL n m kseq0 = true := fun n m h1 h2 => lowL_up h1 h2 _ (by simp [hlow])
  refine r_seq ?_
  refine r_region ?_
  refine ops_ok rfl (s_assign rfl rfl (ty_nil el61)) st2 ?_
  refine ops_nil ?_
  refine q_seq ?_
  refine r_seq ?_
  refine r_region ?_
  refine ops_ok rfl (s_move rfl gt0 (tyo_ok rfl)) st3 ?_
  refine bindF hF (fun v1 hv1 hF => ?_)
  refine ops_callP rfl (s_call0 rfl rfl rfl (argo_cons rfl (argo_cons gt3 argo_nil)) (.cons (ty_nil el61) (.cons (tyo_ok rfl) .nil))) (ok108 (fun S Hy nb nt hN hNt hC hE y idy hly hy s s' hF => hseq0 S Hy nb nt hN hNt hC (fun s => by obtain ⟨L, M, e⟩ := hE s; exact ⟨_, _, by rw [e, ext_ext]⟩) y idy hly hy s s' hF) hv1) st4 ?_
  refine ops_ok rfl (s_assign rfl gt4 (tyo_ok rfl)) st2 ?_
  refine ops_nil ?_
  refine q_seq ?_
  refine r_ret ?_
  obtain rfl := Option.some.inj hF
  refine q_retL1 rfl (rl_tmp gt2 rl_nil) (fin_ext (leV.refl _) rfl ?_)
  exact ⟨rfl, rfl⟩
/-! varve/paths.Rows -/
theorem ok37 {t0 : (List GNode)} {res : (List GRow)} {h : AH}  (hF : pathsRows t0 = some res) : Spec Try.prog 37 [.sl 3 (t0.map GNode.row)] h (fun rr hh => rr = .sl 10 (res.map GRow.row) ∧ hh = h) := by
  unfold pathsRows at hF
  refine spec_of_body_ext Try.func37 rfl (by kernel_rfl) (env := [.sl 3 (t0.map GNode.row), aundef, aundef, aundef, aundef, aundef, aundef, aundef, aundef]) (by rfl) ?_
  refine r_seq ?_
  refine r_region ?_
  refine ops_ok rfl (s_assign rfl rfl (ty_nil el61)) st2 ?_
  refine ops_nil ?_
  refine q_seq ?_
  refine r_seq ?_
  refine r_seq ?_
  refine r_region ?_
  refine ops_ok rfl (s_move rfl gt0 (tyo_ok rfl)) st3 ?_
  refine bindF hF (fun v1 hv1 hF => ?_)
  refine ops_callP rfl (s_call0 rfl rfl rfl (argo_cons gt3 argo_nil) (.cons (tyo_ok rfl) .nil)) (ok75 hv1) st4 ?_
  refine ops_ok rfl (s_un rfl gt4 rfl) st5 ?_
  refine ops_nil ?_
  refine q_seq ?_
  refine r_condF gt5 hF (fun hc2 hF => ?_) (fun hc2 hF => ?_)
  · skip
    refine r_seq ?_
    refine r_region ?_
    refine ops_ok rfl (s_assign rfl rfl (ty_nil el61)) st2 ?_
    refine ops_nil ?_
    refine q_seq ?_
    refine r_ret ?_
    refine q_seq_ret ?_
    obtain rfl := Option.some.inj hF
    refine q_retL1 rfl (rl_tmp gt2 rl_nil) (fin_ext (leV.osl _ _ _) rfl ?_)
    exact ⟨rfl, rfl⟩
  · skip
    refine r_skip ?_
    refine q_seq ?_
    refine r_seq ?_
    refine r_region ?_
    refine ops_ok rfl (s_move rfl gt0 (tyo_ok rfl)) st6 ?_
    refine bindF hF (fun v3 hv3 hF => ?_)
    refine ops_callH rfl (s_call0 rfl rfl rfl (argo_cons gt6 (argo_cons rfl argo_nil)) (.cons (tyo_ok rfl) (.cons (ty_nil el28) .nil))) (clo_ext rfl (n := 0) (B' := [.cells [.sl 3 (v3.1.map GNode.row)], .cells [.sl 1 (v3.2.map strRow)]]) (caps := [.ptr (h.blks.length + 0) 0, .ptr (h.blks.length + 1) 0]) ((ok80 hv3).le (.eq (.cons (leV.osl _ _ _) leL.nil))) rfl rfl rfl) st7 ?_
    refine bindF hF (fun v4 hv4 hF => ?_)
    refine ops_callP rfl (s_call0 rfl rfl rfl (argo_cons gt7 argo_nil) (.cons (tyo_ok rfl) .nil)) (ok79 (fun S Hy nb nt hN hNt hC hE y idy hly hy s s' hF => ok109 hN hNt hC hly hy (fun s => by obtain ⟨L, M, e⟩ := hE s; rw [e]; exact n_blk2 (j := 0) rfl rfl) (fun s => by obtain ⟨L, M, e⟩ := hE s; rw [e]; exact n_blk2 (j := 1) rfl rfl) hF) hv4) st8 ?_
    refine ops_ok rfl (s_assign rfl gt8 (tyo_ok rfl)) st2 ?_
    refine ops_nil ?_
    refine q_seq ?_
    refine r_ret ?_
    obtain rfl := Option.some.inj hF
    refine q_retL1 rfl (rl_tmp gt2 rl_nil) (fin_ext (leV.refl _) rfl ?_)
    exact ⟨rfl, rfl⟩
/-! varve/varveref30.SamePath -/
theorem ok81 {a0 : (List Str)} {b1 : (List Str)} {res : Bool} {h : AH}  (hF : ref30SamePath a0 b1 = some res) : Spec Try.prog 81 [.sl 1 (a0.map strRow), .sl 1 (b1.map strRow)] h (fun rr hh => rr = .bool res ∧ hh = h) := by
  unfold ref30SamePath at hF
  refine spec_of_body_ext Try.func81 rfl (by kernel_rfl) (env := [.sl 1 (a0.map strRow), .sl 1 (b1.map strRow), aundef, aundef, aundef, aundef, aundef, aundef, aundef, aundef, aundef, aundef, aundef, aundef, aundef, aundef, aundef, aundef, aundef, aundef, aundef, aundef, aundef, aundef, aundef, aundef]) (by rfl) ?_
  refine r_seq ?_
  refine r_region ?_
  refine ops_ok rfl (s_assign rfl rfl (tyo_ok rfl)) st4 ?_
  refine ops_nil ?_
  refine q_seq ?_
  refine r_seq ?_
  refine r_seq ?_
  refine r_region ?_
  refine ops_ok rfl (s_move rfl gt0 (tyo_ok rfl)) st6 ?_
  refine ops_len rfl (s_lenSl rfl rfl rfl rfl el28 gt6 lenMap) st7 fun hn1 => ?_
  replace hn1 := lenN hn1
  refine ops_ok rfl (s_move rfl gt1 (tyo_ok rfl)) st8 ?_
  refine ops_len rfl (s_lenSl rfl rfl rfl rfl el28 gt8 lenMap) st9 fun hn2 => ?_
  replace hn2 := lenN hn2
  refine ops_ok rfl (s_bin rfl gt7 gt9 rfl) st10 ?_
  refine ops_nil ?_
  refine q_seq ?_
  refine r_condF gt10 hF (fun hc3 hF => ?_) (fun hc3 hF => ?_)
  · skip
    refine r_seq ?_
    refine r_region ?_
    refine ops_ok rfl (s_assign rfl rfl (tyo_ok rfl)) st4 ?_
    refine ops_nil ?_
    refine q_seq ?_
    refine r_ret ?_
    refine q_seq_ret ?_
    obtain rfl := Option.some.inj hF
    refine q_retL1 rfl (rl_tmp gt4 rl_nil) (fin_ext (leV.refl _) rfl ?_)
    exact ⟨rfl, rfl⟩
  · skip
    refine r_skip ?_
    refine q_seq ?_
    refine r_seq ?_
    refine r_seq ?_
    refine r_region ?_
    refine ops_ok rfl (s_assign rfl rfl (tyo_ok rfl)) st5 ?_
    refine ops_nil ?_
    refine q_seq ?_
    refine r_block ?_
    refine r_loopLF (fun (n1 : Nat) (s1 : Unit) => [(2, .any), (3, .any), (4, .any), (5, .int .i64 (n1 : Int)), (6, .any), (7, .any), (8, .any), (9, .any), (10, .any), (11, .any), (12, .any), (13, .any), (14, .any), (15, .any), (16, .any), (17, .any), (18, .any), (19, .any), (20, .any), (21, .any), (22, .any), (23, .any), (24, .any), (25, .any)]) (fun s1 => h.ext [] []) hF (fun _ _ => by simp only [upd, List.set_cons_succ, List.set_cons_zero]; try rfl) (wk.le (by exact (.eq (.eq (.drop (.drop (.drop (.cons (leV.of_eq rfl) (.drop (.drop (.drop (.drop (.drop (.drop (.drop (.drop (.drop (.drop (.drop (.drop (.drop (.drop (.drop (.drop (.drop (.drop (.drop (.drop leL.nil)))))))))))))))))))))))))))) ?_
    intro n1 s1 hi1 hF
    refine r_seq ?_
    refine r_seq ?_
    refine r_region ?_
    refine ops_ok rfl (s_move rfl gt5 (tyo_ok rfl)) st11 ?_
    refine ops_ok rfl (s_move rfl gt0 (tyo_ok rfl)) st12 ?_
    refine ops_len rfl (s_lenSl rfl rfl rfl rfl el28 gt12 lenMap) st13 fun hn11 => ?_
    replace hn11 := lenN hn11
    refine ops_ok rfl (s_bin rfl gt11 gt13 rfl) st14 ?_
    refine ops_nil ?_
    refine q_seq ?_
    refine r_condL gt14 hF (fun x1 o1 hl1 hx1 hF hK1 => ?_) (fun hF => ?_)
    · skip
      refine r_skip ?_
      refine q_seq ?_
      refine r_seq ?_
      refine r_block ?_
      refine r_seq ?_
      refine r_drawn [] [] trivial mixed (by kernel_rfl) ?_
      refine draw_ok rfl rfl (s_move rfl gt0 (tyo_ok rfl)) st17 ?_
      refine draw_ok rfl rfl (s_move rfl gt5 (tyo_ok rfl)) st18 ?_
      refine draw_ok rfl rfl (s_idxRow rfl el28 gt17 gt18 isl (idx_of hx1)) st19 ?_
      refine draw_ok rfl rfl (f_load rfl ty9 gt19 (ldC_one rfl) (tyo_ok rfl)) st20 ?_
      refine draw_ok rfl rfl (s_move rfl gt1 (tyo_ok rfl)) st21 ?_
      refine draw_ok rfl rfl (s_move rfl gt5 (tyo_ok rfl)) st22 ?_
      refine bindF hF (fun y12 hy12 hF => ?_)
      refine draw_ok rfl rfl (s_idxRow rfl el28 gt21 gt22 isl hy12) st23 ?_
      refine draw_ok rfl rfl (f_load rfl ty9 gt23 (ldC_one rfl) (tyo_ok rfl)) st24 ?_
      refine draw_ok rfl rfl (s_bin rfl gt20 gt24 rfl) st25 ?_
      refine draw_nil ?_
      refine q_seq ?_
      refine r_condF gt25 hF (fun hc13 hF => ?_) (fun hc13 hF => ?_)
      · skip
        refine r_seq ?_
        refine r_region ?_
        refine ops_ok rfl (s_assign rfl rfl (tyo_ok rfl)) st4 ?_
        refine ops_nil ?_
        refine q_seq ?_
        refine r_ret ?_
        refine q_block_ret ?_
        refine q_seq_ret ?_
        refine q_loop_ret ?_
        obtain rfl := Option.some.inj hF
        replace hF := hK1
        refine q_block_ret ?_
        refine q_seq_ret ?_
        obtain rfl := Option.some.inj hF
        refine q_retL1 rfl (rl_tmp gt4 rl_nil) (fin_ext (leV.refl _) rfl ?_)
        exact ⟨rfl, rfl⟩
      · skip
        refine r_skip ?_
        refine q_block ?_
        refine q_seq ?_
        refine r_region ?_
        refine ops_ok rfl (s_move rfl gt5 (tyo_ok rfl)) st15 ?_
        refine ops_ok rfl (s_bin rfl gt15 rfl rfl) st16 ?_
        refine ops_ok rfl (s_assign rfl gt16 (tyo_ok rfl)) st5 ?_
        refine ops_nil ?_
        refine q_loop ?_
        obtain rfl := Option.some.inj hF
        exact ⟨(), hl1, hK1, wk.le (by exact (.eq (.eq (.drop (.drop (.drop (.cons (leV.of_eq (w64e (by omega) (by omega))) (.drop (.drop (.drop (.drop (.drop (.drop (.drop (.drop (.drop (.drop (.drop (.drop (.drop (.drop (.drop (.drop (.drop (.drop (.drop (.drop leL.nil)))))))))))))))))))))))))))⟩
    · skip
      refine r_exit ?_
      refine q_seq_exit ?_
      refine q_loop_exit ?_
      refine q_block_hit ?_
      refine q_seq ?_
      refine r_seq ?_
      refine r_region ?_
      refine ops_ok rfl (s_assign rfl rfl (tyo_ok rfl)) st4 ?_
      refine ops_nil ?_
      refine q_seq ?_
      refine r_ret ?_
      obtain rfl := Option.some.inj hF
      refine q_retL1 rfl (rl_tmp gt4 rl_nil) (fin_ext (leV.refl _) rfl ?_)
      exact ⟨rfl, rfl⟩
/-! varve/varveref30.Same -/
theorem ok39 {a0 : (List GRow)} {b1 : (List GRow)} {res : Bool} {h : AH}  (hF : ref30Same a0 b1 = some res) : Spec Try.prog 39 [.sl 10 (a0.map GRow.row), .sl 10 (b1.map GRow.row)] h (fun rr hh => rr = .bool res ∧ hh = h) := by
  unfold ref30Same at hF
  refine spec_of_body_ext Try.func39 rfl (by kernel_rfl) (env := [.sl 10 (a0.map GRow.row), .sl 10 (b1.map GRow.row), aundef, aundef, aundef, aundef, aundef, aundef, aundef, aundef, aundef, aundef, aundef, aundef, aundef, aundef, aundef, aundef, aundef, aundef, aundef, aundef, aundef, aundef, aundef, aundef, aundef, aundef, aundef, aundef, aundef, aundef, aundef, aundef, aundef, aundef, aundef, aundef, aundef, aundef, aundef, aundef, aundef]) (by rfl) ?_
  refine r_seq ?_
  refine r_region ?_
  refine ops_ok rfl (s_assign rfl rfl (tyo_ok rfl)) st4 ?_
  refine ops_nil ?_
  refine q_seq ?_
  refine r_seq ?_
  refine r_seq ?_
  refine r_region ?_
  refine ops_ok rfl (s_move rfl gt0 (tyo_ok rfl)) st6 ?_
  refine ops_len rfl (s_lenSl rfl rfl rfl rfl el61 gt6 lenMap) st7 fun hn1 => ?_
  replace hn1 := lenN hn1
  refine ops_ok rfl (s_move rfl gt1 (tyo_ok rfl)) st8 ?_
  refine ops_len rfl (s_lenSl rfl rfl rfl rfl el61 gt8 lenMap) st9 fun hn2 => ?_
  replace hn2 := lenN hn2
  refine ops_ok rfl (s_bin rfl gt7 gt9 rfl) st10 ?_
  refine ops_nil ?_
  refine q_seq ?_
  refine r_condF gt10 hF (fun hc3 hF => ?_) (fun hc3 hF => ?_)
  · skip
    refine r_seq ?_
    refine r_region ?_
    refine ops_ok rfl (s_assign rfl rfl (tyo_ok rfl)) st4 ?_
    refine ops_nil ?_
    refine q_seq ?_
    refine r_ret ?_
    refine q_seq_ret ?_
    obtain rfl := Option.some.inj hF
    refine q_retL1 rfl (rl_tmp gt4 rl_nil) (fin_ext (leV.refl _) rfl ?_)
    exact ⟨rfl, rfl⟩
  · skip
    refine r_skip ?_
    refine q_seq ?_
    refine r_seq ?_
    refine r_seq ?_
    refine r_region ?_
    refine ops_ok rfl (s_assign rfl rfl (tyo_ok rfl)) st5 ?_
    refine ops_nil ?_
    refine q_seq ?_
    refine r_block ?_
    refine r_loopLF (fun (n1 : Nat) (s1 : Unit) => [(2, .any), (3, .any), (4, .any), (5, .int .i64 (n1 : Int)), (6, .any), (7, .any), (8, .any), (9, .any), (10, .any), (11, .any), (12, .any), (13, .any), (14, .any), (15, .any), (16, .any), (17, .any), (18, .any), (19, .any), (20, .any), (21, .any), (22, .any), (23, .any), (24, .any), (25, .any), (26, .any), (27, .any), (28, .any), (29, .any), (30, .any), (31, .any), (32, .any), (33, .any), (34, .any), (35, .any), (36, .any), (37, .any), (38, .any), (39, .any), (40, .any), (41, .any), (42, .any)]) (fun s1 => h.ext [] []) hF (fun _ _ => by simp only [upd, List.set_cons_succ, List.set_cons_zero]; try rfl) (wk.le (by exact (.eq (.eq (.drop (.drop (.drop (.cons (leV.of_eq rfl) (.drop (.drop (.drop (.drop (.drop (.drop (.drop (.drop (.drop (.drop (.drop (.drop (.drop (.drop (.drop (.drop (.drop (.drop (.drop (.drop (.drop (.drop (.drop (.drop (.drop (.drop (.drop (.drop (.drop (.drop (.drop (.drop (.drop (.drop (.drop (.drop (.drop leL.nil))))))))))))))))))))))))))))))))))))))))))))) ?_
    intro n1 s1 hi1 hF
    refine r_seq ?_
    refine r_seq ?_
    refine r_region ?_
    refine ops_ok rfl (s_move rfl gt5 (tyo_ok rfl)) st11 ?_
    refine ops_ok rfl (s_move rfl gt0 (tyo_ok rfl)) st12 ?_
    refine ops_len rfl (s_lenSl rfl rfl rfl rfl el61 gt12 lenMap) st13 fun hn15 => ?_
    replace hn15 := lenN hn15
    refine ops_ok rfl (s_bin rfl gt11 gt13 rfl) st14 ?_
    refine ops_nil ?_
    refine q_seq ?_
    refine r_condL gt14 hF (fun x1 o1 hl1 hx1 hF hK1 => ?_) (fun hF => ?_)
    · skip
      refine r_skip ?_
      refine q_seq ?_
      refine r_seq ?_
      refine r_block ?_
      refine r_seq ?_
      refine r_drawn [10] [] trivial mixed (by kernel_rfl) ?_
      refine draw_ok rfl rfl (s_move rfl gt0 (tyo_ok rfl)) st17 ?_
      refine draw_ok rfl rfl (s_move rfl gt5 (tyo_ok rfl)) st18 ?_
      refine draw_ok rfl rfl (s_idxRow rfl el61 gt17 gt18 isl (idx_of hx1)) st19 ?_
      refine draw_ok rfl rfl (s_fieldAddr rfl fo67x0 gt19 rfl) st20 ?_
      refine draw_ok rfl rfl (f_load rfl ty28 gt20 (ldC_one rfl) (tyo_ok rfl)) st21 ?_
      refine draw_ok rfl rfl (s_move rfl gt1 (tyo_ok rfl)) st22 ?_
      refine draw_ok rfl rfl (s_move rfl gt5 (tyo_ok rfl)) st23 ?_
      refine bindF hF (fun y16 hy16 hF => ?_)
      refine draw_ok rfl rfl (s_idxRow rfl el61 gt22 gt23 isl hy16) st24 ?_
      refine draw_ok rfl rfl (s_fieldAddr rfl fo67x0 gt24 rfl) st25 ?_
      refine draw_ok rfl rfl (f_load rfl ty28 gt25 (ldC_one rfl) (tyo_ok rfl)) st26 ?_
      refine bindF hF (fun v17 hv17 hF => ?_)
      refine draw_callN rfl rfl (fun _ => s_call0 rfl rfl rfl (argo_cons gt21 (argo_cons gt26 argo_nil)) (.cons (tyo_ok rfl) (.cons (tyo_ok rfl) .nil))) (by rintro _ ⟨B2, T2, rfl, hk2⟩; exact ok81 hv17) st27 ?_
      refine draw_ok rfl rfl (s_un rfl gt27 rfl) st28 ?_
      refine draw_ok rfl rfl (s_move rfl gt28 (tyo_ok rfl)) st29 ?_
      refine draw_gv rfl rfl (fun hb => s_move rfl gt0 (tyo_ok rfl)) st30 ?_
      refine draw_gv rfl rfl (fun hb => s_move rfl gt5 (tyo_ok rfl)) st31 ?_
      refine chkF hF (fun hg18 hF => ?_)
      refine draw_gv rfl rfl (fun hb => s_gidxRow default rfl el61 (evo_gv gt30 hb) (evo_gv gt31 hb) isl (hg18 hb)) st32 ?_
      refine draw_gv rfl rfl (fun hb => s_fieldAddr rfl fo67x1 (evo_gv gt32 hb) rfl) st33 ?_
      refine draw_gv rfl rfl (fun hb => f_load rfl ty65.choose_spec.1 (evo_gv gt33 hb) (ldC_agX (cs' := [.int .u8 (((a0).getD (n1 : Int).toNat default).leaf.typ), .int .i64 (((a0).getD (n1 : Int).toNat default).leaf.n), .int .u64 (((a0).getD (n1 : Int).toNat default).leaf.time), .int .u8 (((a0).getD (n1 : Int).toNat default).leaf.dot.actor.rep), .int .u32 (((a0).getD (n1 : Int).toNat default).leaf.dot.actor.inc), .int .u64 (((a0).getD (n1 : Int).toNat default).leaf.dot.seq), .str (((a0).getD (n1 : Int).toNat default).leaf.text), .sl 5 ((((a0).getD (n1 : Int).toNat default).leaf.items).map GItem.row), .sl 3 ((((a0).getD (n1 : Int).toNat default).leaf.tombs).map GDot.row)]) ty65.choose_spec.2 rfl rfl) (tyo_ok rfl)) st34 ?_
      refine draw_gv rfl rfl (fun hb => s_move rfl gt1 (tyo_ok rfl)) st35 ?_
      refine draw_gv rfl rfl (fun hb => s_move rfl gt5 (tyo_ok rfl)) st36 ?_
      refine chkF hF (fun hg19 hF => ?_)
      refine draw_gv rfl rfl (fun hb => s_gidxRow default rfl el61 (evo_gv gt35 hb) (evo_gv gt36 hb) isl (hg19 hb)) st37 ?_
      refine draw_gv rfl rfl (fun hb => s_fieldAddr rfl fo67x1 (evo_gv gt37 hb) rfl) st38 ?_
      refine draw_gv rfl rfl (fun hb => f_load rfl ty65.choose_spec.1 (evo_gv gt38 hb) (ldC_agX (cs' := [.int .u8 (((b1).getD (n1 : Int).toNat default).leaf.typ), .int .i64 (((b1).getD (n1 : Int).toNat default).leaf.n), .int .u64 (((b1).getD (n1 : Int).toNat default).leaf.time), .int .u8 (((b1).getD (n1 : Int).toNat default).leaf.dot.actor.rep), .int .u32 (((b1).getD (n1 : Int).toNat default).leaf.dot.actor.inc), .int .u64 (((b1).getD (n1 : Int).toNat default).leaf.dot.seq), .str (((b1).getD (n1 : Int).toNat default).leaf.text), .sl 5 ((((b1).getD (n1 : Int).toNat default).leaf.items).map GItem.row), .sl 3 ((((b1).getD (n1 : Int).toNat default).leaf.tombs).map GDot.row)]) ty65.choose_spec.2 rfl rfl) (tyo_ok rfl)) st39 ?_
      refine gbindF hF (fun v20 hv20 hF => ?_)
      refine draw_gcall rfl rfl (fun hb => s_call0 rfl rfl rfl (argo_cons (evo_gv gt34 hb) (argo_cons (evo_gv gt39 hb) argo_nil)) (.cons (tyo_ok rfl) (.cons (tyo_ok rfl) .nil))) (fun hb => ok78 (hv20 hb)) (sk st0) ?_
      refine draw_gv rfl rfl (fun hb => s_un rfl (evo_gv (gk gt0) hb) rfl) (sk st1) ?_
      refine draw_ok rfl rfl (s_pick rfl gt29 rfl (gk gt1) (pick_or (fun ht => gF ht))) (sk st2) ?_
      refine draw_nil ?_
      refine q_seq ?_
      refine r_condF (gk gt2) hF (fun hc21 hF => ?_) (fun hc21 hF => ?_)
      · skip
        refine r_seq ?_
        refine r_region ?_
        refine ops_ok rfl (s_assign rfl rfl (tyo_ok rfl)) st4 ?_
        refine ops_nil ?_
        refine q_seq ?_
        refine r_ret ?_
        refine q_block_ret ?_
        refine q_seq_ret ?_
        refine q_loop_ret ?_
        obtain rfl := Option.some.inj hF
        replace hF := hK1
        refine q_block_ret ?_
        refine q_seq_ret ?_
        obtain rfl := Option.some.inj hF
        refine q_retL1 rfl (rl_tmp gt4 rl_nil) (fin_ext (leV.refl _) rfl ?_)
        exact ⟨rfl, rfl⟩
      · skip
        refine r_skip ?_
        refine q_block ?_
        refine q_seq ?_
        refine r_region ?_
        refine ops_ok rfl (s_move rfl gt5 (tyo_ok rfl)) st15 ?_
        refine ops_ok rfl (s_bin rfl gt15 rfl rfl) st16 ?_
        refine ops_ok rfl (s_assign rfl gt16 (tyo_ok rfl)) st5 ?_
        refine ops_nil ?_
        refine q_loop ?_
        obtain rfl := Option.some.inj hF
        exact ⟨(), hl1, hK1, wk.le (by exact (.eq (.eq (.drop (.drop (.drop (.cons (leV.of_eq (w64e (by omega) (by omega))) (.drop (.drop (.drop (.drop (.drop (.drop (.drop (.drop (.drop (.drop (.drop (.drop (.drop (.drop (.drop (.drop (.drop (.drop (.drop (.drop (.drop (.drop (.drop (.drop (.drop (.drop (.drop (.drop (.drop (.drop (.drop (.drop (.drop (.drop (.drop (.drop (.drop leL.nil))))))))))))))))))))))))))))))))))))))))))))⟩
    · skip
      refine r_exit ?_
      refine q_seq_exit ?_
      refine q_loop_exit ?_
      refine q_block_hit ?_
      refine q_seq ?_
      refine r_seq ?_
      refine r_region ?_
      refine ops_ok rfl (s_assign rfl rfl (tyo_ok rfl)) st4 ?_
      refine ops_nil ?_
      refine q_seq ?_
      refine r_ret ?_
      obtain rfl := Option.some.inj hF
      refine q_retL1 rfl (rl_tmp gt4 rl_nil) (fin_ext (leV.refl _) rfl ?_)
      exact ⟨rfl, rfl⟩
/-! varve/paths.Without 1 -/
theorem ok85 {path0 : (List Str)} {c0 : (List Str)} {i0 : Nat} {res : Bool} {h : AH} (hb0 : h.blk i0 = some (.cells [.sl 1 (c0.map strRow)])) (hF : pathsWithoutC1 path0 c0 = some res) : Spec Try.prog 85 [.sl 1 (path0.map strRow), .ptr i0 0] h (fun rr hh => rr = .bool res ∧ hh = h) := by
  unfold pathsWithoutC1 at hF
  refine spec_of_body_ext Try.func85 rfl (by kernel_rfl) (env := [.sl 1 (path0.map strRow), .ptr i0 0, aundef, aundef, aundef, aundef, aundef, aundef]) (by rfl) ?_
  refine r_seq ?_
  refine r_region ?_
  refine ops_ok rfl (s_assign rfl rfl (tyo_ok rfl)) st3 ?_
  refine ops_nil ?_
  refine q_seq ?_
  refine r_seq ?_
  refine r_region ?_
  refine ops_ok rfl (b_load rfl ty28 gt1 hb0 (ldC_one rfl) (tyo_ok rfl)) st4 ?_
  refine ops_ok rfl (s_move rfl gt0 (tyo_ok rfl)) st5 ?_
  refine bindF hF (fun v1 hv1 hF => ?_)
  refine ops_callP rfl (s_call0 rfl rfl rfl (argo_cons gt4 (argo_cons gt5 argo_nil)) (.cons (tyo_ok rfl) (.cons (tyo_ok rfl) .nil))) (ok38 hv1) st6 ?_
  refine ops_ok rfl (s_un rfl gt6 rfl) st7 ?_
  refine ops_ok rfl (s_assign rfl gt7 (tyo_ok rfl)) st3 ?_
  refine ops_nil ?_
  refine q_seq ?_
  refine r_ret ?_
  obtain rfl := Option.some.inj hF
  refine q_retL1 rfl (rl_tmp gt3 rl_nil) (fin_ext (leV.refl _) rfl ?_)
  exact ⟨rfl, rfl⟩
/-! varve/paths.Without -/
theorem ok41 {t0 : (List GNode)} {p1 : (List Str)} {res : ((List GNode) × Int)} {h : AH}  (hF : pathsWithout t0 p1 = some res) : Spec Try.prog 41 [.sl 3 (t0.map GNode.row), .sl 1 (p1.map strRow)] h (fun rr hh => rr = .tup [.sl 3 (res.1.map GNode.row), .int .i64 res.2] ∧ hh = h) := by
  unfold pathsWithout at hF
  refine spec_of_body_ext Try.func41 rfl (by kernel_rfl) (env := [.sl 3 (t0.map GNode.row), .sl 1 (p1.map strRow), aundef, aundef, aundef, aundef, aundef, aundef, aundef, aundef, aundef, aundef, aundef, aundef, aundef, aundef, aundef]) (by rfl) ?_
  refine r_seq ?_
  refine r_region ?_
  refine ops_ok rfl (e_box (n := 0) rfl gt1 (tyo_ok rfl) rfl rfl) st3 ?_
  refine ops_ok rfl (s_assign rfl rfl (ty_nil el54)) st4 ?_
  refine ops_ok rfl (s_assign rfl rfl (tyo_ok rfl)) st5 ?_
  refine ops_nil ?_
  refine q_seq ?_
  refine r_seq ?_
  refine r_seq ?_
  refine r_region ?_
  refine ops_ok rfl (s_move rfl gt0 (tyo_ok rfl)) st6 ?_
  refine bindF hF (fun v1 hv1 hF => ?_)
  refine ops_callP rfl (s_call0 rfl rfl rfl (argo_cons gt6 argo_nil) (.cons (tyo_ok rfl) .nil)) (ok75 hv1) st7 ?_
  refine ops_ok rfl (s_un rfl gt7 rfl) st8 ?_
  refine ops_ok rfl (s_move rfl gt8 (tyo_ok rfl)) st9 ?_
  refine ops_gv rfl (fun hb => e_load rfl ty28 gt3 rfl (ldC_one rfl) (tyo_ok rfl)) st10 ?_
  refine gbindF hF (fun v2 hv2 hF => ?_)
  refine ops_gcall rfl (fun hb => s_call0 rfl rfl rfl (argo_cons (evo_gv gt10 hb) argo_nil) (.cons (tyo_ok rfl) .nil)) (fun hb => ok32 (hv2 hb)) st11 ?_
  refine ops_gv rfl (fun hb => s_un rfl (evo_gv gt11 hb) rfl) st12 ?_
  refine ops_ok rfl (s_pick rfl gt9 rfl gt12 (pick_or (fun ht => gF ht))) st13 ?_
  refine ops_nil ?_
  refine q_seq ?_
  refine r_condF gt13 hF (fun hc3 hF => ?_) (fun hc3 hF => ?_)
  · skip
    refine r_seq ?_
    refine r_region ?_
    refine ops_ok rfl (s_assign rfl rfl (ty_nil el54)) st4 ?_
    refine ops_ok rfl (s_assign rfl rfl (tyo_ok rfl)) st5 ?_
    refine ops_nil ?_
    refine q_seq ?_
    refine r_ret ?_
    refine q_seq_ret ?_
    obtain rfl := Option.some.inj hF
    refine q_retL rfl (rl_tmp gt4 (rl_tmp gt5 rl_nil)) (fin_ext (leV.tup (.cons (leV.osl _ _ _) (.eq leL.nil))) rfl ?_)
    exact ⟨rfl, rfl⟩
  · skip
    refine r_skip ?_
    refine q_seq ?_
    refine r_seq ?_
    refine r_region ?_
    refine ops_ok rfl (s_move rfl gt0 (tyo_ok rfl)) st14 ?_
    refine ops_ok rfl (s_makeFunc rfl rfl rfl) st15 ?_
    refine bindF hF (fun v4 hv4 hF => ?_)
    refine ops_callP rfl (s_call0 rfl rfl rfl (argo_cons gt14 (argo_cons rfl (argo_cons gt15 argo_nil))) (.cons (tyo_ok rfl) (.cons (ty_nil el28) (.cons (tyo_ok rfl) .nil)))) ((ok76 (fun _ v L M hv => ok85 (blk_ext2 (j := 0) rfl) hv) hv4).le (.eq (.cons (leV.osl _ _ _) (.eq leL.nil)))) st16 ?_
    refine ops_ok rfl (s_assign rfl gt16 (tyo_ok rfl)) st4 ?_
    refine ops_ok rfl (s_assign rfl rfl (tyo_ok rfl)) st5 ?_
    refine ops_nil ?_
    refine q_seq ?_
    refine r_ret ?_
    obtain rfl := Option.some.inj hF
    refine q_retL rfl (rl_tmp gt4 (rl_tmp gt5 rl_nil)) (fin_ext (leV.refl _) rfl ?_)
    exact ⟨rfl, rfl⟩
end Go.Vv
