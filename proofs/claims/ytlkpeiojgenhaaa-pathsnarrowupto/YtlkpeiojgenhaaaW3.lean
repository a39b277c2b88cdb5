/- Each function that the law reaches computes what its reading says; printed by a program. -/
import Derived.Test.YtlkpeiojgenhaaaW2
namespace Go.Vv
open Go Go.Proofs
set_option maxRecDepth 100000
set_option maxHeartbeats 1000000
set_option linter.unusedSimpArgs false
set_option linter.unusedVariables false
/-! varve/varveref07.size -/
theorem ok70N (n : Nat) : ∀ {t0 : (List GNode)} {deep1 : Int} {res : Int} {h : AH} , ref07XsizeN n t0 deep1 = some res → Spec Try.prog 70 [.sl 3 (t0.map GNode.row), .int .i64 deep1] h (fun rr hh => rr = .int .i64 res ∧ hh = h) := by
  induction n with
  | zero => intro t0 deep1 res h  hF; simp [ref07XsizeN] at hF
  | succ n ih =>
    intro t0 deep1 res h  hF
    unfold ref07XsizeN at hF
    refine spec_of_body_ext Try.func70 rfl (by kernel_rfl) (env := [.sl 3 (t0.map GNode.row), .int .i64 deep1, aundef, aundef, aundef, aundef, aundef, aundef, aundef, aundef, aundef, aundef, aundef, aundef, aundef, aundef, aundef, aundef, aundef, aundef, aundef, aundef, aundef, aundef, aundef, aundef, aundef, aundef, aundef, aundef, aundef, aundef, aundef, aundef, aundef, aundef, aundef, aundef, aundef, aundef, aundef, aundef, aundef, aundef, aundef, aundef, aundef, aundef, aundef, aundef, aundef, aundef, aundef, aundef, aundef, aundef, aundef, aundef, aundef, aundef, aundef, aundef, aundef, aundef, aundef, aundef, aundef, aundef, aundef, aundef, aundef, aundef, aundef, aundef, aundef, aundef, aundef, aundef, aundef, aundef, aundef, aundef, aundef, aundef]) (by rfl) ?_
    refine r_seq ?_
    refine r_region ?_
    refine ops_ok rfl (s_assign rfl rfl (tyo_ok rfl)) st4 ?_
    refine ops_nil ?_
    refine q_seq ?_
    refine r_seq ?_
    refine r_region ?_
    refine ops_ok rfl (s_assign rfl rfl (tyo_ok rfl)) st5 ?_
    refine ops_nil ?_
    refine q_seq ?_
    refine r_seq ?_
    refine r_seq ?_
    refine r_region ?_
    refine ops_ok rfl (s_assign rfl rfl (tyo_ok rfl)) st6 ?_
    refine ops_nil ?_
    refine q_seq ?_
    refine r_block ?_
    refine r_loopWF (fun (s1 : Int × Int) => [(2, .any), (3, .any), (4, .any), (5, .int .i64 s1.1), (6, .int .i64 s1.2), (7, .any), (8, .any), (9, .any), (10, .any), (11, .any), (12, .any), (13, .any), (14, .any), (15, .any), (16, .any), (17, .any), (18, .any), (19, .any), (20, .any), (21, .any), (22, .any), (23, .any), (24, .any), (25, .any), (26, .any), (27, .any), (28, .any), (29, .any), (30, .any), (31, .any), (32, .any), (33, .any), (34, .any), (35, .any), (36, .any), (37, .any), (38, .any), (39, .any), (40, .any), (41, .any), (42, .any), (43, .any), (44, .any), (45, .any), (46, .any), (47, .any), (48, .any), (49, .any), (50, .any), (51, .any), (52, .any), (53, .any), (54, .any), (55, .any), (56, .any), (57, .any), (58, .any), (59, .any), (60, .any), (61, .any), (62, .any), (63, .any), (64, .any), (65, .any), (66, .any), (67, .any), (68, .any), (69, .any), (70, .any), (71, .any), (72, .any), (73, .any), (74, .any), (75, .any), (76, .any), (77, .any), (78, .any), (79, .any), (80, .any), (81, .any), (82, .any), (83, .any)]) (fun s1 => h.ext [] []) hF (fun _ => by simp only [upd, List.set_cons_succ, List.set_cons_zero]; try rfl) (wk.le (by exact (.eq (.eq (.drop (.drop (.drop (.cons (leV.of_eq rfl) (.cons (leV.of_eq rfl) (.drop (.drop (.drop (.drop (.drop (.drop (.drop (.drop (.drop (.drop (.drop (.drop (.drop (.drop (.drop (.drop (.drop (.drop (.drop (.drop (.drop (.drop (.drop (.drop (.drop (.drop (.drop (.drop (.drop (.drop (.drop (.drop (.drop (.drop (.drop (.drop (.drop (.drop (.drop (.drop (.drop (.drop (.drop (.drop (.drop (.drop (.drop (.drop (.drop (.drop (.drop (.drop (.drop (.drop (.drop (.drop (.drop (.drop (.drop (.drop (.drop (.drop (.drop (.drop (.drop (.drop (.drop (.drop (.drop (.drop (.drop (.drop (.drop (.drop (.drop (.drop (.drop leL.nil)))))))))))))))))))))))))))))))))))))))))))))))))))))))))))))))))))))))))))))))))))))) ?_
    intro n1 s1 o1 hF hK1
    refine r_seq ?_
    refine r_seq ?_
    refine r_region ?_
    refine ops_ok rfl (s_move rfl gt6 (tyo_ok rfl)) st10 ?_
    refine ops_ok rfl (s_move rfl gt0 (tyo_ok rfl)) st11 ?_
    refine ops_len rfl (s_lenSl rfl rfl rfl rfl el54 gt11 lenMap) st12 fun hn66 => ?_
    replace hn66 := lenN hn66
    refine ops_ok rfl (s_bin rfl gt10 gt12 rfl) st13 ?_
    refine ops_ok rfl (s_move rfl gt13 (tyo_ok rfl)) st14 ?_
    refine ops_gv rfl (fun hb => s_move rfl gt1 (tyo_ok rfl)) st15 ?_
    refine ops_gv rfl (fun hb => s_bin rfl (evo_gv gt15 hb) rfl rfl) st16 ?_
    refine ops_ok rfl (s_pick rfl gt14 gt16 rfl (pick_and (fun ht => gT ht))) st17 ?_
    refine ops_nil ?_
    refine q_seq ?_
    refine r_condF gt17 hF (fun hc67 hF => ?_) (fun hc67 hF => ?_)
    · skip
      refine r_skip ?_
      refine q_seq ?_
      refine r_seq ?_
      refine r_block ?_
      refine r_seq ?_
      refine r_drawn [16] [] trivial mixed (by kernel_rfl) ?_
      refine draw_ok rfl rfl (s_move rfl gt5 (tyo_ok rfl)) st20 ?_
      refine draw_ok rfl rfl (s_bin rfl gt20 rfl rfl) st21 ?_
      refine draw_ok rfl rfl (s_move rfl gt0 (tyo_ok rfl)) st22 ?_
      refine draw_ok rfl rfl (s_move rfl gt6 (tyo_ok rfl)) st23 ?_
      refine bindF hF (fun y68 hy68 hF => ?_)
      refine draw_ok rfl rfl (s_idxRowE rfl el54 gt22 gt23 isl hy68 (GNode.row_eq _)) st24 ?_
      refine draw_ok rfl rfl (s_fieldAddr rfl fo85x0 gt24 rfl) st25 ?_
      refine draw_ok rfl rfl (f_load rfl ty9 gt25 (ldC_one rfl) (tyo_ok rfl)) st26 ?_
      refine draw_len rfl rfl (s_lenStr rfl rfl rfl rfl ty9 gt26) st27 ?_
      refine draw_ok rfl rfl (s_bin rfl gt21 gt27 rfl) st28 ?_
      refine draw_ok rfl rfl (s_move rfl gt0 (tyo_ok rfl)) st29 ?_
      refine draw_ok rfl rfl (s_move rfl gt6 (tyo_ok rfl)) st30 ?_
      refine bindF hF (fun y70 hy70 hF => ?_)
      refine draw_ok rfl rfl (s_idxRowE rfl el54 gt29 gt30 isl hy70 (GNode.row_eq _)) st31 ?_
      refine draw_ok rfl rfl (s_fieldAddr rfl fo85x2 gt31 rfl) st32 ?_
      refine draw_ok rfl rfl (f_load rfl ty54 gt32 (ldC_one rfl) (tyo_ok rfl)) st33 ?_
      refine draw_ok rfl rfl (s_move rfl gt1 (tyo_ok rfl)) st34 ?_
      refine draw_ok rfl rfl (s_bin rfl gt34 rfl rfl) st35 ?_
      refine bindF hF (fun v71 hv71 hF => ?_)
      refine draw_callN rfl rfl (fun _ => s_call0 rfl rfl rfl (argo_cons gt33 (argo_cons gt35 argo_nil)) (.cons (tyo_ok rfl) (.cons (tyo_ok rfl) .nil))) (by rintro _ ⟨B2, T2, rfl, hk2⟩; exact ih hv71) st36 ?_
      refine draw_ok rfl rfl (s_bin rfl gt28 gt36 rfl) st37 ?_
      refine draw_ok rfl rfl (s_assign rfl gt37 (tyo_ok rfl)) st5 ?_
      refine draw_nil ?_
      refine q_seq ?_
      refine r_seq ?_
      refine r_region ?_
      refine ops_ok rfl (s_assign rfl rfl (tyo_ok rfl)) st7 ?_
      refine ops_nil ?_
      refine q_seq ?_
      refine r_block ?_
      refine r_loopWF (fun (s2 : Int × Int) => [(2, .any), (3, .any), (4, .any), (5, .int .i64 s2.1), (7, .int .i64 s2.2), (8, .any), (9, .any), (10, .any), (11, .any), (12, .any), (13, .any), (14, .any), (15, .any), (16, .any), (17, .any), (18, .any), (19, .any), (20, .any), (21, .any), (22, .any), (23, .any), (24, .any), (25, .any), (26, .any), (27, .any), (28, .any), (29, .any), (30, .any), (31, .any), (32, .any), (33, .any), (34, .any), (35, .any), (36, .any), (37, .any), (38, .any), (39, .any), (40, .any), (41, .any), (42, .any), (43, .any), (44, .any), (45, .any), (46, .any), (47, .any), (48, .any), (49, .any), (50, .any), (51, .any), (52, .any), (53, .any), (54, .any), (55, .any), (56, .any), (57, .any), (58, .any), (59, .any), (60, .any), (61, .any), (62, .any), (63, .any), (64, .any), (65, .any), (66, .any), (67, .any), (68, .any), (69, .any), (70, .any), (71, .any), (72, .any), (73, .any), (74, .any), (75, .any), (76, .any), (77, .any), (78, .any), (79, .any), (80, .any), (81, .any), (82, .any), (83, .any)]) (fun s2 => h.ext [] []) hF (fun _ => by simp only [upd, List.set_cons_succ, List.set_cons_zero]; try rfl) (wk.le (by exact (.eq (.eq (.drop (.drop (.drop (.cons (leV.of_eq rfl) (.eq (.cons (leV.of_eq rfl) (.drop (.drop (.drop (.drop (.drop (.drop (.drop (.drop (.drop (.drop (.drop (.drop (.drop (.drop (.drop (.drop (.drop (.drop (.drop (.drop (.drop (.drop (.drop (.drop (.drop (.drop (.drop (.drop (.drop (.drop (.drop (.drop (.drop (.drop (.drop (.drop (.drop (.drop (.drop (.drop (.drop (.drop (.drop (.drop (.drop (.drop (.drop (.drop (.drop (.drop (.drop (.drop (.drop (.drop (.drop (.drop (.drop (.drop (.drop (.drop (.drop (.drop (.drop (.drop (.drop (.drop (.drop (.drop (.drop (.drop (.drop (.drop (.drop (.drop (.drop (.drop leL.nil)))))))))))))))))))))))))))))))))))))))))))))))))))))))))))))))))))))))))))))))))))))) ?_
      intro n2 s2 o2 hF hK2
      refine r_seq ?_
      refine r_seq ?_
      refine r_region ?_
      refine ops_ok rfl (s_move rfl gt7 (tyo_ok rfl)) st38 ?_
      refine ops_ok rfl (s_move rfl gt0 (tyo_ok rfl)) st39 ?_
      refine ops_ok rfl (s_move rfl gt6 (tyo_ok rfl)) (sk st0) ?_
      refine bindF hF (fun y102 hy102 hF => ?_)
      refine ops_ok rfl (s_idxRowE rfl el54 gt39 (gk gt0) isl hy102 (GNode.row_eq _)) (sk st1) ?_
      refine ops_ok rfl (s_fieldAddr rfl fo85x1 (gk gt1) rfl) (sk st2) ?_
      refine ops_ok rfl (f_load rfl ty83 (gk gt2) (ldC_one rfl) (tyo_ok rfl)) (sk st3) ?_
      refine ops_len rfl (s_lenSl rfl rfl rfl rfl el83 (gk gt3) lenMap) (sk st4) fun hn103 => ?_
      replace hn103 := lenN hn103
      refine ops_ok rfl (s_bin rfl gt38 (gk gt4) rfl) (sk st5) ?_
      refine ops_nil ?_
      refine q_seq ?_
      refine r_condF (gk gt5) hF (fun hc104 hF => ?_) (fun hc104 hF => ?_)
      · skip
        refine r_skip ?_
        refine q_seq ?_
        refine r_seq ?_
        refine r_block ?_
        refine r_seq ?_
        refine r_region ?_
        refine ops_ok rfl (s_move rfl gt0 (tyo_ok rfl)) (sk st8) ?_
        refine ops_ok rfl (s_move rfl gt6 (tyo_ok rfl)) (sk st9) ?_
        refine bindF hF (fun y105 hy105 hF => ?_)
        refine ops_ok rfl (s_idxRowE rfl el54 (gk gt8) (gk gt9) isl hy105 (GNode.row_eq _)) (sk st10) ?_
        refine ops_ok rfl (s_fieldAddr rfl fo85x1 (gk gt10) rfl) (sk st11) ?_
        refine ops_ok rfl (f_load rfl ty83 (gk gt11) (ldC_one rfl) (tyo_ok rfl)) (sk st12) ?_
        refine ops_ok rfl (s_move rfl gt7 (tyo_ok rfl)) (sk st13) ?_
        refine bindF hF (fun y106 hy106 hF => ?_)
        refine ops_ok rfl (s_idxRow rfl el83 (gk gt12) (gk gt13) isl hy106) (sk st14) ?_
        refine ops_ok rfl (f_load rfl ty65.choose_spec.1 (gk gt14) (ldC_agX (cs' := [.int .u8 y106.typ, .int .i64 y106.n, .int .u64 y106.time, .int .u8 y106.dot.actor.rep, .int .u32 y106.dot.actor.inc, .int .u64 y106.dot.seq, .str y106.text, .sl 5 (y106.items.map GItem.row), .sl 3 (y106.tombs.map GDot.row)]) ty65.choose_spec.2 rfl rfl) (tyo_ok rfl)) (sk st15) ?_
        refine ops_ok rfl (e_alloc (n := 0) rfl ze65 rfl) st8 ?_
        refine ops_ok rfl (e_store (cs' := [.int .u8 y106.typ, .int .i64 y106.n, .int .u64 y106.time, .int .u8 y106.dot.actor.rep, .int .u32 y106.dot.actor.inc, .int .u64 y106.dot.seq, .str y106.text, .sl 5 (y106.items.map GItem.row), .sl 3 (y106.tombs.map GDot.row)]) rfl ty65.choose_spec.1 gt8 (gk gt15) (tyo_ok rfl) rfl rfl rfl rfl rfl) rfl ?_
        refine ops_nil ?_
        refine q_seq ?_
        refine r_seq ?_
        refine r_region ?_
        refine ops_ok rfl (s_move rfl gt5 (tyo_ok rfl)) (sk st16) ?_
        refine ops_ok rfl (s_bin rfl (gk gt16) rfl rfl) (sk st17) ?_
        refine ops_ok rfl (s_fieldAddr rfl fo65x4 gt8 rfl) (sk st18) ?_
        refine ops_ok rfl (e_load rfl ty9 (gk gt18) rfl (ldC_one rfl) (tyo_ok rfl)) (sk st19) ?_
        refine ops_len rfl (s_lenStr rfl rfl rfl rfl ty9 (gk gt19)) (sk st20) fun hn107 => ?_
        replace hn107 := lenN hn107
        refine ops_ok rfl (s_bin rfl (gk gt17) (gk gt20) rfl) (sk st21) ?_
        refine ops_ok rfl (s_fieldAddr rfl fo65x6 gt8 rfl) (sk st22) ?_
        refine ops_ok rfl (e_load rfl ty29 (gk gt22) rfl (ldC_one rfl) (tyo_ok rfl)) (sk st23) ?_
        refine ops_len rfl (s_lenSl rfl rfl rfl rfl el29 (gk gt23) lenMap) (sk st24) fun hn108 => ?_
        replace hn108 := lenN hn108
        refine ops_ok rfl (s_bin rfl (gk gt21) (gk gt24) rfl) (sk st25) ?_
        refine ops_ok rfl (s_assign rfl (gk gt25) (tyo_ok rfl)) st5 ?_
        refine ops_nil ?_
        refine q_seq ?_
        refine r_seq ?_
        refine r_region ?_
        refine ops_ok rfl (s_assign rfl rfl (tyo_ok rfl)) st9 ?_
        refine ops_nil ?_
        refine q_seq ?_
        refine r_block ?_
        refine r_loopLF (fun (n3 : Nat) (s3 : Int) => [(2, .any), (3, .any), (4, .any), (5, .int .i64 s3), (9, .int .i64 (n3 : Int)), (10, .any), (11, .any), (12, .any), (13, .any), (14, .any), (15, .any), (16, .any), (17, .any), (18, .any), (19, .any), (20, .any), (21, .any), (22, .any), (23, .any), (24, .any), (25, .any), (26, .any), (27, .any), (28, .any), (29, .any), (30, .any), (31, .any), (32, .any), (33, .any), (34, .any), (35, .any), (36, .any), (37, .any), (38, .any), (39, .any), (40, .any), (41, .any), (42, .any), (43, .any), (44, .any), (45, .any), (46, .any), (47, .any), (48, .any), (49, .any), (50, .any), (51, .any), (52, .any), (53, .any), (54, .any), (55, .any), (56, .any), (57, .any), (58, .any), (59, .any), (60, .any), (61, .any), (62, .any), (63, .any), (64, .any), (65, .any), (66, .any), (67, .any), (68, .any), (69, .any), (70, .any), (71, .any), (72, .any), (73, .any), (74, .any), (75, .any), (76, .any), (77, .any), (78, .any), (79, .any), (80, .any), (81, .any), (82, .any), (83, .any)]) (fun s3 => h.ext [.cells [.int .u8 y106.typ, .int .i64 y106.n, .int .u64 y106.time, .int .u8 y106.dot.actor.rep, .int .u32 y106.dot.actor.inc, .int .u64 y106.dot.seq, .str y106.text, .sl 5 (y106.items.map GItem.row), .sl 3 (y106.tombs.map GDot.row)]] []) hF (fun _ _ => by simp only [upd, List.set_cons_succ, List.set_cons_zero]; try rfl) (wk.le (by exact (.eq (.eq (.drop (.drop (.drop (.cons (leV.of_eq rfl) (.eq (.eq (.eq (.cons (leV.of_eq rfl) (.drop (.drop (.drop (.drop (.drop (.drop (.drop (.drop (.drop (.drop (.drop (.drop (.drop (.drop (.drop (.drop (.drop (.drop (.drop (.drop (.drop (.drop (.drop (.drop (.drop (.drop (.drop (.drop (.drop (.drop (.drop (.drop (.drop (.drop (.drop (.drop (.drop (.drop (.drop (.drop (.drop (.drop (.drop (.drop (.drop (.drop (.drop (.drop (.drop (.drop (.drop (.drop (.drop (.drop (.drop (.drop (.drop (.drop (.drop (.drop (.drop (.drop (.drop (.drop (.drop (.drop (.drop (.drop (.drop (.drop (.drop (.drop (.drop (.drop leL.nil)))))))))))))))))))))))))))))))))))))))))))))))))))))))))))))))))))))))))))))))))))))) ?_
        intro n3 s3 hi3 hF
        refine r_seq ?_
        refine r_seq ?_
        refine r_region ?_
        refine ops_ok rfl (s_move rfl gt9 (tyo_ok rfl)) (sk st26) ?_
        refine ops_ok rfl (s_fieldAddr rfl fo65x5 gt8 rfl) (sk st27) ?_
        refine ops_ok rfl (e_load rfl ty63 (gk gt27) rfl (ldC_one rfl) (tyo_ok rfl)) (sk st28) ?_
        refine ops_len rfl (s_lenSl rfl rfl rfl rfl el63 (gk gt28) lenMap) (sk st29) fun hn125 => ?_
        replace hn125 := lenN hn125
        refine ops_ok rfl (s_bin rfl (gk gt26) (gk gt29) rfl) (sk st30) ?_
        refine ops_nil ?_
        refine q_seq ?_
        refine r_condL (gk gt30) hF (fun x3 o3 hl3 hx3 hF hK3 => ?_) (fun hF => ?_)
        · skip
          refine r_skip ?_
          refine q_seq ?_
          refine r_seq ?_
          refine r_block ?_
          refine r_region ?_
          refine ops_ok rfl (s_move rfl gt5 (tyo_ok rfl)) (sk st33) ?_
          refine ops_ok rfl (s_bin rfl (gk gt33) rfl rfl) (sk st34) ?_
          refine ops_ok rfl (s_fieldAddr rfl fo65x5 gt8 rfl) (sk st35) ?_
          refine ops_ok rfl (e_load rfl ty63 (gk gt35) rfl (ldC_one rfl) (tyo_ok rfl)) (sk st36) ?_
          refine ops_ok rfl (s_move rfl gt9 (tyo_ok rfl)) (sk st37) ?_
          refine ops_ok rfl (s_idxRow rfl el63 (gk gt36) (gk gt37) isl (idx_of hx3)) (sk st38) ?_
          refine ops_ok rfl (s_fieldAddr rfl fo73x2 (gk gt38) rfl) (sk st39) ?_
          refine ops_ok rfl (f_load rfl ty9 (gk gt39) (ldC_one rfl) (tyo_ok rfl)) (sk (sk st0)) ?_
          refine ops_len rfl (s_lenStr rfl rfl rfl rfl ty9 (gk (gk gt0))) (sk (sk st1)) fun hn126 => ?_
          replace hn126 := lenN hn126
          refine ops_ok rfl (s_bin rfl (gk gt34) (gk (gk gt1)) rfl) (sk (sk st2)) ?_
          refine ops_ok rfl (s_assign rfl (gk (gk gt2)) (tyo_ok rfl)) st5 ?_
          refine ops_nil ?_
          refine q_block ?_
          refine q_seq ?_
          refine r_region ?_
          refine ops_ok rfl (s_move rfl gt9 (tyo_ok rfl)) (sk st31) ?_
          refine ops_ok rfl (s_bin rfl (gk gt31) rfl rfl) (sk st32) ?_
          refine ops_ok rfl (s_assign rfl (gk gt32) (tyo_ok rfl)) st9 ?_
          refine ops_nil ?_
          refine q_loop ?_
          obtain rfl := Option.some.inj hF
          exact ⟨(IntKind.wrap .i64 ((IntKind.wrap .i64 (s3 + (1 : Int))) + ((x3.text).length : Int))), hl3, hK3, wk.le (by exact (.eq (.eq (.drop (.drop (.drop (.cons (leV.of_eq rfl) (.eq (.eq (.eq (.cons (leV.of_eq (w64e (by omega) (by omega))) (.drop (.drop (.drop (.drop (.drop (.drop (.drop (.drop (.drop (.drop (.drop (.drop (.drop (.drop (.drop (.drop (.drop (.drop (.drop (.drop (.drop (.drop (.drop (.drop (.drop (.drop (.drop (.drop (.drop (.drop (.drop (.drop (.drop (.drop (.drop (.drop (.drop (.drop (.drop (.drop (.drop (.drop (.drop (.drop (.drop (.drop (.drop (.drop (.drop (.drop (.drop (.drop (.drop (.drop (.drop (.drop (.drop (.drop (.drop (.drop (.drop (.drop (.drop (.drop (.drop (.drop (.drop (.drop (.drop (.drop (.drop (.drop (.drop (.drop leL.nil)))))))))))))))))))))))))))))))))))))))))))))))))))))))))))))))))))))))))))))))))))))⟩
        · skip
          refine r_exit ?_
          refine q_seq_exit ?_
          refine q_loop_exit ?_
          refine q_block_hit ?_
          refine q_block ?_
          refine q_seq ?_
          refine r_region ?_
          refine ops_ok rfl (s_move rfl gt7 (tyo_ok rfl)) (sk st6) ?_
          refine ops_ok rfl (s_bin rfl (gk gt6) rfl rfl) (sk st7) ?_
          refine ops_ok rfl (s_assign rfl (gk gt7) (tyo_ok rfl)) st7 ?_
          refine ops_nil ?_
          refine q_loop ?_
          obtain rfl := Option.some.inj hF
          exact ⟨(s3, (IntKind.wrap .i64 (s2.2 + (1 : Int)))), hK2, wk.trans (wk.le (by exact (.eq (.eq (.drop (.drop (.drop (.cons (leV.of_eq rfl) (.eq (.cons (leV.of_eq rfl) (.drop (.drop (.drop (.drop (.drop (.drop (.drop (.drop (.drop (.drop (.drop (.drop (.drop (.drop (.drop (.drop (.drop (.drop (.drop (.drop (.drop (.drop (.drop (.drop (.drop (.drop (.drop (.drop (.drop (.drop (.drop (.drop (.drop (.drop (.drop (.drop (.drop (.drop (.drop (.drop (.drop (.drop (.drop (.drop (.drop (.drop (.drop (.drop (.drop (.drop (.drop (.drop (.drop (.drop (.drop (.drop (.drop (.drop (.drop (.drop (.drop (.drop (.drop (.drop (.drop (.drop (.drop (.drop (.drop (.drop (.drop (.drop (.drop (.drop (.drop (.drop leL.nil)))))))))))))))))))))))))))))))))))))))))))))))))))))))))))))))))))))))))))))))))))))) (wk_ext3 (by simp [lowL, AV.low]) rfl rfl (by simp [Blk.low, lowL, AV.low]))⟩
      · skip
        refine r_exit ?_
        refine q_seq_exit ?_
        refine q_loop_exit ?_
        obtain rfl := Option.some.inj hF
        replace hF := hK2
        refine q_block_hit ?_
        refine q_block ?_
        refine q_seq ?_
        refine r_region ?_
        refine ops_ok rfl (s_move rfl gt6 (tyo_ok rfl)) st18 ?_
        refine ops_ok rfl (s_bin rfl gt18 rfl rfl) st19 ?_
        refine ops_ok rfl (s_assign rfl gt19 (tyo_ok rfl)) st6 ?_
        refine ops_nil ?_
        refine q_loop ?_
        obtain rfl := Option.some.inj hF
        exact ⟨(s2.1, (IntKind.wrap .i64 (s1.2 + (1 : Int)))), hK1, wk.le (by exact (.eq (.eq (.drop (.drop (.drop (.cons (leV.of_eq rfl) (.cons (leV.of_eq rfl) (.drop (.drop (.drop (.drop (.drop (.drop (.drop (.drop (.drop (.drop (.drop (.drop (.drop (.drop (.drop (.drop (.drop (.drop (.drop (.drop (.drop (.drop (.drop (.drop (.drop (.drop (.drop (.drop (.drop (.drop (.drop (.drop (.drop (.drop (.drop (.drop (.drop (.drop (.drop (.drop (.drop (.drop (.drop (.drop (.drop (.drop (.drop (.drop (.drop (.drop (.drop (.drop (.drop (.drop (.drop (.drop (.drop (.drop (.drop (.drop (.drop (.drop (.drop (.drop (.drop (.drop (.drop (.drop (.drop (.drop (.drop (.drop (.drop (.drop (.drop (.drop (.drop leL.nil)))))))))))))))))))))))))))))))))))))))))))))))))))))))))))))))))))))))))))))))))))))⟩
    · skip
      refine r_exit ?_
      refine q_seq_exit ?_
      refine q_loop_exit ?_
      obtain rfl := Option.some.inj hF
      replace hF := hK1
      refine q_block_hit ?_
      refine q_seq ?_
      refine r_seq ?_
      refine r_region ?_
      refine ops_ok rfl (s_move rfl gt5 (tyo_ok rfl)) (sk (sk st3)) ?_
      refine ops_ok rfl (s_assign rfl (gk (gk gt3)) (tyo_ok rfl)) st4 ?_
      refine ops_nil ?_
      refine q_seq ?_
      refine r_ret ?_
      obtain rfl := Option.some.inj hF
      refine q_retL1 rfl (rl_tmp gt4 rl_nil) (fin_ext (leV.refl _) rfl ?_)
      exact ⟨rfl, rfl⟩
theorem ok70 {t0 : (List GNode)} {deep1 : Int} {res : Int} {h : AH}  (hF : ref07Xsize t0 deep1 = some res) : Spec Try.prog 70 [.sl 3 (t0.map GNode.row), .int .i64 deep1] h (fun rr hh => rr = .int .i64 res ∧ hh = h) := by
  obtain ⟨n, hn⟩ := anyN_is hF
  exact ok70N n  hn
/-! varve/varveref07.Great -/
theorem ok30 {t0 : (List GNode)} {res : Bool} {h : AH}  (hF : ref07Great t0 = some res) : Spec Try.prog 30 [.sl 3 (t0.map GNode.row)] h (fun rr hh => rr = .bool res ∧ hh = h) := by
  unfold ref07Great at hF
  refine spec_of_body_ext Try.func30 rfl (by kernel_rfl) (env := [.sl 3 (t0.map GNode.row), aundef, aundef, aundef, aundef, aundef]) (by rfl) ?_
  refine r_seq ?_
  refine r_region ?_
  refine ops_ok rfl (s_assign rfl rfl (tyo_ok rfl)) st2 ?_
  refine ops_nil ?_
  refine q_seq ?_
  refine r_seq ?_
  refine r_region ?_
  refine ops_ok rfl (s_move rfl gt0 (tyo_ok rfl)) st3 ?_
  refine bindF hF (fun v1 hv1 hF => ?_)
  refine ops_callP rfl (s_call0 rfl rfl rfl (argo_cons gt3 (argo_cons rfl argo_nil)) (.cons (tyo_ok rfl) (.cons (tyo_ok rfl) .nil))) (ok70 hv1) st4 ?_
  refine ops_ok rfl (s_bin rfl gt4 rfl rfl) st5 ?_
  refine ops_ok rfl (s_assign rfl gt5 (tyo_ok rfl)) st2 ?_
  refine ops_nil ?_
  refine q_seq ?_
  refine r_ret ?_
  obtain rfl := Option.some.inj hF
  refine q_retL1 rfl (rl_tmp gt2 rl_nil) (fin_ext (leV.refl _) rfl ?_)
  exact ⟨rfl, rfl⟩
/-! varve/varvelaw30.great -/
theorem ok31 {l0 : (List (List Str))} {res : Bool} {h : AH}  (hF : law30Xgreat l0 = some res) : Spec Try.prog 31 [.sl 1 (l0.map (fun l => [AV.sl 1 (l.map strRow)]))] h (fun rr hh => rr = .bool res ∧ hh = h) := by
  unfold law30Xgreat at hF
  refine spec_of_body_ext Try.func31 rfl (by kernel_rfl) (env := [.sl 1 (l0.map (fun l => [AV.sl 1 (l.map strRow)])), aundef, aundef, aundef, aundef, aundef, aundef, aundef, aundef, aundef, aundef, aundef, aundef, aundef, aundef, aundef, aundef, aundef, aundef, aundef, aundef, aundef, aundef, aundef, aundef, aundef, aundef]) (by rfl) ?_
  refine r_seq ?_
  refine r_region ?_
  refine ops_ok rfl (s_assign rfl rfl (tyo_ok rfl)) st2 ?_
  refine ops_nil ?_
  refine q_seq ?_
  refine r_seq ?_
  refine r_seq ?_
  refine r_region ?_
  refine ops_ok rfl (s_move rfl gt0 (tyo_ok rfl)) st7 ?_
  refine ops_len rfl (s_lenSl rfl rfl rfl rfl el104 gt7 lenMap) st8 fun hn1 => ?_
  replace hn1 := lenN hn1
  refine ops_ok rfl (s_move rfl rfl (tyo_ok rfl)) st9 ?_
  refine ops_nil ?_
  refine q_seq ?_
  refine r_block ?_
  refine r_loopLF (fun (n1 : Nat) (s1 : Unit) => [(0, .any), (1, .any), (2, .any), (3, .any), (4, .any), (5, .any), (6, .any), (9, .int .i64 (n1 : Int)), (10, .any), (11, .any), (12, .any), (13, .any), (14, .any), (15, .any), (16, .any), (17, .any), (18, .any), (19, .any), (20, .any), (21, .any), (22, .any), (23, .any), (24, .any), (25, .any), (26, .any)]) (fun s1 => h.ext [] []) hF (fun _ _ => by simp only [upd, List.set_cons_succ, List.set_cons_zero]; try rfl) (wk.le (by exact (.drop (.drop (.drop (.drop (.drop (.drop (.drop (.eq (.eq (.cons (leV.of_eq rfl) (.drop (.drop (.drop (.drop (.drop (.drop (.drop (.drop (.drop (.drop (.drop (.drop (.drop (.drop (.drop (.drop (.drop leL.nil))))))))))))))))))))))))))))) ?_
  intro n1 s1 hi1 hF
  refine r_seq ?_
  refine r_region ?_
  refine ops_ok rfl (s_bin rfl gt9 gt8 rfl) st10 ?_
  refine ops_nil ?_
  refine q_seq ?_
  refine r_seq ?_
  refine r_condL gt10 hF (fun x1 o1 hl1 hx1 hF hK1 => ?_) (fun hF => ?_)
  · skip
    refine r_skip ?_
    refine q_seq ?_
    refine r_seq ?_
    refine r_block ?_
    refine r_seq ?_
    refine r_region ?_
    refine ops_ok rfl (s_idxRow rfl el104 gt7 gt9 isl (idx_of hx1)) st11 ?_
    refine ops_ok rfl (f_load rfl ty28 gt11 (ldC_one rfl) (tyo_ok rfl)) st12 ?_
    refine ops_ok rfl (s_assign rfl gt12 (tyo_ok rfl)) st4 ?_
    refine ops_nil ?_
    refine q_seq ?_
    refine r_seq ?_
    refine r_seq ?_
    refine r_region ?_
    refine ops_ok rfl (s_move rfl gt4 (tyo_ok rfl)) st13 ?_
    refine ops_len rfl (s_lenSl rfl rfl rfl rfl el28 gt13 lenMap) st14 fun hn16 => ?_
    replace hn16 := lenN hn16
    refine ops_ok rfl (s_move rfl rfl (tyo_ok rfl)) st15 ?_
    refine ops_nil ?_
    refine q_seq ?_
    refine r_block ?_
    refine r_loopLF (fun (n2 : Nat) (s2 : Unit) => [(0, .any), (1, .any), (2, .any), (3, .any), (5, .any), (6, .any), (10, .any), (11, .any), (12, .any), (15, .int .i64 (n2 : Int)), (16, .any), (17, .any), (18, .any), (19, .any), (20, .any), (21, .any), (22, .any), (23, .any), (24, .any), (25, .any), (26, .any)]) (fun s2 => h.ext [] []) hF (fun _ _ => by simp only [upd, List.set_cons_succ, List.set_cons_zero]; try rfl) (wk.le (by exact (.drop (.drop (.drop (.drop (.eq (.drop (.drop (.eq (.eq (.eq (.drop (.drop (.drop (.eq (.eq (.cons (leV.of_eq rfl) (.drop (.drop (.drop (.drop (.drop (.drop (.drop (.drop (.drop (.drop (.drop leL.nil))))))))))))))))))))))))))))) ?_
    intro n2 s2 hi2 hF
    refine r_seq ?_
    refine r_region ?_
    refine ops_ok rfl (s_bin rfl gt15 gt14 rfl) st16 ?_
    refine ops_nil ?_
    refine q_seq ?_
    refine r_seq ?_
    refine r_condL gt16 hF (fun x2 o2 hl2 hx2 hF hK2 => ?_) (fun hF => ?_)
    · skip
      refine r_skip ?_
      refine q_seq ?_
      refine r_seq ?_
      refine r_block ?_
      refine r_seq ?_
      refine r_region ?_
      refine ops_ok rfl (s_idxRow rfl el28 gt13 gt15 isl (idx_of hx2)) st17 ?_
      refine ops_ok rfl (f_load rfl ty9 gt17 (ldC_one rfl) (tyo_ok rfl)) st18 ?_
      refine ops_ok rfl (s_assign rfl gt18 (tyo_ok rfl)) st6 ?_
      refine ops_nil ?_
      refine q_seq ?_
      refine r_seq ?_
      refine r_region ?_
      refine ops_ok rfl (s_move rfl gt6 (tyo_ok rfl)) st19 ?_
      refine ops_len rfl (s_lenStr rfl rfl rfl rfl ty9 gt19) st20 fun hn22 => ?_
      replace hn22 := lenN hn22
      refine ops_ok rfl (s_bin rfl gt20 rfl rfl) st21 ?_
      refine ops_nil ?_
      refine q_seq ?_
      refine r_condF gt21 hF (fun hc23 hF => ?_) (fun hc23 hF => ?_)
      · skip
        refine r_seq ?_
        refine r_region ?_
        refine ops_ok rfl (s_assign rfl rfl (tyo_ok rfl)) st2 ?_
        refine ops_nil ?_
        refine q_seq ?_
        refine r_ret ?_
        refine q_block_ret ?_
        refine q_seq_ret ?_
        refine q_loop_ret ?_
        obtain rfl := Option.some.inj hF
        replace hF := hK2
        refine q_block_ret ?_
        refine q_seq_ret ?_
        refine q_block_ret ?_
        refine q_seq_ret ?_
        refine q_loop_ret ?_
        obtain rfl := Option.some.inj hF
        replace hF := hK1
        refine q_block_ret ?_
        refine q_seq_ret ?_
        obtain rfl := Option.some.inj hF
        refine q_retL1 rfl (rl_tmp gt2 rl_nil) (fin_ext (leV.refl _) rfl ?_)
        exact ⟨rfl, rfl⟩
      · skip
        refine r_skip ?_
        refine q_block ?_
        refine q_seq ?_
        refine r_region ?_
        refine ops_ok rfl (s_bin rfl gt15 rfl rfl) st22 ?_
        refine ops_ok rfl (s_move rfl gt22 (tyo_ok rfl)) st15 ?_
        refine ops_nil ?_
        refine q_loop ?_
        obtain rfl := Option.some.inj hF
        exact ⟨(), hl2, hK2, wk.le (by exact (.drop (.drop (.drop (.drop (.eq (.drop (.drop (.eq (.eq (.eq (.drop (.drop (.drop (.eq (.eq (.cons (leV.of_eq (w64e (by omega) (by omega))) (.drop (.drop (.drop (.drop (.drop (.drop (.drop (.drop (.drop (.drop (.drop leL.nil))))))))))))))))))))))))))))⟩
    · skip
      refine r_exit ?_
      refine q_seq_exit ?_
      refine q_loop_exit ?_
      refine q_block_hit ?_
      refine q_seq ?_
      refine r_seq ?_
      refine r_region ?_
      refine ops_ok rfl (s_move rfl gt4 (tyo_ok rfl)) st23 ?_
      refine ops_len rfl (s_lenSl rfl rfl rfl rfl el28 gt23 lenMap) st24 fun hn24 => ?_
      replace hn24 := lenN hn24
      refine ops_ok rfl (s_bin rfl gt24 rfl rfl) st25 ?_
      refine ops_nil ?_
      refine q_seq ?_
      refine r_condF gt25 hF (fun hc25 hF => ?_) (fun hc25 hF => ?_)
      · skip
        refine r_seq ?_
        refine r_region ?_
        refine ops_ok rfl (s_assign rfl rfl (tyo_ok rfl)) st2 ?_
        refine ops_nil ?_
        refine q_seq ?_
        refine r_ret ?_
        refine q_block_ret ?_
        refine q_seq_ret ?_
        refine q_loop_ret ?_
        obtain rfl := Option.some.inj hF
        replace hF := hK1
        refine q_block_ret ?_
        refine q_seq_ret ?_
        obtain rfl := Option.some.inj hF
        refine q_retL1 rfl (rl_tmp gt2 rl_nil) (fin_ext (leV.refl _) rfl ?_)
        exact ⟨rfl, rfl⟩
      · skip
        refine r_skip ?_
        refine q_block ?_
        refine q_seq ?_
        refine r_region ?_
        refine ops_ok rfl (s_bin rfl gt9 rfl rfl) st26 ?_
        refine ops_ok rfl (s_move rfl gt26 (tyo_ok rfl)) st9 ?_
        refine ops_nil ?_
        refine q_loop ?_
        obtain rfl := Option.some.inj hF
        exact ⟨(), hl1, hK1, wk.le (by exact (.drop (.drop (.drop (.drop (.drop (.drop (.drop (.eq (.eq (.cons (leV.of_eq (w64e (by omega) (by omega))) (.drop (.drop (.drop (.drop (.drop (.drop (.drop (.drop (.drop (.drop (.drop (.drop (.drop (.drop (.drop (.drop (.drop leL.nil))))))))))))))))))))))))))))⟩
  · skip
    refine r_exit ?_
    refine q_seq_exit ?_
    refine q_loop_exit ?_
    refine q_block_hit ?_
    refine q_seq ?_
    refine r_seq ?_
    refine r_region ?_
    refine ops_ok rfl (s_assign rfl rfl (tyo_ok rfl)) st2 ?_
    refine ops_nil ?_
    refine q_seq ?_
    refine r_ret ?_
    obtain rfl := Option.some.inj hF
    refine q_retL1 rfl (rl_tmp gt2 rl_nil) (fin_ext (leV.refl _) rfl ?_)
    exact ⟨rfl, rfl⟩
/-! varve/varvelaw30.PathsNarrow -/
theorem ok5 {t0 : (List GNode)} {p1 : (List Str)} {q2 : (List Str)} {res : Bool} {h : AH}  (hF : law30PathsNarrow t0 p1 q2 = some res) : Spec Try.prog 5 [.sl 3 (t0.map GNode.row), .sl 1 (p1.map strRow), .sl 1 (q2.map strRow)] h (fun rr hh => rr = .bool res ∧ hh = h) := by
  unfold law30PathsNarrow at hF
  refine spec_of_body_ext Try.func5 rfl (by kernel_rfl) (env := [.sl 3 (t0.map GNode.row), .sl 1 (p1.map strRow), .sl 1 (q2.map strRow), aundef, aundef, aundef, aundef, aundef, aundef, aundef, aundef, aundef, aundef, aundef, aundef, aundef, aundef, aundef, aundef, aundef, aundef, aundef, aundef, aundef, aundef, aundef, aundef, aundef, aundef, aundef, aundef, aundef, aundef, aundef, aundef, aundef, aundef, aundef, aundef, aundef, aundef, aundef, aundef, aundef, aundef, aundef, aundef, aundef, aundef, aundef, aundef, aundef, aundef, aundef, aundef, aundef, aundef, aundef, aundef, aundef, aundef, aundef, aundef, aundef, aundef, aundef, aundef, aundef, aundef, aundef, aundef, aundef, aundef, aundef, aundef, aundef, aundef, aundef, aundef, aundef, aundef, aundef, aundef, aundef, aundef, aundef, aundef, aundef, aundef, aundef, aundef, aundef, aundef, aundef, aundef, aundef, aundef, aundef, aundef, aundef, aundef, aundef, aundef, aundef, aundef, aundef, aundef, aundef, aundef, aundef, aundef, aundef, aundef, aundef, aundef]) (by rfl) ?_
  refine r_seq ?_
  refine r_region ?_
  refine ops_ok rfl (s_assign rfl rfl (tyo_ok rfl)) st6 ?_
  refine ops_nil ?_
  refine q_seq ?_
  refine r_seq ?_
  refine r_seq ?_
  refine r_region ?_
  refine ops_ok rfl (s_move rfl gt0 (tyo_ok rfl)) st18 ?_
  refine bindF hF (fun v1 hv1 hF => ?_)
  refine ops_callP rfl (s_call0 rfl rfl rfl (argo_cons gt18 argo_nil) (.cons (tyo_ok rfl) .nil)) (ok30 hv1) st19 ?_
  refine ops_ok rfl (s_move rfl gt19 (tyo_ok rfl)) st20 ?_
  refine ops_gv rfl (fun hb => s_move rfl gt1 (tyo_ok rfl)) st21 ?_
  refine ops_gv rfl (fun hb => s_move rfl gt2 (tyo_ok rfl)) st22 ?_
  refine ops_gv rfl (fun hb => s_buildSlice (es := ([p1, q2] : List (List Str)).map (fun l => [AV.sl 1 (l.map strRow)])) rfl el104 ze28 rfl rfl (parto_cons (evo_gv gt21 hb) (parto_cons (evo_gv gt22 hb) parto_nil)) (.cons (tyo_ok rfl) (.cons (tyo_ok rfl) .nil)) rfl rfl rfl) st23 ?_
  refine gbindF hF (fun v2 hv2 hF => ?_)
  refine ops_gcall rfl (fun hb => s_call0 rfl rfl rfl (argo_cons (evo_gv gt23 hb) argo_nil) (.cons (tyo_ok rfl) .nil)) (fun hb => (ok31 (hv2 hb)).le (.cons (leV.osl _ _ _) leL.nil)) st24 ?_
  refine ops_ok rfl (s_pick rfl gt20 rfl gt24 (pick_or (fun ht => gF ht))) st25 ?_
  refine ops_ok rfl (s_move rfl gt25 (tyo_ok rfl)) st26 ?_
  refine ops_gv rfl (fun hb => s_move rfl gt1 (tyo_ok rfl)) st27 ?_
  refine gbindF hF (fun v3 hv3 hF => ?_)
  refine ops_gcall rfl (fun hb => s_call0 rfl rfl rfl (argo_cons (evo_gv gt27 hb) argo_nil) (.cons (tyo_ok rfl) .nil)) (fun hb => ok32 (hv3 hb)) st28 ?_
  refine ops_gv rfl (fun hb => s_un rfl (evo_gv gt28 hb) rfl) st29 ?_
  refine ops_ok rfl (s_pick rfl gt26 rfl gt29 (pick_or (fun ht => gF ht))) st30 ?_
  refine ops_ok rfl (s_move rfl gt30 (tyo_ok rfl)) st31 ?_
  refine ops_gv rfl (fun hb => s_move rfl gt2 (tyo_ok rfl)) st32 ?_
  refine gbindF hF (fun v4 hv4 hF => ?_)
  refine ops_gcall rfl (fun hb => s_call0 rfl rfl rfl (argo_cons (evo_gv gt32 hb) argo_nil) (.cons (tyo_ok rfl) .nil)) (fun hb => ok32 (hv4 hb)) st33 ?_
  refine ops_gv rfl (fun hb => s_un rfl (evo_gv gt33 hb) rfl) st34 ?_
  refine ops_ok rfl (s_pick rfl gt31 rfl gt34 (pick_or (fun ht => gF ht))) st35 ?_
  refine ops_ok rfl (s_move rfl gt35 (tyo_ok rfl)) st36 ?_
  refine ops_gv rfl (fun hb => s_move rfl gt0 (tyo_ok rfl)) st37 ?_
  refine gbindF hF (fun v5 hv5 hF => ?_)
  refine ops_gcall rfl (fun hb => s_call0 rfl rfl rfl (argo_cons (evo_gv gt37 hb) argo_nil) (.cons (tyo_ok rfl) .nil)) (fun hb => ok33 (hv5 hb)) st38 ?_
  refine ops_gv rfl (fun hb => s_un rfl (evo_gv gt38 hb) rfl) st39 ?_
  refine ops_ok rfl (s_pick rfl gt36 rfl gt39 (pick_or (fun ht => gF ht))) (sk st0) ?_
  refine ops_nil ?_
  refine q_seq ?_
  refine r_condF (gk gt0) hF (fun hc6 hF => ?_) (fun hc6 hF => ?_)
  · skip
    refine r_seq ?_
    refine r_region ?_
    refine bindF hF (fun v7 hv7 hF => ?_)
    refine ops_callP rfl (s_call0 rfl rfl rfl argo_nil .nil) (ok34 hv7) (sk st1) ?_
    refine ops_ok rfl (s_assign rfl (gk gt1) (tyo_ok rfl)) st6 ?_
    refine ops_nil ?_
    refine q_seq ?_
    refine r_ret ?_
    refine q_seq_ret ?_
    obtain rfl := Option.some.inj hF
    refine q_retL1 rfl (rl_tmp gt6 rl_nil) (fin_ext (leV.refl _) rfl ?_)
    exact ⟨rfl, rfl⟩
  · skip
    refine r_skip ?_
    refine q_seq ?_
    refine r_seq ?_
    refine r_region ?_
    refine ops_ok rfl (s_move rfl gt0 (tyo_ok rfl)) (sk st3) ?_
    refine ops_ok rfl (s_move rfl gt1 (tyo_ok rfl)) (sk st4) ?_
    refine bindF hF (fun v8 hv8 hF => ?_)
    refine ops_callP rfl (s_call0 rfl rfl rfl (argo_cons (gk gt3) (argo_cons (gk gt4) argo_nil)) (.cons (tyo_ok rfl) (.cons (tyo_ok rfl) .nil))) (ok35 hv8) (sk st5) ?_
    refine ops_ok rfl (s_move rfl (gk gt5) (tyo_ok rfl)) (sk st2) ?_
    refine ops_ok rfl (s_extract rfl (gk gt2) rfl (tyo_ok rfl)) (sk st6) ?_
    refine ops_ok rfl (s_extract rfl (gk gt2) rfl (tyo_ok rfl)) (sk st7) ?_
    refine ops_ok rfl (s_assign rfl (gk gt6) (tyo_ok rfl)) st7 ?_
    refine ops_ok rfl (s_assign rfl (gk gt7) (tyo_ok rfl)) st8 ?_
    refine ops_nil ?_
    refine q_seq ?_
    refine r_seq ?_
    refine r_region ?_
    refine ops_ok rfl (s_move rfl gt7 (tyo_ok rfl)) (sk st9) ?_
    refine ops_ok rfl (s_move rfl gt2 (tyo_ok rfl)) (sk st10) ?_
    refine bindF hF (fun v9 hv9 hF => ?_)
    refine ops_callP rfl (s_call0 rfl rfl rfl (argo_cons (gk gt9) (argo_cons (gk gt10) argo_nil)) (.cons (tyo_ok rfl) (.cons (tyo_ok rfl) .nil))) (ok35 hv9) (sk st11) ?_
    refine ops_ok rfl (s_move rfl (gk gt11) (tyo_ok rfl)) (sk st8) ?_
    refine ops_ok rfl (s_extract rfl (gk gt8) rfl (tyo_ok rfl)) (sk st12) ?_
    refine ops_ok rfl (s_extract rfl (gk gt8) rfl (tyo_ok rfl)) (sk st13) ?_
    refine ops_ok rfl (s_assign rfl (gk gt12) (tyo_ok rfl)) st9 ?_
    refine ops_ok rfl (s_assign rfl (gk gt13) (tyo_ok rfl)) st10 ?_
    refine ops_nil ?_
    refine q_seq ?_
    refine r_seq ?_
    refine r_region ?_
    refine ops_ok rfl (s_move rfl gt0 (tyo_ok rfl)) (sk st15) ?_
    refine ops_ok rfl (s_move rfl gt2 (tyo_ok rfl)) (sk st16) ?_
    refine bindF hF (fun v10 hv10 hF => ?_)
    refine ops_callP rfl (s_call0 rfl rfl rfl (argo_cons (gk gt15) (argo_cons (gk gt16) argo_nil)) (.cons (tyo_ok rfl) (.cons (tyo_ok rfl) .nil))) (ok35 hv10) (sk st17) ?_
    refine ops_ok rfl (s_move rfl (gk gt17) (tyo_ok rfl)) (sk st14) ?_
    refine ops_ok rfl (s_extract rfl (gk gt14) rfl (tyo_ok rfl)) (sk st18) ?_
    refine ops_ok rfl (s_extract rfl (gk gt14) rfl (tyo_ok rfl)) (sk st19) ?_
    refine ops_ok rfl (s_assign rfl (gk gt18) (tyo_ok rfl)) st11 ?_
    refine ops_ok rfl (s_assign rfl (gk gt19) (tyo_ok rfl)) st12 ?_
    refine ops_nil ?_
    refine q_seq ?_
    refine r_seq ?_
    refine r_region ?_
    refine ops_ok rfl (s_move rfl gt11 (tyo_ok rfl)) (sk st21) ?_
    refine ops_ok rfl (s_move rfl gt1 (tyo_ok rfl)) (sk st22) ?_
    refine bindF hF (fun v11 hv11 hF => ?_)
    refine ops_callP rfl (s_call0 rfl rfl rfl (argo_cons (gk gt21) (argo_cons (gk gt22) argo_nil)) (.cons (tyo_ok rfl) (.cons (tyo_ok rfl) .nil))) (ok35 hv11) (sk st23) ?_
    refine ops_ok rfl (s_move rfl (gk gt23) (tyo_ok rfl)) (sk st20) ?_
    refine ops_ok rfl (s_extract rfl (gk gt20) rfl (tyo_ok rfl)) (sk st24) ?_
    refine ops_ok rfl (s_extract rfl (gk gt20) rfl (tyo_ok rfl)) (sk st25) ?_
    refine ops_ok rfl (s_assign rfl (gk gt24) (tyo_ok rfl)) st13 ?_
    refine ops_ok rfl (s_assign rfl (gk gt25) (tyo_ok rfl)) st14 ?_
    refine ops_nil ?_
    refine q_seq ?_
    refine r_seq ?_
    refine r_seq ?_
    refine r_region ?_
    refine ops_ok rfl (s_move rfl gt8 (tyo_ok rfl)) (sk st26) ?_
    refine ops_ok rfl (s_bin rfl (gk gt26) rfl rfl) (sk st27) ?_
    refine ops_ok rfl (s_move rfl (gk gt27) (tyo_ok rfl)) (sk st28) ?_
    refine ops_gv rfl (fun hb => s_move rfl gt10 (tyo_ok rfl)) (sk st29) ?_
    refine ops_gv rfl (fun hb => s_bin rfl (evo_gv (gk gt29) hb) rfl rfl) (sk st30) ?_
    refine ops_ok rfl (s_pick rfl (gk gt28) rfl (gk gt30) (pick_or (fun ht => gF ht))) (sk st31) ?_
    refine ops_ok rfl (s_move rfl (gk gt31) (tyo_ok rfl)) (sk st32) ?_
    refine ops_gv rfl (fun hb => s_move rfl gt12 (tyo_ok rfl)) (sk st33) ?_
    refine ops_gv rfl (fun hb => s_bin rfl (evo_gv (gk gt33) hb) rfl rfl) (sk st34) ?_
    refine ops_ok rfl (s_pick rfl (gk gt32) rfl (gk gt34) (pick_or (fun ht => gF ht))) (sk st35) ?_
    refine ops_ok rfl (s_move rfl (gk gt35) (tyo_ok rfl)) (sk st36) ?_
    refine ops_gv rfl (fun hb => s_move rfl gt14 (tyo_ok rfl)) (sk st37) ?_
    refine ops_gv rfl (fun hb => s_bin rfl (evo_gv (gk gt37) hb) rfl rfl) (sk st38) ?_
    refine ops_ok rfl (s_pick rfl (gk gt36) rfl (gk gt38) (pick_or (fun ht => gF ht))) (sk st39) ?_
    refine ops_ok rfl (s_move rfl (gk gt39) (tyo_ok rfl)) (sk (sk st0)) ?_
    refine ops_gv rfl (fun hb => s_move rfl gt9 (tyo_ok rfl)) (sk (sk st1)) ?_
    refine ops_gv rfl (fun hb => s_move rfl gt13 (tyo_ok rfl)) (sk (sk st2)) ?_
    refine gbindF hF (fun v12 hv12 hF => ?_)
    refine ops_gcall rfl (fun hb => s_call0 rfl rfl rfl (argo_cons (evo_gv (gk (gk gt1)) hb) (argo_cons (evo_gv (gk (gk gt2)) hb) argo_nil)) (.cons (tyo_ok rfl) (.cons (tyo_ok rfl) .nil))) (fun hb => ok36 (hv12 hb)) (sk (sk st3)) ?_
    refine ops_gv rfl (fun hb => s_un rfl (evo_gv (gk (gk gt3)) hb) rfl) (sk (sk st4)) ?_
    refine ops_ok rfl (s_pick rfl (gk (gk gt0)) rfl (gk (gk gt4)) (pick_or (fun ht => gF ht))) (sk (sk st5)) ?_
    refine ops_nil ?_
    refine q_seq ?_
    refine r_condF (gk (gk gt5)) hF (fun hc13 hF => ?_) (fun hc13 hF => ?_)
    · skip
      refine r_seq ?_
      refine r_region ?_
      refine ops_ok rfl (s_assign rfl rfl (tyo_ok rfl)) st6 ?_
      refine ops_nil ?_
      refine q_seq ?_
      refine r_ret ?_
      refine q_seq_ret ?_
      obtain rfl := Option.some.inj hF
      refine q_retL1 rfl (rl_tmp gt6 rl_nil) (fin_ext (leV.refl _) rfl ?_)
      exact ⟨rfl, rfl⟩
    · skip
      refine r_skip ?_
      refine q_seq ?_
      refine r_seq ?_
      refine r_region ?_
      refine ops_ok rfl (s_assign rfl rfl (ty_nil el61)) st15 ?_
      refine ops_nil ?_
      refine q_seq ?_
      refine r_seq ?_
      refine r_seq ?_
      refine r_region ?_
      refine ops_ok rfl (s_move rfl gt0 (tyo_ok rfl)) (sk (sk st6)) ?_
      refine bindF hF (fun v14 hv14 hF => ?_)
      refine ops_callP rfl (s_call0 rfl rfl rfl (argo_cons (gk (gk gt6)) argo_nil) (.cons (tyo_ok rfl) .nil)) (ok37 hv14) (sk (sk st7)) ?_
      refine ops_len rfl (s_lenSl rfl rfl rfl rfl el61 (gk (gk gt7)) lenMap) (sk (sk st8)) fun hn15 => ?_
      replace hn15 := lenN hn15
      refine ops_ok rfl (s_move rfl rfl (tyo_ok rfl)) (sk (sk st9)) ?_
      refine ops_nil ?_
      refine q_seq ?_
      refine r_block ?_
      refine r_loopLF (fun (n1 : Nat) (s1 : (List GRow)) => [(0, .any), (3, .any), (4, .any), (5, .any), (6, .any), (7, .any), (8, .any), (10, .any), (11, .any), (12, .any), (13, .any), (14, .any), (15, .osl (some (h.toks.length + 0)) 10 (s1.map GRow.row)), (16, .any), (17, .any), (18, .any), (19, .any), (20, .any), (21, .any), (22, .any), (23, .any), (24, .any), (25, .any), (26, .any), (27, .any), (28, .any), (29, .any), (30, .any), (31, .any), (32, .any), (33, .any), (34, .any), (35, .any), (36, .any), (37, .any), (38, .any), (39, .any), (40, .any), (41, .any), (42, .any), (43, .any), (44, .any), (45, .any), (46, .any), (47, .any), (48, .any), (49, .any), (50, .any), (51, .any), (52, .any), (53, .any), (54, .any), (55, .any), (56, .any), (57, .any), (58, .any), (59, .any), (60, .any), (61, .any), (62, .any), (63, .any), (64, .any), (65, .any), (66, .any), (67, .any), (68, .any), (69, .any), (70, .any), (71, .any), (72, .any), (73, .any), (74, .any), (75, .any), (76, .any), (77, .any), (78, .any), (79, .any), (80, .any), (81, .any), (82, .any), (83, .any), (84, .any), (85, .any), (86, .any), (89, .int .i64 (n1 : Int)), (90, .any), (91, .any), (92, .any), (93, .any), (94, .any), (95, .any), (96, .any), (97, .any), (98, .any), (99, .any), (100, .any), (101, .any), (102, .any), (103, .any), (104, .any), (105, .any), (106, .any), (107, .any), (108, .any), (109, .any), (110, .any), (111, .any), (112, .any), (113, .any), (114, .any)]) (fun s1 => h.ext [] [(s1).length]) hF (fun _ _ => by simp only [upd, List.set_cons_succ, List.set_cons_zero]; try rfl) (wk.trans (wk_tok gt15 rfl st15 rfl) (wk.le (by exact (.drop (.eq (.eq (.drop (.drop (.drop (.drop (.drop (.drop (.eq (.drop (.drop (.drop (.drop (.drop (.cons (leV.of_eq rfl) (.drop (.drop (.drop (.drop (.drop (.drop (.drop (.drop (.drop (.drop (.drop (.drop (.drop (.drop (.drop (.drop (.drop (.drop (.drop (.drop (.drop (.drop (.drop (.drop (.drop (.drop (.drop (.drop (.drop (.drop (.drop (.drop (.drop (.drop (.drop (.drop (.drop (.drop (.drop (.drop (.drop (.drop (.drop (.drop (.drop (.drop (.drop (.drop (.drop (.drop (.drop (.drop (.drop (.drop (.drop (.drop (.drop (.drop (.drop (.drop (.drop (.drop (.drop (.drop (.drop (.drop (.drop (.drop (.drop (.drop (.drop (.eq (.eq (.cons (leV.of_eq rfl) (.drop (.drop (.drop (.drop (.drop (.drop (.drop (.drop (.drop (.drop (.drop (.drop (.drop (.drop (.drop (.drop (.drop (.drop (.drop (.drop (.drop (.drop (.drop (.drop (.drop leL.nil)))))))))))))))))))))))))))))))))))))))))))))))))))))))))))))))))))))))))))))))))))))))))))))))))))))))))))))))))))))) ?_
      intro n1 s1 hi1 hF
      refine r_seq ?_
      refine r_region ?_
      refine ops_ok rfl (s_bin rfl (gk (gk gt9)) (gk (gk gt8)) rfl) (sk (sk st10)) ?_
      refine ops_nil ?_
      refine q_seq ?_
      refine r_seq ?_
      refine r_condL (gk (gk gt10)) hF (fun x1 o1 hl1 hx1 hF hK1 => ?_) (fun hF => ?_)
      · skip
        refine r_skip ?_
        refine q_seq ?_
        refine r_seq ?_
        refine r_block ?_
        refine r_seq ?_
        refine r_region ?_
        refine ops_ok rfl (s_idxRow rfl el61 (gk (gk gt7)) (gk (gk gt9)) isl (idx_of hx1)) (sk (sk st11)) ?_
        refine ops_ok rfl (f_load rfl ty67.choose_spec.1 (gk (gk gt11)) (ldC_agX (cs' := [.sl 1 (x1.path.map strRow), .int .u8 x1.leaf.typ, .int .i64 x1.leaf.n, .int .u64 x1.leaf.time, .int .u8 x1.leaf.dot.actor.rep, .int .u32 x1.leaf.dot.actor.inc, .int .u64 x1.leaf.dot.seq, .str x1.leaf.text, .sl 5 (x1.leaf.items.map GItem.row), .sl 3 (x1.leaf.tombs.map GDot.row)]) ty67.choose_spec.2 rfl rfl) (tyo_ok rfl)) (sk (sk st12)) ?_
        refine ops_ok rfl (e_alloc (n := 0) rfl ze67 rfl) st17 ?_
        refine ops_ok rfl (e_store (cs' := [.sl 1 (x1.path.map strRow), .int .u8 x1.leaf.typ, .int .i64 x1.leaf.n, .int .u64 x1.leaf.time, .int .u8 x1.leaf.dot.actor.rep, .int .u32 x1.leaf.dot.actor.inc, .int .u64 x1.leaf.dot.seq, .str x1.leaf.text, .sl 5 (x1.leaf.items.map GItem.row), .sl 3 (x1.leaf.tombs.map GDot.row)]) rfl ty67.choose_spec.1 gt17 (gk (gk gt12)) (tyo_ok rfl) rfl rfl rfl rfl rfl) rfl ?_
        refine ops_nil ?_
        refine q_seq ?_
        refine r_seq ?_
        refine r_region ?_
        refine ops_ok rfl (s_move rfl gt1 (tyo_ok rfl)) (sk (sk st13)) ?_
        refine ops_ok rfl (s_fieldAddr rfl fo67x0 gt17 rfl) (sk (sk st14)) ?_
        refine ops_ok rfl (e_load rfl ty28 (gk (gk gt14)) rfl (ldC_one rfl) (tyo_ok rfl)) (sk (sk st15)) ?_
        refine bindF hF (fun v24 hv24 hF => ?_)
        refine ops_callP rfl (s_call0 rfl rfl rfl (argo_cons (gk (gk gt13)) (argo_cons (gk (gk gt15)) argo_nil)) (.cons (tyo_ok rfl) (.cons (tyo_ok rfl) .nil))) (ok38 hv24) (sk (sk st16)) ?_
        refine ops_ok rfl (s_move rfl (gk (gk gt16)) (tyo_ok rfl)) (sk (sk st17)) ?_
        refine ops_gv rfl (fun hb => s_move rfl gt2 (tyo_ok rfl)) (sk (sk st18)) ?_
        refine ops_gv rfl (fun hb => s_fieldAddr rfl fo67x0 gt17 rfl) (sk (sk st19)) ?_
        refine ops_gv rfl (fun hb => e_load rfl ty28 (evo_gv (gk (gk gt19)) hb) rfl (ldC_one rfl) (tyo_ok rfl)) (sk (sk st20)) ?_
        refine gbindF hF (fun v25 hv25 hF => ?_)
        refine ops_gcall rfl (fun hb => s_call0 rfl rfl rfl (argo_cons (evo_gv (gk (gk gt18)) hb) (argo_cons (evo_gv (gk (gk gt20)) hb) argo_nil)) (.cons (tyo_ok rfl) (.cons (tyo_ok rfl) .nil))) (fun hb => ok38 (hv25 hb)) (sk (sk st21)) ?_
        refine ops_ok rfl (s_pick rfl (gk (gk gt17)) (gk (gk gt21)) rfl (pick_and (fun ht => gT ht))) (sk (sk st22)) ?_
        refine ops_nil ?_
        refine q_seq ?_
        refine r_condF (gk (gk gt22)) hF (fun hc26 hF => ?_) (fun hc26 hF => ?_)
        · skip
          refine r_region ?_
          refine ops_ok rfl (s_move rfl gt15 (tyo_ok rfl)) (sk (sk st23)) ?_
          refine ops_ok rfl (e_load rfl ty67.choose_spec.1 gt17 rfl (ldC_agX (cs' := [.sl 1 (x1.path.map strRow), .int .u8 x1.leaf.typ, .int .i64 x1.leaf.n, .int .u64 x1.leaf.time, .int .u8 x1.leaf.dot.actor.rep, .int .u32 x1.leaf.dot.actor.inc, .int .u64 x1.leaf.dot.seq, .str x1.leaf.text, .sl 5 (x1.leaf.items.map GItem.row), .sl 3 (x1.leaf.tombs.map GDot.row)]) ty67.choose_spec.2 rfl rfl) (tyo_ok rfl)) (sk (sk st24)) ?_
          refine ops_ok rfl (s_buildSlice (es := ([x1] : List GRow).map GRow.row) rfl el61 ze67 rfl rfl (parto_cons (gk (gk gt24)) parto_nil) (.cons (tyo_ok rfl) .nil) rfl rfl rfl) (sk (sk st25)) ?_
          refine chkF hF (fun hm27 hF => ?_)
          refine ops_ok rfl (e_appT (j := 0) (T' := [((s1 ++ ([x1] : List GRow))).length]) rfl rfl rfl rfl el61 el61 (gk (gk gt23)) (gk (gk gt25)) (tyo_ok rfl) (tyo_ok rfl) news_osl hm27 rfl rfl) (sk (sk st26)) ?_
          refine ops_ok rfl (s_assign rfl (gk (gk gt26)) (tyo_ok rfl)) st15 ?_
          refine ops_nil ?_
          refine q_block ?_
          refine q_seq ?_
          refine r_region ?_
          refine ops_ok rfl (s_bin rfl (gk (gk gt9)) rfl rfl) (sk (sk st27)) ?_
          refine ops_ok rfl (s_move rfl (gk (gk gt27)) (tyo_ok rfl)) (sk (sk st9)) ?_
          refine ops_nil ?_
          refine q_loop ?_
          obtain rfl := Option.some.inj hF
          exact ⟨(s1 ++ ([x1] : List GRow)), hl1, hK1, wk.trans (wk.le (by exact (.drop (.eq (.eq (.drop (.drop (.drop (.drop (.drop (.drop (.eq (.drop (.drop (.drop (.drop (.drop (.cons (leV.of_eq rfl) (.drop (.drop (.drop (.drop (.drop (.drop (.drop (.drop (.drop (.drop (.drop (.drop (.drop (.drop (.drop (.drop (.drop (.drop (.drop (.drop (.drop (.drop (.drop (.drop (.drop (.drop (.drop (.drop (.drop (.drop (.drop (.drop (.drop (.drop (.drop (.drop (.drop (.drop (.drop (.drop (.drop (.drop (.drop (.drop (.drop (.drop (.drop (.drop (.drop (.drop (.drop (.drop (.drop (.drop (.drop (.drop (.drop (.drop (.drop (.drop (.drop (.drop (.drop (.drop (.drop (.drop (.drop (.drop (.drop (.drop (.drop (.eq (.eq (.cons (leV.of_eq (w64e (by omega) (by omega))) (.drop (.drop (.drop (.drop (.drop (.drop (.drop (.drop (.drop (.drop (.drop (.drop (.drop (.drop (.drop (.drop (.drop (.drop (.drop (.drop (.drop (.drop (.drop (.drop (.drop leL.nil))))))))))))))))))))))))))))))))))))))))))))))))))))))))))))))))))))))))))))))))))))))))))))))))))))))))))))))))))))) (wk_ext3 (by simp [lowL, AV.low]) rfl rfl (by simp [Blk.low, lowL, AV.low]))⟩
        · skip
          refine r_skip ?_
          refine q_block ?_
          refine q_seq ?_
          refine r_region ?_
          refine ops_ok rfl (s_bin rfl (gk (gk gt9)) rfl rfl) (sk (sk st27)) ?_
          refine ops_ok rfl (s_move rfl (gk (gk gt27)) (tyo_ok rfl)) (sk (sk st9)) ?_
          refine ops_nil ?_
          refine q_loop ?_
          obtain rfl := Option.some.inj hF
          exact ⟨s1, hl1, hK1, wk.trans (wk.le (by exact (.drop (.eq (.eq (.drop (.drop (.drop (.drop (.drop (.drop (.eq (.drop (.drop (.drop (.drop (.drop (.cons (leV.of_eq rfl) (.drop (.drop (.drop (.drop (.drop (.drop (.drop (.drop (.drop (.drop (.drop (.drop (.drop (.drop (.drop (.drop (.drop (.drop (.drop (.drop (.drop (.drop (.drop (.drop (.drop (.drop (.drop (.drop (.drop (.drop (.drop (.drop (.drop (.drop (.drop (.drop (.drop (.drop (.drop (.drop (.drop (.drop (.drop (.drop (.drop (.drop (.drop (.drop (.drop (.drop (.drop (.drop (.drop (.drop (.drop (.drop (.drop (.drop (.drop (.drop (.drop (.drop (.drop (.drop (.drop (.drop (.drop (.drop (.drop (.drop (.drop (.eq (.eq (.cons (leV.of_eq (w64e (by omega) (by omega))) (.drop (.drop (.drop (.drop (.drop (.drop (.drop (.drop (.drop (.drop (.drop (.drop (.drop (.drop (.drop (.drop (.drop (.drop (.drop (.drop (.drop (.drop (.drop (.drop (.drop leL.nil))))))))))))))))))))))))))))))))))))))))))))))))))))))))))))))))))))))))))))))))))))))))))))))))))))))))))))))))))))) (wk_ext3 (by simp [lowL, AV.low]) rfl rfl (by simp [Blk.low, lowL, AV.low]))⟩
      · skip
        refine r_exit ?_
        refine q_seq_exit ?_
        refine q_loop_exit ?_
        refine q_block_hit ?_
        refine q_seq ?_
        refine r_seq ?_
        refine r_region ?_
        refine ops_ok rfl (s_move rfl gt9 (tyo_ok rfl)) (sk (sk st28)) ?_
        refine bindF hF (fun v28 hv28 hF => ?_)
        refine ops_callP rfl (s_call0 rfl rfl rfl (argo_cons (gk (gk gt28)) argo_nil) (.cons (tyo_ok rfl) .nil)) (ok37 hv28) (sk (sk st29)) ?_
        refine ops_ok rfl (s_move rfl gt15 (tyo_ok rfl)) (sk (sk st30)) ?_
        refine bindF hF (fun v29 hv29 hF => ?_)
        refine ops_callP rfl (s_call0 rfl rfl rfl (argo_cons (gk (gk gt29)) (argo_cons (gk (gk gt30)) argo_nil)) (.cons (tyo_ok rfl) (.cons (tyo_ok rfl) .nil))) ((ok39 hv29).le (.eq (.cons (leV.osl _ _ _) leL.nil))) (sk (sk st31)) ?_
        refine ops_ok rfl (s_move rfl (gk (gk gt31)) (tyo_ok rfl)) (sk (sk st32)) ?_
        refine gbindF hF (fun v30 hv30 hF => ?_)
        refine ops_gcall rfl (fun hb => s_call0 rfl rfl rfl argo_nil .nil) (fun hb => ok34 (hv30 hb)) (sk (sk st33)) ?_
        refine ops_ok rfl (s_pick rfl (gk (gk gt32)) (gk (gk gt33)) rfl (pick_and (fun ht => gT ht))) (sk (sk st34)) ?_
        refine ops_ok rfl (s_assign rfl (gk (gk gt34)) (tyo_ok rfl)) st6 ?_
        refine ops_nil ?_
        refine q_seq ?_
        refine r_ret ?_
        obtain rfl := Option.some.inj hF
        refine q_retL1 rfl (rl_tmp gt6 rl_nil) (fin_ext (leV.refl _) rfl ?_)
        exact ⟨rfl, rfl⟩
end Go.Vv
