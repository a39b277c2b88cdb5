/- Each function that the law reaches computes what its reading says; printed by a program. -/
import Derived.Test.YtlkpeiojgenhaaaW2
namespace Go.Vv
open Go Go.Proofs
set_option maxRecDepth 100000
set_option maxHeartbeats 1000000
set_option linter.unusedSimpArgs false
set_option linter.unusedVariables false
/-! varve/varveref07.size -/
theorem ok70N (n : Nat) : ∀ {t0 : (List GNode)} {deep1 : Int} {res : Int} {h : AH} , ref07XsizeN n t0 deep1 = some res → Spec Try.prog 70 [.sl 3 (t0.map GNode.row), .int .i64 deep1] h (fun rr hh => rr = .int .i64 res ∧ hh = h) := by
  induction n with
  | zero => intro t0 deep1 res h  hF; simp [ref07XsizeN] at hF
  | succ n ih =>
    intro t0 deep1 res h  hF
    unfold ref07XsizeN at hF
    refine spec_of_body_ext Try.func70 rfl (by kernel_rfl) (env := [.sl 3 (t0.map GNode.row), .int .i64 deep1, aundef, aundef, aundef, aundef, aundef, aundef, aundef, aundef, aundef, aundef, aundef, aundef, aundef, aundef, aundef, aundef, aundef, aundef, aundef, aundef, aundef, aundef, aundef, aundef, aundef, aundef, aundef, aundef, aundef, aundef, aundef, aundef, aundef, aundef, aundef, aundef, aundef, aundef, aundef, aundef, aundef, aundef, aundef, aundef, aundef, aundef, aundef, aundef, aundef, aundef, aundef, aundef, aundef, aundef, aundef, aundef, aundef, aundef, aundef, aundef, aundef, aundef, aundef, aundef, aundef, aundef, aundef, aundef, aundef, aundef, aundef, aundef, aundef, aundef, aundef, aundef, aundef, aundef, aundef, aundef, aundef, aundef]) (by rfl) ?_
    refine r_seq ?_
    refine r_region ?_
    refine ops_ok rfl (s_assign rfl rfl (tyo_ok rfl)) st4 ?_
    refine ops_nil ?_
    refine q_seq ?_
    refine r_seq ?_
    refine r_region ?_
    refine ops_ok rfl (s_assign rfl rfl (tyo_ok rfl)) st5 ?_
    refine ops_nil ?_
    refine q_seq ?_
    refine r_seq ?_
    refine r_seq ?_
    refine r_region ?_
    refine ops_ok rfl (s_assign rfl rfl (tyo_ok rfl)) st6 ?_
    refine ops_nil ?_
    refine q_seq ?_
    refine r_block ?_
    refine r_loopWF (fun (s1 : Int × Int) => [(2, .any), (3, .any), (4, .any), (5, .int .i64 s1.1), (6, .int .i64 s1.2), (7, .any), (8, .any), (9, .any), (10, .any), (11, .any), (12, .any), (13, .any), (14, .any), (15, .any), (16, .any), (17, .any), (18, .any), (19, .any), (20, .any), (21, .any), (22, .any), (23, .any), (24, .any), (25, .any), (26, .any), (27, .any), (28, .any), (29, .any), (30, .any), (31, .any), (32, .any), (33, .any), (34, .any), (35, .any), (36, .any), (37, .any), (38, .any), (39, .any), (40, .any), (41, .any), (42, .any), (43, .any), (44, .any), (45, .any), (46, .any), (47, .any), (48, .any), (49, .any), (50, .any), (51, .any), (52, .any), (53, .any), (54, .any), (55, .any), (56, .any), (57, .any), (58, .any), (59, .any), (60, .any), (61, .any), (62, .any), (63, .any), (64, .any), (65, .any), (66, .any), (67, .any), (68, .any), (69, .any), (70, .any), (71, .any), (72, .any), (73, .any), (74, .any), (75, .any), (76, .any), (77, .any), (78, .any), (79, .any), (80, .any), (81, .any), (82, .any), (83, .any)]) (fun s1 => h.ext [] []) hF (fun _ => by simp only [upd, List.set_cons_succ, List.set_cons_zero]; try rfl) (wk.le (by exact (.eq (.eq (.drop (.drop (.drop (.cons (leV.of_eq rfl) (.cons (leV.of_eq rfl) (.drop (.drop (.drop (.drop (.drop (.drop (.drop (.drop (.drop (.drop (.drop (.drop (.drop (.drop (.drop (.drop (.drop (.drop (.drop (.drop (.drop (.drop (.drop (.drop (.drop (.drop (.drop (.drop (.drop (.drop (.drop (.drop (.drop (.drop (.drop (.drop (.drop (.drop (.drop (.drop (.drop (.drop (.drop (.drop (.drop (.drop (.drop (.drop (.drop (.drop (.drop (.drop (.drop (.drop (.drop (.drop (.drop (.drop (.drop (.drop (.drop (.drop (.drop (.drop (.drop (.drop (.drop (.drop (.drop (.drop (.drop (.drop (.drop (.drop (.drop (.drop (.drop leL.nil)))))))))))))))))))))))))))))))))))))))))))))))))))))))))))))))))))))))))))))))))))))) ?_
    intro n1 s1 o1 hF hK1
    refine r_seq ?_
    refine r_seq ?_
    refine r_region ?_
    refine ops_ok rfl (s_move rfl gt6 (tyo_ok rfl)) st10 ?_
    refine ops_ok rfl (s_move rfl gt0 (tyo_ok rfl)) st11 ?_
    refine ops_len rfl (s_lenSl rfl rfl rfl rfl el54 gt11 lenMap) st12 fun hn66 => ?_
    replace hn66 := lenN hn66
    refine ops_ok rfl (s_bin rfl gt10 gt12 rfl) st13 ?_
    refine ops_ok rfl (s_move rfl gt13 (tyo_ok rfl)) st14 ?_
    refine ops_gv rfl (fun hb => s_move rfl gt1 (tyo_ok rfl)) st15 ?_
    refine ops_gv rfl (fun hb => s_bin rfl (evo_gv gt15 hb) rfl rfl) st16 ?_
    refine ops_ok rfl (s_pick rfl gt14 gt16 rfl (pick_and (fun ht => gT ht))) st17 ?_
    refine ops_nil ?_
    refine q_seq ?_
    refine r_condF gt17 hF (fun hc67 hF => ?_) (fun hc67 hF => ?_)
    · skip
      refine r_skip ?_
      refine q_seq ?_
      refine r_seq ?_
      refine r_block ?_
      refine r_seq ?_
      refine r_drawn [16] [] trivial mixed (by kernel_rfl) ?_
      refine draw_ok rfl rfl (s_move rfl gt5 (tyo_ok rfl)) st20 ?_
      refine draw_ok rfl rfl (s_bin rfl gt20 rfl rfl) st21 ?_
      refine draw_ok rfl rfl (s_move rfl gt0 (tyo_ok rfl)) st22 ?_
      refine draw_ok rfl rfl (s_move rfl gt6 (tyo_ok rfl)) st23 ?_
      refine bindF hF (fun y68 hy68 hF => ?_)
      refine draw_ok rfl rfl (s_idxRowE rfl el54 gt22 gt23 isl hy68 (GNode.row_eq _)) st24 ?_
      refine draw_ok rfl rfl (s_fieldAddr rfl fo85x0 gt24 rfl) st25 ?_
      refine draw_ok rfl rfl (f_load rfl ty9 gt25 (ldC_one rfl) (tyo_ok rfl)) st26 ?_
      refine draw_len rfl rfl (s_lenStr rfl rfl rfl rfl ty9 gt26) st27 ?_
      refine draw_ok rfl rfl (s_bin rfl gt21 gt27 rfl) st28 ?_
      refine draw_ok rfl rfl (s_move rfl gt0 (tyo_ok rfl)) st29 ?_
      refine draw_ok rfl rfl (s_move rfl gt6 (tyo_ok rfl)) st30 ?_
      refine bindF hF (fun y70 hy70 hF => ?_)
      refine draw_ok rfl rfl (s_idxRowE rfl el54 gt29 gt30 isl hy70 (GNode.row_eq _)) st31 ?_
      refine draw_ok rfl rfl (s_fieldAddr rfl fo85x2 gt31 rfl) st32 ?_
      refine draw_ok rfl rfl (f_load rfl ty54 gt32 (ldC_one rfl) (tyo_ok rfl)) st33 ?_
      refine draw_ok rfl rfl (s_move rfl gt1 (tyo_ok rfl)) st34 ?_
      refine draw_ok rfl rfl (s_bin rfl gt34 rfl rfl) st35 ?_
      refine bindF hF (fun v71 hv71 hF => ?_)
      refine draw_callN rfl rfl (fun _ => s_call0 rfl rfl rfl (argo_cons gt33 (argo_cons gt35 argo_nil)) (.cons (tyo_ok rfl) (.cons (tyo_ok rfl) .nil))) (by rintro _ ⟨B2, T2, rfl, hk2⟩; exact ih hv71) st36 ?_
      refine draw_ok rfl rfl (s_bin rfl gt28 gt36 rfl) st37 ?_
      refine draw_ok rfl rfl (s_assign rfl gt37 (tyo_ok rfl)) st5 ?_
      refine draw_nil ?_
      refine q_seq ?_
      refine r_seq ?_
      refine r_region ?_
      refine ops_ok rfl (s_assign rfl rfl (tyo_ok rfl)) st7 ?_
      refine ops_nil ?_
      refine q_seq ?_
      refine r_block ?_
      refine r_loopWF (fun (s2 : Int × Int) => [(2, .any), (3, .any), (4, .any), (5, .int .i64 s2.1), (7, .int .i64 s2.2), (8, .any), (9, .any), (10, .any), (11, .any), (12, .any), (13, .any), (14, .any), (15, .any), (16, .any), (17, .any), (18, .any), (19, .any), (20, .any), (21, .any), (22, .any), (23, .any), (24, .any), (25, .any), (26, .any), (27, .any), (28, .any), (29, .any), (30, .any), (31, .any), (32, .any), (33, .any), (34, .any), (35, .any), (36, .any), (37, .any), (38, .any), (39, .any), (40, .any), (41, .any), (42, .any), (43, .any), (44, .any), (45, .any), (46, .any), (47, .any), (48, .any), (49, .any), (50, .any), (51, .any), (52, .any), (53, .any), (54, .any), (55, .any), (56, .any), (57, .any), (58, .any), (59, .any), (60, .any), (61, .any), (62, .any), (63, .any), (64, .any), (65, .any), (66, .any), (67, .any), (68, .any), (69, .any), (70, .any), (71, .any), (72, .any), (73, .any), (74, .any), (75, .any), (76, .any), (77, .any), (78, .any), (79, .any), (80, .any), (81, .any), (82, .any), (83, .any)]) (fun s2 => h.ext [] []) hF (fun _ => by simp only [upd, List.set_cons_succ, List.set_cons_zero]; try rfl) (wk.le (by exact (.eq (.eq (.drop (.drop (.drop (.cons (leV.of_eq rfl) (.eq (.cons (leV.of_eq rfl) (.drop (.drop (.drop (.drop (.drop (.drop (.drop (.drop (.drop (.drop (.drop (.drop (.drop (.drop (.drop (.drop (.drop (.drop (.drop (.drop (.drop (.drop (.drop (.drop (.drop (.drop (.drop (.drop (.drop (.drop (.drop (.drop (.drop (.drop (.drop (.drop (.drop (.drop (.drop (.drop (.drop (.drop (.drop (.drop (.drop (.drop (.drop (.drop (.drop (.drop (.drop (.drop (.drop (.drop (.drop (.drop (.drop (.drop (.drop (.drop (.drop (.drop (.drop (.drop (.drop (.drop (.drop (.drop (.drop (.drop (.drop (.drop (.drop (.drop (.drop (.drop leL.nil)))))))))))))))))))))))))))))))))))))))))))))))))))))))))))))))))))))))))))))))))))))) ?_
      intro n2 s2 o2 hF hK2
      refine r_seq ?_
      refine r_seq ?_
      refine r_region ?_
      refine ops_ok rfl (s_move rfl gt7 (tyo_ok rfl)) st38 ?_
      refine ops_ok rfl (s_move rfl gt0 (tyo_ok rfl)) st39 ?_
      refine ops_ok rfl (s_move rfl gt6 (tyo_ok rfl)) (sk st0) ?_
      refine bindF hF (fun y102 hy102 hF => ?_)
      refine ops_ok rfl (s_idxRowE rfl el54 gt39 (gk gt0) isl hy102 (GNode.row_eq _)) (sk st1) ?_
      refine ops_ok rfl (s_fieldAddr rfl fo85x1 (gk gt1) rfl) (sk st2) ?_
      refine ops_ok rfl (f_load rfl ty83 (gk gt2) (ldC_one rfl) (tyo_ok rfl)) (sk st3) ?_
      refine ops_len rfl (s_lenSl rfl rfl rfl rfl el83 (gk gt3) lenMap) (sk st4) fun hn103 => ?_
      replace hn103 := lenN hn103
      refine ops_ok rfl (s_bin rfl gt38 (gk gt4) rfl) (sk st5) ?_
      refine ops_nil ?_
      refine q_seq ?_
      refine r_condF (gk gt5) hF (fun hc104 hF => ?_) (fun hc104 hF => ?_)
      · skip
        refine r_skip ?_
        refine q_seq ?_
        refine r_seq ?_
        refine r_block ?_
        refine r_seq ?_
        refine r_region ?_
        refine ops_ok rfl (s_move rfl gt0 (tyo_ok rfl)) (sk st8) ?_
        refine ops_ok rfl (s_move rfl gt6 (tyo_ok rfl)) (sk st9) ?_
        refine bindF hF (fun y105 hy105 hF => ?_)
        refine ops_ok rfl (s_idxRowE rfl el54 (gk gt8) (gk gt9) isl hy105 (GNode.row_eq _)) (sk st10) ?_
        refine ops_ok rfl (s_fieldAddr rfl fo85x1 (gk gt10) rfl) (sk st11) ?_
        refine ops_ok rfl (f_load rfl ty83 (gk gt11) (ldC_one rfl) (tyo_ok rfl)) (sk st12) ?_
        refine ops_ok rfl (s_move rfl gt7 (tyo_ok rfl)) (sk st13) ?_
        refine bindF hF (fun y106 hy106 hF => ?_)
        refine ops_ok rfl (s_idxRow rfl el83 (gk gt12) (gk gt13) isl hy106) (sk st14) ?_
        refine ops_ok rfl (f_load rfl ty65.choose_spec.1 (gk gt14) (ldC_agX (cs' := [.int .u8 y106.typ, .int .i64 y106.n, .int .u64 y106.time, .int .u8 y106.dot.actor.rep, .int .u32 y106.dot.actor.inc, .int .u64 y106.dot.seq, .str y106.text, .sl 5 (y106.items.map GItem.row), .sl 3 (y106.tombs.map GDot.row)]) ty65.choose_spec.2 rfl rfl) (tyo_ok rfl)) (sk st15) ?_
        refine ops_ok rfl (e_alloc (n := 0) rfl ze65 rfl) st8 ?_
        refine ops_ok rfl (e_store (cs' := [.int .u8 y106.typ, .int .i64 y106.n, .int .u64 y106.time, .int .u8 y106.dot.actor.rep, .int .u32 y106.dot.actor.inc, .int .u64 y106.dot.seq, .str y106.text, .sl 5 (y106.items.map GItem.row), .sl 3 (y106.tombs.map GDot.row)]) rfl ty65.choose_spec.1 gt8 (gk gt15) (tyo_ok rfl) rfl rfl rfl rfl rfl) rfl ?_
        refine ops_nil ?_
        refine q_seq ?_
        refine r_seq ?_
        refine r_region ?_
        refine ops_ok rfl (s_move rfl gt5 (tyo_ok rfl)) (sk st16) ?_
        refine ops_ok rfl (s_bin rfl (gk gt16) rfl rfl) (sk st17) ?_
        refine ops_ok rfl (s_fieldAddr rfl fo65x4 gt8 rfl) (sk st18) ?_
        refine ops_ok rfl (e_load rfl ty9 (gk gt18) rfl (ldC_one rfl) (tyo_ok rfl)) (sk st19) ?_
        refine ops_len rfl (s_lenStr rfl rfl rfl rfl ty9 (gk gt19)) (sk st20) fun hn107 => ?_
        replace hn107 := lenN hn107
        refine ops_ok rfl (s_bin rfl (gk gt17) (gk gt20) rfl) (sk st21) ?_
        refine ops_ok rfl (s_fieldAddr rfl fo65x6 gt8 rfl) (sk st22) ?_
        refine ops_ok rfl (e_load rfl ty29 (gk gt22) rfl (ldC_one rfl) (tyo_ok rfl)) (sk st23) ?_
        refine ops_len rfl (s_lenSl rfl rfl rfl rfl el29 (gk gt23) lenMap) (sk st24) fun hn108 => ?_
        replace hn108 := lenN hn108
        refine ops_ok rfl (s_bin rfl (gk gt21) (gk gt24) rfl) (sk st25) ?_
        refine ops_ok rfl (s_assign rfl (gk gt25) (tyo_ok rfl)) st5 ?_
        refine ops_nil ?_
        refine q_seq ?_
        refine r_seq ?_
        refine r_region ?_
        refine ops_ok rfl (s_assign rfl rfl (tyo_ok rfl)) st9 ?_
        refine ops_nil ?_
        refine q_seq ?_
        refine r_block ?_
        refine r_loopLF (fun (n3 : Nat) (s3 : Int) => [(2, .any), (3, .any), (4, .any), (5, .int .i64 s3), (9, .int .i64 (n3 : Int)), (10, .any), (11, .any), (12, .any), (13, .any), (14, .any), (15, .any), (16, .any), (17, .any), (18, .any), (19, .any), (20, .any), (21, .any), (22, .any), (23, .any), (24, .any), (25, .any), (26, .any), (27, .any), (28, .any), (29, .any), (30, .any), (31, .any), (32, .any), (33, .any), (34, .any), (35, .any), (36, .any), (37, .any), (38, .any), (39, .any), (40, .any), (41, .any), (42, .any), (43, .any), (44, .any), (45, .any), (46, .any), (47, .any), (48, .any), (49, .any), (50, .any), (51, .any), (52, .any), (53, .any), (54, .any), (55, .any), (56, .any), (57, .any), (58, .any), (59, .any), (60, .any), (61, .any), (62, .any), (63, .any), (64, .any), (65, .any), (66, .any), (67, .any), (68, .any), (69, .any), (70, .any), (71, .any), (72, .any), (73, .any), (74, .any), (75, .any), (76, .any), (77, .any), (78, .any), (79, .any), (80, .any), (81, .any), (82, .any), (83, .any)]) (fun s3 => h.ext [.cells [.int .u8 y106.typ, .int .i64 y106.n, .int .u64 y106.time, .int .u8 y106.dot.actor.rep, .int .u32 y106.dot.actor.inc, .int .u64 y106.dot.seq, .str y106.text, .sl 5 (y106.items.map GItem.row), .sl 3 (y106.tombs.map GDot.row)]] []) hF (fun _ _ => by simp only [upd, List.set_cons_succ, List.set_cons_zero]; try rfl) (wk.le (by exact (.eq (.eq (.drop (.drop (.drop (.cons (leV.of_eq rfl) (.eq (.eq (.eq (.cons (leV.of_eq rfl) (.drop (.drop (.drop (.drop (.drop (.drop (.drop (.drop (.drop (.drop (.drop (.drop (.drop (.drop (.drop (.drop (.drop (.drop (.drop (.drop (.drop (.drop (.drop (.drop (.drop (.drop (.drop (.drop (.drop (.drop (.drop (.drop (.drop (.drop (.drop (.drop (.drop (.drop (.drop (.drop (.drop (.drop (.drop (.drop (.drop (.drop (.drop (.drop (.drop (.drop (.drop (.drop (.drop (.drop (.drop (.drop (.drop (.drop (.drop (.drop (.drop (.drop (.drop (.drop (.drop (.drop (.drop (.drop (.drop (.drop (.drop (.drop (.drop (.drop leL.nil)))))))))))))))))))))))))))))))))))))))))))))))))))))))))))))))))))))))))))))))))))))) ?_
        intro n3 s3 hi3 hF
        refine r_seq ?_
        refine r_seq ?_
        refine r_region ?_
        refine ops_ok rfl (s_move rfl gt9 (tyo_ok rfl)) (sk st26) ?_
        refine ops_ok rfl (s_fieldAddr rfl fo65x5 gt8 rfl) (sk st27) ?_
        refine ops_ok rfl (e_load rfl ty63 (gk gt27) rfl (ldC_one rfl) (tyo_ok rfl)) (sk st28) ?_
        refine ops_len rfl (s_lenSl rfl rfl rfl rfl el63 (gk gt28) lenMap) (sk st29) fun hn125 => ?_
        replace hn125 := lenN hn125
        refine ops_ok rfl (s_bin rfl (gk gt26) (gk gt29) rfl) (sk st30) ?_
        refine ops_nil ?_
        refine q_seq ?_
        refine r_condL (gk gt30) hF (fun x3 o3 hl3 hx3 hF hK3 => ?_) (fun hF => ?_)
        · skip
          refine r_skip ?_
          refine q_seq ?_
          refine r_seq ?_
          refine r_block ?_
          refine r_region ?_
          refine ops_ok rfl (s_move rfl gt5 (tyo_ok rfl)) (sk st33) ?_
          refine ops_ok rfl (s_bin rfl (gk gt33) rfl rfl) (sk st34) ?_
          refine ops_ok rfl (s_fieldAddr rfl fo65x5 gt8 rfl) (sk st35) ?_
          refine ops_ok rfl (e_load rfl ty63 (gk gt35) rfl (ldC_one rfl) (tyo_ok rfl)) (sk st36) ?_
          refine ops_ok rfl (s_move rfl gt9 (tyo_ok rfl)) (sk st37) ?_
          refine ops_ok rfl (s_idxRow rfl el63 (gk gt36) (gk gt37) isl (idx_of hx3)) (sk st38) ?_
          refine ops_ok rfl (s_fieldAddr rfl fo73x2 (gk gt38) rfl) (sk st39) ?_
          refine ops_ok rfl (f_load rfl ty9 (gk gt39) (ldC_one rfl) (tyo_ok rfl)) (sk (sk st0)) ?_
          refine ops_len rfl (s_lenStr rfl rfl rfl rfl ty9 (gk (gk gt0))) (sk (sk st1)) fun hn126 => ?_
          replace hn126 := lenN hn126
          refine ops_ok rfl (s_bin rfl (gk gt34) (gk (gk gt1)) rfl) (sk (sk st2)) ?_
          refine ops_ok rfl (s_assign rfl (gk (gk gt2)) (tyo_ok rfl)) st5 ?_
          refine ops_nil ?_
          refine q_block ?_
          refine q_seq ?_
          refine r_region ?_
          refine ops_ok rfl (s_move rfl gt9 (tyo_ok rfl)) (sk st31) ?_
          refine ops_ok rfl (s_bin rfl (gk gt31) rfl rfl) (sk st32) ?_
          refine ops_ok rfl (s_assign rfl (gk gt32) (tyo_ok rfl)) st9 ?_
          refine ops_nil ?_
          refine q_loop ?_
          obtain rfl := Option.some.inj hF
          exact ⟨(IntKind.wrap .i64 ((IntKind.wrap .i64 (s3 + (1 : Int))) + ((x3.text).length : Int))), hl3, hK3, wk.le (by exact (.eq (.eq (.drop (.drop (.drop (.cons (leV.of_eq rfl) (.eq (.eq (.eq (.cons (leV.of_eq (w64e (by omega) (by omega))) (.drop (.drop (.drop (.drop (.drop (.drop (.drop (.drop (.drop (.drop (.drop (.drop (.drop (.drop (.drop (.drop (.drop (.drop (.drop (.drop (.drop (.drop (.drop (.drop (.drop (.drop (.drop (.drop (.drop (.drop (.drop (.drop (.drop (.drop (.drop (.drop (.drop (.drop (.drop (.drop (.drop (.drop (.drop (.drop (.drop (.drop (.drop (.drop (.drop (.drop (.drop (.drop (.drop (.drop (.drop (.drop (.drop (.drop (.drop (.drop (.drop (.drop (.drop (.drop (.drop (.drop (.drop (.drop (.drop (.drop (.drop (.drop (.drop (.drop leL.nil)))))))))))))))))))))))))))))))))))))))))))))))))))))))))))))))))))))))))))))))))))))⟩
        · skip
          refine r_exit ?_
          refine q_seq_exit ?_
          refine q_loop_exit ?_
          refine q_block_hit ?_
          refine q_block ?_
          refine q_seq ?_
          refine r_region ?_
          refine ops_ok rfl (s_move rfl gt7 (tyo_ok rfl)) (sk st6) ?_
          refine ops_ok rfl (s_bin rfl (gk gt6) rfl rfl) (sk st7) ?_
          refine ops_ok rfl (s_assign rfl (gk gt7) (tyo_ok rfl)) st7 ?_
          refine ops_nil ?_
          refine q_loop ?_
          obtain rfl := Option.some.inj hF
          exact ⟨(s3, (IntKind.wrap .i64 (s2.2 + (1 : Int)))), hK2, wk.trans (wk.le (by exact (.eq (.eq (.drop (.drop (.drop (.cons (leV.of_eq rfl) (.eq (.cons (leV.of_eq rfl) (.drop (.drop (.drop (.drop (.drop (.drop (.drop (.drop (.drop (.drop (.drop (.drop (.drop (.drop (.drop (.drop (.drop (.drop (.drop (.drop (.drop (.drop (.drop (.drop (.drop (.drop (.drop (.drop (.drop (.drop (.drop (.drop (.drop (.drop (.drop (.drop (.drop (.drop (.drop (.drop (.drop (.drop (.drop (.drop (.drop (.drop (.drop (.drop (.drop (.drop (.drop (.drop (.drop (.drop (.drop (.drop (.drop (.drop (.drop (.drop (.drop (.drop (.drop (.drop (.drop (.drop (.drop (.drop (.drop (.drop (.drop (.drop (.drop (.drop (.drop (.drop leL.nil)))))))))))))))))))))))))))))))))))))))))))))))))))))))))))))))))))))))))))))))))))))) (wk_ext3 (by simp [lowL, AV.low]) rfl rfl (by simp [Blk.low, lowL, AV.low]))⟩
      · skip
        refine r_exit ?_
        refine q_seq_exit ?_
        refine q_loop_exit ?_
        obtain rfl := Option.some.inj hF
        replace hF := hK2
        refine q_block_hit ?_
        refine q_block ?_
        refine q_seq ?_
        refine r_region ?_
        refine ops_ok rfl (s_move rfl gt6 (tyo_ok rfl)) st18 ?_
        refine ops_ok rfl (s_bin rfl gt18 rfl rfl) st19 ?_
        refine ops_ok rfl (s_assign rfl gt19 (tyo_ok rfl)) st6 ?_
        refine ops_nil ?_
        refine q_loop ?_
        obtain rfl := Option.some.inj hF
        exact ⟨(s2.1, (IntKind.wrap .i64 (s1.2 + (1 : Int)))), hK1, wk.le (by exact (.eq (.eq (.drop (.drop (.drop (.cons (leV.of_eq rfl) (.cons (leV.of_eq rfl) (.drop (.drop (.drop (.drop (.drop (.drop (.drop (.drop (.drop (.drop (.drop (.drop (.drop (.drop (.drop (.drop (.drop (.drop (.drop (.drop (.drop (.drop (.drop (.drop (.drop (.drop (.drop (.drop (.drop (.drop (.drop (.drop (.drop (.drop (.drop (.drop (.drop (.drop (.drop (.drop (.drop (.drop (.drop (.drop (.drop (.drop (.drop (.drop (.drop (.drop (.drop (.drop (.drop (.drop (.drop (.drop (.drop (.drop (.drop (.drop (.drop (.drop (.drop (.drop (.drop (.drop (.drop (.drop (.drop (.drop (.drop (.drop (.drop (.drop (.drop (.drop (.drop leL.nil)))))))))))))))))))))))))))))))))))))))))))))))))))))))))))))))))))))))))))))))))))))⟩
    · skip
      refine r_exit ?_
      refine q_seq_exit ?_
      refine q_loop_exit ?_
      obtain rfl := Option.some.inj hF
      replace hF := hK1
      refine q_block_hit ?_
      refine q_seq ?_
      refine r_seq ?_
      refine r_region ?_
      refine ops_ok rfl (s_move rfl gt5 (tyo_ok rfl)) (sk (sk st3)) ?_
      refine ops_ok rfl (s_assign rfl (gk (gk gt3)) (tyo_ok rfl)) st4 ?_
      refine ops_nil ?_
      refine q_seq ?_
      refine r_ret ?_
      obtain rfl := Option.some.inj hF
      refine q_retL1 rfl (rl_tmp gt4 rl_nil) (fin_ext (leV.refl _) rfl ?_)
      exact ⟨rfl, rfl⟩
theorem ok70 {t0 : (List GNode)} {deep1 : Int} {res : Int} {h : AH}  (hF : ref07Xsize t0 deep1 = some res) : Spec Try.prog 70 [.sl 3 (t0.map GNode.row), .int .i64 deep1] h (fun rr hh => rr = .int .i64 res ∧ hh = h) := by
  obtain ⟨n, hn⟩ := anyN_is hF
  exact ok70N n  hn
/-! varve/varveref07.Great -/
theorem ok30 {t0 : (List GNode)} {res : Bool} {h : AH}  (hF : ref07Great t0 = some res) : Spec Try.prog 30 [.sl 3 (t0.map GNode.row)] h (fun rr hh => rr = .bool res ∧ hh = h) := by
  unfold ref07Great at hF
  refine spec_of_body_ext Try.func30 rfl (by kernel_rfl) (env := [.sl 3 (t0.map GNode.row), aundef, aundef, aundef, aundef, aundef]) (by rfl) ?_
  refine r_seq ?_
  refine r_region ?_
  refine ops_ok rfl (s_assign rfl rfl (tyo_ok rfl)) st2 ?_
  refine ops_nil ?_
  refine q_seq ?_
  refine r_seq ?_
  refine r_region ?_
  refine ops_ok rfl (s_move rfl gt0 (tyo_ok rfl)) st3 ?_
  refine bindF hF (fun v1 hv1 hF => ?_)
  refine ops_callP rfl (s_call0 rfl rfl rfl (argo_cons gt3 (argo_cons rfl argo_nil)) (.cons (tyo_ok rfl) (.cons (tyo_ok rfl) .nil))) (ok70 hv1) st4 ?_
  refine ops_ok rfl (s_bin rfl gt4 rfl rfl) st5 ?_
  refine ops_ok rfl (s_assign rfl gt5 (tyo_ok rfl)) st2 ?_
  refine ops_nil ?_
  refine q_seq ?_
  refine r_ret ?_
  obtain rfl := Option.some.inj hF
  refine q_retL1 rfl (rl_tmp gt2 rl_nil) (fin_ext (leV.refl _) rfl ?_)
  exact ⟨rfl, rfl⟩
/-! varve/varvelaw30.great -/
theorem ok31 {l0 : (List (List Str))} {res : Bool} {h : AH}  (hF : law30Xgreat l0 = some res) : Spec Try.prog 31 [.sl 1 (l0.map (fun l => [AV.sl 1 (l.map strRow)]))] h (fun rr hh => rr = .bool res ∧ hh = h) := by
  unfold law30Xgreat at hF
  refine spec_of_body_ext Try.func31 rfl (by kernel_rfl) (env := [.sl 1 (l0.map (fun l => [AV.sl 1 (l.map strRow)])), aundef, aundef, aundef, aundef, aundef, aundef, aundef, aundef, aundef, aundef, aundef, aundef, aundef, aundef, aundef, aundef, aundef, aundef, aundef, aundef, aundef, aundef, aundef, aundef, aundef, aundef]) (by rfl) ?_
  refine r_seq ?_
  refine r_region ?_
  refine ops_ok rfl (s_assign rfl rfl (tyo_ok rfl)) st2 ?_
  refine ops_nil ?_
  refine q_seq ?_
  refine r_seq ?_
  refine r_seq ?_
  refine r_region ?_
  refine ops_ok rfl (s_move rfl gt0 (tyo_ok rfl)) st7 ?_
  refine ops_len rfl (s_lenSl rfl rfl rfl rfl el104 gt7 lenMap) st8 fun hn1 => ?_
  replace hn1 := lenN hn1
  refine ops_ok rfl (s_move rfl rfl (tyo_ok rfl)) st9 ?_
  refine ops_nil ?_
  refine q_seq ?_
  refine r_block ?_
  refine r_loopLF (fun (n1 : Nat) (s1 : Unit) => [(0, .any), (1, .any), (2, .any), (3, .any), (4, .any), (5, .any), (6, .any), (9, .int .i64 (n1 : Int)), (10, .any), (11, .any), (12, .any), (13, .any), (14, .any), (15, .any), (16, .any), (17, .any), (18, .any), (19, .any), (20, .any), (21, .any), (22, .any), (23, .any), (24, .any), (25, .any), (26, .any)]) (fun s1 => h.ext [] []) hF (fun _ _ => by simp only [upd, List.set_cons_succ, List.set_cons_zero]; try rfl) (wk.le (by exact (.drop (.drop (.drop (.drop (.drop (.drop (.drop (.eq (.eq (.cons (leV.of_eq rfl) (.drop (.drop (.drop (.drop (.drop (.drop (.drop (.drop (.drop (.drop (.drop (.drop (.drop (.drop (.drop (.drop (.drop leL.nil))))))))))))))))))))))))))))) ?_
  intro n1 s1 hi1 hF
  refine r_seq ?_
  refine r_region ?_
  refine ops_ok rfl (s_bin rfl gt9 gt8 rfl) st10 ?_
  refine ops_nil ?_
  refine q_seq ?_
  refine r_seq ?_
  refine r_condL gt10 hF (fun x1 o1 hl1 hx1 hF hK1 => ?_) (fun hF => ?_)
  · skip
    refine r_skip ?_
    refine q_seq ?_
    refine r_seq ?_
    refine r_block ?_
    refine r_seq ?_
    refine r_region ?_
    refine ops_ok rfl (s_idxRow rfl el104 gt7 gt9 isl (idx_of hx1)) st11 ?_
    refine ops_ok rfl (f_load rfl ty28 gt11 (ldC_one rfl) (tyo_ok rfl)) st12 ?_
    refine ops_ok rfl (s_assign rfl gt12 (tyo_ok rfl)) st4 ?_
    refine ops_nil ?_
    refine q_seq ?_
    refine r_seq ?_
    refine r_seq ?_
    refine r_region ?_
    refine ops_ok rfl (s_move rfl gt4 (tyo_ok rfl)) st13 ?_
    refine ops_len rfl (s_lenSl rfl rfl rfl rfl el28 gt13 lenMap) st14 fun hn16 => ?_
    replace hn16 := lenN hn16
    refine ops_ok rfl (s_move rfl rfl (tyo_ok rfl)) st15 ?_
    refine ops_nil ?_
    refine q_seq ?_
    refine r_block ?_
    refine r_loopLF (fun (n2 : Nat) (s2 : Unit) => [(0, .any), (1, .any), (2, .any), (3, .any), (5, .any), (6, .any), (10, .any), (11, .any), (12, .any), (15, .int .i64 (n2 : Int)), (16, .any), (17, .any), (18, .any), (19, .any), (20, .any), (21, .any), (22, .any), (23, .any), (24, .any), (25, .any), (26, .any)]) (fun s2 => h.ext [] []) hF (fun _ _ => by simp only [upd, List.set_cons_succ, List.set_cons_zero]; try rfl) (wk.le (by exact (.drop (.drop (.drop (.drop (.eq (.drop (.drop (.eq (.eq (.eq (.drop (.drop (.drop (.eq (.eq (.cons (leV.of_eq rfl) (.drop (.drop (.drop (.drop (.drop (.drop (.drop (.drop (.drop (.drop (.drop leL.nil))))))))))))))))))))))))))))) ?_
    intro n2 s2 hi2 hF
    refine r_seq ?_
    refine r_region ?_
    refine ops_ok rfl (s_bin rfl gt15 gt14 rfl) st16 ?_
    refine ops_nil ?_
    refine q_seq ?_
    refine r_seq ?_
    refine r_condL gt16 hF (fun x2 o2 hl2 hx2 hF hK2 => ?_) (fun hF => ?_)
    · skip
      refine r_skip ?_
      refine q_seq ?_
      refine r_seq ?_
      refine r_block ?_
      refine r_seq ?_
      refine r_region ?_
      refine ops_ok rfl (s_idxRow rfl el28 gt13 gt15 isl (idx_of hx2)) st17 ?_
      refine ops_ok rfl (f_load rfl ty9 gt17 (ldC_one rfl) (tyo_ok rfl)) st18 ?_
      refine ops_ok rfl (s_assign rfl gt18 (tyo_ok rfl)) st6 ?_
      refine ops_nil ?_
      refine q_seq ?_
      refine r_seq ?_
      refine r_region ?_
      refine ops_ok rfl (s_move rfl gt6 (tyo_ok rfl)) st19 ?_
      refine ops_len rfl (s_lenStr rfl rfl rfl rfl ty9 gt19) st20 fun hn22 => ?_
      replace hn22 := lenN hn22
      refine ops_ok rfl (s_bin rfl gt20 rfl rfl) st21 ?_
      refine ops_nil ?_
      refine q_seq ?_
      refine r_condF gt21 hF (fun hc23 hF => ?_) (fun hc23 hF => ?_)
      · skip
        refine r_seq ?_
        refine r_region ?_
        refine ops_ok rfl (s_assign rfl rfl (tyo_ok rfl)) st2 ?_
        refine ops_nil ?_
        refine q_seq ?_
        refine r_ret ?_
        refine q_block_ret ?_
        refine q_seq_ret ?_
        refine q_loop_ret ?_
        obtain rfl := Option.some.inj hF
        replace hF := hK2
        refine q_block_ret ?_
        refine q_seq_ret ?_
        refine q_block_ret ?_
        refine q_seq_ret ?_
        refine q_loop_ret ?_
        obtain rfl := Option.some.inj hF
        replace hF := hK1
        refine q_block_ret ?_
        refine q_seq_ret ?_
        obtain rfl := Option.some.inj hF
        refine q_retL1 rfl (rl_tmp gt2 rl_nil) (fin_ext (leV.refl _) rfl ?_)
        exact ⟨rfl, rfl⟩
      · skip
        refine r_skip ?_
        refine q_block ?_
        refine q_seq ?_
        refine r_region ?_
        refine ops_ok rfl (s_bin rfl gt15 rfl rfl) st22 ?_
        refine ops_ok rfl (s_move rfl gt22 (tyo_ok rfl)) st15 ?_
        refine ops_nil ?_
        refine q_loop ?_
        obtain rfl := Option.some.inj hF
        exact ⟨(), hl2, hK2, wk.le (by exact (.drop (.drop (.drop (.drop (.eq (.drop (.drop (.eq (.eq (.eq (.drop (.drop (.drop (.eq (.eq (.cons (leV.of_eq (w64e (by omega) (by omega))) (.drop (.drop (.drop (.drop (.drop (.drop (.drop (.drop (.drop (.drop (.drop leL.nil))))))))))))))))))))))))))))⟩
    · skip
      refine r_exit ?_
      refine q_seq_exit ?_
      refine q_loop_exit ?_
      refine q_block_hit ?_
      refine q_seq ?_
      refine r_seq ?_
      refine r_region ?_
      refine ops_ok rfl (s_move rfl gt4 (tyo_ok rfl)) st23 ?_
      refine ops_len rfl (s_lenSl rfl rfl rfl rfl el28 gt23 lenMap) st24 fun hn24 => ?_
      replace hn24 := lenN hn24
      refine ops_ok rfl (s_bin rfl gt24 rfl rfl) st25 ?_
      refine ops_nil ?_
      refine q_seq ?_
      refine r_condF gt25 hF (fun hc25 hF => ?_) (fun hc25 hF => ?_)
      · skip
        refine r_seq ?_
        refine r_region ?_
        refine ops_ok rfl (s_assign rfl rfl (tyo_ok rfl)) st2 ?_
        refine ops_nil ?_
        refine q_seq ?_
        refine r_ret ?_
        refine q_block_ret ?_
        refine q_seq_ret ?_
        refine q_loop_ret ?_
        obtain rfl := Option.some.inj hF
        replace hF := hK1
        refine q_block_ret ?_
        refine q_seq_ret ?_
        obtain rfl := Option.some.inj hF
        refine q_retL1 rfl (rl_tmp gt2 rl_nil) (fin_ext (leV.refl _) rfl ?_)
        exact ⟨rfl, rfl⟩
      · skip
        refine r_skip ?_
        refine q_block ?_
        refine q_seq ?_
        refine r_region ?_
        refine ops_ok rfl (s_bin rfl gt9 rfl rfl) st26 ?_
        refine ops_ok rfl (s_move rfl gt26 (tyo_ok rfl)) st9 ?_
        refine ops_nil ?_
        refine q_loop ?_
        obtain rfl := Option.some.inj hF
        exact ⟨(), hl1, hK1, wk.le (by exact (.drop (.drop (.drop (.drop (.drop (.drop (.drop (.eq (.eq (.cons (leV.of_eq (w64e (by omega) (by omega))) (.drop (.drop (.drop (.drop (.drop (.drop (.drop (.drop (.drop (.drop (.drop (.drop (.drop (.drop (.drop (.drop (.drop leL.nil))))))))))))))))))))))))))))⟩
  · skip
    refine r_exit ?_
    refine q_seq_exit ?_
    refine q_loop_exit ?_
    refine q_block_hit ?_
    refine q_seq ?_
    refine r_seq ?_
    refine r_region ?_
    refine ops_ok rfl (s_assign rfl rfl (tyo_ok rfl)) st2 ?_
    refine ops_nil ?_
    refine q_seq ?_
    refine r_ret ?_
    obtain rfl := Option.some.inj hF
    refine q_retL1 rfl (rl_tmp gt2 rl_nil) (fin_ext (leV.refl _) rfl ?_)
    exact ⟨rfl, rfl⟩
/-! varve/varvelaw30.PathsParts -/
theorem ok7 {t0 : (List GNode)} {p1 : (List Str)} {res : Bool} {h : AH}  (hF : law30PathsParts t0 p1 = some res) : Spec Try.prog 7 [.sl 3 (t0.map GNode.row), .sl 1 (p1.map strRow)] h (fun rr hh => rr = .bool res ∧ hh = h) := by
  unfold law30PathsParts at hF
  refine spec_of_body_ext Try.func7 rfl (by kernel_rfl) (env := [.sl 3 (t0.map GNode.row), .sl 1 (p1.map strRow), aundef, aundef, aundef, aundef, aundef, aundef, aundef, aundef, aundef, aundef, aundef, aundef, aundef, aundef, aundef, aundef, aundef, aundef, aundef, aundef, aundef, aundef, aundef, aundef, aundef, aundef, aundef, aundef, aundef, aundef, aundef, aundef, aundef, aundef, aundef, aundef, aundef, aundef, aundef, aundef, aundef, aundef, aundef, aundef, aundef, aundef, aundef, aundef, aundef, aundef, aundef, aundef, aundef, aundef, aundef, aundef, aundef, aundef, aundef, aundef, aundef, aundef, aundef, aundef, aundef, aundef, aundef, aundef, aundef, aundef, aundef, aundef, aundef, aundef, aundef, aundef, aundef, aundef, aundef, aundef, aundef, aundef, aundef, aundef, aundef, aundef, aundef, aundef, aundef, aundef, aundef, aundef, aundef, aundef, aundef, aundef, aundef, aundef, aundef, aundef, aundef, aundef, aundef, aundef, aundef, aundef, aundef, aundef, aundef, aundef, aundef, aundef, aundef, aundef, aundef, aundef, aundef, aundef, aundef, aundef, aundef, aundef, aundef, aundef, aundef, aundef, aundef, aundef, aundef, aundef, aundef, aundef, aundef, aundef, aundef, aundef, aundef, aundef, aundef, aundef, aundef, aundef, aundef, aundef, aundef, aundef, aundef, aundef, aundef, aundef, aundef, aundef, aundef, aundef]) (by rfl) ?_
  refine r_seq ?_
  refine r_region ?_
  refine ops_ok rfl (s_assign rfl rfl (tyo_ok rfl)) st4 ?_
  refine ops_nil ?_
  refine q_seq ?_
  refine r_seq ?_
  refine r_seq ?_
  refine r_region ?_
  refine ops_ok rfl (s_move rfl gt0 (tyo_ok rfl)) st17 ?_
  refine bindF hF (fun v1 hv1 hF => ?_)
  refine ops_callP rfl (s_call0 rfl rfl rfl (argo_cons gt17 argo_nil) (.cons (tyo_ok rfl) .nil)) (ok30 hv1) st18 ?_
  refine ops_ok rfl (s_move rfl gt18 (tyo_ok rfl)) st19 ?_
  refine ops_gv rfl (fun hb => s_move rfl gt1 (tyo_ok rfl)) st20 ?_
  refine ops_gv rfl (fun hb => s_buildSlice (es := ([p1] : List (List Str)).map (fun l => [AV.sl 1 (l.map strRow)])) rfl el104 ze28 rfl rfl (parto_cons (evo_gv gt20 hb) parto_nil) (.cons (tyo_ok rfl) .nil) rfl rfl rfl) st21 ?_
  refine gbindF hF (fun v2 hv2 hF => ?_)
  refine ops_gcall rfl (fun hb => s_call0 rfl rfl rfl (argo_cons (evo_gv gt21 hb) argo_nil) (.cons (tyo_ok rfl) .nil)) (fun hb => (ok31 (hv2 hb)).le (.cons (leV.osl _ _ _) leL.nil)) st22 ?_
  refine ops_ok rfl (s_pick rfl gt19 rfl gt22 (pick_or (fun ht => gF ht))) st23 ?_
  refine ops_nil ?_
  refine q_seq ?_
  refine r_condF gt23 hF (fun hc3 hF => ?_) (fun hc3 hF => ?_)
  · skip
    refine r_seq ?_
    refine r_region ?_
    refine bindF hF (fun v4 hv4 hF => ?_)
    refine ops_callP rfl (s_call0 rfl rfl rfl argo_nil .nil) (ok34 hv4) st24 ?_
    refine ops_ok rfl (s_assign rfl gt24 (tyo_ok rfl)) st4 ?_
    refine ops_nil ?_
    refine q_seq ?_
    refine r_ret ?_
    refine q_seq_ret ?_
    obtain rfl := Option.some.inj hF
    refine q_retL1 rfl (rl_tmp gt4 rl_nil) (fin_ext (leV.refl _) rfl ?_)
    exact ⟨rfl, rfl⟩
  · skip
    refine r_skip ?_
    refine q_seq ?_
    refine r_seq ?_
    refine r_region ?_
    refine ops_ok rfl (s_move rfl gt0 (tyo_ok rfl)) st26 ?_
    refine ops_ok rfl (s_move rfl gt1 (tyo_ok rfl)) st27 ?_
    refine bindF hF (fun v5 hv5 hF => ?_)
    refine ops_callP rfl (s_call0 rfl rfl rfl (argo_cons gt26 (argo_cons gt27 argo_nil)) (.cons (tyo_ok rfl) (.cons (tyo_ok rfl) .nil))) (ok35 hv5) st28 ?_
    refine ops_ok rfl (s_move rfl gt28 (tyo_ok rfl)) st25 ?_
    refine ops_ok rfl (s_extract rfl gt25 rfl (tyo_ok rfl)) st29 ?_
    refine ops_ok rfl (s_extract rfl gt25 rfl (tyo_ok rfl)) st30 ?_
    refine ops_ok rfl (s_assign rfl gt29 (tyo_ok rfl)) st5 ?_
    refine ops_ok rfl (s_assign rfl gt30 (tyo_ok rfl)) st6 ?_
    refine ops_nil ?_
    refine q_seq ?_
    refine r_seq ?_
    refine r_region ?_
    refine ops_ok rfl (s_move rfl gt0 (tyo_ok rfl)) st32 ?_
    refine ops_ok rfl (s_move rfl gt1 (tyo_ok rfl)) st33 ?_
    refine bindF hF (fun v6 hv6 hF => ?_)
    refine ops_callP rfl (s_call0 rfl rfl rfl (argo_cons gt32 (argo_cons gt33 argo_nil)) (.cons (tyo_ok rfl) (.cons (tyo_ok rfl) .nil))) (ok41 hv6) st34 ?_
    refine ops_ok rfl (s_move rfl gt34 (tyo_ok rfl)) st31 ?_
    refine ops_ok rfl (s_extract rfl gt31 rfl (tyo_ok rfl)) st35 ?_
    refine ops_ok rfl (s_extract rfl gt31 rfl (tyo_ok rfl)) st36 ?_
    refine ops_ok rfl (s_assign rfl gt35 (tyo_ok rfl)) st7 ?_
    refine ops_ok rfl (s_assign rfl gt36 (tyo_ok rfl)) st8 ?_
    refine ops_nil ?_
    refine q_seq ?_
    refine r_seq ?_
    refine r_seq ?_
    refine r_region ?_
    refine ops_ok rfl (s_move rfl gt6 (tyo_ok rfl)) st37 ?_
    refine ops_ok rfl (s_bin rfl gt37 rfl rfl) st38 ?_
    refine ops_ok rfl (s_move rfl gt38 (tyo_ok rfl)) st39 ?_
    refine ops_gv rfl (fun hb => s_move rfl gt8 (tyo_ok rfl)) (sk st0) ?_
    refine ops_gv rfl (fun hb => s_bin rfl (evo_gv (gk gt0) hb) rfl rfl) (sk st1) ?_
    refine ops_ok rfl (s_pick rfl gt39 rfl (gk gt1) (pick_or (fun ht => gF ht))) (sk st2) ?_
    refine ops_nil ?_
    refine q_seq ?_
    refine r_condF (gk gt2) hF (fun hc7 hF => ?_) (fun hc7 hF => ?_)
    · skip
      refine r_seq ?_
      refine r_region ?_
      refine ops_ok rfl (s_move rfl gt6 (tyo_ok rfl)) (sk st3) ?_
      refine ops_ok rfl (s_move rfl gt8 (tyo_ok rfl)) (sk st4) ?_
      refine ops_ok rfl (s_bin rfl (gk gt3) (gk gt4) rfl) (sk st5) ?_
      refine ops_ok rfl (s_move rfl (gk gt5) (tyo_ok rfl)) (sk st6) ?_
      refine ops_gv rfl (fun hb => s_move rfl gt5 (tyo_ok rfl)) (sk st7) ?_
      refine ops_glen rfl (fun hb => s_lenSl rfl rfl rfl rfl el54 (evo_gv (gk gt7) hb) lenMap) (sk st8) fun hn8 => ?_
      refine ops_gv rfl (fun hb => s_move rfl gt7 (tyo_ok rfl)) (sk st9) ?_
      refine ops_glen rfl (fun hb => s_lenSl rfl rfl rfl rfl el54 (evo_gv (gk gt9) hb) lenMap) (sk st10) fun hn9 => ?_
      refine ops_gv rfl (fun hb => s_bin rfl (evo_gv (gk gt8) hb) (evo_gv (gk gt10) hb) rfl) (sk st11) ?_
      refine ops_gv rfl (fun hb => s_bin rfl (evo_gv (gk gt11) hb) rfl rfl) (sk st12) ?_
      refine ops_ok rfl (s_pick rfl (gk gt6) (gk gt12) rfl (pick_and (fun ht => gT ht))) (sk st13) ?_
      refine ops_ok rfl (s_move rfl (gk gt13) (tyo_ok rfl)) (sk st14) ?_
      refine gbindF hF (fun v10 hv10 hF => ?_)
      refine ops_gcall rfl (fun hb => s_call0 rfl rfl rfl argo_nil .nil) (fun hb => ok34 (hv10 hb)) (sk st15) ?_
      refine ops_ok rfl (s_pick rfl (gk gt14) (gk gt15) rfl (pick_and (fun ht => gT ht))) (sk st16) ?_
      refine ops_ok rfl (s_assign rfl (gk gt16) (tyo_ok rfl)) st4 ?_
      refine ops_nil ?_
      refine q_seq ?_
      refine r_ret ?_
      refine q_seq_ret ?_
      obtain rfl := Option.some.inj hF
      refine q_retL1 rfl (rl_tmp gt4 rl_nil) (fin_ext (leV.refl _) rfl ?_)
      exact ⟨rfl, rfl⟩
    · skip
      refine r_skip ?_
      refine q_seq ?_
      refine r_seq ?_
      refine r_region ?_
      refine ops_ok rfl (s_move rfl gt5 (tyo_ok rfl)) (sk st18) ?_
      refine ops_ok rfl (s_move rfl gt1 (tyo_ok rfl)) (sk st19) ?_
      refine bindF hF (fun v11 hv11 hF => ?_)
      refine ops_callP rfl (s_call0 rfl rfl rfl (argo_cons (gk gt18) (argo_cons (gk gt19) argo_nil)) (.cons (tyo_ok rfl) (.cons (tyo_ok rfl) .nil))) (ok35 hv11) (sk st20) ?_
      refine ops_ok rfl (s_move rfl (gk gt20) (tyo_ok rfl)) (sk st17) ?_
      refine ops_ok rfl (s_extract rfl (gk gt17) rfl (tyo_ok rfl)) (sk st21) ?_
      refine ops_ok rfl (s_extract rfl (gk gt17) rfl (tyo_ok rfl)) (sk st22) ?_
      refine ops_ok rfl (s_assign rfl (gk gt21) (tyo_ok rfl)) st9 ?_
      refine ops_ok rfl (s_assign rfl (gk gt22) (tyo_ok rfl)) st10 ?_
      refine ops_nil ?_
      refine q_seq ?_
      refine r_seq ?_
      refine r_region ?_
      refine ops_ok rfl (s_move rfl gt7 (tyo_ok rfl)) (sk st24) ?_
      refine ops_ok rfl (s_move rfl gt1 (tyo_ok rfl)) (sk st25) ?_
      refine bindF hF (fun v12 hv12 hF => ?_)
      refine ops_callP rfl (s_call0 rfl rfl rfl (argo_cons (gk gt24) (argo_cons (gk gt25) argo_nil)) (.cons (tyo_ok rfl) (.cons (tyo_ok rfl) .nil))) (ok35 hv12) (sk st26) ?_
      refine ops_ok rfl (s_move rfl (gk gt26) (tyo_ok rfl)) (sk st23) ?_
      refine ops_ok rfl (s_extract rfl (gk gt23) rfl (tyo_ok rfl)) (sk st27) ?_
      refine ops_ok rfl (s_extract rfl (gk gt23) rfl (tyo_ok rfl)) (sk st28) ?_
      refine ops_ok rfl (s_assign rfl (gk gt27) (tyo_ok rfl)) st11 ?_
      refine ops_ok rfl (s_assign rfl (gk gt28) (tyo_ok rfl)) st12 ?_
      refine ops_nil ?_
      refine q_seq ?_
      refine r_seq ?_
      refine r_seq ?_
      refine r_region ?_
      refine ops_ok rfl (s_move rfl gt10 (tyo_ok rfl)) (sk st29) ?_
      refine ops_ok rfl (s_bin rfl (gk gt29) rfl rfl) (sk st30) ?_
      refine ops_ok rfl (s_move rfl (gk gt30) (tyo_ok rfl)) (sk st31) ?_
      refine ops_gv rfl (fun hb => s_move rfl gt12 (tyo_ok rfl)) (sk st32) ?_
      refine ops_gv rfl (fun hb => s_bin rfl (evo_gv (gk gt32) hb) rfl rfl) (sk st33) ?_
      refine ops_ok rfl (s_pick rfl (gk gt31) rfl (gk gt33) (pick_or (fun ht => gF ht))) (sk st34) ?_
      refine ops_ok rfl (s_move rfl (gk gt34) (tyo_ok rfl)) (sk st35) ?_
      refine ops_gv rfl (fun hb => s_move rfl gt9 (tyo_ok rfl)) (sk st36) ?_
      refine ops_gv rfl (fun hb => s_move rfl gt5 (tyo_ok rfl)) (sk st37) ?_
      refine gbindF hF (fun v13 hv13 hF => ?_)
      refine ops_gcall rfl (fun hb => s_call0 rfl rfl rfl (argo_cons (evo_gv (gk gt36) hb) (argo_cons (evo_gv (gk gt37) hb) argo_nil)) (.cons (tyo_ok rfl) (.cons (tyo_ok rfl) .nil))) (fun hb => ok36 (hv13 hb)) (sk st38) ?_
      refine ops_gv rfl (fun hb => s_un rfl (evo_gv (gk gt38) hb) rfl) (sk st39) ?_
      refine ops_ok rfl (s_pick rfl (gk gt35) rfl (gk gt39) (pick_or (fun ht => gF ht))) (sk (sk st0)) ?_
      refine ops_ok rfl (s_move rfl (gk (gk gt0)) (tyo_ok rfl)) (sk (sk st1)) ?_
      refine ops_gv rfl (fun hb => s_move rfl gt11 (tyo_ok rfl)) (sk (sk st2)) ?_
      refine ops_glen rfl (fun hb => s_lenSl rfl rfl rfl rfl el54 (evo_gv (gk (gk gt2)) hb) lenMap) (sk (sk st3)) fun hn14 => ?_
      refine ops_gv rfl (fun hb => s_bin rfl (evo_gv (gk (gk gt3)) hb) rfl rfl) (sk (sk st4)) ?_
      refine ops_ok rfl (s_pick rfl (gk (gk gt1)) rfl (gk (gk gt4)) (pick_or (fun ht => gF ht))) (sk (sk st5)) ?_
      refine ops_ok rfl (s_move rfl (gk (gk gt5)) (tyo_ok rfl)) (sk (sk st6)) ?_
      refine ops_gv rfl (fun hb => s_move rfl gt5 (tyo_ok rfl)) (sk (sk st7)) ?_
      refine gbindF hF (fun v15 hv15 hF => ?_)
      refine ops_gcall rfl (fun hb => s_call0 rfl rfl rfl (argo_cons (evo_gv (gk (gk gt7)) hb) argo_nil) (.cons (tyo_ok rfl) .nil)) (fun hb => ok33 (hv15 hb)) (sk (sk st8)) ?_
      refine ops_gv rfl (fun hb => s_un rfl (evo_gv (gk (gk gt8)) hb) rfl) (sk (sk st9)) ?_
      refine ops_ok rfl (s_pick rfl (gk (gk gt6)) rfl (gk (gk gt9)) (pick_or (fun ht => gF ht))) (sk (sk st10)) ?_
      refine ops_ok rfl (s_move rfl (gk (gk gt10)) (tyo_ok rfl)) (sk (sk st11)) ?_
      refine ops_gv rfl (fun hb => s_move rfl gt7 (tyo_ok rfl)) (sk (sk st12)) ?_
      refine gbindF hF (fun v16 hv16 hF => ?_)
      refine ops_gcall rfl (fun hb => s_call0 rfl rfl rfl (argo_cons (evo_gv (gk (gk gt12)) hb) argo_nil) (.cons (tyo_ok rfl) .nil)) (fun hb => ok33 (hv16 hb)) (sk (sk st13)) ?_
      refine ops_gv rfl (fun hb => s_un rfl (evo_gv (gk (gk gt13)) hb) rfl) (sk (sk st14)) ?_
      refine ops_ok rfl (s_pick rfl (gk (gk gt11)) rfl (gk (gk gt14)) (pick_or (fun ht => gF ht))) (sk (sk st15)) ?_
      refine ops_nil ?_
      refine q_seq ?_
      refine r_condF (gk (gk gt15)) hF (fun hc17 hF => ?_) (fun hc17 hF => ?_)
      · skip
        refine r_seq ?_
        refine r_region ?_
        refine ops_ok rfl (s_assign rfl rfl (tyo_ok rfl)) st4 ?_
        refine ops_nil ?_
        refine q_seq ?_
        refine r_ret ?_
        refine q_seq_ret ?_
        obtain rfl := Option.some.inj hF
        refine q_retL1 rfl (rl_tmp gt4 rl_nil) (fin_ext (leV.refl _) rfl ?_)
        exact ⟨rfl, rfl⟩
      · skip
        refine r_skip ?_
        refine q_seq ?_
        refine r_seq ?_
        refine r_region ?_
        refine ops_ok rfl (s_move rfl gt5 (tyo_ok rfl)) (sk (sk st16)) ?_
        refine bindF hF (fun v18 hv18 hF => ?_)
        refine ops_callP rfl (s_call0 rfl rfl rfl (argo_cons (gk (gk gt16)) argo_nil) (.cons (tyo_ok rfl) .nil)) (ok37 hv18) (sk (sk st17)) ?_
        refine ops_ok rfl (s_move rfl gt7 (tyo_ok rfl)) (sk (sk st18)) ?_
        refine bindF hF (fun v19 hv19 hF => ?_)
        refine ops_callP rfl (s_call0 rfl rfl rfl (argo_cons (gk (gk gt18)) argo_nil) (.cons (tyo_ok rfl) .nil)) (ok37 hv19) (sk (sk st19)) ?_
        refine ops_ok rfl (s_assign rfl (gk (gk gt17)) (tyo_ok rfl)) st13 ?_
        refine ops_ok rfl (s_assign rfl (gk (gk gt19)) (tyo_ok rfl)) st14 ?_
        refine ops_nil ?_
        refine q_seq ?_
        refine r_seq ?_
        refine r_seq ?_
        refine r_region ?_
        refine ops_ok rfl (s_move rfl gt0 (tyo_ok rfl)) (sk (sk st20)) ?_
        refine bindF hF (fun v20 hv20 hF => ?_)
        refine ops_callP rfl (s_call0 rfl rfl rfl (argo_cons (gk (gk gt20)) argo_nil) (.cons (tyo_ok rfl) .nil)) (ok37 hv20) (sk (sk st21)) ?_
        refine ops_len rfl (s_lenSl rfl rfl rfl rfl el61 (gk (gk gt21)) lenMap) (sk (sk st22)) fun hn21 => ?_
        replace hn21 := lenN hn21
        refine ops_ok rfl (s_move rfl rfl (tyo_ok rfl)) (sk (sk st23)) ?_
        refine ops_nil ?_
        refine q_seq ?_
        refine r_block ?_
        refine r_loopLF (fun (n1 : Nat) (s1 : (List GRow) × (List GRow)) => [(0, .any), (2, .any), (3, .any), (4, .any), (5, .any), (6, .any), (7, .any), (8, .any), (9, .any), (10, .any), (11, .any), (12, .any), (13, .sl 10 (s1.1.map GRow.row)), (14, .sl 10 (s1.2.map GRow.row)), (15, .any), (16, .any), (17, .any), (18, .any), (19, .any), (20, .any), (21, .any), (22, .any), (23, .any), (24, .any), (25, .any), (26, .any), (27, .any), (28, .any), (29, .any), (30, .any), (31, .any), (32, .any), (33, .any), (34, .any), (35, .any), (36, .any), (37, .any), (38, .any), (39, .any), (40, .any), (41, .any), (42, .any), (43, .any), (44, .any), (45, .any), (46, .any), (47, .any), (48, .any), (49, .any), (50, .any), (51, .any), (52, .any), (53, .any), (54, .any), (55, .any), (56, .any), (57, .any), (58, .any), (59, .any), (60, .any), (61, .any), (62, .any), (63, .any), (64, .any), (65, .any), (66, .any), (67, .any), (68, .any), (69, .any), (70, .any), (71, .any), (72, .any), (73, .any), (74, .any), (75, .any), (76, .any), (77, .any), (78, .any), (79, .any), (80, .any), (81, .any), (82, .any), (83, .any), (84, .any), (85, .any), (86, .any), (87, .any), (88, .any), (89, .any), (90, .any), (91, .any), (92, .any), (93, .any), (94, .any), (95, .any), (96, .any), (97, .any), (98, .any), (99, .any), (100, .any), (103, .int .i64 (n1 : Int)), (104, .any), (105, .any), (106, .any), (107, .any), (108, .any), (109, .any), (110, .any), (111, .any), (112, .any), (113, .any), (114, .any), (115, .any), (116, .any), (117, .any), (118, .any), (119, .any), (120, .any), (121, .any), (122, .any), (123, .any), (124, .any), (125, .any), (126, .any), (127, .any), (128, .any), (129, .any), (130, .any), (131, .any), (132, .any), (133, .any), (134, .any), (135, .any), (136, .any), (137, .any), (138, .any), (139, .any), (140, .any), (141, .any), (142, .any), (143, .any), (144, .any), (145, .any), (146, .any), (147, .any), (148, .any), (149, .any), (150, .any), (151, .any), (152, .any), (153, .any), (154, .any), (155, .any)]) (fun s1 => h.ext [] []) hF (fun _ _ => by simp only [upd, List.set_cons_succ, List.set_cons_zero]; try rfl) (wk.le (by exact (.drop (.eq (.drop (.drop (.drop (.drop (.drop (.drop (.drop (.drop (.drop (.drop (.drop (.cons (leV.of_eq rfl) (.cons (leV.of_eq rfl) (.drop (.drop (.drop (.drop (.drop (.drop (.drop (.drop (.drop (.drop (.drop (.drop (.drop (.drop (.drop (.drop (.drop (.drop (.drop (.drop (.drop (.drop (.drop (.drop (.drop (.drop (.drop (.drop (.drop (.drop (.drop (.drop (.drop (.drop (.drop (.drop (.drop (.drop (.drop (.drop (.drop (.drop (.drop (.drop (.drop (.drop (.drop (.drop (.drop (.drop (.drop (.drop (.drop (.drop (.drop (.drop (.drop (.drop (.drop (.drop (.drop (.drop (.drop (.drop (.drop (.drop (.drop (.drop (.drop (.drop (.drop (.drop (.drop (.drop (.drop (.drop (.drop (.drop (.drop (.drop (.drop (.drop (.drop (.drop (.drop (.drop (.eq (.eq (.cons (leV.of_eq rfl) (.drop (.drop (.drop (.drop (.drop (.drop (.drop (.drop (.drop (.drop (.drop (.drop (.drop (.drop (.drop (.drop (.drop (.drop (.drop (.drop (.drop (.drop (.drop (.drop (.drop (.drop (.drop (.drop (.drop (.drop (.drop (.drop (.drop (.drop (.drop (.drop (.drop (.drop (.drop (.drop (.drop (.drop (.drop (.drop (.drop (.drop (.drop (.drop (.drop (.drop (.drop (.drop leL.nil)))))))))))))))))))))))))))))))))))))))))))))))))))))))))))))))))))))))))))))))))))))))))))))))))))))))))))))))))))))))))))))))))))))))))))))))))))))))))))))) ?_
        intro n1 s1 hi1 hF
        refine r_seq ?_
        refine r_region ?_
        refine ops_ok rfl (s_bin rfl (gk (gk gt23)) (gk (gk gt22)) rfl) (sk (sk st24)) ?_
        refine ops_nil ?_
        refine q_seq ?_
        refine r_seq ?_
        refine r_condL (gk (gk gt24)) hF (fun x1 o1 hl1 hx1 hF hK1 => ?_) (fun hF => ?_)
        · skip
          refine r_skip ?_
          refine q_seq ?_
          refine r_seq ?_
          refine r_block ?_
          refine r_seq ?_
          refine r_region ?_
          refine ops_ok rfl (s_idxRow rfl el61 (gk (gk gt21)) (gk (gk gt23)) isl (idx_of hx1)) (sk (sk st25)) ?_
          refine ops_ok rfl (f_load rfl ty67.choose_spec.1 (gk (gk gt25)) (ldC_agX (cs' := [.sl 1 (x1.path.map strRow), .int .u8 x1.leaf.typ, .int .i64 x1.leaf.n, .int .u64 x1.leaf.time, .int .u8 x1.leaf.dot.actor.rep, .int .u32 x1.leaf.dot.actor.inc, .int .u64 x1.leaf.dot.seq, .str x1.leaf.text, .sl 5 (x1.leaf.items.map GItem.row), .sl 3 (x1.leaf.tombs.map GDot.row)]) ty67.choose_spec.2 rfl rfl) (tyo_ok rfl)) (sk (sk st26)) ?_
          refine ops_ok rfl (e_alloc (n := 0) rfl ze67 rfl) st16 ?_
          refine ops_ok rfl (e_store (cs' := [.sl 1 (x1.path.map strRow), .int .u8 x1.leaf.typ, .int .i64 x1.leaf.n, .int .u64 x1.leaf.time, .int .u8 x1.leaf.dot.actor.rep, .int .u32 x1.leaf.dot.actor.inc, .int .u64 x1.leaf.dot.seq, .str x1.leaf.text, .sl 5 (x1.leaf.items.map GItem.row), .sl 3 (x1.leaf.tombs.map GDot.row)]) rfl ty67.choose_spec.1 gt16 (gk (gk gt26)) (tyo_ok rfl) rfl rfl rfl rfl rfl) rfl ?_
          refine ops_nil ?_
          refine q_seq ?_
          refine r_block ?_
          refine r_seq ?_
          refine r_drawn [] [] trivial mixed (by kernel_rfl) ?_
          refine draw_ok rfl rfl (s_move rfl gt13 (tyo_ok rfl)) (sk (sk st28)) ?_
          refine draw_len rfl rfl (s_lenSl rfl rfl rfl rfl el61 (gk (gk gt28)) lenMap) (sk (sk st29)) ?_
          refine draw_ok rfl rfl (s_bin rfl (gk (gk gt29)) rfl rfl) (sk (sk st30)) ?_
          refine draw_ok rfl rfl (s_move rfl (gk (gk gt30)) (tyo_ok rfl)) (sk (sk st31)) ?_
          refine draw_gv rfl rfl (fun hb => s_move rfl gt13 (tyo_ok rfl)) (sk (sk st32)) ?_
          refine chkF hF (fun hg43 hF => ?_)
          refine draw_gv rfl rfl (fun hb => s_slcSl rfl el61 (evo_gv (gk (gk gt32)) hb) (.inl rfl) .none (.some rfl) (slc_of (hg43 hb))) (sk (sk st33)) ?_
          refine draw_gv rfl rfl (fun hb => e_load rfl ty67.choose_spec.1 gt16 rfl (ldC_agX (cs' := [.sl 1 (x1.path.map strRow), .int .u8 x1.leaf.typ, .int .i64 x1.leaf.n, .int .u64 x1.leaf.time, .int .u8 x1.leaf.dot.actor.rep, .int .u32 x1.leaf.dot.actor.inc, .int .u64 x1.leaf.dot.seq, .str x1.leaf.text, .sl 5 (x1.leaf.items.map GItem.row), .sl 3 (x1.leaf.tombs.map GDot.row)]) ty67.choose_spec.2 rfl rfl) (tyo_ok rfl)) (sk (sk st34)) ?_
          refine draw_gv rfl rfl (fun hb => s_buildSlice (es := ([x1] : List GRow).map GRow.row) rfl el61 ze67 rfl rfl (parto_cons (evo_gv (gk (gk gt34)) hb) parto_nil) (.cons (tyo_ok rfl) .nil) rfl rfl rfl) (sk (sk st35)) ?_
          refine gbindF hF (fun v44 hv44 hF => ?_)
          refine draw_gcall rfl rfl (fun hb => s_call0 rfl rfl rfl (argo_cons (evo_gv (gk (gk gt33)) hb) (argo_cons (evo_gv (gk (gk gt35)) hb) argo_nil)) (.cons (tyo_ok rfl) (.cons (tyo_ok rfl) .nil))) (fun hb => (ok39 (hv44 hb)).le (.eq (.cons (leV.osl _ _ _) leL.nil))) (sk (sk st36)) ?_
          refine draw_ok rfl rfl (s_pick rfl (gk (gk gt31)) (gk (gk gt36)) rfl (pick_and (fun ht => gT ht))) (sk (sk st37)) ?_
          refine draw_ok rfl rfl (s_move rfl (gk (gk gt37)) (tyo_ok rfl)) (sk (sk st38)) ?_
          refine draw_gv rfl rfl (fun hb => s_move rfl gt1 (tyo_ok rfl)) (sk (sk st39)) ?_
          refine draw_gv rfl rfl (fun hb => s_fieldAddr rfl fo67x0 gt16 rfl) (sk (sk (sk st0))) ?_
          refine draw_gv rfl rfl (fun hb => e_load rfl ty28 (evo_gv (gk (gk (gk gt0))) hb) rfl (ldC_one rfl) (tyo_ok rfl)) (sk (sk (sk st1))) ?_
          refine gbindF hF (fun v45 hv45 hF => ?_)
          refine draw_gcall rfl rfl (fun hb => s_call0 rfl rfl rfl (argo_cons (evo_gv (gk (gk gt39)) hb) (argo_cons (evo_gv (gk (gk (gk gt1))) hb) argo_nil)) (.cons (tyo_ok rfl) (.cons (tyo_ok rfl) .nil))) (fun hb => ok38 (hv45 hb)) (sk (sk (sk st2))) ?_
          refine draw_ok rfl rfl (s_pick rfl (gk (gk gt38)) (gk (gk (gk gt2))) rfl (pick_and (fun ht => gT ht))) (sk (sk (sk st3))) ?_
          refine draw_ok rfl rfl (s_assign rfl (gk (gk (gk gt3))) (tyo_ok rfl)) (sk (sk st27)) ?_
          refine draw_nil ?_
          refine q_seq ?_
          refine r_condF (gk (gk gt27)) hF (fun hc46 hF => ?_) (fun hc46 hF => ?_)
          · skip
            refine r_region ?_
            refine ops_ok rfl (s_move rfl gt13 (tyo_ok rfl)) (sk (sk (sk st4))) ?_
            refine bindF hF (fun m47 hm47 hF => ?_)
            refine ops_ok rfl (s_slcSl rfl el61 (gk (gk (gk gt4))) (.inl rfl) (.some rfl) .none hm47) (sk (sk (sk st5))) ?_
            refine ops_ok rfl (s_assign rfl (gk (gk (gk gt5))) (tyo_ok rfl)) st13 ?_
            refine ops_nil ?_
            refine q_block ?_
            refine q_block ?_
            refine q_seq ?_
            refine r_region ?_
            refine ops_ok rfl (s_bin rfl (gk (gk gt23)) rfl rfl) (sk (sk (sk st26))) ?_
            refine ops_ok rfl (s_move rfl (gk (gk (gk gt26))) (tyo_ok rfl)) (sk (sk st23)) ?_
            refine ops_nil ?_
            refine q_loop ?_
            obtain rfl := Option.some.inj hF
            exact ⟨(m47, s1.2), hl1, hK1, wk.trans (wk.le (by exact (.drop (.eq (.drop (.drop (.drop (.drop (.drop (.drop (.drop (.drop (.drop (.drop (.drop (.cons (leV.of_eq rfl) (.cons (leV.of_eq rfl) (.drop (.drop (.drop (.drop (.drop (.drop (.drop (.drop (.drop (.drop (.drop (.drop (.drop (.drop (.drop (.drop (.drop (.drop (.drop (.drop (.drop (.drop (.drop (.drop (.drop (.drop (.drop (.drop (.drop (.drop (.drop (.drop (.drop (.drop (.drop (.drop (.drop (.drop (.drop (.drop (.drop (.drop (.drop (.drop (.drop (.drop (.drop (.drop (.drop (.drop (.drop (.drop (.drop (.drop (.drop (.drop (.drop (.drop (.drop (.drop (.drop (.drop (.drop (.drop (.drop (.drop (.drop (.drop (.drop (.drop (.drop (.drop (.drop (.drop (.drop (.drop (.drop (.drop (.drop (.drop (.drop (.drop (.drop (.drop (.drop (.drop (.eq (.eq (.cons (leV.of_eq (w64e (by omega) (by omega))) (.drop (.drop (.drop (.drop (.drop (.drop (.drop (.drop (.drop (.drop (.drop (.drop (.drop (.drop (.drop (.drop (.drop (.drop (.drop (.drop (.drop (.drop (.drop (.drop (.drop (.drop (.drop (.drop (.drop (.drop (.drop (.drop (.drop (.drop (.drop (.drop (.drop (.drop (.drop (.drop (.drop (.drop (.drop (.drop (.drop (.drop (.drop (.drop (.drop (.drop (.drop (.drop leL.nil)))))))))))))))))))))))))))))))))))))))))))))))))))))))))))))))))))))))))))))))))))))))))))))))))))))))))))))))))))))))))))))))))))))))))))))))))))))))))))))) (wk_ext3 (by simp [lowL, AV.low]) rfl rfl (by simp [Blk.low, lowL, AV.low]))⟩
          · skip
            refine r_seq ?_
            refine r_drawn [] [] trivial mixed (by kernel_rfl) ?_
            refine draw_ok rfl rfl (s_move rfl gt14 (tyo_ok rfl)) (sk (sk (sk st7))) ?_
            refine draw_len rfl rfl (s_lenSl rfl rfl rfl rfl el61 (gk (gk (gk gt7))) lenMap) (sk (sk (sk st8))) ?_
            refine draw_ok rfl rfl (s_bin rfl (gk (gk (gk gt8))) rfl rfl) (sk (sk (sk st9))) ?_
            refine draw_ok rfl rfl (s_move rfl (gk (gk (gk gt9))) (tyo_ok rfl)) (sk (sk (sk st10))) ?_
            refine draw_gv rfl rfl (fun hb => s_move rfl gt14 (tyo_ok rfl)) (sk (sk (sk st11))) ?_
            refine chkF hF (fun hg50 hF => ?_)
            refine draw_gv rfl rfl (fun hb => s_slcSl rfl el61 (evo_gv (gk (gk (gk gt11))) hb) (.inl rfl) .none (.some rfl) (slc_of (hg50 hb))) (sk (sk (sk st12))) ?_
            refine draw_gv rfl rfl (fun hb => e_load rfl ty67.choose_spec.1 gt16 rfl (ldC_agX (cs' := [.sl 1 (x1.path.map strRow), .int .u8 x1.leaf.typ, .int .i64 x1.leaf.n, .int .u64 x1.leaf.time, .int .u8 x1.leaf.dot.actor.rep, .int .u32 x1.leaf.dot.actor.inc, .int .u64 x1.leaf.dot.seq, .str x1.leaf.text, .sl 5 (x1.leaf.items.map GItem.row), .sl 3 (x1.leaf.tombs.map GDot.row)]) ty67.choose_spec.2 rfl rfl) (tyo_ok rfl)) (sk (sk (sk st13))) ?_
            refine draw_gv rfl rfl (fun hb => s_buildSlice (es := ([x1] : List GRow).map GRow.row) rfl el61 ze67 rfl rfl (parto_cons (evo_gv (gk (gk (gk gt13))) hb) parto_nil) (.cons (tyo_ok rfl) .nil) rfl rfl rfl) (sk (sk (sk st14))) ?_
            refine gbindF hF (fun v51 hv51 hF => ?_)
            refine draw_gcall rfl rfl (fun hb => s_call0 rfl rfl rfl (argo_cons (evo_gv (gk (gk (gk gt12))) hb) (argo_cons (evo_gv (gk (gk (gk gt14))) hb) argo_nil)) (.cons (tyo_ok rfl) (.cons (tyo_ok rfl) .nil))) (fun hb => (ok39 (hv51 hb)).le (.eq (.cons (leV.osl _ _ _) leL.nil))) (sk (sk (sk st15))) ?_
            refine draw_ok rfl rfl (s_pick rfl (gk (gk (gk gt10))) (gk (gk (gk gt15))) rfl (pick_and (fun ht => gT ht))) (sk (sk (sk st16))) ?_
            refine draw_ok rfl rfl (s_move rfl (gk (gk (gk gt16))) (tyo_ok rfl)) (sk (sk (sk st17))) ?_
            refine draw_gv rfl rfl (fun hb => s_move rfl gt1 (tyo_ok rfl)) (sk (sk (sk st18))) ?_
            refine draw_gv rfl rfl (fun hb => s_fieldAddr rfl fo67x0 gt16 rfl) (sk (sk (sk st19))) ?_
            refine draw_gv rfl rfl (fun hb => e_load rfl ty28 (evo_gv (gk (gk (gk gt19))) hb) rfl (ldC_one rfl) (tyo_ok rfl)) (sk (sk (sk st20))) ?_
            refine gbindF hF (fun v52 hv52 hF => ?_)
            refine draw_gcall rfl rfl (fun hb => s_call0 rfl rfl rfl (argo_cons (evo_gv (gk (gk (gk gt18))) hb) (argo_cons (evo_gv (gk (gk (gk gt20))) hb) argo_nil)) (.cons (tyo_ok rfl) (.cons (tyo_ok rfl) .nil))) (fun hb => ok38 (hv52 hb)) (sk (sk (sk st21))) ?_
            refine draw_gv rfl rfl (fun hb => s_un rfl (evo_gv (gk (gk (gk gt21))) hb) rfl) (sk (sk (sk st22))) ?_
            refine draw_ok rfl rfl (s_pick rfl (gk (gk (gk gt17))) (gk (gk (gk gt22))) rfl (pick_and (fun ht => gT ht))) (sk (sk (sk st23))) ?_
            refine draw_ok rfl rfl (s_assign rfl (gk (gk (gk gt23))) (tyo_ok rfl)) (sk (sk (sk st6))) ?_
            refine draw_nil ?_
            refine q_seq ?_
            refine r_condF (gk (gk (gk gt6))) hF (fun hc53 hF => ?_) (fun hc53 hF => ?_)
            · skip
              refine r_region ?_
              refine ops_ok rfl (s_move rfl gt14 (tyo_ok rfl)) (sk (sk (sk st24))) ?_
              refine bindF hF (fun m54 hm54 hF => ?_)
              refine ops_ok rfl (s_slcSl rfl el61 (gk (gk (gk gt24))) (.inl rfl) (.some rfl) .none hm54) (sk (sk (sk st25))) ?_
              refine ops_ok rfl (s_assign rfl (gk (gk (gk gt25))) (tyo_ok rfl)) st14 ?_
              refine ops_nil ?_
              refine q_block ?_
              refine q_block ?_
              refine q_seq ?_
              refine r_region ?_
              refine ops_ok rfl (s_bin rfl (gk (gk gt23)) rfl rfl) (sk (sk (sk st26))) ?_
              refine ops_ok rfl (s_move rfl (gk (gk (gk gt26))) (tyo_ok rfl)) (sk (sk st23)) ?_
              refine ops_nil ?_
              refine q_loop ?_
              obtain rfl := Option.some.inj hF
              exact ⟨(s1.1, m54), hl1, hK1, wk.trans (wk.le (by exact (.drop (.eq (.drop (.drop (.drop (.drop (.drop (.drop (.drop (.drop (.drop (.drop (.drop (.cons (leV.of_eq rfl) (.cons (leV.of_eq rfl) (.drop (.drop (.drop (.drop (.drop (.drop (.drop (.drop (.drop (.drop (.drop (.drop (.drop (.drop (.drop (.drop (.drop (.drop (.drop (.drop (.drop (.drop (.drop (.drop (.drop (.drop (.drop (.drop (.drop (.drop (.drop (.drop (.drop (.drop (.drop (.drop (.drop (.drop (.drop (.drop (.drop (.drop (.drop (.drop (.drop (.drop (.drop (.drop (.drop (.drop (.drop (.drop (.drop (.drop (.drop (.drop (.drop (.drop (.drop (.drop (.drop (.drop (.drop (.drop (.drop (.drop (.drop (.drop (.drop (.drop (.drop (.drop (.drop (.drop (.drop (.drop (.drop (.drop (.drop (.drop (.drop (.drop (.drop (.drop (.drop (.drop (.eq (.eq (.cons (leV.of_eq (w64e (by omega) (by omega))) (.drop (.drop (.drop (.drop (.drop (.drop (.drop (.drop (.drop (.drop (.drop (.drop (.drop (.drop (.drop (.drop (.drop (.drop (.drop (.drop (.drop (.drop (.drop (.drop (.drop (.drop (.drop (.drop (.drop (.drop (.drop (.drop (.drop (.drop (.drop (.drop (.drop (.drop (.drop (.drop (.drop (.drop (.drop (.drop (.drop (.drop (.drop (.drop (.drop (.drop (.drop (.drop leL.nil)))))))))))))))))))))))))))))))))))))))))))))))))))))))))))))))))))))))))))))))))))))))))))))))))))))))))))))))))))))))))))))))))))))))))))))))))))))))))))))) (wk_ext3 (by simp [lowL, AV.low]) rfl rfl (by simp [Blk.low, lowL, AV.low]))⟩
            · skip
              refine r_seq ?_
              refine r_region ?_
              refine ops_ok rfl (s_assign rfl rfl (tyo_ok rfl)) st4 ?_
              refine ops_nil ?_
              refine q_seq ?_
              refine r_ret ?_
              refine q_block_ret ?_
              refine q_block_ret ?_
              refine q_seq_ret ?_
              refine q_loop_ret ?_
              obtain rfl := Option.some.inj hF
              replace hF := hK1
              refine q_block_ret ?_
              refine q_seq_ret ?_
              obtain rfl := Option.some.inj hF
              refine q_retL1 rfl (rl_tmp gt4 rl_nil) (fin_ext (leV.refl _) rfl ?_)
              exact ⟨rfl, rfl⟩
        · skip
          refine r_exit ?_
          refine q_seq_exit ?_
          refine q_loop_exit ?_
          refine q_block_hit ?_
          refine q_seq ?_
          refine r_seq ?_
          refine r_region ?_
          refine ops_ok rfl (s_move rfl gt13 (tyo_ok rfl)) (sk (sk (sk st27))) ?_
          refine ops_len rfl (s_lenSl rfl rfl rfl rfl el61 (gk (gk (gk gt27))) lenMap) (sk (sk (sk st28))) fun hn55 => ?_
          replace hn55 := lenN hn55
          refine ops_ok rfl (s_move rfl gt14 (tyo_ok rfl)) (sk (sk (sk st29))) ?_
          refine ops_len rfl (s_lenSl rfl rfl rfl rfl el61 (gk (gk (gk gt29))) lenMap) (sk (sk (sk st30))) fun hn56 => ?_
          replace hn56 := lenN hn56
          refine ops_ok rfl (s_bin rfl (gk (gk (gk gt28))) (gk (gk (gk gt30))) rfl) (sk (sk (sk st31))) ?_
          refine ops_ok rfl (s_bin rfl (gk (gk (gk gt31))) rfl rfl) (sk (sk (sk st32))) ?_
          refine ops_ok rfl (s_move rfl (gk (gk (gk gt32))) (tyo_ok rfl)) (sk (sk (sk st33))) ?_
          refine gbindF hF (fun v57 hv57 hF => ?_)
          refine ops_gcall rfl (fun hb => s_call0 rfl rfl rfl argo_nil .nil) (fun hb => ok34 (hv57 hb)) (sk (sk (sk st34))) ?_
          refine ops_ok rfl (s_pick rfl (gk (gk (gk gt33))) (gk (gk (gk gt34))) rfl (pick_and (fun ht => gT ht))) (sk (sk (sk st35))) ?_
          refine ops_ok rfl (s_assign rfl (gk (gk (gk gt35))) (tyo_ok rfl)) st4 ?_
          refine ops_nil ?_
          refine q_seq ?_
          refine r_ret ?_
          obtain rfl := Option.some.inj hF
          refine q_retL1 rfl (rl_tmp gt4 rl_nil) (fin_ext (leV.refl _) rfl ?_)
          exact ⟨rfl, rfl⟩
end Go.Vv
