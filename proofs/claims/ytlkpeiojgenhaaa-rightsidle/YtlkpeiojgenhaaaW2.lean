/- Each function that the law reaches computes what its reading says; printed by a program. -/
import Derived.Test.YtlkpeiojgenhaaaW1
namespace Go.Vv
open Go Go.Proofs
set_option maxRecDepth 100000
set_option maxHeartbeats 1000000
set_option linter.unusedSimpArgs false
set_option linter.unusedVariables false
/-! varve/rights.Allows -/
theorem ok28 {l0 : (List GRule)} {rep1 : Int} {o2 : GOp} {res : Bool} {h : AH}  (hF : rightsAllows l0 rep1 o2 = some res) : Spec Try.prog 28 [.sl 5 (l0.map GRule.row), .int .u8 rep1, .agg [.int .u8 o2.kind, .sl 1 (o2.path.map strRow), .int .i64 o2.n, .str o2.text, .sl 3 (o2.dots.map GDot.row)]] h (fun rr hh => rr = .bool res ∧ hh = h) := by
  unfold rightsAllows at hF
  refine spec_of_body_ext Try.func28 rfl (by kernel_rfl) (env := [.sl 5 (l0.map GRule.row), .int .u8 rep1, .agg [.int .u8 o2.kind, .sl 1 (o2.path.map strRow), .int .i64 o2.n, .str o2.text, .sl 3 (o2.dots.map GDot.row)], aundef, aundef, aundef, aundef, aundef, aundef, aundef, aundef, aundef, aundef, aundef, aundef, aundef, aundef, aundef, aundef, aundef, aundef]) (by rfl) ?_
  refine r_seq ?_
  refine r_region ?_
  refine ops_ok rfl (e_box (n := 0) rfl gt2 (tyo_ok rfl) rfl rfl) st5 ?_
  refine ops_ok rfl (s_assign rfl rfl (tyo_ok rfl)) st6 ?_
  refine ops_nil ?_
  refine q_seq ?_
  refine r_seq ?_
  refine r_region ?_
  refine ops_ok rfl (s_move rfl gt0 (tyo_ok rfl)) st8 ?_
  refine ops_ok rfl (s_move rfl gt1 (tyo_ok rfl)) st9 ?_
  refine ops_ok rfl (e_load rfl ty31.choose_spec.1 gt5 rfl (ldC_agX (cs' := [.int .u8 o2.kind, .sl 1 (o2.path.map strRow), .int .i64 o2.n, .str o2.text, .sl 3 (o2.dots.map GDot.row)]) ty31.choose_spec.2 rfl rfl) (tyo_ok rfl)) st10 ?_
  refine bindF hF (fun v1 hv1 hF => ?_)
  refine ops_callP rfl (s_call0 rfl rfl rfl (argo_cons gt8 (argo_cons gt9 (argo_cons gt10 argo_nil))) (.cons (tyo_ok rfl) (.cons (tyo_ok rfl) (.cons (tyo_ok rfl) .nil)))) (ok64 hv1) st11 ?_
  refine ops_ok rfl (s_assign rfl gt11 (tyo_ok rfl)) st7 ?_
  refine ops_nil ?_
  refine q_seq ?_
  refine r_seq ?_
  refine r_region ?_
  refine ops_ok rfl (s_move rfl gt7 (tyo_ok rfl)) st12 ?_
  refine ops_ok rfl (s_bin rfl gt12 rfl rfl) st13 ?_
  refine ops_ok rfl (s_move rfl gt13 (tyo_ok rfl)) st14 ?_
  refine ops_gv rfl (fun hb => s_move rfl gt0 (tyo_ok rfl)) st15 ?_
  refine ops_gv rfl (fun hb => s_move rfl gt7 (tyo_ok rfl)) st16 ?_
  refine chkF hF (fun hg2 hF => ?_)
  refine ops_gv rfl (fun hb => s_gidxRow default rfl el42 (evo_gv gt15 hb) (evo_gv gt16 hb) isl (hg2 hb)) st17 ?_
  refine ops_gv rfl (fun hb => s_fieldAddr rfl fo48x3 (evo_gv gt17 hb) rfl) st18 ?_
  refine ops_gv rfl (fun hb => f_load rfl ty4 (evo_gv gt18 hb) (ldC_one rfl) (tyo_ok rfl)) st19 ?_
  refine ops_ok rfl (s_pick rfl gt14 gt19 rfl (pick_and (fun ht => gT ht))) st20 ?_
  refine ops_ok rfl (s_assign rfl gt20 (tyo_ok rfl)) st6 ?_
  refine ops_nil ?_
  refine q_seq ?_
  refine r_ret ?_
  obtain rfl := Option.some.inj hF
  refine q_retL1 rfl (rl_tmp gt6 rl_nil) (fin_ext (leV.refl _) rfl ?_)
  exact ⟨rfl, rfl⟩
/-! varve/varvelaw42.known -/
theorem ok25  {res : Bool} {h : AH}  (hF : law42Xknown  = some res) : Spec Try.prog 25 [] h (fun rr hh => rr = .bool res ∧ hh = h) := by
  unfold law42Xknown at hF
  refine spec_of_body_ext Try.func25 rfl (by kernel_rfl) (env := [aundef, aundef, aundef, aundef, aundef, aundef, aundef, aundef, aundef, aundef, aundef, aundef, aundef, aundef, aundef, aundef, aundef, aundef, aundef, aundef, aundef, aundef, aundef, aundef, aundef, aundef, aundef, aundef, aundef]) (by rfl) ?_
  refine r_seq ?_
  refine r_region ?_
  refine ops_ok rfl (s_assign rfl rfl (tyo_ok rfl)) st0 ?_
  refine ops_nil ?_
  refine q_seq ?_
  refine r_seq ?_
  refine r_region ?_
  refine ops_ok rfl (s_buildSlice (es := ([([42, 42] : Str)] : List Str).map strRow) rfl el28 ze9 rfl rfl (parto_cons rfl parto_nil) (.cons (tyo_ok rfl) .nil) rfl rfl rfl) st3 ?_
  refine ops_ok rfl (s_build (cs' := [.int .u8 (255 : Int), .osl none 1 (([([42, 42] : Str)] : List Str).map strRow), .int .u8 (62 : Int), .bool true, .bool false]) rfl su48 ze48 pl48 (parto_cons rfl (parto_cons gt3 (parto_cons rfl (parto_cons rfl parto_nil)))) (.cons (tyo_ok rfl) (.cons (tyo_ok rfl) (.cons (tyo_ok rfl) (.cons (tyo_ok rfl) .nil)))) rfl rfl) st4 ?_
  refine ops_ok rfl (s_buildSlice (es := ([([97] : Str), ([42, 42] : Str)] : List Str).map strRow) rfl el28 ze9 rfl rfl (parto_cons rfl (parto_cons rfl parto_nil)) (.cons (tyo_ok rfl) (.cons (tyo_ok rfl) .nil)) rfl rfl rfl) st5 ?_
  refine ops_ok rfl (s_build (cs' := [.int .u8 (1 : Int), .osl none 1 (([([97] : Str), ([42, 42] : Str)] : List Str).map strRow), .int .u8 (62 : Int), .bool false, .bool false]) rfl su48 ze48 pl48 (parto_cons rfl (parto_cons gt5 (parto_cons rfl parto_nil))) (.cons (tyo_ok rfl) (.cons (tyo_ok rfl) (.cons (tyo_ok rfl) .nil))) rfl rfl) st6 ?_
  refine ops_ok rfl (s_buildSlice (es := ([(GRule.mk (255 : Int) ([([42, 42] : Str)] : List Str) (62 : Int) true false), (GRule.mk (1 : Int) ([([97] : Str), ([42, 42] : Str)] : List Str) (62 : Int) false false)] : List GRule).map GRule.row) rfl el42 ze48 rfl rfl (parto_cons gt4 (parto_cons gt6 parto_nil)) (.cons (tyo_ok rfl) (.cons (tyo_ok rfl) .nil)) rfl rfl rfl) st7 ?_
  refine ops_ok rfl (s_assign rfl gt7 (tyo_ok rfl)) st1 ?_
  refine ops_nil ?_
  refine q_seq ?_
  refine r_seq ?_
  refine r_region ?_
  refine ops_ok rfl (s_buildSlice (es := ([([97] : Str), ([98] : Str)] : List Str).map strRow) rfl el28 ze9 rfl rfl (parto_cons rfl (parto_cons rfl parto_nil)) (.cons (tyo_ok rfl) (.cons (tyo_ok rfl) .nil)) rfl rfl rfl) st8 ?_
  refine ops_ok rfl (s_build (cs' := [.int .u8 (1 : Int), .osl none 1 (([([97] : Str), ([98] : Str)] : List Str).map strRow), .int .i64 (0 : Int), .str ([] : Str), .osl none 3 (([] : List GDot).map GDot.row)]) rfl su31 ze31 pl31 (parto_cons rfl (parto_cons gt8 parto_nil)) (.cons (tyo_ok rfl) (.cons (tyo_ok rfl) .nil)) rfl rfl) st9 ?_
  refine ops_ok rfl (e_alloc (n := 0) rfl ze31 rfl) st2 ?_
  refine ops_ok rfl (e_store (cs' := [.int .u8 (1 : Int), .osl none 1 (([([97] : Str), ([98] : Str)] : List Str).map strRow), .int .i64 (0 : Int), .str ([] : Str), .osl none 3 (([] : List GDot).map GDot.row)]) rfl ty31.choose_spec.1 gt2 gt9 (tyo_ok rfl) rfl rfl rfl rfl rfl) rfl ?_
  refine ops_nil ?_
  refine q_seq ?_
  refine r_seq ?_
  refine r_region ?_
  refine ops_ok rfl (s_move rfl gt1 (tyo_ok rfl)) st10 ?_
  refine bindF hF (fun v1 hv1 hF => ?_)
  refine ops_callP rfl (s_call0 rfl rfl rfl (argo_cons gt10 argo_nil) (.cons (tyo_ok rfl) .nil)) ((ok24 hv1).le (.cons (leV.osl _ _ _) leL.nil)) st11 ?_
  refine ops_ok rfl (s_move rfl gt11 (tyo_ok rfl)) st12 ?_
  refine ops_gv rfl (fun hb => s_move rfl gt1 (tyo_ok rfl)) st13 ?_
  refine ops_gv rfl (fun hb => e_load rfl ty31.choose_spec.1 gt2 rfl (ldC_agX (cs' := [.int .u8 (1 : Int), .osl none 1 (([([97] : Str), ([98] : Str)] : List Str).map strRow), .int .i64 (0 : Int), .str ([] : Str), .osl none 3 (([] : List GDot).map GDot.row)]) ty31.choose_spec.2 rfl rfl) (tyo_ok rfl)) st14 ?_
  refine gbindF hF (fun v2 hv2 hF => ?_)
  refine ops_gcall rfl (fun hb => s_call0 rfl rfl rfl (argo_cons (evo_gv gt13 hb) (argo_cons rfl (argo_cons (evo_gv gt14 hb) argo_nil))) (.cons (tyo_ok rfl) (.cons (tyo_ok rfl) (.cons (tyo_ok rfl) .nil)))) (fun hb => (ok28 (hv2 hb)).le (.cons (leV.osl _ _ _) (.eq (.cons (leV.agg (.eq (.cons (leV.osl _ _ _) (.eq (.eq (.cons (leV.osl _ _ _) leL.nil))))) rfl) leL.nil)))) st15 ?_
  refine ops_gv rfl (fun hb => s_un rfl (evo_gv gt15 hb) rfl) st16 ?_
  refine ops_ok rfl (s_pick rfl gt12 gt16 rfl (pick_and (fun ht => gT ht))) st17 ?_
  refine ops_ok rfl (s_move rfl gt17 (tyo_ok rfl)) st18 ?_
  refine ops_gv rfl (fun hb => s_move rfl gt1 (tyo_ok rfl)) st19 ?_
  refine ops_gv rfl (fun hb => e_load rfl ty31.choose_spec.1 gt2 rfl (ldC_agX (cs' := [.int .u8 (1 : Int), .osl none 1 (([([97] : Str), ([98] : Str)] : List Str).map strRow), .int .i64 (0 : Int), .str ([] : Str), .osl none 3 (([] : List GDot).map GDot.row)]) ty31.choose_spec.2 rfl rfl) (tyo_ok rfl)) st20 ?_
  refine gbindF hF (fun v3 hv3 hF => ?_)
  refine ops_gcall rfl (fun hb => s_call0 rfl rfl rfl (argo_cons (evo_gv gt19 hb) (argo_cons rfl (argo_cons (evo_gv gt20 hb) argo_nil))) (.cons (tyo_ok rfl) (.cons (tyo_ok rfl) (.cons (tyo_ok rfl) .nil)))) (fun hb => (ok28 (hv3 hb)).le (.cons (leV.osl _ _ _) (.eq (.cons (leV.agg (.eq (.cons (leV.osl _ _ _) (.eq (.eq (.cons (leV.osl _ _ _) leL.nil))))) rfl) leL.nil)))) st21 ?_
  refine ops_ok rfl (s_pick rfl gt18 gt21 rfl (pick_and (fun ht => gT ht))) st22 ?_
  refine ops_ok rfl (s_move rfl gt22 (tyo_ok rfl)) st23 ?_
  refine ops_gv rfl (fun hb => s_move rfl gt1 (tyo_ok rfl)) st24 ?_
  refine ops_gv rfl (fun hb => e_load rfl ty31.choose_spec.1 gt2 rfl (ldC_agX (cs' := [.int .u8 (1 : Int), .osl none 1 (([([97] : Str), ([98] : Str)] : List Str).map strRow), .int .i64 (0 : Int), .str ([] : Str), .osl none 3 (([] : List GDot).map GDot.row)]) ty31.choose_spec.2 rfl rfl) (tyo_ok rfl)) st25 ?_
  refine gbindF hF (fun v4 hv4 hF => ?_)
  refine ops_gcall rfl (fun hb => s_call0 rfl rfl rfl (argo_cons (evo_gv gt24 hb) (argo_cons rfl (argo_cons (evo_gv gt25 hb) argo_nil))) (.cons (tyo_ok rfl) (.cons (tyo_ok rfl) (.cons (tyo_ok rfl) .nil)))) (fun hb => (ok64 (hv4 hb)).le (.cons (leV.osl _ _ _) (.eq (.cons (leV.agg (.eq (.cons (leV.osl _ _ _) (.eq (.eq (.cons (leV.osl _ _ _) leL.nil))))) rfl) leL.nil)))) st26 ?_
  refine ops_gv rfl (fun hb => s_bin rfl (evo_gv gt26 hb) rfl rfl) st27 ?_
  refine ops_ok rfl (s_pick rfl gt23 gt27 rfl (pick_and (fun ht => gT ht))) st28 ?_
  refine ops_ok rfl (s_assign rfl gt28 (tyo_ok rfl)) st0 ?_
  refine ops_nil ?_
  refine q_seq ?_
  refine r_ret ?_
  obtain rfl := Option.some.inj hF
  refine q_retL1 rfl (rl_tmp gt0 rl_nil) (fin_ext (leV.refl _) rfl ?_)
  exact ⟨rfl, rfl⟩
/-! varve/rights.parts -/
theorem ok102 {p0 : (List Str)} {res : ((List Str) × Bool)} {h : AH}  (hF : rightsXparts p0 = some res) : Spec Try.prog 102 [.sl 1 (p0.map strRow)] h (fun rr hh => rr = .tup [.sl 1 (res.1.map strRow), .bool res.2] ∧ hh = h) := by
  unfold rightsXparts at hF
  refine spec_of_body_ext Try.func102 rfl (by kernel_rfl) (env := [.sl 1 (p0.map strRow), aundef, aundef, aundef, aundef, aundef, aundef, aundef, aundef, aundef, aundef, aundef, aundef, aundef, aundef, aundef, aundef, aundef]) (by rfl) ?_
  refine r_seq ?_
  refine r_region ?_
  refine ops_ok rfl (s_assign rfl rfl (ty_nil el28)) st2 ?_
  refine ops_ok rfl (s_assign rfl rfl (tyo_ok rfl)) st3 ?_
  refine ops_nil ?_
  refine q_seq ?_
  refine r_seq ?_
  refine r_seq ?_
  refine r_region ?_
  refine ops_ok rfl (s_move rfl gt0 (tyo_ok rfl)) st5 ?_
  refine ops_len rfl (s_lenSl rfl rfl rfl rfl el28 gt5 lenMap) st6 fun hn1 => ?_
  replace hn1 := lenN hn1
  refine ops_ok rfl (s_assign rfl gt6 (tyo_ok rfl)) st4 ?_
  refine ops_nil ?_
  refine q_seq ?_
  refine r_seq ?_
  refine r_region ?_
  refine ops_ok rfl (s_move rfl gt0 (tyo_ok rfl)) st7 ?_
  refine ops_ok rfl (s_move rfl gt4 (tyo_ok rfl)) st8 ?_
  refine ops_ok rfl (s_bin rfl gt8 rfl rfl) st9 ?_
  refine bindF hF (fun y2 hy2 hF => ?_)
  refine ops_ok rfl (s_idxRow rfl el28 gt7 gt9 isl hy2) st10 ?_
  refine ops_ok rfl (f_load rfl ty9 gt10 (ldC_one rfl) (tyo_ok rfl)) st11 ?_
  refine ops_ok rfl (s_bin rfl gt11 rfl rfl) st12 ?_
  refine ops_nil ?_
  refine q_seq ?_
  refine r_condF gt12 hF (fun hc3 hF => ?_) (fun hc3 hF => ?_)
  · skip
    refine r_seq ?_
    refine r_region ?_
    refine ops_ok rfl (s_move rfl gt0 (tyo_ok rfl)) st13 ?_
    refine ops_ok rfl (s_move rfl gt4 (tyo_ok rfl)) st14 ?_
    refine ops_ok rfl (s_bin rfl gt14 rfl rfl) st15 ?_
    refine bindF hF (fun m4 hm4 hF => ?_)
    refine ops_ok rfl (s_slcSl rfl el28 gt13 (.inl rfl) .none (.some gt15) hm4) st16 ?_
    refine ops_ok rfl (s_assign rfl gt16 (tyo_ok rfl)) st2 ?_
    refine ops_ok rfl (s_assign rfl rfl (tyo_ok rfl)) st3 ?_
    refine ops_nil ?_
    refine q_seq ?_
    refine r_ret ?_
    refine q_seq_ret ?_
    obtain rfl := Option.some.inj hF
    refine q_retL rfl (rl_tmp gt2 (rl_tmp gt3 rl_nil)) (fin_ext (leV.refl _) rfl ?_)
    exact ⟨rfl, rfl⟩
  · skip
    refine r_skip ?_
    refine q_seq ?_
    refine r_seq ?_
    refine r_region ?_
    refine ops_ok rfl (s_move rfl gt0 (tyo_ok rfl)) st17 ?_
    refine ops_ok rfl (s_assign rfl gt17 (tyo_ok rfl)) st2 ?_
    refine ops_ok rfl (s_assign rfl rfl (tyo_ok rfl)) st3 ?_
    refine ops_nil ?_
    refine q_seq ?_
    refine r_ret ?_
    obtain rfl := Option.some.inj hF
    refine q_retL rfl (rl_tmp gt2 (rl_tmp gt3 rl_nil)) (fin_ext (leV.refl _) rfl ?_)
    exact ⟨rfl, rfl⟩
/-! varve/rights.wider -/
theorem ok66 {p0 : (List Str)} {q1 : (List Str)} {res : Bool} {h : AH}  (hF : rightsXwider p0 q1 = some res) : Spec Try.prog 66 [.sl 1 (p0.map strRow), .sl 1 (q1.map strRow)] h (fun rr hh => rr = .bool res ∧ hh = h) := by
  unfold rightsXwider at hF
  refine spec_of_body_ext Try.func66 rfl (by kernel_rfl) (env := [.sl 1 (p0.map strRow), .sl 1 (q1.map strRow), aundef, aundef, aundef, aundef, aundef, aundef, aundef, aundef, aundef, aundef, aundef, aundef, aundef, aundef, aundef, aundef, aundef, aundef, aundef, aundef, aundef, aundef, aundef, aundef, aundef, aundef, aundef, aundef, aundef, aundef, aundef, aundef, aundef, aundef, aundef, aundef, aundef, aundef, aundef, aundef, aundef, aundef, aundef, aundef, aundef, aundef, aundef, aundef, aundef, aundef, aundef, aundef, aundef, aundef, aundef, aundef]) (by rfl) ?_
  refine r_seq ?_
  refine r_region ?_
  refine ops_ok rfl (s_assign rfl rfl (tyo_ok rfl)) st4 ?_
  refine ops_nil ?_
  refine q_seq ?_
  refine r_seq ?_
  refine r_region ?_
  refine ops_ok rfl (s_move rfl gt0 (tyo_ok rfl)) st12 ?_
  refine bindF hF (fun v1 hv1 hF => ?_)
  refine ops_callP rfl (s_call0 rfl rfl rfl (argo_cons gt12 argo_nil) (.cons (tyo_ok rfl) .nil)) (ok102 hv1) st13 ?_
  refine ops_ok rfl (s_move rfl gt13 (tyo_ok rfl)) st11 ?_
  refine ops_ok rfl (s_extract rfl gt11 rfl (tyo_ok rfl)) st14 ?_
  refine ops_ok rfl (s_extract rfl gt11 rfl (tyo_ok rfl)) st15 ?_
  refine ops_ok rfl (s_assign rfl gt14 (tyo_ok rfl)) st5 ?_
  refine ops_ok rfl (s_assign rfl gt15 (tyo_ok rfl)) st6 ?_
  refine ops_nil ?_
  refine q_seq ?_
  refine r_seq ?_
  refine r_region ?_
  refine ops_ok rfl (s_move rfl gt1 (tyo_ok rfl)) st17 ?_
  refine bindF hF (fun v2 hv2 hF => ?_)
  refine ops_callP rfl (s_call0 rfl rfl rfl (argo_cons gt17 argo_nil) (.cons (tyo_ok rfl) .nil)) (ok102 hv2) st18 ?_
  refine ops_ok rfl (s_move rfl gt18 (tyo_ok rfl)) st16 ?_
  refine ops_ok rfl (s_extract rfl gt16 rfl (tyo_ok rfl)) st19 ?_
  refine ops_ok rfl (s_extract rfl gt16 rfl (tyo_ok rfl)) st20 ?_
  refine ops_ok rfl (s_assign rfl gt19 (tyo_ok rfl)) st7 ?_
  refine ops_ok rfl (s_assign rfl gt20 (tyo_ok rfl)) st8 ?_
  refine ops_nil ?_
  refine q_seq ?_
  refine r_seq ?_
  refine r_seq ?_
  refine r_region ?_
  refine ops_ok rfl (s_move rfl gt5 (tyo_ok rfl)) st21 ?_
  refine ops_len rfl (s_lenSl rfl rfl rfl rfl el28 gt21 lenMap) st22 fun hn3 => ?_
  replace hn3 := lenN hn3
  refine ops_ok rfl (s_move rfl gt7 (tyo_ok rfl)) st23 ?_
  refine ops_len rfl (s_lenSl rfl rfl rfl rfl el28 gt23 lenMap) st24 fun hn4 => ?_
  replace hn4 := lenN hn4
  refine ops_ok rfl (s_bin rfl gt22 gt24 rfl) st25 ?_
  refine ops_ok rfl (s_move rfl gt25 (tyo_ok rfl)) st26 ?_
  refine ops_gv rfl (fun hb => s_move rfl gt6 (tyo_ok rfl)) st27 ?_
  refine ops_gv rfl (fun hb => s_un rfl (evo_gv gt27 hb) rfl) st28 ?_
  refine ops_gv rfl (fun hb => s_move rfl (evo_gv gt28 hb) (tyo_ok rfl)) st29 ?_
  refine ops_gv (aG_gv rfl rfl rfl) (fun hb => s_move rfl gt8 (tyo_ok rfl)) st30 ?_
  refine ops_gv (aG_gv rfl rfl rfl) (fun hb => s_move rfl (evo_gv gt30 hb) (tyo_ok rfl)) st31 ?_
  refine ops_gv (aG_gv rfl rfl rfl) (fun hb => s_move rfl gt5 (tyo_ok rfl)) st32 ?_
  refine ops_glen (aG_gv rfl rfl rfl) (fun hb => s_lenSl rfl rfl rfl rfl el28 (evo_gv gt32 hb) lenMap) st33 fun hn5 => ?_
  refine ops_gv (aG_gv rfl rfl rfl) (fun hb => s_move rfl gt7 (tyo_ok rfl)) st34 ?_
  refine ops_glen (aG_gv rfl rfl rfl) (fun hb => s_lenSl rfl rfl rfl rfl el28 (evo_gv gt34 hb) lenMap) st35 fun hn6 => ?_
  refine ops_gv (aG_gv rfl rfl rfl) (fun hb => s_bin rfl (evo_gv gt33 hb) (evo_gv gt35 hb) rfl) st36 ?_
  refine ops_gv (aG_gv rfl rfl rfl) (fun hb => s_pick rfl (evo_gv gt31 hb) rfl gt36 (pick_or (fun ht => gF2 hb ht))) st37 ?_
  refine ops_gv rfl (fun hb => s_pick rfl (evo_gv gt29 hb) gt37 rfl (pick_and (fun ht => gT2 hb ht))) st38 ?_
  refine ops_ok rfl (s_pick rfl gt26 rfl gt38 (pick_or (fun ht => gF ht))) st39 ?_
  refine ops_nil ?_
  refine q_seq ?_
  refine r_condF gt39 hF (fun hc7 hF => ?_) (fun hc7 hF => ?_)
  · skip
    refine r_seq ?_
    refine r_region ?_
    refine ops_ok rfl (s_assign rfl rfl (tyo_ok rfl)) st4 ?_
    refine ops_nil ?_
    refine q_seq ?_
    refine r_ret ?_
    refine q_seq_ret ?_
    obtain rfl := Option.some.inj hF
    refine q_retL1 rfl (rl_tmp gt4 rl_nil) (fin_ext (leV.refl _) rfl ?_)
    exact ⟨rfl, rfl⟩
  · skip
    refine r_skip ?_
    refine q_seq ?_
    refine r_seq ?_
    refine r_seq ?_
    refine r_region ?_
    refine ops_ok rfl (s_move rfl gt5 (tyo_ok rfl)) st40 ?_
    refine ops_len rfl (s_lenSl rfl rfl rfl rfl el28 gt40 lenMap) st41 fun hn8 => ?_
    replace hn8 := lenN hn8
    refine ops_ok rfl (s_move rfl rfl (tyo_ok rfl)) st42 ?_
    refine ops_nil ?_
    refine q_seq ?_
    refine r_block ?_
    refine r_loopLF (fun (n1 : Nat) (s1 : Unit) => [(0, .any), (1, .any), (2, .any), (3, .any), (4, .any), (5, .any), (6, .any), (8, .any), (9, .any), (10, .any), (11, .any), (12, .any), (13, .any), (14, .any), (15, .any), (16, .any), (17, .any), (18, .any), (19, .any), (20, .any), (21, .any), (22, .any), (23, .any), (24, .any), (25, .any), (26, .any), (27, .any), (28, .any), (29, .any), (30, .any), (31, .any), (32, .any), (33, .any), (34, .any), (35, .any), (36, .any), (37, .any), (38, .any), (39, .any), (42, .int .i64 (n1 : Int)), (43, .any), (44, .any), (45, .any), (46, .any), (47, .any), (48, .any), (49, .any), (50, .any), (51, .any), (52, .any), (53, .any), (54, .any), (55, .any), (56, .any), (57, .any)]) (fun s1 => h.ext [] []) hF (fun _ _ => by simp only [upd, List.set_cons_succ, List.set_cons_zero]; try rfl) (wk.le (by exact (.drop (.drop (.drop (.drop (.drop (.drop (.drop (.eq (.drop (.drop (.drop (.drop (.drop (.drop (.drop (.drop (.drop (.drop (.drop (.drop (.drop (.drop (.drop (.drop (.drop (.drop (.drop (.drop (.drop (.drop (.drop (.drop (.drop (.drop (.drop (.drop (.drop (.drop (.drop (.drop (.eq (.eq (.cons (leV.of_eq rfl) (.drop (.drop (.drop (.drop (.drop (.drop (.drop (.drop (.drop (.drop (.drop (.drop (.drop (.drop (.drop leL.nil)))))))))))))))))))))))))))))))))))))))))))))))))))))))))))) ?_
    intro n1 s1 hi1 hF
    refine r_seq ?_
    refine r_region ?_
    refine ops_ok rfl (s_bin rfl gt42 gt41 rfl) st43 ?_
    refine ops_nil ?_
    refine q_seq ?_
    refine r_seq ?_
    refine r_condL gt43 hF (fun x1 o1 hl1 hx1 hF hK1 => ?_) (fun hF => ?_)
    · skip
      refine r_skip ?_
      refine q_seq ?_
      refine r_seq ?_
      refine r_block ?_
      refine r_seq ?_
      refine r_region ?_
      refine ops_ok rfl (s_move rfl gt42 (tyo_ok rfl)) st44 ?_
      refine ops_ok rfl (s_idxRow rfl el28 gt40 gt42 isl (idx_of hx1)) st45 ?_
      refine ops_ok rfl (f_load rfl ty9 gt45 (ldC_one rfl) (tyo_ok rfl)) st46 ?_
      refine ops_ok rfl (s_assign rfl gt44 (tyo_ok rfl)) st9 ?_
      refine ops_ok rfl (s_assign rfl gt46 (tyo_ok rfl)) st10 ?_
      refine ops_nil ?_
      refine q_seq ?_
      refine r_seq ?_
      refine r_region ?_
      refine ops_ok rfl (s_move rfl gt10 (tyo_ok rfl)) st47 ?_
      refine ops_ok rfl (s_bin rfl gt47 rfl rfl) st48 ?_
      refine ops_ok rfl (s_move rfl gt48 (tyo_ok rfl)) st49 ?_
      refine ops_gv rfl (fun hb => s_move rfl gt10 (tyo_ok rfl)) st50 ?_
      refine ops_gv rfl (fun hb => s_move rfl gt7 (tyo_ok rfl)) st51 ?_
      refine ops_gv rfl (fun hb => s_move rfl gt9 (tyo_ok rfl)) st52 ?_
      refine chkF hF (fun hg14 hF => ?_)
      refine ops_gv rfl (fun hb => s_gidxRow default rfl el28 (evo_gv gt51 hb) (evo_gv gt52 hb) isl (hg14 hb)) st53 ?_
      refine ops_gv rfl (fun hb => f_load rfl ty9 (evo_gv gt53 hb) (ldC_one rfl) (tyo_ok rfl)) st54 ?_
      refine ops_gv rfl (fun hb => s_bin rfl (evo_gv gt50 hb) (evo_gv gt54 hb) rfl) st55 ?_
      refine ops_ok rfl (s_pick rfl gt49 gt55 rfl (pick_and (fun ht => gT ht))) st56 ?_
      refine ops_nil ?_
      refine q_seq ?_
      refine r_condF gt56 hF (fun hc15 hF => ?_) (fun hc15 hF => ?_)
      · skip
        refine r_seq ?_
        refine r_region ?_
        refine ops_ok rfl (s_assign rfl rfl (tyo_ok rfl)) st4 ?_
        refine ops_nil ?_
        refine q_seq ?_
        refine r_ret ?_
        refine q_block_ret ?_
        refine q_seq_ret ?_
        refine q_loop_ret ?_
        obtain rfl := Option.some.inj hF
        replace hF := hK1
        refine q_block_ret ?_
        refine q_seq_ret ?_
        obtain rfl := Option.some.inj hF
        refine q_retL1 rfl (rl_tmp gt4 rl_nil) (fin_ext (leV.refl _) rfl ?_)
        exact ⟨rfl, rfl⟩
      · skip
        refine r_skip ?_
        refine q_block ?_
        refine q_seq ?_
        refine r_region ?_
        refine ops_ok rfl (s_bin rfl gt42 rfl rfl) st57 ?_
        refine ops_ok rfl (s_move rfl gt57 (tyo_ok rfl)) st42 ?_
        refine ops_nil ?_
        refine q_loop ?_
        obtain rfl := Option.some.inj hF
        exact ⟨(), hl1, hK1, wk.le (by exact (.drop (.drop (.drop (.drop (.drop (.drop (.drop (.eq (.drop (.drop (.drop (.drop (.drop (.drop (.drop (.drop (.drop (.drop (.drop (.drop (.drop (.drop (.drop (.drop (.drop (.drop (.drop (.drop (.drop (.drop (.drop (.drop (.drop (.drop (.drop (.drop (.drop (.drop (.drop (.drop (.eq (.eq (.cons (leV.of_eq (w64e (by omega) (by omega))) (.drop (.drop (.drop (.drop (.drop (.drop (.drop (.drop (.drop (.drop (.drop (.drop (.drop (.drop (.drop leL.nil)))))))))))))))))))))))))))))))))))))))))))))))))))))))))))⟩
    · skip
      refine r_exit ?_
      refine q_seq_exit ?_
      refine q_loop_exit ?_
      refine q_block_hit ?_
      refine q_seq ?_
      refine r_seq ?_
      refine r_region ?_
      refine ops_ok rfl (s_assign rfl rfl (tyo_ok rfl)) st4 ?_
      refine ops_nil ?_
      refine q_seq ?_
      refine r_ret ?_
      obtain rfl := Option.some.inj hF
      refine q_retL1 rfl (rl_tmp gt4 rl_nil) (fin_ext (leV.refl _) rfl ?_)
      exact ⟨rfl, rfl⟩
/-! varve/rights.Idle 1 -/
theorem ok65 {y0 : GRule} {c0 : GRule} {i0 : Nat} {res : Bool} {h : AH} (hb0 : h.blk i0 = some (.cells [.int .u8 c0.rep, .sl 1 (c0.path.map strRow), .int .u8 c0.kinds, .bool c0.allow, .bool c0.read])) (hF : rightsIdleC1 y0 c0 = some res) : Spec Try.prog 65 [.agg [.int .u8 y0.rep, .sl 1 (y0.path.map strRow), .int .u8 y0.kinds, .bool y0.allow, .bool y0.read], .ptr i0 0] h (fun rr hh => rr = .bool res ∧ hh = h) := by
  unfold rightsIdleC1 at hF
  refine spec_of_body_ext Try.func65 rfl (by kernel_rfl) (env := [.agg [.int .u8 y0.rep, .sl 1 (y0.path.map strRow), .int .u8 y0.kinds, .bool y0.allow, .bool y0.read], .ptr i0 0, aundef, aundef, aundef, aundef, aundef, aundef, aundef, aundef, aundef, aundef, aundef, aundef, aundef, aundef, aundef, aundef, aundef, aundef, aundef, aundef, aundef, aundef, aundef, aundef, aundef, aundef, aundef, aundef, aundef, aundef, aundef, aundef, aundef, aundef, aundef, aundef]) (by rfl) ?_
  refine r_seq ?_
  refine r_region ?_
  refine ops_ok rfl (e_box (n := 0) rfl gt0 (tyo_ok rfl) rfl rfl) st2 ?_
  refine ops_ok rfl (s_assign rfl rfl (tyo_ok rfl)) st3 ?_
  refine ops_nil ?_
  refine q_seq ?_
  refine r_seq ?_
  refine r_region ?_
  refine ops_ok rfl (s_fieldAddr rfl fo48x0 gt2 rfl) st4 ?_
  refine ops_ok rfl (e_load rfl ty5 gt4 rfl (ldC_one rfl) (tyo_ok rfl)) st5 ?_
  refine ops_ok rfl (s_bin rfl gt5 rfl rfl) st6 ?_
  refine ops_ok rfl (s_move rfl gt6 (tyo_ok rfl)) st7 ?_
  refine ops_gv rfl (fun hb => s_fieldAddr rfl fo48x0 gt2 rfl) st8 ?_
  refine ops_gv rfl (fun hb => e_load rfl ty5 (evo_gv gt8 hb) rfl (ldC_one rfl) (tyo_ok rfl)) st9 ?_
  refine ops_gv rfl (fun hb => s_fieldAddr rfl fo48x0 gt1 rfl) st10 ?_
  refine ops_gv rfl (fun hb => b_load rfl ty5 (evo_gv gt10 hb) hb0 (ldC_one rfl) (tyo_ok rfl)) st11 ?_
  refine ops_gv rfl (fun hb => s_bin rfl (evo_gv gt9 hb) (evo_gv gt11 hb) rfl) st12 ?_
  refine ops_ok rfl (s_pick rfl gt7 rfl gt12 (pick_or (fun ht => gF ht))) st13 ?_
  refine ops_ok rfl (s_move rfl gt13 (tyo_ok rfl)) st14 ?_
  refine ops_gv rfl (fun hb => s_fieldAddr rfl fo48x2 gt1 rfl) st15 ?_
  refine ops_gv rfl (fun hb => b_load rfl ty5 (evo_gv gt15 hb) hb0 (ldC_one rfl) (tyo_ok rfl)) st16 ?_
  refine ops_gv rfl (fun hb => s_fieldAddr rfl fo48x2 gt2 rfl) st17 ?_
  refine ops_gv rfl (fun hb => e_load rfl ty5 (evo_gv gt17 hb) rfl (ldC_one rfl) (tyo_ok rfl)) st18 ?_
  refine ops_gv rfl (fun hb => s_bin rfl (evo_gv gt16 hb) (evo_gv gt18 hb) rfl) st19 ?_
  refine ops_gv rfl (fun hb => s_bin rfl (evo_gv gt19 hb) rfl rfl) st20 ?_
  refine ops_ok rfl (s_pick rfl gt14 gt20 rfl (pick_and (fun ht => gT ht))) st21 ?_
  refine ops_ok rfl (s_move rfl gt21 (tyo_ok rfl)) st22 ?_
  refine ops_gv rfl (fun hb => s_fieldAddr rfl fo48x4 gt2 rfl) st23 ?_
  refine ops_gv rfl (fun hb => e_load rfl ty4 (evo_gv gt23 hb) rfl (ldC_one rfl) (tyo_ok rfl)) st24 ?_
  refine ops_gv rfl (fun hb => s_move rfl (evo_gv gt24 hb) (tyo_ok rfl)) st25 ?_
  refine ops_gv (aG_gv rfl rfl rfl) (fun hb => s_fieldAddr rfl fo48x4 gt1 rfl) st26 ?_
  refine ops_gv (aG_gv rfl rfl rfl) (fun hb => b_load rfl ty4 (evo_gv gt26 hb) hb0 (ldC_one rfl) (tyo_ok rfl)) st27 ?_
  refine ops_gv (aG_gv rfl rfl rfl) (fun hb => s_un rfl (evo_gv gt27 hb) rfl) st28 ?_
  refine ops_gv rfl (fun hb => s_pick rfl (evo_gv gt25 hb) rfl gt28 (pick_or (fun ht => gF2 hb ht))) st29 ?_
  refine ops_ok rfl (s_pick rfl gt22 gt29 rfl (pick_and (fun ht => gT ht))) st30 ?_
  refine ops_ok rfl (s_move rfl gt30 (tyo_ok rfl)) st31 ?_
  refine ops_gv rfl (fun hb => s_fieldAddr rfl fo48x1 gt2 rfl) st32 ?_
  refine ops_gv rfl (fun hb => e_load rfl ty28 (evo_gv gt32 hb) rfl (ldC_one rfl) (tyo_ok rfl)) st33 ?_
  refine ops_gv rfl (fun hb => s_fieldAddr rfl fo48x1 gt1 rfl) st34 ?_
  refine ops_gv rfl (fun hb => b_load rfl ty28 (evo_gv gt34 hb) hb0 (ldC_one rfl) (tyo_ok rfl)) st35 ?_
  refine gbindF hF (fun v1 hv1 hF => ?_)
  refine ops_gcall rfl (fun hb => s_call0 rfl rfl rfl (argo_cons (evo_gv gt33 hb) (argo_cons (evo_gv gt35 hb) argo_nil)) (.cons (tyo_ok rfl) (.cons (tyo_ok rfl) .nil))) (fun hb => ok66 (hv1 hb)) st36 ?_
  refine ops_ok rfl (s_pick rfl gt31 gt36 rfl (pick_and (fun ht => gT ht))) st37 ?_
  refine ops_ok rfl (s_assign rfl gt37 (tyo_ok rfl)) st3 ?_
  refine ops_nil ?_
  refine q_seq ?_
  refine r_ret ?_
  obtain rfl := Option.some.inj hF
  refine q_retL1 rfl (rl_tmp gt3 rl_nil) (fin_ext (leV.refl _) rfl ?_)
  exact ⟨rfl, rfl⟩
/-! varve/rights.Idle -/
theorem ok26 {l0 : (List GRule)} {res : (List Int)} {h : AH}  (hF : rightsIdle l0 = some res) : Spec Try.prog 26 [.sl 5 (l0.map GRule.row)] h (fun rr hh => rr = .sl 1 (res.map (intRow .i64)) ∧ hh = h) := by
  unfold rightsIdle at hF
  refine spec_of_body_ext Try.func26 rfl (by kernel_rfl) (env := [.sl 5 (l0.map GRule.row), aundef, aundef, aundef, aundef, aundef, aundef, aundef, aundef, aundef, aundef, aundef, aundef, aundef, aundef, aundef, aundef, aundef, aundef, aundef, aundef, aundef, aundef, aundef, aundef, aundef, aundef, aundef, aundef]) (by rfl) ?_
  refine r_seq ?_
  refine r_region ?_
  refine ops_ok rfl (s_assign rfl rfl (ty_nil el45)) st2 ?_
  refine ops_nil ?_
  refine q_seq ?_
  refine r_seq ?_
  refine r_seq ?_
  refine r_region ?_
  refine ops_ok rfl (s_move rfl gt0 (tyo_ok rfl)) st6 ?_
  refine bindF hF (fun v1 hv1 hF => ?_)
  refine ops_callP rfl (s_call0 rfl rfl rfl (argo_cons gt6 argo_nil) (.cons (tyo_ok rfl) .nil)) (ok24 hv1) st7 ?_
  refine ops_ok rfl (s_un rfl gt7 rfl) st8 ?_
  refine ops_nil ?_
  refine q_seq ?_
  refine r_condF gt8 hF (fun hc2 hF => ?_) (fun hc2 hF => ?_)
  · skip
    refine r_seq ?_
    refine r_region ?_
    refine ops_ok rfl (s_assign rfl rfl (ty_nil el45)) st2 ?_
    refine ops_nil ?_
    refine q_seq ?_
    refine r_ret ?_
    refine q_seq_ret ?_
    obtain rfl := Option.some.inj hF
    refine q_retL1 rfl (rl_tmp gt2 rl_nil) (fin_ext (leV.osl _ _ _) rfl ?_)
    exact ⟨rfl, rfl⟩
  · skip
    refine r_skip ?_
    refine q_seq ?_
    refine r_seq ?_
    refine r_seq ?_
    refine r_region ?_
    refine ops_ok rfl (s_move rfl gt0 (tyo_ok rfl)) st9 ?_
    refine ops_len rfl (s_lenSl rfl rfl rfl rfl el42 gt9 lenMap) st10 fun hn3 => ?_
    replace hn3 := lenN hn3
    refine ops_ok rfl (s_move rfl rfl (tyo_ok rfl)) st11 ?_
    refine ops_nil ?_
    refine q_seq ?_
    refine r_block ?_
    refine r_loopLF (fun (n1 : Nat) (s1 : (List Int)) => [(1, .any), (2, .osl (some (h.toks.length + 0)) 1 (s1.map (intRow .i64))), (3, .any), (4, .any), (5, .any), (6, .any), (7, .any), (8, .any), (11, .int .i64 (n1 : Int)), (12, .any), (13, .any), (14, .any), (15, .any), (16, .any), (17, .any), (18, .any), (19, .any), (20, .any), (21, .any), (22, .any), (23, .any), (24, .any), (25, .any), (26, .any), (27, .any), (28, .any)]) (fun s1 => h.ext [] [(s1).length]) hF (fun _ _ => by simp only [upd, List.set_cons_succ, List.set_cons_zero]; try rfl) (wk.trans (wk_tok gt2 rfl st2 rfl) (wk.le (by exact (.eq (.drop (.cons (leV.of_eq rfl) (.drop (.drop (.drop (.drop (.drop (.drop (.eq (.eq (.cons (leV.of_eq rfl) (.drop (.drop (.drop (.drop (.drop (.drop (.drop (.drop (.drop (.drop (.drop (.drop (.drop (.drop (.drop (.drop (.drop leL.nil)))))))))))))))))))))))))))))))) ?_
    intro n1 s1 hi1 hF
    refine r_seq ?_
    refine r_region ?_
    refine ops_ok rfl (s_bin rfl gt11 gt10 rfl) st12 ?_
    refine ops_nil ?_
    refine q_seq ?_
    refine r_seq ?_
    refine r_condL gt12 hF (fun x1 o1 hl1 hx1 hF hK1 => ?_) (fun hF => ?_)
    · skip
      refine r_skip ?_
      refine q_seq ?_
      refine r_seq ?_
      refine r_block ?_
      refine r_seq ?_
      refine r_region ?_
      refine ops_ok rfl (s_move rfl gt11 (tyo_ok rfl)) st13 ?_
      refine ops_ok rfl (s_idxRow rfl el42 gt9 gt11 isl (idx_of hx1)) st14 ?_
      refine ops_ok rfl (f_load rfl ty48.choose_spec.1 gt14 (ldC_agX (cs' := [.int .u8 x1.rep, .sl 1 (x1.path.map strRow), .int .u8 x1.kinds, .bool x1.allow, .bool x1.read]) ty48.choose_spec.2 rfl rfl) (tyo_ok rfl)) st15 ?_
      refine ops_ok rfl (e_alloc (n := 0) rfl ze48 rfl) st4 ?_
      refine ops_ok rfl (s_assign rfl gt13 (tyo_ok rfl)) st3 ?_
      refine ops_ok rfl (e_store (cs' := [.int .u8 x1.rep, .sl 1 (x1.path.map strRow), .int .u8 x1.kinds, .bool x1.allow, .bool x1.read]) rfl ty48.choose_spec.1 gt4 gt15 (tyo_ok rfl) rfl rfl rfl rfl rfl) rfl ?_
      refine ops_nil ?_
      refine q_seq ?_
      refine r_seq ?_
      refine r_region ?_
      refine ops_ok rfl (s_makeFunc rfl rfl rfl) st16 ?_
      refine ops_ok rfl (s_assign rfl gt16 (tyo_ok rfl)) st5 ?_
      refine ops_nil ?_
      refine q_seq ?_
      refine r_seq ?_
      refine r_region ?_
      refine ops_ok rfl (s_move rfl gt0 (tyo_ok rfl)) st17 ?_
      refine ops_ok rfl (s_move rfl gt3 (tyo_ok rfl)) st18 ?_
      refine ops_ok rfl (s_bin rfl gt18 rfl rfl) st19 ?_
      refine bindF hF (fun m12 hm12 hF => ?_)
      refine ops_ok rfl (s_slcSl rfl el42 gt17 (.inl rfl) (.some gt19) .none hm12) st20 ?_
      refine ops_ok rfl (s_move rfl gt5 (tyo_ok rfl)) st21 ?_
      refine bindF hF (fun v13 hv13 hF => ?_)
      refine ops_callP rfl (s_call0 rfl rfl rfl (argo_cons gt20 (argo_cons gt21 argo_nil)) (.cons (tyo_ok rfl) (.cons (tyo_ok rfl) .nil))) (ok61 (fun _ v L M hv => ok65 (blk_ext2 (j := 0) rfl) hv) hv13) st22 ?_
      refine ops_nil ?_
      refine q_seq ?_
      refine r_condF gt22 hF (fun hc14 hF => ?_) (fun hc14 hF => ?_)
      · skip
        refine r_region ?_
        refine ops_ok rfl (s_move rfl gt2 (tyo_ok rfl)) st23 ?_
        refine ops_ok rfl (s_move rfl gt3 (tyo_ok rfl)) st24 ?_
        refine ops_ok rfl (s_buildSlice (es := ([(n1 : Int)] : List Int).map (intRow .i64)) rfl el45 ze3 rfl rfl (parto_cons gt24 parto_nil) (.cons (tyo_ok rfl) .nil) rfl rfl rfl) st25 ?_
        refine chkF hF (fun hm15 hF => ?_)
        refine ops_ok rfl (e_appT (j := 0) (T' := [((s1 ++ ([(n1 : Int)] : List Int))).length]) rfl rfl rfl rfl el45 el45 gt23 gt25 (tyo_ok rfl) (tyo_ok rfl) news_osl hm15 rfl rfl) st26 ?_
        refine ops_ok rfl (s_assign rfl gt26 (tyo_ok rfl)) st2 ?_
        refine ops_nil ?_
        refine q_block ?_
        refine q_seq ?_
        refine r_region ?_
        refine ops_ok rfl (s_bin rfl gt11 rfl rfl) st27 ?_
        refine ops_ok rfl (s_move rfl gt27 (tyo_ok rfl)) st11 ?_
        refine ops_nil ?_
        refine q_loop ?_
        obtain rfl := Option.some.inj hF
        exact ⟨(s1 ++ ([(n1 : Int)] : List Int)), hl1, hK1, wk.trans (wk.le (by exact (.eq (.drop (.cons (leV.of_eq rfl) (.drop (.drop (.drop (.drop (.drop (.drop (.eq (.eq (.cons (leV.of_eq (w64e (by omega) (by omega))) (.drop (.drop (.drop (.drop (.drop (.drop (.drop (.drop (.drop (.drop (.drop (.drop (.drop (.drop (.drop (.drop (.drop leL.nil))))))))))))))))))))))))))))))) (wk_ext3 (by simp [lowL, AV.low]) rfl rfl (by simp [Blk.low, lowL, AV.low]))⟩
      · skip
        refine r_skip ?_
        refine q_block ?_
        refine q_seq ?_
        refine r_region ?_
        refine ops_ok rfl (s_bin rfl gt11 rfl rfl) st27 ?_
        refine ops_ok rfl (s_move rfl gt27 (tyo_ok rfl)) st11 ?_
        refine ops_nil ?_
        refine q_loop ?_
        obtain rfl := Option.some.inj hF
        exact ⟨s1, hl1, hK1, wk.trans (wk.le (by exact (.eq (.drop (.cons (leV.of_eq rfl) (.drop (.drop (.drop (.drop (.drop (.drop (.eq (.eq (.cons (leV.of_eq (w64e (by omega) (by omega))) (.drop (.drop (.drop (.drop (.drop (.drop (.drop (.drop (.drop (.drop (.drop (.drop (.drop (.drop (.drop (.drop (.drop leL.nil))))))))))))))))))))))))))))))) (wk_ext3 (by simp [lowL, AV.low]) rfl rfl (by simp [Blk.low, lowL, AV.low]))⟩
    · skip
      refine r_exit ?_
      refine q_seq_exit ?_
      refine q_loop_exit ?_
      refine q_block_hit ?_
      refine q_seq ?_
      refine r_seq ?_
      refine r_region ?_
      refine ops_ok rfl (s_move rfl gt2 (tyo_ok rfl)) st28 ?_
      refine ops_ok rfl (s_assign rfl gt28 (tyo_ok rfl)) st2 ?_
      refine ops_nil ?_
      refine q_seq ?_
      refine r_ret ?_
      obtain rfl := Option.some.inj hF
      refine q_retL1 rfl (rl_tmp gt2 rl_nil) (fin_ext (leV.osl _ _ _) rfl ?_)
      exact ⟨rfl, rfl⟩
/-! slices.Index[[]int,int] -/
theorem ok67 {s0 : (List Int)} {v1 : Int} {res : Int} {h : AH}  (hF : slicesIndexInt s0 v1 = some res) : Spec Try.prog 67 [.sl 1 (s0.map (intRow .i64)), .int .i64 v1] h (fun rr hh => rr = .int .i64 res ∧ hh = h) := by
  unfold slicesIndexInt at hF
  refine spec_of_body_ext Try.func67 rfl (by kernel_rfl) (env := [.sl 1 (s0.map (intRow .i64)), .int .i64 v1, aundef, aundef, aundef, aundef, aundef, aundef, aundef, aundef, aundef, aundef, aundef, aundef, aundef, aundef, aundef, aundef, aundef]) (by rfl) ?_
  refine r_seq ?_
  refine r_region ?_
  refine ops_ok rfl (s_assign rfl rfl (tyo_ok rfl)) st4 ?_
  refine ops_nil ?_
  refine q_seq ?_
  refine r_seq ?_
  refine r_seq ?_
  refine r_region ?_
  refine ops_ok rfl (s_move rfl gt0 (tyo_ok rfl)) st6 ?_
  refine ops_len rfl (s_lenSl rfl rfl rfl rfl el45 gt6 lenMap) st7 fun hn1 => ?_
  replace hn1 := lenN hn1
  refine ops_ok rfl (s_move rfl rfl (tyo_ok rfl)) st8 ?_
  refine ops_nil ?_
  refine q_seq ?_
  refine r_block ?_
  refine r_loopLF (fun (n1 : Nat) (s1 : Unit) => [(2, .any), (3, .any), (4, .any), (5, .any), (6, .any), (8, .int .i64 (n1 : Int)), (9, .any), (10, .any), (11, .any), (12, .any), (13, .any), (14, .any), (15, .any), (16, .any), (17, .any), (18, .any)]) (fun s1 => h.ext [] []) hF (fun _ _ => by simp only [upd, List.set_cons_succ, List.set_cons_zero]; try rfl) (wk.le (by exact (.eq (.eq (.drop (.drop (.drop (.drop (.drop (.eq (.cons (leV.of_eq rfl) (.drop (.drop (.drop (.drop (.drop (.drop (.drop (.drop (.drop (.drop leL.nil))))))))))))))))))))) ?_
  intro n1 s1 hi1 hF
  refine r_seq ?_
  refine r_region ?_
  refine ops_ok rfl (s_bin rfl gt8 gt7 rfl) st9 ?_
  refine ops_nil ?_
  refine q_seq ?_
  refine r_seq ?_
  refine r_condL gt9 hF (fun x1 o1 hl1 hx1 hF hK1 => ?_) (fun hF => ?_)
  · skip
    refine r_skip ?_
    refine q_seq ?_
    refine r_seq ?_
    refine r_block ?_
    refine r_seq ?_
    refine r_region ?_
    refine ops_ok rfl (s_move rfl gt8 (tyo_ok rfl)) st10 ?_
    refine ops_ok rfl (s_assign rfl gt10 (tyo_ok rfl)) st5 ?_
    refine ops_nil ?_
    refine q_seq ?_
    refine r_seq ?_
    refine r_region ?_
    refine ops_ok rfl (s_move rfl gt1 (tyo_ok rfl)) st11 ?_
    refine ops_ok rfl (s_move rfl gt0 (tyo_ok rfl)) st12 ?_
    refine ops_ok rfl (s_move rfl gt5 (tyo_ok rfl)) st13 ?_
    refine ops_ok rfl (s_idxRow rfl el45 gt12 gt13 isl (idx_of hx1)) st14 ?_
    refine ops_ok rfl (f_load rfl ty3 gt14 (ldC_one rfl) (tyo_ok rfl)) st15 ?_
    refine ops_ok rfl (s_bin rfl gt11 gt15 rfl) st16 ?_
    refine ops_nil ?_
    refine q_seq ?_
    refine r_condF gt16 hF (fun hc6 hF => ?_) (fun hc6 hF => ?_)
    · skip
      refine r_seq ?_
      refine r_region ?_
      refine ops_ok rfl (s_move rfl gt5 (tyo_ok rfl)) st17 ?_
      refine ops_ok rfl (s_assign rfl gt17 (tyo_ok rfl)) st4 ?_
      refine ops_nil ?_
      refine q_seq ?_
      refine r_ret ?_
      refine q_block_ret ?_
      refine q_seq_ret ?_
      refine q_loop_ret ?_
      obtain rfl := Option.some.inj hF
      replace hF := hK1
      refine q_block_ret ?_
      refine q_seq_ret ?_
      obtain rfl := Option.some.inj hF
      refine q_retL1 rfl (rl_tmp gt4 rl_nil) (fin_ext (leV.refl _) rfl ?_)
      exact ⟨rfl, rfl⟩
    · skip
      refine r_skip ?_
      refine q_block ?_
      refine q_seq ?_
      refine r_region ?_
      refine ops_ok rfl (s_bin rfl gt8 rfl rfl) st18 ?_
      refine ops_ok rfl (s_move rfl gt18 (tyo_ok rfl)) st8 ?_
      refine ops_nil ?_
      refine q_loop ?_
      obtain rfl := Option.some.inj hF
      exact ⟨(), hl1, hK1, wk.le (by exact (.eq (.eq (.drop (.drop (.drop (.drop (.drop (.eq (.cons (leV.of_eq (w64e (by omega) (by omega))) (.drop (.drop (.drop (.drop (.drop (.drop (.drop (.drop (.drop (.drop leL.nil))))))))))))))))))))⟩
  · skip
    refine r_exit ?_
    refine q_seq_exit ?_
    refine q_loop_exit ?_
    refine q_block_hit ?_
    refine q_seq ?_
    refine r_seq ?_
    refine r_region ?_
    refine ops_ok rfl (s_assign rfl rfl (tyo_ok rfl)) st4 ?_
    refine ops_nil ?_
    refine q_seq ?_
    refine r_ret ?_
    obtain rfl := Option.some.inj hF
    refine q_retL1 rfl (rl_tmp gt4 rl_nil) (fin_ext (leV.refl _) rfl ?_)
    exact ⟨rfl, rfl⟩
/-! slices.Contains[[]int,int] -/
theorem ok27 {s0 : (List Int)} {v1 : Int} {res : Bool} {h : AH}  (hF : slicesContainsInt s0 v1 = some res) : Spec Try.prog 27 [.sl 1 (s0.map (intRow .i64)), .int .i64 v1] h (fun rr hh => rr = .bool res ∧ hh = h) := by
  unfold slicesContainsInt at hF
  refine spec_of_body_ext Try.func27 rfl (by kernel_rfl) (env := [.sl 1 (s0.map (intRow .i64)), .int .i64 v1, aundef, aundef, aundef, aundef, aundef, aundef, aundef]) (by rfl) ?_
  refine r_seq ?_
  refine r_region ?_
  refine ops_ok rfl (s_assign rfl rfl (tyo_ok rfl)) st4 ?_
  refine ops_nil ?_
  refine q_seq ?_
  refine r_seq ?_
  refine r_region ?_
  refine ops_ok rfl (s_move rfl gt0 (tyo_ok rfl)) st5 ?_
  refine ops_ok rfl (s_move rfl gt1 (tyo_ok rfl)) st6 ?_
  refine bindF hF (fun v1 hv1 hF => ?_)
  refine ops_callP rfl (s_call0 rfl rfl rfl (argo_cons gt5 (argo_cons gt6 argo_nil)) (.cons (tyo_ok rfl) (.cons (tyo_ok rfl) .nil))) (ok67 hv1) st7 ?_
  refine ops_ok rfl (s_bin rfl gt7 rfl rfl) st8 ?_
  refine ops_ok rfl (s_assign rfl gt8 (tyo_ok rfl)) st4 ?_
  refine ops_nil ?_
  refine q_seq ?_
  refine r_ret ?_
  obtain rfl := Option.some.inj hF
  refine q_retL1 rfl (rl_tmp gt4 rl_nil) (fin_ext (leV.refl _) rfl ?_)
  exact ⟨rfl, rfl⟩
/-! varve/rights.Shows 1 -/
theorem ok69 {x0 : GRule} {res : Bool} {h : AH}  (hF : rightsShowsC1 x0 = some res) : Spec Try.prog 69 [.agg [.int .u8 x0.rep, .sl 1 (x0.path.map strRow), .int .u8 x0.kinds, .bool x0.allow, .bool x0.read]] h (fun rr hh => rr = .bool res ∧ hh = h) := by
  unfold rightsShowsC1 at hF
  refine spec_of_body_ext Try.func69 rfl (by kernel_rfl) (env := [.agg [.int .u8 x0.rep, .sl 1 (x0.path.map strRow), .int .u8 x0.kinds, .bool x0.allow, .bool x0.read], aundef, aundef, aundef, aundef]) (by rfl) ?_
  refine r_seq ?_
  refine r_region ?_
  refine ops_ok rfl (e_box (n := 0) rfl gt0 (tyo_ok rfl) rfl rfl) st1 ?_
  refine ops_ok rfl (s_assign rfl rfl (tyo_ok rfl)) st2 ?_
  refine ops_nil ?_
  refine q_seq ?_
  refine r_seq ?_
  refine r_region ?_
  refine ops_ok rfl (s_fieldAddr rfl fo48x4 gt1 rfl) st3 ?_
  refine ops_ok rfl (e_load rfl ty4 gt3 rfl (ldC_one rfl) (tyo_ok rfl)) st4 ?_
  refine ops_ok rfl (s_assign rfl gt4 (tyo_ok rfl)) st2 ?_
  refine ops_nil ?_
  refine q_seq ?_
  refine r_ret ?_
  obtain rfl := Option.some.inj hF
  refine q_retL1 rfl (rl_tmp gt2 rl_nil) (fin_ext (leV.refl _) rfl ?_)
  exact ⟨rfl, rfl⟩
/-! varve/rights.Shows -/
theorem ok29 {l0 : (List GRule)} {rep1 : Int} {path2 : (List Str)} {res : Bool} {h : AH}  (hF : rightsShows l0 rep1 path2 = some res) : Spec Try.prog 29 [.sl 5 (l0.map GRule.row), .int .u8 rep1, .sl 1 (path2.map strRow)] h (fun rr hh => rr = .bool res ∧ hh = h) := by
  unfold rightsShows at hF
  refine spec_of_body_ext Try.func29 rfl (by kernel_rfl) (env := [.sl 5 (l0.map GRule.row), .int .u8 rep1, .sl 1 (path2.map strRow), aundef, aundef, aundef, aundef, aundef, aundef, aundef, aundef, aundef, aundef, aundef, aundef, aundef, aundef, aundef, aundef, aundef, aundef, aundef, aundef, aundef]) (by rfl) ?_
  refine r_seq ?_
  refine r_region ?_
  refine ops_ok rfl (s_assign rfl rfl (tyo_ok rfl)) st6 ?_
  refine ops_nil ?_
  refine q_seq ?_
  refine r_seq ?_
  refine r_seq ?_
  refine r_region ?_
  refine ops_ok rfl (s_move rfl gt0 (tyo_ok rfl)) st8 ?_
  refine bindF hF (fun v1 hv1 hF => ?_)
  refine ops_callP rfl (s_call0 rfl rfl rfl (argo_cons gt8 argo_nil) (.cons (tyo_ok rfl) .nil)) (ok24 hv1) st9 ?_
  refine ops_ok rfl (s_un rfl gt9 rfl) st10 ?_
  refine ops_nil ?_
  refine q_seq ?_
  refine r_condF gt10 hF (fun hc2 hF => ?_) (fun hc2 hF => ?_)
  · skip
    refine r_seq ?_
    refine r_region ?_
    refine ops_ok rfl (s_assign rfl rfl (tyo_ok rfl)) st6 ?_
    refine ops_nil ?_
    refine q_seq ?_
    refine r_ret ?_
    refine q_seq_ret ?_
    obtain rfl := Option.some.inj hF
    refine q_retL1 rfl (rl_tmp gt6 rl_nil) (fin_ext (leV.refl _) rfl ?_)
    exact ⟨rfl, rfl⟩
  · skip
    refine r_skip ?_
    refine q_seq ?_
    refine r_seq ?_
    refine r_region ?_
    refine ops_ok rfl (s_move rfl gt0 (tyo_ok rfl)) st11 ?_
    refine ops_ok rfl (s_move rfl gt1 (tyo_ok rfl)) st12 ?_
    refine ops_ok rfl (s_move rfl gt2 (tyo_ok rfl)) st13 ?_
    refine bindF hF (fun v3 hv3 hF => ?_)
    refine ops_callP rfl (s_call0 rfl rfl rfl (argo_cons gt11 (argo_cons gt12 (argo_cons gt13 (argo_cons rfl argo_nil)))) (.cons (tyo_ok rfl) (.cons (tyo_ok rfl) (.cons (tyo_ok rfl) (.cons (tyo_ok rfl) .nil))))) (ok68 (fun _ v L M hv => ok69  hv) hv3) st14 ?_
    refine ops_ok rfl (s_assign rfl gt14 (tyo_ok rfl)) st7 ?_
    refine ops_nil ?_
    refine q_seq ?_
    refine r_seq ?_
    refine r_region ?_
    refine ops_ok rfl (s_move rfl gt7 (tyo_ok rfl)) st15 ?_
    refine ops_ok rfl (s_bin rfl gt15 rfl rfl) st16 ?_
    refine ops_ok rfl (s_move rfl gt16 (tyo_ok rfl)) st17 ?_
    refine ops_gv rfl (fun hb => s_move rfl gt0 (tyo_ok rfl)) st18 ?_
    refine ops_gv rfl (fun hb => s_move rfl gt7 (tyo_ok rfl)) st19 ?_
    refine chkF hF (fun hg4 hF => ?_)
    refine ops_gv rfl (fun hb => s_gidxRow default rfl el42 (evo_gv gt18 hb) (evo_gv gt19 hb) isl (hg4 hb)) st20 ?_
    refine ops_gv rfl (fun hb => s_fieldAddr rfl fo48x3 (evo_gv gt20 hb) rfl) st21 ?_
    refine ops_gv rfl (fun hb => f_load rfl ty4 (evo_gv gt21 hb) (ldC_one rfl) (tyo_ok rfl)) st22 ?_
    refine ops_ok rfl (s_pick rfl gt17 gt22 rfl (pick_and (fun ht => gT ht))) st23 ?_
    refine ops_ok rfl (s_assign rfl gt23 (tyo_ok rfl)) st6 ?_
    refine ops_nil ?_
    refine q_seq ?_
    refine r_ret ?_
    obtain rfl := Option.some.inj hF
    refine q_retL1 rfl (rl_tmp gt6 rl_nil) (fin_ext (leV.refl _) rfl ?_)
    exact ⟨rfl, rfl⟩
/-! varve/varvelaw42.RightsIdle -/
theorem ok4 {l0 : (List GRule)} {rep1 : Int} {o2 : GOp} {path3 : (List Str)} {res : Bool} {h : AH}  (hF : law42RightsIdle l0 rep1 o2 path3 = some res) : Spec Try.prog 4 [.sl 5 (l0.map GRule.row), .int .u8 rep1, .agg [.int .u8 o2.kind, .sl 1 (o2.path.map strRow), .int .i64 o2.n, .str o2.text, .sl 3 (o2.dots.map GDot.row)], .sl 1 (path3.map strRow)] h (fun rr hh => rr = .bool res ∧ hh = h) := by
  unfold law42RightsIdle at hF
  refine spec_of_body_ext Try.func4 rfl (by kernel_rfl) (env := [.sl 5 (l0.map GRule.row), .int .u8 rep1, .agg [.int .u8 o2.kind, .sl 1 (o2.path.map strRow), .int .i64 o2.n, .str o2.text, .sl 3 (o2.dots.map GDot.row)], .sl 1 (path3.map strRow), aundef, aundef, aundef, aundef, aundef, aundef, aundef, aundef, aundef, aundef, aundef, aundef, aundef, aundef, aundef, aundef, aundef, aundef, aundef, aundef, aundef, aundef, aundef, aundef, aundef, aundef, aundef, aundef, aundef, aundef, aundef, aundef, aundef, aundef, aundef, aundef, aundef, aundef, aundef, aundef, aundef, aundef, aundef, aundef, aundef, aundef, aundef, aundef, aundef, aundef, aundef, aundef, aundef, aundef, aundef, aundef, aundef, aundef, aundef, aundef, aundef, aundef, aundef, aundef, aundef, aundef, aundef, aundef, aundef, aundef, aundef, aundef, aundef, aundef]) (by rfl) ?_
  refine r_seq ?_
  refine r_region ?_
  refine ops_ok rfl (e_box (n := 0) rfl gt2 (tyo_ok rfl) rfl rfl) st6 ?_
  refine ops_ok rfl (s_assign rfl rfl (tyo_ok rfl)) st8 ?_
  refine ops_nil ?_
  refine q_seq ?_
  refine r_seq ?_
  refine r_seq ?_
  refine r_region ?_
  refine ops_ok rfl (s_move rfl gt0 (tyo_ok rfl)) st13 ?_
  refine ops_ok rfl (e_load rfl ty31.choose_spec.1 gt6 rfl (ldC_agX (cs' := [.int .u8 o2.kind, .sl 1 (o2.path.map strRow), .int .i64 o2.n, .str o2.text, .sl 3 (o2.dots.map GDot.row)]) ty31.choose_spec.2 rfl rfl) (tyo_ok rfl)) st14 ?_
  refine bindF hF (fun v1 hv1 hF => ?_)
  refine ops_callP rfl (s_call0 rfl rfl rfl (argo_cons gt13 (argo_cons gt14 argo_nil)) (.cons (tyo_ok rfl) (.cons (tyo_ok rfl) .nil))) (ok23 hv1) st15 ?_
  refine ops_ok rfl (s_move rfl gt15 (tyo_ok rfl)) st16 ?_
  refine ops_gv rfl (fun hb => s_move rfl gt3 (tyo_ok rfl)) st17 ?_
  refine ops_glen rfl (fun hb => s_lenSl rfl rfl rfl rfl el28 (evo_gv gt17 hb) lenMap) st18 fun hn2 => ?_
  refine ops_gv rfl (fun hb => s_bin rfl (evo_gv gt18 hb) rfl rfl) st19 ?_
  refine ops_ok rfl (s_pick rfl gt16 rfl gt19 (pick_or (fun ht => gF ht))) st20 ?_
  refine ops_ok rfl (s_move rfl gt20 (tyo_ok rfl)) st21 ?_
  refine ops_gv rfl (fun hb => s_move rfl gt0 (tyo_ok rfl)) st22 ?_
  refine gbindF hF (fun v3 hv3 hF => ?_)
  refine ops_gcall rfl (fun hb => s_call0 rfl rfl rfl (argo_cons (evo_gv gt22 hb) argo_nil) (.cons (tyo_ok rfl) .nil)) (fun hb => ok24 (hv3 hb)) st23 ?_
  refine ops_gv rfl (fun hb => s_un rfl (evo_gv gt23 hb) rfl) st24 ?_
  refine ops_ok rfl (s_pick rfl gt21 rfl gt24 (pick_or (fun ht => gF ht))) st25 ?_
  refine ops_nil ?_
  refine q_seq ?_
  refine r_condF gt25 hF (fun hc4 hF => ?_) (fun hc4 hF => ?_)
  · skip
    refine r_seq ?_
    refine r_region ?_
    refine bindF hF (fun v5 hv5 hF => ?_)
    refine ops_callP rfl (s_call0 rfl rfl rfl argo_nil .nil) (ok25 hv5) st26 ?_
    refine ops_ok rfl (s_assign rfl gt26 (tyo_ok rfl)) st8 ?_
    refine ops_nil ?_
    refine q_seq ?_
    refine r_ret ?_
    refine q_seq_ret ?_
    obtain rfl := Option.some.inj hF
    refine q_retL1 rfl (rl_tmp gt8 rl_nil) (fin_ext (leV.refl _) rfl ?_)
    exact ⟨rfl, rfl⟩
  · skip
    refine r_skip ?_
    refine q_seq ?_
    refine r_seq ?_
    refine r_region ?_
    refine ops_ok rfl (s_move rfl gt0 (tyo_ok rfl)) st27 ?_
    refine bindF hF (fun v6 hv6 hF => ?_)
    refine ops_callP rfl (s_call0 rfl rfl rfl (argo_cons gt27 argo_nil) (.cons (tyo_ok rfl) .nil)) (ok26 hv6) st28 ?_
    refine ops_ok rfl (s_assign rfl gt28 (tyo_ok rfl)) st9 ?_
    refine ops_nil ?_
    refine q_seq ?_
    refine r_seq ?_
    refine r_region ?_
    refine ops_ok rfl (s_assign rfl rfl (ty_nil el42)) st10 ?_
    refine ops_nil ?_
    refine q_seq ?_
    refine r_seq ?_
    refine r_seq ?_
    refine r_region ?_
    refine ops_ok rfl (s_move rfl gt0 (tyo_ok rfl)) st29 ?_
    refine ops_len rfl (s_lenSl rfl rfl rfl rfl el42 gt29 lenMap) st30 fun hn7 => ?_
    replace hn7 := lenN hn7
    refine ops_ok rfl (s_move rfl rfl (tyo_ok rfl)) st31 ?_
    refine ops_nil ?_
    refine q_seq ?_
    refine r_block ?_
    refine r_loopLF (fun (n1 : Nat) (s1 : (List GRule)) => [(2, .any), (4, .any), (5, .any), (7, .any), (8, .any), (10, .osl (some (h.toks.length + 0)) 5 (s1.map GRule.row)), (11, .any), (12, .any), (13, .any), (14, .any), (15, .any), (16, .any), (17, .any), (18, .any), (19, .any), (20, .any), (21, .any), (22, .any), (23, .any), (24, .any), (25, .any), (26, .any), (27, .any), (28, .any), (31, .int .i64 (n1 : Int)), (32, .any), (33, .any), (34, .any), (35, .any), (36, .any), (37, .any), (38, .any), (39, .any), (40, .any), (41, .any), (42, .any), (43, .any), (44, .any), (45, .any), (46, .any), (47, .any), (48, .any), (49, .any), (50, .any), (51, .any), (52, .any), (53, .any), (54, .any), (55, .any), (56, .any), (57, .any), (58, .any), (59, .any), (60, .any), (61, .any), (62, .any), (63, .any), (64, .any), (65, .any), (66, .any), (67, .any), (68, .any), (69, .any), (70, .any), (71, .any), (72, .any), (73, .any), (74, .any), (75, .any), (76, .any), (77, .any)]) (fun s1 => h.ext [.cells [.int .u8 o2.kind, .sl 1 (o2.path.map strRow), .int .i64 o2.n, .str o2.text, .sl 3 (o2.dots.map GDot.row)]] [(s1).length]) hF (fun _ _ => by simp only [upd, List.set_cons_succ, List.set_cons_zero]; try rfl) (wk.trans (wk_tok gt10 rfl st10 rfl) (wk.le (by exact (.eq (.eq (.drop (.eq (.drop (.drop (.eq (.drop (.drop (.eq (.cons (leV.of_eq rfl) (.drop (.drop (.drop (.drop (.drop (.drop (.drop (.drop (.drop (.drop (.drop (.drop (.drop (.drop (.drop (.drop (.drop (.drop (.eq (.eq (.cons (leV.of_eq rfl) (.drop (.drop (.drop (.drop (.drop (.drop (.drop (.drop (.drop (.drop (.drop (.drop (.drop (.drop (.drop (.drop (.drop (.drop (.drop (.drop (.drop (.drop (.drop (.drop (.drop (.drop (.drop (.drop (.drop (.drop (.drop (.drop (.drop (.drop (.drop (.drop (.drop (.drop (.drop (.drop (.drop (.drop (.drop (.drop (.drop (.drop leL.nil))))))))))))))))))))))))))))))))))))))))))))))))))))))))))))))))))))))))))))))))) ?_
    intro n1 s1 hi1 hF
    refine r_seq ?_
    refine r_region ?_
    refine ops_ok rfl (s_bin rfl gt31 gt30 rfl) st32 ?_
    refine ops_nil ?_
    refine q_seq ?_
    refine r_seq ?_
    refine r_condL gt32 hF (fun x1 o1 hl1 hx1 hF hK1 => ?_) (fun hF => ?_)
    · skip
      refine r_skip ?_
      refine q_seq ?_
      refine r_seq ?_
      refine r_block ?_
      refine r_seq ?_
      refine r_region ?_
      refine ops_ok rfl (s_move rfl gt31 (tyo_ok rfl)) st33 ?_
      refine ops_ok rfl (s_idxRow rfl el42 gt29 gt31 isl (idx_of hx1)) st34 ?_
      refine ops_ok rfl (f_load rfl ty48.choose_spec.1 gt34 (ldC_agX (cs' := [.int .u8 x1.rep, .sl 1 (x1.path.map strRow), .int .u8 x1.kinds, .bool x1.allow, .bool x1.read]) ty48.choose_spec.2 rfl rfl) (tyo_ok rfl)) st35 ?_
      refine ops_ok rfl (e_alloc (n := 1) rfl ze48 rfl) st12 ?_
      refine ops_ok rfl (s_assign rfl gt33 (tyo_ok rfl)) st11 ?_
      refine ops_ok rfl (e_store (cs' := [.int .u8 x1.rep, .sl 1 (x1.path.map strRow), .int .u8 x1.kinds, .bool x1.allow, .bool x1.read]) rfl ty48.choose_spec.1 gt12 gt35 (tyo_ok rfl) rfl rfl rfl rfl rfl) rfl ?_
      refine ops_nil ?_
      refine q_seq ?_
      refine r_seq ?_
      refine r_region ?_
      refine ops_ok rfl (s_move rfl gt9 (tyo_ok rfl)) st36 ?_
      refine ops_ok rfl (s_move rfl gt11 (tyo_ok rfl)) st37 ?_
      refine bindF hF (fun v20 hv20 hF => ?_)
      refine ops_callP rfl (s_call0 rfl rfl rfl (argo_cons gt36 (argo_cons gt37 argo_nil)) (.cons (tyo_ok rfl) (.cons (tyo_ok rfl) .nil))) (ok27 hv20) st38 ?_
      refine ops_ok rfl (s_un rfl gt38 rfl) st39 ?_
      refine ops_nil ?_
      refine q_seq ?_
      refine r_condF gt39 hF (fun hc21 hF => ?_) (fun hc21 hF => ?_)
      · skip
        refine r_region ?_
        refine ops_ok rfl (s_move rfl gt10 (tyo_ok rfl)) st40 ?_
        refine ops_ok rfl (e_load rfl ty48.choose_spec.1 gt12 rfl (ldC_agX (cs' := [.int .u8 x1.rep, .sl 1 (x1.path.map strRow), .int .u8 x1.kinds, .bool x1.allow, .bool x1.read]) ty48.choose_spec.2 rfl rfl) (tyo_ok rfl)) st41 ?_
        refine ops_ok rfl (s_buildSlice (es := ([x1] : List GRule).map GRule.row) rfl el42 ze48 rfl rfl (parto_cons gt41 parto_nil) (.cons (tyo_ok rfl) .nil) rfl rfl rfl) st42 ?_
        refine chkF hF (fun hm22 hF => ?_)
        refine ops_ok rfl (e_appT (j := 0) (T' := [((s1 ++ ([x1] : List GRule))).length]) rfl rfl rfl rfl el42 el42 gt40 gt42 (tyo_ok rfl) (tyo_ok rfl) news_osl hm22 rfl rfl) st43 ?_
        refine ops_ok rfl (s_assign rfl gt43 (tyo_ok rfl)) st10 ?_
        refine ops_nil ?_
        refine q_block ?_
        refine q_seq ?_
        refine r_region ?_
        refine ops_ok rfl (s_bin rfl gt31 rfl rfl) st44 ?_
        refine ops_ok rfl (s_move rfl gt44 (tyo_ok rfl)) st31 ?_
        refine ops_nil ?_
        refine q_loop ?_
        obtain rfl := Option.some.inj hF
        exact ⟨(s1 ++ ([x1] : List GRule)), hl1, hK1, wk.trans (wk.le (by exact (.eq (.eq (.drop (.eq (.drop (.drop (.eq (.drop (.drop (.eq (.cons (leV.of_eq rfl) (.drop (.drop (.drop (.drop (.drop (.drop (.drop (.drop (.drop (.drop (.drop (.drop (.drop (.drop (.drop (.drop (.drop (.drop (.eq (.eq (.cons (leV.of_eq (w64e (by omega) (by omega))) (.drop (.drop (.drop (.drop (.drop (.drop (.drop (.drop (.drop (.drop (.drop (.drop (.drop (.drop (.drop (.drop (.drop (.drop (.drop (.drop (.drop (.drop (.drop (.drop (.drop (.drop (.drop (.drop (.drop (.drop (.drop (.drop (.drop (.drop (.drop (.drop (.drop (.drop (.drop (.drop (.drop (.drop (.drop (.drop (.drop (.drop leL.nil)))))))))))))))))))))))))))))))))))))))))))))))))))))))))))))))))))))))))))))))) (wk_ext3 (by simp [lowL, AV.low]) rfl rfl (by simp [Blk.low, lowL, AV.low]))⟩
      · skip
        refine r_skip ?_
        refine q_block ?_
        refine q_seq ?_
        refine r_region ?_
        refine ops_ok rfl (s_bin rfl gt31 rfl rfl) st44 ?_
        refine ops_ok rfl (s_move rfl gt44 (tyo_ok rfl)) st31 ?_
        refine ops_nil ?_
        refine q_loop ?_
        obtain rfl := Option.some.inj hF
        exact ⟨s1, hl1, hK1, wk.trans (wk.le (by exact (.eq (.eq (.drop (.eq (.drop (.drop (.eq (.drop (.drop (.eq (.cons (leV.of_eq rfl) (.drop (.drop (.drop (.drop (.drop (.drop (.drop (.drop (.drop (.drop (.drop (.drop (.drop (.drop (.drop (.drop (.drop (.drop (.eq (.eq (.cons (leV.of_eq (w64e (by omega) (by omega))) (.drop (.drop (.drop (.drop (.drop (.drop (.drop (.drop (.drop (.drop (.drop (.drop (.drop (.drop (.drop (.drop (.drop (.drop (.drop (.drop (.drop (.drop (.drop (.drop (.drop (.drop (.drop (.drop (.drop (.drop (.drop (.drop (.drop (.drop (.drop (.drop (.drop (.drop (.drop (.drop (.drop (.drop (.drop (.drop (.drop (.drop leL.nil)))))))))))))))))))))))))))))))))))))))))))))))))))))))))))))))))))))))))))))))) (wk_ext3 (by simp [lowL, AV.low]) rfl rfl (by simp [Blk.low, lowL, AV.low]))⟩
    · skip
      refine r_exit ?_
      refine q_seq_exit ?_
      refine q_loop_exit ?_
      refine q_block_hit ?_
      refine q_seq ?_
      refine r_seq ?_
      refine r_drawn mixed (by kernel_rfl) ?_
      refine draw_ok rfl (s_move rfl gt10 (tyo_ok rfl)) st45 ?_
      refine draw_len rfl (s_lenSl rfl rfl rfl rfl el42 gt45 lenMapO) st46 ?_
      refine draw_ok rfl (s_move rfl gt9 (tyo_ok rfl)) st47 ?_
      refine draw_len rfl (s_lenSl rfl rfl rfl rfl el45 gt47 lenMap) st48 ?_
      refine draw_ok rfl (s_bin rfl gt46 gt48 rfl) st49 ?_
      refine draw_ok rfl (s_move rfl gt0 (tyo_ok rfl)) st50 ?_
      refine draw_len rfl (s_lenSl rfl rfl rfl rfl el42 gt50 lenMap) st51 ?_
      refine draw_ok rfl (s_bin rfl gt49 gt51 rfl) st52 ?_
      refine draw_ok rfl (s_move rfl gt52 (tyo_ok rfl)) st53 ?_
      refine draw_gv rfl (fun hb => s_move rfl gt10 (tyo_ok rfl)) st54 ?_
      refine draw_gv rfl (fun hb => s_move rfl gt1 (tyo_ok rfl)) st55 ?_
      refine draw_gv rfl (fun hb => e_load rfl ty31.choose_spec.1 gt6 rfl (ldC_agX (cs' := [.int .u8 o2.kind, .sl 1 (o2.path.map strRow), .int .i64 o2.n, .str o2.text, .sl 3 (o2.dots.map GDot.row)]) ty31.choose_spec.2 rfl rfl) (tyo_ok rfl)) st56 ?_
      refine gbindF hF (fun v26 hv26 hF => ?_)
      refine draw_gcall rfl (fun hb => s_call0 rfl rfl rfl (argo_cons (evo_gv gt54 hb) (argo_cons (evo_gv gt55 hb) (argo_cons (evo_gv gt56 hb) argo_nil))) (.cons (tyo_ok rfl) (.cons (tyo_ok rfl) (.cons (tyo_ok rfl) .nil)))) (fun hb => (ok28 (hv26 hb)).le (.cons (leV.osl _ _ _) (.eq (.eq leL.nil)))) st57 ?_
      refine draw_gv rfl (fun hb => s_move rfl gt0 (tyo_ok rfl)) st58 ?_
      refine draw_gv rfl (fun hb => s_move rfl gt1 (tyo_ok rfl)) st59 ?_
      refine draw_gv rfl (fun hb => e_load rfl ty31.choose_spec.1 gt6 rfl (ldC_agX (cs' := [.int .u8 o2.kind, .sl 1 (o2.path.map strRow), .int .i64 o2.n, .str o2.text, .sl 3 (o2.dots.map GDot.row)]) ty31.choose_spec.2 rfl rfl) (tyo_ok rfl)) st60 ?_
      refine gbindF hF (fun v27 hv27 hF => ?_)
      refine draw_gcall rfl (fun hb => s_call0 rfl rfl rfl (argo_cons (evo_gv gt58 hb) (argo_cons (evo_gv gt59 hb) (argo_cons (evo_gv gt60 hb) argo_nil))) (.cons (tyo_ok rfl) (.cons (tyo_ok rfl) (.cons (tyo_ok rfl) .nil)))) (fun hb => ok28 (hv27 hb)) st61 ?_
      refine draw_gv rfl (fun hb => s_bin rfl (evo_gv gt57 hb) (evo_gv gt61 hb) (bin_boolE ty4)) st62 ?_
      refine draw_ok rfl (s_pick rfl gt53 gt62 rfl (pick_and (fun ht => gT ht))) st63 ?_
      refine draw_ok rfl (s_move rfl gt63 (tyo_ok rfl)) st64 ?_
      refine draw_gv rfl (fun hb => s_move rfl gt10 (tyo_ok rfl)) st65 ?_
      refine draw_gv rfl (fun hb => s_move rfl gt1 (tyo_ok rfl)) st66 ?_
      refine draw_gv rfl (fun hb => s_move rfl gt3 (tyo_ok rfl)) st67 ?_
      refine gbindF hF (fun v28 hv28 hF => ?_)
      refine draw_gcall rfl (fun hb => s_call0 rfl rfl rfl (argo_cons (evo_gv gt65 hb) (argo_cons (evo_gv gt66 hb) (argo_cons (evo_gv gt67 hb) argo_nil))) (.cons (tyo_ok rfl) (.cons (tyo_ok rfl) (.cons (tyo_ok rfl) .nil)))) (fun hb => (ok29 (hv28 hb)).le (.cons (leV.osl _ _ _) (.eq (.eq leL.nil)))) st68 ?_
      refine draw_gv rfl (fun hb => s_move rfl gt0 (tyo_ok rfl)) st69 ?_
      refine draw_gv rfl (fun hb => s_move rfl gt1 (tyo_ok rfl)) st70 ?_
      refine draw_gv rfl (fun hb => s_move rfl gt3 (tyo_ok rfl)) st71 ?_
      refine gbindF hF (fun v29 hv29 hF => ?_)
      refine draw_gcall rfl (fun hb => s_call0 rfl rfl rfl (argo_cons (evo_gv gt69 hb) (argo_cons (evo_gv gt70 hb) (argo_cons (evo_gv gt71 hb) argo_nil))) (.cons (tyo_ok rfl) (.cons (tyo_ok rfl) (.cons (tyo_ok rfl) .nil)))) (fun hb => ok29 (hv29 hb)) st72 ?_
      refine draw_gv rfl (fun hb => s_bin rfl (evo_gv gt68 hb) (evo_gv gt72 hb) (bin_boolE ty4)) st73 ?_
      refine draw_ok rfl (s_pick rfl gt64 gt73 rfl (pick_and (fun ht => gT ht))) st74 ?_
      refine draw_ok rfl (s_move rfl gt74 (tyo_ok rfl)) st75 ?_
      refine gbindF hF (fun v30 hv30 hF => ?_)
      refine draw_gcall rfl (fun hb => s_call0 rfl rfl rfl argo_nil .nil) (fun hb => ok25 (hv30 hb)) st76 ?_
      refine draw_ok rfl (s_pick rfl gt75 gt76 rfl (pick_and (fun ht => gT ht))) st77 ?_
      refine draw_ok rfl (s_assign rfl gt77 (tyo_ok rfl)) st8 ?_
      refine draw_nil ?_
      refine q_seq ?_
      refine r_ret ?_
      obtain rfl := Option.some.inj hF
      refine q_retL1 rfl (rl_tmp gt8 rl_nil) (fin_ext (leV.refl _) rfl ?_)
      exact ⟨rfl, rfl⟩
end Go.Vv
