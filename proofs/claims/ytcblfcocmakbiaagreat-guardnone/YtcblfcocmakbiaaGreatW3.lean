/- Each function that the law reaches computes what its reading says; printed by a program. -/
import Derived.Test.YtcblfcocmakbiaaGreatW2
namespace Go.Vv
open Go Go.Proofs
set_option maxRecDepth 100000
set_option maxHeartbeats 1000000
set_option linter.unusedSimpArgs false
set_option linter.unusedVariables false
def xmo135 : List (AV × AH) := [(.int .i64 (0), ⟨[.cells [.int .u64 (0), .osl (none) 3 [], .osl (none) 3 [], .int .u64 (0), .osl (none) 3 []], .mapo [(.agg [.int .u8 (0), .int .u32 (1), .int .u64 (1)], .agg [.int .u8 (0), .int .u32 (1), .int .u64 (1), .osl (none) 3 [], .sl 3 [[.int .u8 (0),.int .u32 (1),.int .u64 (1)]], .int .u64 (1), .int .u8 (2), .sl 1 [[.str [97]]], .int .i64 (0), .str [117], .osl (none) 3 []]), (.agg [.int .u8 (0), .int .u32 (1), .int .u64 (2)], .agg [.int .u8 (0), .int .u32 (1), .int .u64 (2), .sl 3 [[.int .u8 (0),.int .u32 (1),.int .u64 (1)]], .sl 3 [[.int .u8 (0),.int .u32 (1),.int .u64 (2)]], .int .u64 (2), .int .u8 (2), .sl 1 [[.str [97]]], .int .i64 (0), .str [118], .osl (none) 3 []])] 0, .cells [.int .u64 (0), .osl (none) 3 [], .osl (none) 3 [], .int .u64 (0), .osl (none) 3 [], .map 1, .sl 3 [[.int .u8 (0),.int .u32 (1),.int .u64 (2)]]], .cells [.osl (none) 1 [[.str [97]]]], .cells [.int .u8 (0), .int .u32 (1)], .cells [.int .u8 (0), .int .u32 (1), .int .u64 (1), .sl 3 [], .sl 3 [[.int .u8 (0),.int .u32 (1),.int .u64 (1)]], .int .u64 (1), .int .u8 (2), .sl 1 [[.str [97]]], .int .i64 (0), .str [117], .sl 3 []], .cells [.int .u8 (0), .int .u32 (0), .int .u64 (0), .osl (none) 3 [], .osl (none) 3 [], .int .u64 (0), .int .u8 (0), .osl (none) 1 [], .int .i64 (0), .str [], .osl (none) 3 []], .cells [.int .u8 (0), .int .u32 (0), .int .u64 (0), .osl (none) 3 [], .osl (none) 3 [], .int .u64 (0), .int .u8 (0), .osl (none) 1 [], .int .i64 (0), .str [], .osl (none) 3 []], .cells [.int .u8 (0), .int .u32 (1)], .cells [.int .u8 (2), .osl (none) 1 [[.str [97]]], .int .i64 (0), .str [118], .osl (none) 3 []], .cells [.int .u8 (0), .int .u32 (0), .int .u64 (0), .osl (none) 3 [], .osl (none) 3 [], .int .u64 (0), .int .u8 (0), .osl (none) 1 [], .int .i64 (0), .str [], .osl (none) 3 []], .cells [.int .u8 (0), .int .u32 (1)], .mapo [(.agg [.int .u8 (0), .int .u32 (1), .int .u64 (1)], .agg [.int .u8 (0), .int .u32 (1), .int .u64 (1), .osl (none) 3 [], .sl 3 [[.int .u8 (0),.int .u32 (1),.int .u64 (1)]], .int .u64 (1), .int .u8 (2), .sl 1 [[.str [97]]], .int .i64 (0), .str [117], .osl (none) 3 []]), (.agg [.int .u8 (0), .int .u32 (1), .int .u64 (2)], .agg [.int .u8 (0), .int .u32 (1), .int .u64 (2), .sl 3 [[.int .u8 (0),.int .u32 (1),.int .u64 (1)]], .sl 3 [[.int .u8 (0),.int .u32 (1),.int .u64 (2)]], .int .u64 (2), .int .u8 (2), .sl 1 [[.str [97]]], .int .i64 (0), .str [118], .osl (none) 3 []])] 0, .dead, .cells [.int .u64 (0), .osl (none) 3 [], .osl (none) 3 [], .int .u64 (0), .osl (none) 3 [], .map 12, .sl 3 [[.int .u8 (0),.int .u32 (1),.int .u64 (2)]]], .cells [.int .u8 (2), .sl 1 [[.str [97]]], .int .i64 (0), .str [118], .sl 3 []], .cells [.int .u8 (0), .int .u32 (1), .int .u64 (2), .sl 3 [[.int .u8 (0),.int .u32 (1),.int .u64 (1)]], .sl 3 [[.int .u8 (0),.int .u32 (1),.int .u64 (2)]], .int .u64 (2), .int .u8 (2), .sl 1 [[.str [97]]], .int .i64 (0), .str [118], .osl (none) 3 []], .row 1 11 [[.int .u8 (0), .int .u32 (1), .int .u64 (2), .sl 3 [[.int .u8 (0),.int .u32 (1),.int .u64 (1)]], .sl 3 [[.int .u8 (0),.int .u32 (1),.int .u64 (2)]], .int .u64 (2), .int .u8 (2), .sl 1 [[.str [97]]], .int .i64 (0), .str [118], .sl 3 []]], .cells [.int .u8 (0), .int .u32 (1), .int .u64 (2), .sl 3 [[.int .u8 (0),.int .u32 (1),.int .u64 (1)]], .sl 3 [[.int .u8 (0),.int .u32 (1),.int .u64 (2)]], .int .u64 (2), .int .u8 (2), .sl 1 [[.str [97]]], .int .i64 (0), .str [118], .sl 3 []]], [2, 1]⟩)]
theorem xm135 : (xall Tryz.prog xpre xlib135 xown 1000 80).1 22 [.ptr 2 0, .agg [.int .u8 (0), .int .u32 (1), .int .u64 (2), .sl 3 [[.int .u8 (0),.int .u32 (1),.int .u64 (1)]], .sl 3 [[.int .u8 (0),.int .u32 (1),.int .u64 (2)]], .int .u64 (2), .int .u8 (2), .sl 1 [[.str [97]]], .int .i64 (0), .str [118], .sl 3 []]] xmh135 = some xmo135 := by kernel_rfl
def xlib136 : CallX := tabH 22 [.ptr 2 0, .agg [.int .u8 (0), .int .u32 (1), .int .u64 (2), .sl 3 [[.int .u8 (0),.int .u32 (1),.int .u64 (1)]], .sl 3 [[.int .u8 (0),.int .u32 (1),.int .u64 (2)]], .int .u64 (2), .int .u8 (2), .sl 1 [[.str [97]]], .int .i64 (0), .str [118], .sl 3 []]] xmh135 xmo135 xlib135
theorem xlibOk136 : CallOk Tryz.prog xlib136 := tabH_ok xpre_ok xlibOk135 xm135
/-- varve/guard.All, there -/
def xmh136 : AH := ⟨[.cells [.int .u64 (0), .osl (none) 3 [], .osl (none) 3 [], .int .u64 (0), .osl (none) 3 []], .mapo [(.agg [.int .u8 (0), .int .u32 (1), .int .u64 (1)], .agg [.int .u8 (0), .int .u32 (1), .int .u64 (1), .osl (none) 3 [], .sl 3 [[.int .u8 (0),.int .u32 (1),.int .u64 (1)]], .int .u64 (1), .int .u8 (2), .sl 1 [[.str [97]]], .int .i64 (0), .str [117], .osl (none) 3 []])] 0, .cells [.int .u64 (0), .osl (none) 3 [], .osl (none) 3 [], .int .u64 (0), .osl (none) 3 [], .map 1, .sl 3 [[.int .u8 (0),.int .u32 (1),.int .u64 (1)]]], .cells [.osl (none) 1 [[.str [97]]]], .cells [.int .u8 (0), .int .u32 (1)], .cells [.int .u8 (0), .int .u32 (1), .int .u64 (1), .sl 3 [], .sl 3 [[.int .u8 (0),.int .u32 (1),.int .u64 (1)]], .int .u64 (1), .int .u8 (2), .sl 1 [[.str [97]]], .int .i64 (0), .str [117], .sl 3 []], .cells [.int .u8 (0), .int .u32 (0), .int .u64 (0), .osl (none) 3 [], .osl (none) 3 [], .int .u64 (0), .int .u8 (0), .osl (none) 1 [], .int .i64 (0), .str [], .osl (none) 3 []], .cells [.int .u8 (0), .int .u32 (0), .int .u64 (0), .osl (none) 3 [], .osl (none) 3 [], .int .u64 (0), .int .u8 (0), .osl (none) 1 [], .int .i64 (0), .str [], .osl (none) 3 []], .cells [.int .u8 (0), .int .u32 (1)], .cells [.int .u8 (2), .osl (none) 1 [[.str [97]]], .int .i64 (0), .str [118], .osl (none) 3 []], .cells [.int .u8 (0), .int .u32 (0), .int .u64 (0), .osl (none) 3 [], .osl (none) 3 [], .int .u64 (0), .int .u8 (0), .osl (none) 1 [], .int .i64 (0), .str [], .osl (none) 3 []]], []⟩
def xmo136 : List (AV × AH) := [(.tup [.sl 11 [[.int .u8 (0),.int .u32 (1),.int .u64 (2),.sl 3 [[.int .u8 (0),.int .u32 (1),.int .u64 (1)]],.sl 3 [[.int .u8 (0),.int .u32 (1),.int .u64 (2)]],.int .u64 (2),.int .u8 (2),.sl 1 [[.str [97]]],.int .i64 (0),.str [118],.sl 3 []]], .int .i64 (-1), .int .i64 (0)], ⟨[.cells [.int .u64 (0), .osl (none) 3 [], .osl (none) 3 [], .int .u64 (0), .osl (none) 3 []], .mapo [(.agg [.int .u8 (0), .int .u32 (1), .int .u64 (1)], .agg [.int .u8 (0), .int .u32 (1), .int .u64 (1), .osl (none) 3 [], .sl 3 [[.int .u8 (0),.int .u32 (1),.int .u64 (1)]], .int .u64 (1), .int .u8 (2), .sl 1 [[.str [97]]], .int .i64 (0), .str [117], .osl (none) 3 []]), (.agg [.int .u8 (0), .int .u32 (1), .int .u64 (2)], .agg [.int .u8 (0), .int .u32 (1), .int .u64 (2), .sl 3 [[.int .u8 (0),.int .u32 (1),.int .u64 (1)]], .sl 3 [[.int .u8 (0),.int .u32 (1),.int .u64 (2)]], .int .u64 (2), .int .u8 (2), .sl 1 [[.str [97]]], .int .i64 (0), .str [118], .osl (none) 3 []])] 0, .cells [.int .u64 (0), .osl (none) 3 [], .osl (none) 3 [], .int .u64 (0), .osl (none) 3 [], .map 1, .sl 3 [[.int .u8 (0),.int .u32 (1),.int .u64 (2)]]], .cells [.osl (none) 1 [[.str [97]]]], .cells [.int .u8 (0), .int .u32 (1)], .cells [.int .u8 (0), .int .u32 (1), .int .u64 (1), .sl 3 [], .sl 3 [[.int .u8 (0),.int .u32 (1),.int .u64 (1)]], .int .u64 (1), .int .u8 (2), .sl 1 [[.str [97]]], .int .i64 (0), .str [117], .sl 3 []], .cells [.int .u8 (0), .int .u32 (0), .int .u64 (0), .osl (none) 3 [], .osl (none) 3 [], .int .u64 (0), .int .u8 (0), .osl (none) 1 [], .int .i64 (0), .str [], .osl (none) 3 []], .cells [.int .u8 (0), .int .u32 (0), .int .u64 (0), .osl (none) 3 [], .osl (none) 3 [], .int .u64 (0), .int .u8 (0), .osl (none) 1 [], .int .i64 (0), .str [], .osl (none) 3 []], .cells [.int .u8 (0), .int .u32 (1)], .cells [.int .u8 (2), .osl (none) 1 [[.str [97]]], .int .i64 (0), .str [118], .osl (none) 3 []], .cells [.int .u8 (0), .int .u32 (0), .int .u64 (0), .osl (none) 3 [], .osl (none) 3 [], .int .u64 (0), .int .u8 (0), .osl (none) 1 [], .int .i64 (0), .str [], .osl (none) 3 []]], []⟩)]
theorem xm136 : (xall Tryz.prog xpre xlib136 xown 1000 80).1 8 [.ptr 2 0, .agg [.int .u8 (0), .int .u32 (1)], .osl (none) 5 [[.int .u8 (2),.sl 1 [[.str [97]]],.bool true,.int .i64 (0),.sl 1 [[.str [117]]]]], .osl (none) 5 [[.int .u8 (2),.sl 1 [[.str [97]]],.int .i64 (0),.str [118],.sl 3 []]]] xmh136 = some xmo136 := by kernel_rfl
def xlib137 : CallX := tabH 8 [.ptr 2 0, .agg [.int .u8 (0), .int .u32 (1)], .osl (none) 5 [[.int .u8 (2),.sl 1 [[.str [97]]],.bool true,.int .i64 (0),.sl 1 [[.str [117]]]]], .osl (none) 5 [[.int .u8 (2),.sl 1 [[.str [97]]],.int .i64 (0),.str [118],.sl 3 []]]] xmh136 xmo136 xlib136
theorem xlibOk137 : CallOk Tryz.prog xlib137 := tabH_ok xpre_ok xlibOk136 xm136
theorem xm137 : (xall Tryz.prog xpre xlib137 xown 1000 80).1 5 [] ⟨[], []⟩ = some [(.bool true, ⟨[], []⟩)] := by kernel_rfl
def xlib138 : CallX := tabX 5 [] (.bool true) xlib137
theorem xlibOk138 : CallOk Tryz.prog xlib138 := tabX_ok (spec_xv xpre_ok xlibOk137 xm137 rfl) xlibOk137
def xlib : CallX := xlib138
theorem xlib_ok : CallOk Tryz.prog xlib := xlibOk138
theorem x5 : (xall Tryz.prog xpre xlib xown 1000 80).1 5 [] ⟨[], []⟩ = some [(.bool true, ⟨[], []⟩)] := by kernel_rfl
theorem ok5 {res : Bool} {h : AH} (hF : law38Xknown = some res) : Spec Tryz.prog 5 [] h (fun rr hh => rr = .bool res ∧ hh = h) := by
  unfold law38Xknown at hF
  obtain rfl := Option.some.inj hF
  exact spec_x xpre_ok xlib_ok x5 rfl
/-! varve/varvelaw38.GuardNone -/
theorem ok3 {self0 : GActor} {o1 : GOp} {res : Bool} {h : AH} (hh0 : h = h0) (hF : law38GuardNone self0 o1 = some res) : Spec Tryz.prog 3 [.agg [.int .u8 self0.rep, .int .u32 self0.inc], .agg [.int .u8 o1.kind, .sl 1 (o1.path.map strRow), .int .i64 o1.n, .str o1.text, .sl 3 (o1.dots.map GDot.row)]] h (fun rr hh => rr = .bool res ∧ hh = h) := by
  unfold law38GuardNone at hF
  refine spec_of_body_ext Tryz.func3 rfl (by kernel_rfl) (env := [.agg [.int .u8 self0.rep, .int .u32 self0.inc], .agg [.int .u8 o1.kind, .sl 1 (o1.path.map strRow), .int .i64 o1.n, .str o1.text, .sl 3 (o1.dots.map GDot.row)], aundef, aundef, aundef, aundef, aundef, aundef, aundef, aundef, aundef, aundef, aundef, aundef, aundef, aundef, aundef, aundef, aundef, aundef, aundef, aundef, aundef, aundef, aundef, aundef, aundef, aundef, aundef, aundef, aundef, aundef, aundef, aundef, aundef, aundef, aundef, aundef, aundef, aundef, aundef, aundef, aundef, aundef, aundef, aundef, aundef, aundef, aundef, aundef, aundef, aundef, aundef, aundef, aundef, aundef, aundef, aundef, aundef, aundef, aundef, aundef, aundef, aundef, aundef, aundef, aundef, aundef, aundef, aundef, aundef, aundef, aundef, aundef, aundef, aundef, aundef]) (by rfl) ?_
  refine r_seq ?_
  refine r_region ?_
  refine ops_ok rfl (e_box (n := 0) rfl gt0 (tyo_ok rfl) rfl rfl) st2 ?_
  refine ops_ok rfl (e_box (n := 1) rfl gt1 (tyo_ok rfl) rfl rfl) st3 ?_
  refine ops_ok rfl (s_assign rfl rfl (tyo_ok rfl)) st4 ?_
  refine ops_nil ?_
  refine q_seq ?_
  refine r_seq ?_
  refine r_seq ?_
  refine r_region ?_
  refine ops_ok rfl (e_load rfl ty28.choose_spec.1 gt3 rfl (ldC_agX (cs' := [.int .u8 o1.kind, .sl 1 (o1.path.map strRow), .int .i64 o1.n, .str o1.text, .sl 3 (o1.dots.map GDot.row)]) ty28.choose_spec.2 rfl rfl) (tyo_ok rfl)) st16 ?_
  refine ops_ok rfl (s_buildSlice (es := ([o1] : List GOp).map GOp.row) rfl el30 ze28 rfl rfl (parto_cons gt16 parto_nil) (.cons (tyo_ok rfl) .nil) rfl rfl rfl) st17 ?_
  refine bindF hF (fun v1 hv1 hF => ?_)
  refine ops_callP rfl (s_call0 rfl rfl rfl (argo_cons rfl (argo_cons gt17 argo_nil)) (.cons (ty_nil el56) (.cons (tyo_ok rfl) .nil))) ((ok4 hv1).le (.cons (leV.osl _ _ _) (.cons (leV.osl _ _ _) leL.nil))) st18 ?_
  refine ops_nil ?_
  refine q_seq ?_
  refine r_condF gt18 hF (fun hc2 hF => ?_) (fun hc2 hF => ?_)
  · skip
    refine r_seq ?_
    refine r_region ?_
    refine bindF hF (fun v3 hv3 hF => ?_)
    refine ops_callP rfl (s_call0 rfl rfl rfl argo_nil .nil) (ok5 hv3) st19 ?_
    refine ops_ok rfl (s_assign rfl gt19 (tyo_ok rfl)) st4 ?_
    refine ops_nil ?_
    refine q_seq ?_
    refine r_ret ?_
    refine q_seq_ret ?_
    obtain rfl := Option.some.inj hF
    refine q_retL1 rfl (rl_tmp gt4 rl_nil) (fin_ext (leV.refl _) rfl ?_)
    exact ⟨rfl, rfl⟩
  · skip
    refine r_skip ?_
    refine q_seqw (wk.trans (wk_leB (j := 0) rfl (by exact (.cons leV.opqI (.cons leV.opqI leL.nil))) rfl rfl) (wk.trans (wk_leB (j := 1) rfl (by exact (.cons leV.opqI (.cons leV.opqL (.cons leV.opqI (.cons leV.opqS (.cons leV.opqL leL.nil)))))) rfl rfl) (wk.le (by exact (.drop (.drop (.eq (.eq (.drop (.drop (.drop (.drop (.drop (.drop (.drop (.drop (.drop (.drop (.drop (.drop (.drop (.drop (.drop (.drop (.drop (.drop (.drop (.drop (.drop (.drop (.drop (.drop (.drop (.drop (.drop (.drop (.drop (.drop (.drop (.drop (.drop (.drop (.drop (.drop (.drop (.drop (.drop (.drop (.drop (.drop (.drop (.drop (.drop (.drop (.drop (.drop (.drop (.drop (.drop (.drop (.drop (.drop (.drop (.drop (.drop (.drop (.drop (.drop (.drop (.drop (.drop (.drop (.drop (.drop (.drop (.drop (.drop (.drop (.drop (.drop (.drop leL.nil))))))))))))))))))))))))))))))))))))))))))))))))))))))))))))))))))))))))))))))))) ?_
    subst hh0
    obtain rfl := Option.some.inj hF
    exact x_rest xpre_ok xlib_ok (own := xown) (fuel := 1000) (n := 80) (by as_aux_lemma => kernel_rfl)
end Go.Vv
