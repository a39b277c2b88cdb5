/- The law varve.varvelaw42.RightsIdle holds: for every input it returns true, and each argument reads as it read. No condition. -/
import Derived.Test.YtlkpeiojgenhaaaRows
import Derived.Test.YtlkpeiojgenhaaaW2
import Derived.Test.YtlkpeiojgenhaaaPl04
import Derived.Test.YtlkpeiojgenhaaaPl30
import Derived.Test.YtlkpeiojgenhaaaPl42
import Derived.Test.YtlkpeiojgenhaaaVvRd
import Derived.ProofKit
import Derived.OpenShut
namespace Go.Proofs.Ytlkpeiojgenhaaa
open Go Go.Vv Go.ChangeShapes Go.WideShapes Go.ChangeAt Go.RowKit
set_option maxRecDepth 100000
set_option linter.unusedVariables false
set_option linter.unusedSimpArgs false
theorem co9 : Try.prog.cellsOf 9 = 1 := by kernel_rfl
theorem rdt28 {H : Type} {enc : TypeId × Value → H} {W : World} (n : Nat) : RdN enc Try.prog W n 28 (fun L : (List Str) => [AV.sl 1 (L.map strRow)]) (fun L => L.length ≤ maxLen ∧ ∀ y ∈ L, y.length ≤ maxLen) :=
  rd_slice Try.underlying28 co9 (by decide) (fun _ => rfl) (fun _ => rfl) (fun m _ => (rd_str Try.underlying9))
theorem co5 : Try.prog.cellsOf 5 = 1 := by kernel_rfl
theorem co28 : Try.prog.cellsOf 28 = 1 := by kernel_rfl
theorem co4 : Try.prog.cellsOf 4 = 1 := by kernel_rfl
theorem co48 : Try.prog.cellsOf 48 = 5 := by kernel_rfl
theorem rdGRule {H : Type} {enc : TypeId × Value → H} {W : World} (n : Nat) : RdN enc Try.prog W n 48 GRule.row GRule.wf :=
  (rd_struct (l := (match Try.prog.underlying 48 with | some (.struct fs) => fs.toList | _ => [])) (fs := (match Try.prog.underlying 48 with | some (.struct fs) => fs | _ => #[])) (by kernel_rfl) (by kernel_rfl) co48 (fun m _ => (rf_cons rfl co5 rfl (rd_int Try.underlying5) (rf_cons rfl co28 rfl (rdt28 _) (rf_cons rfl co5 rfl (rd_int Try.underlying5) (rf_cons rfl co4 rfl (rd_bool Try.underlying4) (rf_cons rfl co4 rfl (rd_bool Try.underlying4) (rf_nil (by decide))))))))).map (fun p => GRule.mk p.1 p.2.1 p.2.2.1 p.2.2.2.1 p.2.2.2.2.1) (fun _ => rfl) (fun a h => by simpa [GRule.wf, and_assoc] using h)
theorem rdt42 {H : Type} {enc : TypeId × Value → H} {W : World} (n : Nat) : RdN enc Try.prog W n 42 (fun L : (List GRule) => [AV.sl 5 (L.map GRule.row)]) (fun L => L.length ≤ maxLen ∧ ∀ y ∈ L, GRule.wf y) :=
  rd_slice Try.underlying42 co48 (by decide) (fun _ => rfl) (fun _ => rfl) (fun m _ => (rdGRule _))
theorem co22 : Try.prog.cellsOf 22 = 1 := by kernel_rfl
theorem co24 : Try.prog.cellsOf 24 = 2 := by kernel_rfl
theorem rdGActor {H : Type} {enc : TypeId × Value → H} {W : World} (n : Nat) : RdN enc Try.prog W n 24 GActor.row GActor.wf :=
  (rd_struct (l := (match Try.prog.underlying 24 with | some (.struct fs) => fs.toList | _ => [])) (fs := (match Try.prog.underlying 24 with | some (.struct fs) => fs | _ => #[])) (by kernel_rfl) (by kernel_rfl) co24 (fun m _ => (rf_cons rfl co5 rfl (rd_int Try.underlying5) (rf_cons rfl co22 rfl (rd_int Try.underlying22) (rf_nil (by decide)))))).map (fun p => GActor.mk p.1 p.2.1) (fun _ => rfl) (fun a h => by simpa [GActor.wf, and_assoc] using h)
theorem co25 : Try.prog.cellsOf 25 = 1 := by kernel_rfl
theorem co27 : Try.prog.cellsOf 27 = 3 := by kernel_rfl
theorem rdGDot {H : Type} {enc : TypeId × Value → H} {W : World} (n : Nat) : RdN enc Try.prog W n 27 GDot.row GDot.wf :=
  (rd_struct (l := (match Try.prog.underlying 27 with | some (.struct fs) => fs.toList | _ => [])) (fs := (match Try.prog.underlying 27 with | some (.struct fs) => fs | _ => #[])) (by kernel_rfl) (by kernel_rfl) co27 (fun m _ => (rf_cons rfl co24 rfl (rdGActor _) (rf_cons rfl co25 rfl (rd_int Try.underlying25) (rf_nil (by decide)))))).map (fun p => GDot.mk p.1 p.2.1) (fun _ => rfl) (fun a h => by simpa [GDot.wf, and_assoc] using h)
theorem rdt29 {H : Type} {enc : TypeId × Value → H} {W : World} (n : Nat) : RdN enc Try.prog W n 29 (fun L : (List GDot) => [AV.sl 3 (L.map GDot.row)]) (fun L => L.length ≤ maxLen ∧ ∀ y ∈ L, GDot.wf y) :=
  rd_slice Try.underlying29 co27 (by decide) (fun _ => rfl) (fun _ => rfl) (fun m _ => (rdGDot _))
theorem co2 : Try.prog.cellsOf 2 = 1 := by kernel_rfl
theorem co29 : Try.prog.cellsOf 29 = 1 := by kernel_rfl
theorem co31 : Try.prog.cellsOf 31 = 5 := by kernel_rfl
theorem rdGOp {H : Type} {enc : TypeId × Value → H} {W : World} (n : Nat) : RdN enc Try.prog W n 31 GOp.row GOp.wf :=
  (rd_struct (l := (match Try.prog.underlying 31 with | some (.struct fs) => fs.toList | _ => [])) (fs := (match Try.prog.underlying 31 with | some (.struct fs) => fs | _ => #[])) (by kernel_rfl) (by kernel_rfl) co31 (fun m _ => (rf_cons rfl co5 rfl (rd_int Try.underlying5) (rf_cons rfl co28 rfl (rdt28 _) (rf_cons rfl co2 rfl (rd_int Try.underlying2) (rf_cons rfl co9 rfl (rd_str Try.underlying9) (rf_cons rfl co29 rfl (rdt29 _) (rf_nil (by decide))))))))).map (fun p => GOp.mk p.1 p.2.1 p.2.2.1 p.2.2.2.1 p.2.2.2.2.1) (fun _ => rfl) (fun a h => by simpa [GOp.wf, and_assoc] using h)
theorem ownRightsIdle : ownKnob Try.prog.godebug = none := by kernel_rfl
theorem laidRightsIdle : laidOutB Try.prog = true := by kernel_rfl
theorem contractRightsIdle (H : Type) (enc : TypeId × Value → H) (W : World) (base : Nat) (args : Array Value) (ds gs : List (DataW H)) (before : List MemPlace)
    (hval : ∀ (j : Nat) t v, Try.f4.params[j]? = some t → args[j]? = some v → Value.okWide Try.prog W .any base t v)
    (hW : DataW.Whole enc Try.prog Try.f4.params.toList Rows.rightsIdleSpec.vars false W args.toList ds gs before) :
    Calls Try.prog 4 args W fun e W' => ∃ v, e = .returned v ∧ Rows.rightsIdleSpec.post enc Try.prog Try.f4 false true false false W args v W' := by
  have hW' := hW
  obtain ⟨p, q, hA0, hV, rfl, hfz, hnd⟩ := hW
  have hA : DataW.TrodAll enc Try.prog W 0 (fun _ => true) true Try.f4.params.toList args.toList ds p := hA0
  rw [Try.params4] at hA hval
  obtain ⟨v0, vs0, d0, ds0, p0, q0, hargs, rfl, rfl, t0, r0⟩ := trodAll_cons hA
  obtain ⟨v1, vs1, d1, ds1, p1, q1, rfl, rfl, rfl, t1, r1⟩ := trodAll_cons r0
  obtain ⟨v2, vs2, d2, ds2, p2, q2, rfl, rfl, rfl, t2, r2⟩ := trodAll_cons r1
  obtain ⟨v3, vs3, d3, ds3, p3, q3, rfl, rfl, rfl, t3, r3⟩ := trodAll_cons r2
  obtain ⟨rfl, rfl, rfl⟩ := trodAll_nil r3
  obtain rfl : args = #[v0, v1, v2, v3] := by cases args; simp_all
  obtain ⟨rfl, rfl⟩ := trodVars_none hV
  clear hA0
  simp only [List.append_nil] at hW'
  obtain ⟨y0, hy0, wf0⟩ := rd_arg (fun n => (rdt42 _)) t0
  have hv0 := V.of_one (by rintro cs rfl; have := hval 0 42 _ rfl rfl; simp [Value.okWide, Try.underlying42, Cell.okWide, Cell.ok] at this) hy0
  obtain ⟨y1, hy1, wf1⟩ := rd_arg (fun n => (rd_int Try.underlying5)) t1
  have hv1 := V.of_one (by rintro cs rfl; have := hval 1 5 _ rfl rfl; simp [Value.okWide, Try.underlying5, Cell.okWide, Cell.ok] at this) hy1
  obtain ⟨y2, hy2, wf2⟩ := rd_arg (fun n => (rdGOp _)) t2
  have hv2 := V.of_agg (by have := hval 2 31 v2 rfl rfl; simp only [Value.okWide, Try.underlying31] at this; obtain ⟨us, h, _⟩ := this; exact ⟨us, h⟩) rfl hy2
  obtain ⟨y3, hy3, wf3⟩ := rd_arg (fun n => (rdt28 _)) t3
  have hv3 := V.of_one (by rintro cs rfl; have := hval 3 28 _ rfl rfl; simp [Value.okWide, Try.underlying28, Cell.okWide, Cell.ok] at this) hy3
  have hlt : ∀ x ∈ (p0 ++ (p1 ++ (p2 ++ p3))), x.block < W.heap.size := fun x hx => by simpa using hW'.lt x hx
  refine ((ok4 (h := h0) ((fun l rep o path h _ _ _ => law42RightsIdle_is l rep o path h) y0 y1 y2 y3 wf0 wf1 wf2 wf3)).2 W.heap.size W (g0 W) W _ (rel0 W) (VL.cons hv0 (VL.cons hv1 (VL.cons hv2 (VL.cons hv3 (by simp [VL])))))).mono fun e W' ⟨v, r, h', g', he, ⟨hr, hh⟩, hg, hR, hv⟩ => ?_
  subst he hr
  simp only [V] at hv
  subst hv
  exact ⟨_, rfl, post_of_below (pv := []) hW' hR.below (fun _ _ _ => (trodAll_cons_mk (shut_bool Try.underlying4 _) trodAll_mk0)) (fun sp hsp => (trodAll_cons_mk (WideElems.Trod_stays laidRightsIdle (by kernel_rfl) (of_decide_eq_true (by kernel_rfl)) t0 (fun x hx => hR.below.same (hlt x (by simp [hx]))) (fun x hx => hsp x (by simp [hx]))) (trodAll_cons_mk (WideElems.Trod_stays laidRightsIdle (by kernel_rfl) (of_decide_eq_true (by kernel_rfl)) t1 (fun x hx => hR.below.same (hlt x (by simp [hx]))) (fun x hx => hsp x (by simp [hx]))) (trodAll_cons_mk (WideElems.Trod_stays laidRightsIdle (by kernel_rfl) (of_decide_eq_true (by kernel_rfl)) t2 (fun x hx => hR.below.same (hlt x (by simp [hx]))) (fun x hx => hsp x (by simp [hx]))) (trodAll_cons_mk (WideElems.Trod_stays laidRightsIdle (by kernel_rfl) (of_decide_eq_true (by kernel_rfl)) t3 (fun x hx => hR.below.same (hlt x (by simp [hx]))) (fun x hx => hsp x (by simp [hx]))) trodAll_mk0))))) (fun _ _ => rfl) (by simp) (ok_one (by kernel_rfl) rfl (okWide_bool_mk Try.underlying4 _))⟩
set_option maxRecDepth 100000 in
theorem liftedRightsIdle (os : Os) (started : os.Started) (H : Type) (enc : TypeId × Value → H) :
    ReturnsInHanded {} Try.checked os 4 .any (Rows.rightsIdleSpec.pre6 enc Try.prog Try.f4 Rows.rightsIdleRow.domain false) (Rows.rightsIdleSpec.post enc Try.prog Try.f4 false true false false) := by
  refine returnsInHanded_of_change (C := Try.checked) ownRightsIdle started (by kernel_rfl) Try.func4
    (ChangeSpec.witness6 (enc := enc) (C := Try.checked) false ⟨#[], #[.slice none 0 0, .int .u8 0, .agg #[.int .u8 0, .slice none 0 0, .int .i64 0, .string ⟨#[]⟩, .slice none 0 0], .slice none 0 0], []⟩ 8 (by kernel_rfl) (by kernel_rfl) (by kernel_rfl) (by kernel_rfl)) ?_
  intro W base args ds gs before hval hW _ _
  exact contractRightsIdle H enc W base args ds gs before hval hW
theorem RightsIdleHolds : Rows.RightsIdleSaid :=
  OpenClaim.holds_of_wide 4 Try.f4 rfl rfl rfl rfl rfl rfl rfl ⟨rfl, rfl, rfl, rfl, rfl⟩ rfl rfl rfl rfl rfl (by kernel_rfl) Try.func4 (by kernel_rfl)
    (of_decide_eq_true (by kernel_rfl)) (by unfold Func.isWrapper; first | (rw [if_pos (by decide +kernel)]; kernel_rfl) | (rw [if_neg (by decide +kernel)]; exact ⟨rfl, rfl⟩))
    (fun os started H enc _ => liftedRightsIdle os started H enc)
end Go.Proofs.Ytlkpeiojgenhaaa
