/- The law varve.varvelaw34.UndoNone holds: for every input it returns true, and each argument reads as it read. No condition. -/
import Derived.Test.YtojfcfnkcldpbaaGreatRows
import Derived.Test.YtojfcfnkcldpbaaGreatXUndoNone
import Derived.Test.YtojfcfnkcldpbaaGreatVvUp
import Derived.Test.YtojfcfnkcldpbaaGreatVvRd
import Derived.ProofKit
import Derived.OpenShut
namespace Go.Proofs.YtojfcfnkcldpbaaGreat
open Go Go.Vv Go.ChangeShapes Go.WideShapes Go.ChangeAt Go.RowKit
set_option maxRecDepth 100000
set_option linter.unusedVariables false
set_option linter.unusedSimpArgs false
theorem co5 : Tryz.prog.cellsOf 5 = 1 := by kernel_rfl
theorem co39 : Tryz.prog.cellsOf 39 = 1 := by kernel_rfl
theorem co41 : Tryz.prog.cellsOf 41 = 2 := by kernel_rfl
theorem rdGActor {H : Type} {enc : TypeId × Value → H} {W : World} (n : Nat) : RdN enc Tryz.prog W n 41 GActor.row GActor.wf GActor.bk :=
  (rd_struct (l := (match Tryz.prog.underlying 41 with | some (.struct fs) => fs.toList | _ => [])) (fs := (match Tryz.prog.underlying 41 with | some (.struct fs) => fs | _ => #[])) (by kernel_rfl) (by kernel_rfl) co41 (fun m _ => (rf_cons rfl co5 rfl (rd_int Tryz.underlying5) (rf_cons rfl co39 rfl (rd_int Tryz.underlying39) (rf_nil (by decide)))))).map (fun p => GActor.mk p.1 p.2.1) (fun _ => rfl) (fun a h => by simpa [GActor.wf, and_assoc] using h) (fun _ => rfl)
theorem co24 : Tryz.prog.cellsOf 24 = 1 := by kernel_rfl
theorem co43 : Tryz.prog.cellsOf 43 = 3 := by kernel_rfl
theorem rdGDot {H : Type} {enc : TypeId × Value → H} {W : World} (n : Nat) : RdN enc Tryz.prog W n 43 GDot.row GDot.wf GDot.bk :=
  (rd_struct (l := (match Tryz.prog.underlying 43 with | some (.struct fs) => fs.toList | _ => [])) (fs := (match Tryz.prog.underlying 43 with | some (.struct fs) => fs | _ => #[])) (by kernel_rfl) (by kernel_rfl) co43 (fun m _ => (rf_cons rfl co41 rfl (rdGActor _) (rf_cons rfl co24 rfl (rd_int Tryz.underlying24) (rf_nil (by decide)))))).map (fun p => GDot.mk p.1 p.2.1) (fun _ => rfl) (fun a h => by simpa [GDot.wf, and_assoc] using h) (fun _ => rfl)
theorem ownUndoNone : ownKnob Tryz.prog.godebug = none := by kernel_rfl
theorem laidUndoNone : laidOutB Tryz.prog = true := by kernel_rfl
theorem contractUndoNone (H : Type) (enc : TypeId × Value → H) (W : World) (base : Nat) (args : Array Value) (ds gs : List (DataW H)) (before : List MemPlace)
    (hval : ∀ (j : Nat) t v, Tryz.f7.params[j]? = some t → args[j]? = some v → Value.okWide Tryz.prog W .any base t v)
    (hW : DataW.Whole enc Tryz.prog Tryz.f7.params.toList Rows.undoNoneSpec.vars false W args.toList ds gs before) (hsh : W.ShapedOpen Tryz.prog) :
    Calls Tryz.prog 7 args W fun e W' => ∃ v, e = .returned v ∧ Rows.undoNoneSpec.post enc Tryz.prog Tryz.f7 false true false false W args v W' := by
  haveI : GOk Tryz.prog W.heap.size W := ⟨hsh, Nat.le_refl _⟩
  have hW' := hW
  obtain ⟨p, q, hA0, hV, rfl, hfz, hnd⟩ := hW
  have hA : DataW.TrodAll enc Tryz.prog W 0 (fun _ => true) true Tryz.f7.params.toList args.toList ds p := hA0
  rw [Tryz.params7] at hA hval
  obtain ⟨v0, vs0, d0, ds0, p0, q0, hargs, rfl, rfl, t0, r0⟩ := trodAll_cons hA
  obtain ⟨rfl, rfl, rfl⟩ := trodAll_nil r0
  obtain rfl : args = #[v0] := by cases args; simp_all
  obtain ⟨rfl, rfl⟩ := trodVars_none hV
  clear hA0
  simp only [List.append_nil] at hW'
  obtain ⟨y0, hy0, wf0, bk0⟩ := rd_arg (fun n => (rdGDot _)) t0
  have hv0 := V.of_agg (by have := hval 0 43 v0 rfl rfl; simp only [Value.okWide, Tryz.underlying43] at this; obtain ⟨us, h, _⟩ := this; exact ⟨us, h⟩) rfl hy0
  have hlt : ∀ x ∈ p0, x.block < W.heap.size := fun x hx => by simpa using hW'.lt x hx
  refine ((ok7 (h := h0) ((lawUndoNoneis) y0 wf0)).2 W.heap.size W (g0 W) W _ (rel0 W) (VL.cons hv0 (by simp [VL]))).mono fun e W' ⟨v, r, h', g', he, ⟨hr, hh⟩, hg, hR, hv⟩ => ?_
  subst he hr
  simp only [V] at hv
  subst hv
  exact ⟨_, rfl, post_of_below (pv := []) hW' hR.below (fun _ _ _ => (trodAll_cons_mk (shut_bool Tryz.underlying4 _) trodAll_mk0)) (fun sp hsp => (trodAll_cons_mk (WideElems.Trod_stays laidUndoNone (by kernel_rfl) (of_decide_eq_true (by kernel_rfl)) t0 (fun x hx => hR.below.same (hlt x (by simp [hx]))) (fun x hx => hsp x (by simp [hx]))) trodAll_mk0)) (fun _ _ => rfl) (by simp) (ok_one (by kernel_rfl) rfl (okWide_bool_mk Tryz.underlying4 _))⟩
set_option maxRecDepth 100000 in
theorem liftedUndoNone (os : Os) (started : os.Started) (H : Type) (enc : TypeId × Value → H) :
    ReturnsInHanded {} Tryz.checked os 7 .any (Rows.undoNoneSpec.pre6 enc Tryz.prog Tryz.f7 Rows.undoNoneRow.domain false) (Rows.undoNoneSpec.post enc Tryz.prog Tryz.f7 false true false false) := by
  refine returnsInHanded_of_change_shaped (C := Tryz.checked) ownUndoNone started (by kernel_rfl) Tryz.func7
    (ChangeSpec.witness6 (enc := enc) (C := Tryz.checked) false ⟨#[], #[.agg #[.int .u8 0, .int .u32 0, .int .u64 0]], []⟩ 8 (by kernel_rfl) (by kernel_rfl) (by kernel_rfl) (by kernel_rfl)) ?_
  intro W base args ds gs before hval hW _ _ hsh _
  exact contractUndoNone H enc W base args ds gs before hval hW hsh
set_option maxHeartbeats 4000000 in
theorem closedUndoNone : joinedFacts Tryz.pinned.checked.prog 7 Tryz.f7 Rows.undoNoneSpec Rows.undoNoneRow = true := by
  unfold joinedFacts
  simp only [Bool.and_eq_true]
  repeat' apply And.intro
  all_goals as_aux_lemma => kernel_rfl
theorem namedUndoNone : Tryz.pinned.checked.prog.funcNamed Rows.undoNoneRow.func = some 7 := by kernel_rfl
theorem instUndoNone : Tryz.f7.isInstance Tryz.pinned.checked.prog Rows.undoNoneRow.origin Rows.undoNoneRow.targs := of_decide_eq_true (by kernel_rfl)
theorem UndoNoneHolds : Rows.UndoNoneSaid :=
  OpenClaim.holds_of_wide 7 Tryz.f7 rfl rfl rfl rfl rfl rfl rfl ⟨rfl, rfl, rfl, rfl, rfl⟩ rfl rfl rfl rfl rfl namedUndoNone Tryz.func7 closedUndoNone
    instUndoNone (by unfold Func.isWrapper; first | (rw [if_pos (by decide +kernel)]; kernel_rfl) | (rw [if_neg (by decide +kernel)]; exact ⟨rfl, rfl⟩))
    (fun os started H enc _ => liftedUndoNone os started H enc)
end Go.Proofs.YtojfcfnkcldpbaaGreat
