/- The law varve.varvelaw38.GuardNone holds: for every input it returns true, and each argument reads as it read. No condition. -/
import Derived.Test.YtcblfcocmakbiaaGreatRows
import Derived.Test.YtcblfcocmakbiaaGreatW3
import Derived.Test.YtcblfcocmakbiaaGreatPl38
import Derived.Test.YtcblfcocmakbiaaGreatVvUp
import Derived.ProofKit
import Derived.HandedShaped
import Derived.OpenShut
namespace Go.Proofs.YtcblfcocmakbiaaGreat
open Go Go.Vv Go.ChangeShapes Go.WideShapes Go.ChangeAt Go.RowKit
set_option maxRecDepth 100000
set_option linter.unusedVariables false
set_option linter.unusedSimpArgs false
theorem co5 : Tryz.prog.cellsOf 5 = 1 := by kernel_rfl
theorem co22 : Tryz.prog.cellsOf 22 = 1 := by kernel_rfl
theorem co24 : Tryz.prog.cellsOf 24 = 2 := by kernel_rfl
theorem rdGActor {H : Type} {enc : TypeId × Value → H} {W : World} (n : Nat) : RdN enc Tryz.prog W n 24 GActor.row GActor.wf GActor.bk :=
  (rd_struct (l := (match Tryz.prog.underlying 24 with | some (.struct fs) => fs.toList | _ => [])) (fs := (match Tryz.prog.underlying 24 with | some (.struct fs) => fs | _ => #[])) (by kernel_rfl) (by kernel_rfl) co24 (fun m _ => (rf_cons rfl co5 rfl (rd_int Tryz.underlying5) (rf_cons rfl co22 rfl (rd_int Tryz.underlying22) (rf_nil (by decide)))))).map (fun p => GActor.mk p.1 p.2.1) (fun _ => rfl) (fun a h => by simpa [GActor.wf, and_assoc] using h) (fun _ => rfl)
theorem co9 : Tryz.prog.cellsOf 9 = 1 := by kernel_rfl
theorem rdt25 {H : Type} {enc : TypeId × Value → H} {W : World} (n : Nat) : RdN enc Tryz.prog W n 25 (fun L : (List Str) => [AV.sl 1 (L.map strRow)]) (fun L => L.length ≤ maxLen ∧ ∀ y ∈ L, y.length ≤ maxLen) (fun L => (L.map (fun s => s.length + 1)).sum + 1) :=
  rd_slice Tryz.underlying25 co9 (by decide) (fun _ => rfl) (fun _ => rfl) (fun m _ => (rd_str Tryz.underlying9))
theorem co32 : Tryz.prog.cellsOf 32 = 1 := by kernel_rfl
theorem co44 : Tryz.prog.cellsOf 44 = 3 := by kernel_rfl
theorem rdGDot {H : Type} {enc : TypeId × Value → H} {W : World} (n : Nat) : RdN enc Tryz.prog W n 44 GDot.row GDot.wf GDot.bk :=
  (rd_struct (l := (match Tryz.prog.underlying 44 with | some (.struct fs) => fs.toList | _ => [])) (fs := (match Tryz.prog.underlying 44 with | some (.struct fs) => fs | _ => #[])) (by kernel_rfl) (by kernel_rfl) co44 (fun m _ => (rf_cons rfl co24 rfl (rdGActor _) (rf_cons rfl co32 rfl (rd_int Tryz.underlying32) (rf_nil (by decide)))))).map (fun p => GDot.mk p.1 p.2.1) (fun _ => rfl) (fun a h => by simpa [GDot.wf, and_assoc] using h) (fun _ => rfl)
theorem rdt26 {H : Type} {enc : TypeId × Value → H} {W : World} (n : Nat) : RdN enc Tryz.prog W n 26 (fun L : (List GDot) => [AV.sl 3 (L.map GDot.row)]) (fun L => L.length ≤ maxLen ∧ ∀ y ∈ L, GDot.wf y) (fun L => (L.map GDot.bk).sum + 1) :=
  rd_slice Tryz.underlying26 co44 (by decide) (fun _ => rfl) (fun _ => rfl) (fun m _ => (rdGDot _))
theorem co25 : Tryz.prog.cellsOf 25 = 1 := by kernel_rfl
theorem co2 : Tryz.prog.cellsOf 2 = 1 := by kernel_rfl
theorem co26 : Tryz.prog.cellsOf 26 = 1 := by kernel_rfl
theorem co28 : Tryz.prog.cellsOf 28 = 5 := by kernel_rfl
theorem rdGOp {H : Type} {enc : TypeId × Value → H} {W : World} (n : Nat) : RdN enc Tryz.prog W n 28 GOp.row GOp.wf GOp.bk :=
  (rd_struct (l := (match Tryz.prog.underlying 28 with | some (.struct fs) => fs.toList | _ => [])) (fs := (match Tryz.prog.underlying 28 with | some (.struct fs) => fs | _ => #[])) (by kernel_rfl) (by kernel_rfl) co28 (fun m _ => (rf_cons rfl co5 rfl (rd_int Tryz.underlying5) (rf_cons rfl co25 rfl (rdt25 _) (rf_cons rfl co2 rfl (rd_int Tryz.underlying2) (rf_cons rfl co9 rfl (rd_str Tryz.underlying9) (rf_cons rfl co26 rfl (rdt26 _) (rf_nil (by decide))))))))).map (fun p => GOp.mk p.1 p.2.1 p.2.2.1 p.2.2.2.1 p.2.2.2.2.1) (fun _ => rfl) (fun a h => by simpa [GOp.wf, and_assoc] using h) (fun _ => rfl)
theorem ownGuardNone : ownKnob Tryz.prog.godebug = none := by kernel_rfl
theorem laidGuardNone : laidOutB Tryz.prog = true := by kernel_rfl
theorem contractGuardNone (H : Type) (enc : TypeId × Value → H) (W : World) (base : Nat) (args : Array Value) (ds gs : List (DataW H)) (before : List MemPlace)
    (hval : ∀ (j : Nat) t v, Tryz.f3.params[j]? = some t → args[j]? = some v → Value.okWide Tryz.prog W .any base t v)
    (hW : DataW.Whole enc Tryz.prog Tryz.f3.params.toList Rows.guardNoneSpec.vars false W args.toList ds gs before) (hsh : W.ShapedOpen Tryz.prog) :
    Calls Tryz.prog 3 args W fun e W' => ∃ v, e = .returned v ∧ Rows.guardNoneSpec.post enc Tryz.prog Tryz.f3 false true false false W args v W' := by
  haveI : GOk Tryz.prog W.heap.size W := ⟨hsh, Nat.le_refl _⟩
  have hW' := hW
  obtain ⟨p, q, hA0, hV, rfl, hfz, hnd⟩ := hW
  have hA : DataW.TrodAll enc Tryz.prog W 0 (fun _ => true) true Tryz.f3.params.toList args.toList ds p := hA0
  rw [Tryz.params3] at hA hval
  obtain ⟨v0, vs0, d0, ds0, p0, q0, hargs, rfl, rfl, t0, r0⟩ := trodAll_cons hA
  obtain ⟨v1, vs1, d1, ds1, p1, q1, rfl, rfl, rfl, t1, r1⟩ := trodAll_cons r0
  obtain ⟨rfl, rfl, rfl⟩ := trodAll_nil r1
  obtain rfl : args = #[v0, v1] := by cases args; simp_all
  obtain ⟨rfl, rfl⟩ := trodVars_none hV
  clear hA0
  simp only [List.append_nil] at hW'
  obtain ⟨y0, hy0, wf0, bk0⟩ := rd_arg (fun n => (rdGActor _)) t0
  have hv0 := V.of_agg (by have := hval 0 24 v0 rfl rfl; simp only [Value.okWide, Tryz.underlying24] at this; obtain ⟨us, h, _⟩ := this; exact ⟨us, h⟩) rfl hy0
  obtain ⟨y1, hy1, wf1, bk1⟩ := rd_arg (fun n => (rdGOp _)) t1
  have hv1 := V.of_agg (by have := hval 1 28 v1 rfl rfl; simp only [Value.okWide, Tryz.underlying28] at this; obtain ⟨us, h, _⟩ := this; exact ⟨us, h⟩) rfl hy1
  have hlt : ∀ x ∈ (p0 ++ p1), x.block < W.heap.size := fun x hx => by simpa using hW'.lt x hx
  refine ((ok3 (h := h0) rfl ((law38GuardNone_top) y0 y1 wf0 wf1)).2 W.heap.size W (g0 W) W _ (rel0 W) (VL.cons hv0 (VL.cons hv1 (by simp [VL])))).mono fun e W' ⟨v, r, h', g', he, ⟨hr, hh⟩, hg, hR, hv⟩ => ?_
  subst he hr
  simp only [V] at hv
  subst hv
  exact ⟨_, rfl, post_of_below (pv := []) hW' hR.below (fun _ _ _ => (trodAll_cons_mk (shut_bool Tryz.underlying4 _) trodAll_mk0)) (fun sp hsp => (trodAll_cons_mk (WideElems.Trod_stays laidGuardNone (by kernel_rfl) (of_decide_eq_true (by kernel_rfl)) t0 (fun x hx => hR.below.same (hlt x (by simp [hx]))) (fun x hx => hsp x (by simp [hx]))) (trodAll_cons_mk (WideElems.Trod_stays laidGuardNone (by kernel_rfl) (of_decide_eq_true (by kernel_rfl)) t1 (fun x hx => hR.below.same (hlt x (by simp [hx]))) (fun x hx => hsp x (by simp [hx]))) trodAll_mk0))) (fun _ _ => rfl) (by simp) (ok_one (by kernel_rfl) rfl (okWide_bool_mk Tryz.underlying4 _))⟩
set_option maxRecDepth 100000 in
theorem liftedGuardNone (os : Os) (started : os.Started) (H : Type) (enc : TypeId × Value → H) :
    ReturnsInHanded {} Tryz.checked os 3 .any (Rows.guardNoneSpec.pre6 enc Tryz.prog Tryz.f3 Rows.guardNoneRow.domain false) (Rows.guardNoneSpec.post enc Tryz.prog Tryz.f3 false true false false) := by
  refine returnsInHanded_of_change_shaped (C := Tryz.checked) ownGuardNone started (by kernel_rfl) Tryz.func3
    (ChangeSpec.witness6 (enc := enc) (C := Tryz.checked) false ⟨#[], #[.agg #[.int .u8 0, .int .u32 0], .agg #[.int .u8 0, .slice none 0 0, .int .i64 0, .string ⟨#[]⟩, .slice none 0 0]], []⟩ 8 (by kernel_rfl) (by kernel_rfl) (by kernel_rfl) (by kernel_rfl)) ?_
  intro W base args ds gs before hval hW _ _ hsh _
  exact contractGuardNone H enc W base args ds gs before hval hW hsh
set_option maxHeartbeats 4000000 in
theorem closedGuardNone : joinedFacts Tryz.pinned.checked.prog 3 Tryz.f3 Rows.guardNoneSpec Rows.guardNoneRow = true := by
  unfold joinedFacts
  simp only [Bool.and_eq_true]
  repeat' apply And.intro
  all_goals as_aux_lemma => kernel_rfl
theorem namedGuardNone : Tryz.pinned.checked.prog.funcNamed Rows.guardNoneRow.func = some 3 := by kernel_rfl
theorem instGuardNone : Tryz.f3.isInstance Tryz.pinned.checked.prog Rows.guardNoneRow.origin Rows.guardNoneRow.targs := of_decide_eq_true (by kernel_rfl)
theorem GuardNoneHolds : Rows.GuardNoneSaid :=
  OpenClaim.holds_of_wide 3 Tryz.f3 rfl rfl rfl rfl rfl rfl rfl ⟨rfl, rfl, rfl, rfl, rfl⟩ rfl rfl rfl rfl rfl namedGuardNone Tryz.func3 closedGuardNone
    instGuardNone (by unfold Func.isWrapper; first | (rw [if_pos (by decide +kernel)]; kernel_rfl) | (rw [if_neg (by decide +kernel)]; exact ⟨rfl, rfl⟩))
    (fun os started H enc _ => liftedGuardNone os started H enc)
end Go.Proofs.YtcblfcocmakbiaaGreat
