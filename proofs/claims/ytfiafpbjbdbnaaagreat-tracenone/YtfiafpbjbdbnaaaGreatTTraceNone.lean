/- The law varve.varvelaw32.TraceNone holds: for every input it returns true, and each argument reads as it read. No condition. -/
import Derived.Test.YtfiafpbjbdbnaaaGreatRows
import Derived.Test.YtfiafpbjbdbnaaaGreatW1
import Derived.Test.YtfiafpbjbdbnaaaGreatPl32
import Derived.Test.YtfiafpbjbdbnaaaGreatVvUp
import Derived.ProofKit
import Derived.HandedShaped
import Derived.OpenShut
namespace Go.Proofs.YtfiafpbjbdbnaaaGreat
open Go Go.Vv Go.ChangeShapes Go.WideShapes Go.ChangeAt Go.RowKit
set_option maxRecDepth 100000
set_option linter.unusedVariables false
set_option linter.unusedSimpArgs false
theorem co9 : Tryz.prog.cellsOf 9 = 1 := by kernel_rfl
theorem rdt22 {H : Type} {enc : TypeId × Value → H} {W : World} (n : Nat) : RdN enc Tryz.prog W n 22 (fun L : (List Str) => [AV.sl 1 (L.map strRow)]) (fun L => L.length ≤ maxLen ∧ ∀ y ∈ L, y.length ≤ maxLen) (fun L => (L.map (fun s => s.length + 1)).sum + 1) :=
  rd_slice Tryz.underlying22 co9 (by decide) (fun _ => rfl) (fun _ => rfl) (fun m _ => (rd_str Tryz.underlying9))
theorem ownTraceNone : ownKnob Tryz.prog.godebug = none := by kernel_rfl
theorem laidTraceNone : laidOutB Tryz.prog = true := by kernel_rfl
theorem contractTraceNone (H : Type) (enc : TypeId × Value → H) (W : World) (base : Nat) (args : Array Value) (ds gs : List (DataW H)) (before : List MemPlace)
    (hval : ∀ (j : Nat) t v, Tryz.f3.params[j]? = some t → args[j]? = some v → Value.okWide Tryz.prog W .any base t v)
    (hW : DataW.Whole enc Tryz.prog Tryz.f3.params.toList Rows.traceNoneSpec.vars false W args.toList ds gs before) (hsh : W.ShapedOpen Tryz.prog) :
    Calls Tryz.prog 3 args W fun e W' => ∃ v, e = .returned v ∧ Rows.traceNoneSpec.post enc Tryz.prog Tryz.f3 false true false false W args v W' := by
  haveI : GOk Tryz.prog W.heap.size W := ⟨hsh, Nat.le_refl _⟩
  have hW' := hW
  obtain ⟨p, q, hA0, hV, rfl, hfz, hnd⟩ := hW
  have hA : DataW.TrodAll enc Tryz.prog W 0 (fun _ => true) true Tryz.f3.params.toList args.toList ds p := hA0
  rw [Tryz.params3] at hA hval
  obtain ⟨v0, vs0, d0, ds0, p0, q0, hargs, rfl, rfl, t0, r0⟩ := trodAll_cons hA
  obtain ⟨v1, vs1, d1, ds1, p1, q1, rfl, rfl, rfl, t1, r1⟩ := trodAll_cons r0
  obtain ⟨rfl, rfl, rfl⟩ := trodAll_nil r1
  obtain rfl : args = #[v0, v1] := by cases args; simp_all
  obtain ⟨rfl, rfl⟩ := trodVars_none hV
  clear hA0
  simp only [List.append_nil] at hW'
  obtain ⟨y0, hy0, wf0, bk0⟩ := rd_arg (fun n => (rdt22 _)) t0
  have hv0 := V.of_one (by rintro cs rfl; have := hval 0 22 _ rfl rfl; simp [Value.okWide, Tryz.underlying22, Cell.okWide, Cell.ok] at this) hy0
  obtain ⟨y1, hy1, wf1, bk1⟩ := rd_arg (fun n => (rd_int Tryz.underlying5)) t1
  have hv1 := V.of_one (by rintro cs rfl; have := hval 1 5 _ rfl rfl; simp [Value.okWide, Tryz.underlying5, Cell.okWide, Cell.ok] at this) hy1
  have hlt : ∀ x ∈ (p0 ++ p1), x.block < W.heap.size := fun x hx => by simpa using hW'.lt x hx
  refine ((ok3 (h := h0) rfl ((law32TraceNone_top) y0 y1 wf0 wf1)).2 W.heap.size W (g0 W) W _ (rel0 W) (VL.cons hv0 (VL.cons hv1 (by simp [VL])))).mono fun e W' ⟨v, r, h', g', he, ⟨hr, hh⟩, hg, hR, hv⟩ => ?_
  subst he hr
  simp only [V] at hv
  subst hv
  exact ⟨_, rfl, post_of_below (pv := []) hW' hR.below (fun _ _ _ => (trodAll_cons_mk (shut_bool Tryz.underlying4 _) trodAll_mk0)) (fun sp hsp => (trodAll_cons_mk (WideElems.Trod_stays laidTraceNone (by kernel_rfl) (of_decide_eq_true (by kernel_rfl)) t0 (fun x hx => hR.below.same (hlt x (by simp [hx]))) (fun x hx => hsp x (by simp [hx]))) (trodAll_cons_mk (WideElems.Trod_stays laidTraceNone (by kernel_rfl) (of_decide_eq_true (by kernel_rfl)) t1 (fun x hx => hR.below.same (hlt x (by simp [hx]))) (fun x hx => hsp x (by simp [hx]))) trodAll_mk0))) (fun _ _ => rfl) (by simp) (ok_one (by kernel_rfl) rfl (okWide_bool_mk Tryz.underlying4 _))⟩
set_option maxRecDepth 100000 in
theorem liftedTraceNone (os : Os) (started : os.Started) (H : Type) (enc : TypeId × Value → H) :
    ReturnsInHanded {} Tryz.checked os 3 .any (Rows.traceNoneSpec.pre6 enc Tryz.prog Tryz.f3 Rows.traceNoneRow.domain false) (Rows.traceNoneSpec.post enc Tryz.prog Tryz.f3 false true false false) := by
  refine returnsInHanded_of_change_shaped (C := Tryz.checked) ownTraceNone started (by kernel_rfl) Tryz.func3
    (ChangeSpec.witness6 (enc := enc) (C := Tryz.checked) false ⟨#[], #[.slice none 0 0, .int .u8 0], []⟩ 8 (by kernel_rfl) (by kernel_rfl) (by kernel_rfl) (by kernel_rfl)) ?_
  intro W base args ds gs before hval hW _ _ hsh _
  exact contractTraceNone H enc W base args ds gs before hval hW hsh
set_option maxHeartbeats 4000000 in
theorem closedTraceNone : joinedFacts Tryz.pinned.checked.prog 3 Tryz.f3 Rows.traceNoneSpec Rows.traceNoneRow = true := by
  unfold joinedFacts
  simp only [Bool.and_eq_true]
  repeat' apply And.intro
  all_goals as_aux_lemma => kernel_rfl
theorem namedTraceNone : Tryz.pinned.checked.prog.funcNamed Rows.traceNoneRow.func = some 3 := by kernel_rfl
theorem instTraceNone : Tryz.f3.isInstance Tryz.pinned.checked.prog Rows.traceNoneRow.origin Rows.traceNoneRow.targs := of_decide_eq_true (by kernel_rfl)
theorem TraceNoneHolds : Rows.TraceNoneSaid :=
  OpenClaim.holds_of_wide 3 Tryz.f3 rfl rfl rfl rfl rfl rfl rfl ⟨rfl, rfl, rfl, rfl, rfl⟩ rfl rfl rfl rfl rfl namedTraceNone Tryz.func3 closedTraceNone
    instTraceNone (by unfold Func.isWrapper; first | (rw [if_pos (by decide +kernel)]; kernel_rfl) | (rw [if_neg (by decide +kernel)]; exact ⟨rfl, rfl⟩))
    (fun os started H enc _ => liftedTraceNone os started H enc)
end Go.Proofs.YtfiafpbjbdbnaaaGreat
