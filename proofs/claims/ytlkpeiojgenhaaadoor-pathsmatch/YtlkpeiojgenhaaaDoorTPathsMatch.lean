/- The law varve.varvelaw30.PathsMatch holds: for every input it returns true, and each argument reads as it read. No condition. -/
import Derived.Test.YtlkpeiojgenhaaaDoorRows
import Derived.Test.YtlkpeiojgenhaaaDoorW1
import Derived.Test.YtlkpeiojgenhaaaDoorPl04
import Derived.Test.YtlkpeiojgenhaaaDoorPl00
import Derived.Test.YtlkpeiojgenhaaaDoorPl30
import Derived.Test.YtlkpeiojgenhaaaDoorPl30m
import Derived.Test.YtlkpeiojgenhaaaDoorVvUp
import Derived.ProofKit
import Derived.HandedShaped
import Derived.OpenShut
import Derived.Lay
import Derived.LaidOnce
import Derived.SevenTiedAt
import Derived.MakeChecks
import Derived.Test.YtlkpeiojgenhaaaDoorCards
import Derived.Test.YtlkpeiojgenhaaaDoorTie
namespace Go.Proofs.YtlkpeiojgenhaaaDoor
open Go Go.Vv Go.ChangeShapes Go.WideShapes Go.ChangeAt Go.RowKit
set_option maxRecDepth 100000
set_option linter.unusedVariables false
set_option linter.unusedSimpArgs false
theorem co9 : Tryd.prog.cellsOf 9 = 1 := by kernel_rfl
theorem rdt22 {H : Type} {enc : TypeId × Value → H} {W : World} (n : Nat) : RdN enc Tryd.prog W n 22 (fun L : (List Str) => [AV.sl 1 (L.map strRow)]) (fun L => L.length ≤ maxLen ∧ ∀ y ∈ L, y.length ≤ maxLen) (fun L => (L.map (fun s => s.length + 1)).sum + 1) :=
  rd_slice Tryd.underlying22 co9 (by decide) (fun _ => rfl) (fun _ => rfl) (fun m _ => (rd_str Tryd.underlying9))
theorem ownPathsMatch : ownKnob Tryd.prog.godebug = none := by kernel_rfl
theorem laidPathsMatch : laidOutB Tryd.prog = true := by kernel_rfl
theorem contractPathsMatch (H : Type) (enc : TypeId × Value → H) (W : World) (base : Nat) (args : Array Value) (ds gs : List (DataW H)) (before : List MemPlace)
    (hval : ∀ (j : Nat) t v, Tryd.f3.params[j]? = some t → args[j]? = some v → Value.okWide Tryd.prog W .any base t v)
    (hW : DataW.Whole enc Tryd.prog Tryd.f3.params.toList Rows.pathsMatchSpec.vars false W args.toList ds gs before) (hsh : W.ShapedOpen Tryd.prog) :
    Calls Tryd.prog 3 args W fun e W' => ∃ v, e = .returned v ∧ Rows.pathsMatchSpec.post enc Tryd.prog Tryd.f3 false true false false W args v W' := by
  haveI : GOk Tryd.prog W.heap.size W := ⟨hsh, Nat.le_refl _⟩
  have hW' := hW
  obtain ⟨p, q, hA0, hV, rfl, hfz, hnd⟩ := hW
  have hA : DataW.TrodAll enc Tryd.prog W 0 (fun _ => true) true Tryd.f3.params.toList args.toList ds p := hA0
  rw [Tryd.params3] at hA hval
  obtain ⟨v0, vs0, d0, ds0, p0, q0, hargs, rfl, rfl, t0, r0⟩ := trodAll_cons hA
  obtain ⟨v1, vs1, d1, ds1, p1, q1, rfl, rfl, rfl, t1, r1⟩ := trodAll_cons r0
  obtain ⟨v2, vs2, d2, ds2, p2, q2, rfl, rfl, rfl, t2, r2⟩ := trodAll_cons r1
  obtain ⟨rfl, rfl, rfl⟩ := trodAll_nil r2
  obtain rfl : args = #[v0, v1, v2] := by cases args; simp_all
  obtain ⟨rfl, rfl⟩ := trodVars_none hV
  clear hA0
  simp only [List.append_nil] at hW'
  obtain ⟨y0, hy0, wf0, bk0⟩ := rd_arg (fun n => (rdt22 _)) t0
  have hv0 := V.of_one (by rintro cs rfl; have := hval 0 22 _ rfl rfl; simp [Value.okWide, Tryd.underlying22, Cell.okWide, Cell.ok] at this) hy0
  obtain ⟨y1, hy1, wf1, bk1⟩ := rd_arg (fun n => (rdt22 _)) t1
  have hv1 := V.of_one (by rintro cs rfl; have := hval 1 22 _ rfl rfl; simp [Value.okWide, Tryd.underlying22, Cell.okWide, Cell.ok] at this) hy1
  obtain ⟨y2, hy2, wf2, bk2⟩ := rd_arg (fun n => (rd_str Tryd.underlying9)) t2
  have hv2 := V.of_one (by rintro cs rfl; have := hval 2 9 _ rfl rfl; simp [Value.okWide, Tryd.underlying9, Cell.okWide, Cell.ok] at this) hy2
  have hlt : ∀ x ∈ (p0 ++ (p1 ++ p2)), x.block < W.heap.size := fun x hx => by simpa using hW'.lt x hx
  refine ((ok3 (h := h0) ((fun p q s _ _ _ => law30PathsMatch_is p q s) y0 y1 y2 wf0 wf1 wf2)).2 W.heap.size W (g0 W) W _ (rel0 W) (VL.cons hv0 (VL.cons hv1 (VL.cons hv2 (by simp [VL]))))).mono fun e W' ⟨v, r, h', g', he, ⟨hr, hh⟩, hg, hR, hv⟩ => ?_
  subst he hr
  simp only [V] at hv
  subst hv
  exact ⟨_, rfl, post_of_below (pv := []) hW' hR.below (fun _ _ _ => (trodAll_cons_mk (shut_bool Tryd.underlying4 _) trodAll_mk0)) (fun sp hsp => (trodAll_cons_mk (WideElems.Trod_stays laidPathsMatch (by kernel_rfl) (of_decide_eq_true (by kernel_rfl)) t0 (fun x hx => hR.below.same (hlt x (by simp [hx]))) (fun x hx => hsp x (by simp [hx]))) (trodAll_cons_mk (WideElems.Trod_stays laidPathsMatch (by kernel_rfl) (of_decide_eq_true (by kernel_rfl)) t1 (fun x hx => hR.below.same (hlt x (by simp [hx]))) (fun x hx => hsp x (by simp [hx]))) (trodAll_cons_mk (WideElems.Trod_stays laidPathsMatch (by kernel_rfl) (of_decide_eq_true (by kernel_rfl)) t2 (fun x hx => hR.below.same (hlt x (by simp [hx]))) (fun x hx => hsp x (by simp [hx]))) trodAll_mk0)))) (fun _ _ => rfl) (by simp) (ok_one (by kernel_rfl) rfl (okWide_bool_mk Tryd.underlying4 _))⟩
set_option maxRecDepth 100000 in
theorem liftedPathsMatch (os : Os) (started : os.Started) (H : Type) (enc : TypeId × Value → H) :
    ReturnsInHanded {} Tryd.checked os 3 .any (fun w args => (Rows.pathsMatchSpec.pre enc Tryd.prog Tryd.f3 [] false w args ∧ laidMetH Tryd.prog Rows.pathsMatchRow.laid w) ∧ sizedMet enc Tryd.prog Tryd.f3 (OpenSpec.ofChange Rows.pathsMatchSpec) false w args)
      (Rows.pathsMatchSpec.post enc Tryd.prog Tryd.f3 false true false false) := by
  refine returns_and_shaped (C := Tryd.checked) (X := fun w _ => laidMetH Tryd.prog Rows.pathsMatchRow.laid w) ownPathsMatch started (by kernel_rfl) Tryd.func3
    (ChangeSpec.witness_shaped (enc := enc) (C := Tryd.checked) (os := os) (X := fun w _ => laidMetH Tryd.prog Rows.pathsMatchRow.laid w) false (World.laidAll Tryd.prog os Rows.pathsMatchRow.laid) #[.slice none 0 0, .slice none 0 0, .string ⟨#[]⟩] 8 (World.laidAll_os _ _ _)
      (World.shaped_of_ZipB (by kernel_rfl) (by kernel_rfl)) (by kernel_rfl) (by kernel_rfl) (by kernel_rfl)
      (by rw [MakeChecks.laidMetH_plain _ _ _ (by kernel_rfl)]; exact laidMet_laidAll _ (by kernel_rfl) (by kernel_rfl))) ?_
  intro W base args ds gs before hval hW hsh
  exact contractPathsMatch H enc W base args ds gs before hval hW hsh
theorem rowPathsMatch : Rows.PathsMatchSaid :=
  OpenClaim.holds_of_wide 3 Tryd.f3 rfl rfl rfl rfl rfl rfl rfl ⟨rfl, rfl, rfl, rfl, rfl⟩ rfl rfl rfl rfl rfl (by kernel_rfl) Tryd.func3 (by kernel_rfl)
    (of_decide_eq_true (by kernel_rfl)) (by unfold Func.isWrapper; first | (rw [if_pos (by decide +kernel)]; kernel_rfl) | (rw [if_neg (by decide +kernel)]; exact ⟨rfl, rfl⟩))
    (fun os started H enc _ => liftedPathsMatch os started H enc)
theorem PathsMatchHolds : Rows.PathsMatchCardSaid :=
  Claim7.holds_tied_plain_at .later [] [.data, .pinned] true (true, "06a694772379dca78baa438ffdb6204e8c76f4893c941369bf90857c8cbc9b44") false rowPathsMatch (fun _ h => by cases h) (by kernel_rfl) (fun _ h => by cases h) pathsMatch_row_tie rfl ⟨rfl, rfl⟩ (by kernel_rfl) rfl
    (fun f fn hf hfn => by
      obtain rfl : f = 3 := Option.some.inj ((show Tryd.prog.funcNamed Rows.pathsMatchRow.func = some 3 by kernel_rfl).symm.trans hf) |>.symm
      obtain rfl : fn = Tryd.f3 := (Option.some.inj (Tryd.func3.symm.trans hfn)).symm
      exact ⟨by kernel_rfl, fun j t ht => by
        rw [Tryd.params3] at ht
        have hm : t ∈ [22, 22, 9] := by simpa using Array.mem_of_getElem? ht
        have hall : ([22, 22, 9].all fun u => !Tryd.prog.wantsStandIn u) = true := by kernel_rfl
        exact (show Tryd.prog.wantsStandIn t = false by simpa using List.all_eq_true.1 hall t hm)⟩)
    (by kernel_rfl)
end Go.Proofs.YtlkpeiojgenhaaaDoor
